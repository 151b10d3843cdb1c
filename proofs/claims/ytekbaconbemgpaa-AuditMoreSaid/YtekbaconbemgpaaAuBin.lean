/- Where a number stands in a list that rises: walk. Helper text. -/
import Derived.Test.YtekbaconbemgpaaAuFun
namespace Go.Proofs.Ytekbaconbemgpaa.PWe
open Go.RowKit Go.Proofs.Ytekbaconbemgpaa.Kx Go.Proofs.YtekbaconbemgpaaW.PrintWords Go.Proofs.YtekbaconbemgpaaW.PrintLast Go.Proofs.YtekbaconbemgpaaW.PrintMore
set_option linter.unusedVariables false
set_option linter.unusedSimpArgs false

theorem cnan_calls (x : Int) (w : World) : Calls Try.prog 88 #[.int .i64 x] w fun e w' => e = .returned (.bool false) ∧ w' = w := by
  go_enter Try.func88, Try.ntmps88
  go_wp2_with fail
  go_ret
  exact ⟨rfl, rfl⟩
theorem snan_calls (x : Int) (w : World) : Calls Try.prog 85 #[.int .i64 x] w fun e w' => e = .returned (.bool false) ∧ w' = w := by
  go_enter Try.func85, Try.ntmps85
  go_wp2_with fail
  go_ret
  exact ⟨rfl, rfl⟩
theorem less_calls (x y : Int) (w : World) : Calls Try.prog 84 #[.int .i64 x, .int .i64 y] w fun e w' => e = .returned (.bool (decide (x < y))) ∧ w' = w := by
  obtain ⟨b, hb⟩ : ∃ b, decide (x < y) = b := ⟨_, rfl⟩
  rw [hb]
  go_enter Try.func84, Try.ntmps84
  go_wp2_with fail
  refine (cnan_calls x w).mono ?_
  rintro e w2 ⟨rfl, rfl⟩
  go_wp2_with fail
  go_ret
  exact ⟨rfl, rfl⟩
/-- How many of the first are less. -/
def lowP (l : List Int) (n : Int) : Nat := (l.takeWhile fun x => decide (x < n)).length
theorem lowP_of {n : Int} : ∀ {l : List Int} {i : Nat}, i ≤ l.length → (∀ k (h : k < l.length), k < i → l[k] < n) → (∀ k (h : k < l.length), i ≤ k → n ≤ l[k]) → lowP l n = i
  | [], i, hi, _, _ => by
    simp at hi
    subst hi
    rfl
  | x :: r, 0, _, _, h2 => by
    have := h2 0 (by simp) (Nat.le_refl _)
    simp only [List.getElem_cons_zero] at this
    unfold lowP
    rw [List.takeWhile_cons_of_neg (by simp; omega)]
    rfl
  | x :: r, i + 1, hi, h1, h2 => by
    have h0 := h1 0 (by simp) (by omega)
    simp only [List.getElem_cons_zero] at h0
    have ih := lowP_of (n := n) (l := r) (i := i) (by simpa using hi) (fun k h hk => by have := h1 (k + 1) (by simpa using h) (by omega); simpa using this) (fun k h hk => by have := h2 (k + 1) (by simpa using h) (by omega); simpa using this)
    unfold lowP at ih ⊢
    rw [List.takeWhile_cons_of_pos (by simpa using h0), List.length_cons, ih]
set_option maxHeartbeats 4000000 in
set_option maxRecDepth 1000000 in
theorem binary_calls (A : Option Addr) (c : Nat) (l : List Int) (n : Int) (w : World) (hr : Kd.C (Kd.int .i64) w A l.length l) (hl : l.length ≤ 1000000) (hs : l.Pairwise (· < ·)) :
    Calls Try.prog 82 #[.slice A l.length c, .int .i64 n] w fun e w' => e = .returned (.tuple #[.int .i64 (lowP l n : Nat), .bool (has_ l n)]) ∧ w' = w := by
  have HR := Aside0.mk hr
  have HS := Aside0.mk (List.pairwise_iff_getElem.1 hs)
  obtain ⟨N, hN⟩ : ∃ N, lowP l n = N := ⟨_, rfl⟩
  obtain ⟨b, hb⟩ : ∃ b, has_ l n = b := ⟨_, rfl⟩
  rw [hN, hb]
  have HNN := Aside0.mk hN
  have HBB := Aside0.mk hb
  clear hr hs hN hb
  go_enter Try.func82, Try.ntmps82
  go_wp2_with fail
  go_loopw [7, 8, 9] (fun v7 v8 _ wr => ∃ i j : Nat, i ≤ j ∧ j ≤ l.length ∧ v7 = .int .i64 (i : Int) ∧ v8 = .int .i64 (j : Int) ∧ Aside0 (∀ k (h : k < l.length), k < i → l[k] < n) ∧ Aside0 (∀ k (h : k < l.length), j ≤ k → n ≤ l[k]) ∧ wr = w) (fun v7 v8 _ _ => (intOf v8 - intOf v7).toNat)
  case atStart => exact ⟨0, l.length, Nat.zero_le _, Nat.le_refl _, rfl, rfl, ⟨fun _ _ h => absurd h (Nat.not_lt_zero _)⟩, ⟨fun k h hk => by omega⟩, rfl⟩
  case round =>
    obtain ⟨i, j, hij, hj, rfl, rfl, HI, HJ, rfl⟩ := hrel
    by_cases hlt : i < j
    · have m1 : decide ((i : Int) < (j : Int)) = true := decide_eq_true (by omega)
      have m2 : decide (i < j) = true := decide_eq_true hlt
      have hhl : (i + j) / 2 < l.length := by omega
      obtain ⟨x, hx⟩ : ∃ x, l[(i + j) / 2] = x := ⟨_, rfl⟩
      obtain ⟨ad, hA, x0⟩ := int_at HR.out hhl hhl hx
      have HX := Aside0.mk hx
      have q1 : (0 ≤ ((i : Int) + (j : Int)) / 2) = True := eq_true (by omega)
      have q2 : (((i : Int) + (j : Int)) / 2 < (l.length : Int)) = True := eq_true (by omega)
      have q3 : ((i + j) / 2 < l.length) = True := eq_true hhl
      rw [hA]
      rw [hA] at HR
      clear hA hx
      by_cases hxn : x < n
      · have HI2 : Aside0 (∀ k (h : k < l.length), k < (i + j) / 2 + 1 → l[k] < n) := ⟨fun k h hk => by
          by_cases hk2 : k = (i + j) / 2
          · subst hk2; rw [HX.out]; exact hxn
          · have := HS.out k ((i + j) / 2) h hhl (by omega)
            rw [HX.out] at this
            omega⟩
        have d1 : decide (x < n) = true := decide_eq_true hxn
        clear hxn
        go_wp2_with fail
        refine (less_calls x n wr).mono ?_
        rintro e w2 ⟨rfl, rfl⟩
        rw [d1]
        go_wp2_with fail
        exact ⟨⟨(i + j) / 2 + 1, j, by omega, hj, by congr 1, rfl, HI2, HJ, trivial⟩, by simp [intOf]; omega⟩
      · have HJ2 : Aside0 (∀ k (h : k < l.length), (i + j) / 2 ≤ k → n ≤ l[k]) := ⟨fun k h hk => by
          by_cases hk2 : k = (i + j) / 2
          · subst hk2; rw [HX.out]; omega
          · have := HS.out ((i + j) / 2) k hhl h (by omega)
            rw [HX.out] at this
            omega⟩
        have d1 : decide (x < n) = false := decide_eq_false hxn
        clear hxn
        go_wp2_with fail
        refine (less_calls x n wr).mono ?_
        rintro e w2 ⟨rfl, rfl⟩
        rw [d1]
        go_wp2_with fail
        exact ⟨⟨i, (i + j) / 2, by omega, by omega, rfl, by congr 1, HI, HJ2, trivial⟩, by simp [intOf]; omega⟩
    · obtain rfl : i = j := by omega
      have m1 : decide ((i : Int) < (i : Int)) = false := decide_eq_false (by omega)
      obtain rfl : i = N := by rw [← HNN.out]; exact (lowP_of hj HI.out HJ.out).symm
      have hno : ∀ b, (∀ (h : i < l.length), l[i] ≠ n) → has_ l n = b → b = false := fun b hne hb => by
        rw [← hb, Bool.eq_false_iff]
        intro h
        obtain ⟨x, hx, he⟩ := List.any_eq_true.1 h
        obtain ⟨k, hk, rfl⟩ := List.getElem_of_mem hx
        have he : n = l[k] := by simpa using he
        by_cases h1 : k < i
        · have := HI.out k hk h1
          omega
        by_cases h2 : k = i
        · subst h2
          exact hne hk he.symm
        · have h3 := HS.out i k (by omega) hk (by omega)
          have h4 := HJ.out i (by omega) (Nat.le_refl _)
          omega
      have hb := HBB.out
      by_cases hil : i < l.length
      · have m2 : decide ((i : Int) < (l.length : Int)) = true := decide_eq_true (by omega)
        have m3 : decide (i < l.length) = true := decide_eq_true hil
        have q1 : (0 ≤ (i : Int)) = True := eq_true (by omega)
        have q2 : ((i : Int) < (l.length : Int)) = True := eq_true (by omega)
        have q3 : (i < l.length) = True := eq_true hil
        obtain ⟨x, hx⟩ : ∃ x, l[i] = x := ⟨_, rfl⟩
        obtain ⟨ad, hA, x0⟩ := int_at HR.out hil hil hx
        by_cases hxn : x = n
        · have hbt : b = true := by
            rw [← hb]
            exact List.any_eq_true.2 ⟨x, by rw [← hx]; exact List.getElem_mem hil, by simp [hxn]⟩
          subst hbt hxn
          have d1 : (x == x) = true := by simp
          rw [hA]
          clear hA hx hno hb hil HR HI HJ HS HNN HBB
          go_wp2_with fail
          go_ret2
          exact ⟨rfl, rfl⟩
        · have hbf : b = false := hno b (fun h => by rw [hx]; exact hxn) hb
          subst hbf
          have d1 : (x == n) = false := by simpa using hxn
          rw [hA]
          clear hA hx hno hb hil hxn HR HI HJ HS HNN HBB
          go_wp2_with fail
          refine (snan_calls x wr).mono ?_
          rintro e w2 ⟨rfl, rfl⟩
          go_wp2_with fail
          go_ret2
          exact ⟨rfl, rfl⟩
      · have m2 : decide ((i : Int) < (l.length : Int)) = false := decide_eq_false (by omega)
        have m3 : decide (i < l.length) = false := decide_eq_false hil
        have hbf : b = false := hno b (fun h => absurd h hil) hb
        subst hbf
        clear hno hb hil HR HI HJ HS HNN HBB
        go_wp2_with fail
        go_ret2
        exact ⟨rfl, rfl⟩
end Go.Proofs.Ytekbaconbemgpaa.PWe
