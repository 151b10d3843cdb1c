/- Counts of diag: which lines said some otherwise, the suspect, the worst, as contracts of the program and of the reference. Helper text. -/
import Derived.Test.YtfmepbpipknblaaK2
namespace Go.Proofs.Ytfmepbpipknblaa.Dg
open Go.RowKit Go.Proofs.Ytfmepbpipknblaa.Kx
set_option linter.unusedVariables false
set_option linter.unusedSimpArgs false

/-- The lines below n that said some otherwise. -/
def oddP (o : Nat → Int) : Nat → List Int
  | 0 => []
  | n + 1 => if 0 < o n then oddP o n ++ [(n : Int)] else oddP o n
/-- The worst of the lines below n. -/
def wst (o : Nat → Int) : Nat → Int
  | 0 => -1
  | n + 1 => if 0 < o n ∧ (wst o n < 0 ∨ o (wst o n).toNat < o n) then (n : Int) else wst o n
theorem oddP_len (o : Nat → Int) (n : Nat) : (oddP o n).length ≤ n := by
  induction n with
  | zero => exact Nat.le_refl _
  | succ n ih =>
    rw [oddP]
    split
    · rw [List.length_append]; simp; omega
    · omega
theorem oddP_mem (o : Nat → Int) (n : Nat) : ∀ x ∈ oddP o n, 0 ≤ x ∧ x < n := by
  induction n with
  | zero => intro x hx; cases hx
  | succ n ih =>
    intro x hx
    rw [oddP] at hx
    split at hx
    · rcases List.mem_append.1 hx with h | h
      · have := ih x h; omega
      · have : x = (n : Int) := by simpa using h
        omega
    · have := ih x hx; omega
theorem wst_range (o : Nat → Int) (n : Nat) : -1 ≤ wst o n ∧ wst o n < n ∧ (wst o n = -1 ↔ oddP o n = []) ∧ (wst o n ≠ -1 → 0 < o (wst o n).toNat) := by
  induction n with
  | zero => simp [wst, oddP]
  | succ n ih =>
    obtain ⟨h1, h2, h3, h4⟩ := ih
    rw [wst, oddP]
    by_cases hp : 0 < o n
    · rw [if_pos hp]
      by_cases hq : wst o n < 0 ∨ o (wst o n).toNat < o n
      · rw [if_pos ⟨hp, hq⟩]
        refine ⟨by omega, by omega, by simp <;> omega, fun _ => by simpa using hp⟩
      · rw [if_neg (fun h => hq h.2)]
        refine ⟨by omega, by omega, by simp <;> omega, h4⟩
    · rw [if_neg hp, if_neg (fun h => hp h.1)]
      exact ⟨h1, by omega, h3, h4⟩

def Cnt (b : Int) (o : Nat → Int) : Array Value := #[.int .i64 b, .int .i64 (o 0), .int .i64 (o 1), .int .i64 (o 2), .int .i64 (o 3)]
def Arr (o : Nat → Int) : Array Value := #[.int .i64 (o 0), .int .i64 (o 1), .int .i64 (o 2), .int .i64 (o 3)]
theorem ix (o : Nat → Int) : (∀ w, (Instr.index 56 (.agg #[.int .i64 (o 0), .int .i64 (o 1), .int .i64 (o 2), .int .i64 (o 3)]) (.int .i64 0)).run Try.prog w = .ok (.int .i64 (o 0)) w) ∧
    (∀ w, (Instr.index 56 (.agg #[.int .i64 (o 0), .int .i64 (o 1), .int .i64 (o 2), .int .i64 (o 3)]) (.int .i64 1)).run Try.prog w = .ok (.int .i64 (o 1)) w) ∧
    (∀ w, (Instr.index 56 (.agg #[.int .i64 (o 0), .int .i64 (o 1), .int .i64 (o 2), .int .i64 (o 3)]) (.int .i64 2)).run Try.prog w = .ok (.int .i64 (o 2)) w) ∧
    (∀ w, (Instr.index 56 (.agg #[.int .i64 (o 0), .int .i64 (o 1), .int .i64 (o 2), .int .i64 (o 3)]) (.int .i64 3)).run Try.prog w = .ok (.int .i64 (o 3)) w) :=
  ⟨fun _ => by kernel_rfl, fun _ => by kernel_rfl, fun _ => by kernel_rfl, fun _ => by kernel_rfl⟩

def OddPost (o : Nat → Int) (w : World) (e : Ending) (w' : World) : Prop := ∃ A c, e = .returned (.slice A (oddP o 4).length c) ∧ RdI w' .i64 A (oddP o 4) ∧ Below w.heap.size w w'
set_option maxHeartbeats 1000000 in
theorem odd_any (b : Int) (o : Nat → Int) (w : World) : Calls Try.prog 83 #[.agg #[.int .i64 b, .int .i64 (o 0), .int .i64 (o 1), .int .i64 (o 2), .int .i64 (o 3)]] w (OddPost o w) := by
  obtain ⟨i0, i1, i2, i3⟩ := ix o
  go_enter Try.func83, Try.ntmps83
  go_wp2_with fail
  go_loopw [3, 8] (fun v i wr => ∃ n : Nat, n ≤ 4 ∧ i = .int .i64 n ∧ OwnI wr w.heap.size 3 .i64 v (oddP o n) ∧ Below w.heap.size w wr) (fun _ i _ => 4 - (intOf i).toNat)
  case atStart => exact ⟨0, by omega, rfl, OwnI.nil _ _ _ _, (Below.refl _ _).alloc (Nat.le_refl _) _⟩
  case round =>
    obtain ⟨n, hn, rfl, ho, hb⟩ := hrel
    have HO := hid ho
    have HB := hid hb
    have hsz := hb.size
    clear ho hb
    by_cases hlt : n < 4
    · have hlen := oddP_len o n
      obtain rfl | rfl | rfl | rfl : n = 0 ∨ n = 1 ∨ n = 2 ∨ n = 3 := by omega
      · obtain ⟨xs, hxs⟩ : ∃ xs, oddP o 0 = xs := ⟨_, rfl⟩
        rw [hxs] at HO hlen
        by_cases hp : 0 < o 0
        · have HN : Hid (oddP o 1 = xs ++ [(0 : Int)]) := by show oddP o 1 = _; rw [oddP, if_pos hp, hxs]; rfl
          clear hxs
          go_wp2_with (at_builtin; refine app_num w.heap.size rfl _ _ 43 3 .i64 8 rfl Try.underlying43 (by kernel_rfl) u3 xs 0 rfl rfl HO.out ?_ ?_ ?_ ?_)
          · omega
          · omega
          · omega
          intro v1 w3 ho hb3 hg3
          have HO3 := hid ho
          have HB3 := hid (HB.out.trans (hb3.mono (Nat.le_refl _)))
          clear ho hb3 hg3
          go_wp2_with fail
          exact ⟨⟨1, by omega, rfl, by rw [HN.out]; exact HO3.out, HB3.out⟩, by simp [intOf]⟩
        · have HN : Hid (oddP o 1 = xs) := by show oddP o 1 = _; rw [oddP, if_neg hp, hxs]
          clear hxs
          go_wp2_with fail
          exact ⟨⟨1, by omega, rfl, by rw [HN.out]; exact HO.out, HB.out⟩, by simp [intOf]⟩
      · obtain ⟨xs, hxs⟩ : ∃ xs, oddP o 1 = xs := ⟨_, rfl⟩
        rw [hxs] at HO hlen
        by_cases hp : 0 < o 1
        · have HN : Hid (oddP o 2 = xs ++ [(1 : Int)]) := by show oddP o 2 = _; rw [oddP, if_pos hp, hxs]; rfl
          clear hxs
          go_wp2_with (at_builtin; refine app_num w.heap.size rfl _ _ 43 3 .i64 8 rfl Try.underlying43 (by kernel_rfl) u3 xs 1 rfl rfl HO.out ?_ ?_ ?_ ?_)
          · omega
          · omega
          · omega
          intro v1 w3 ho hb3 hg3
          have HO3 := hid ho
          have HB3 := hid (HB.out.trans (hb3.mono (Nat.le_refl _)))
          clear ho hb3 hg3
          go_wp2_with fail
          exact ⟨⟨2, by omega, rfl, by rw [HN.out]; exact HO3.out, HB3.out⟩, by simp [intOf]⟩
        · have HN : Hid (oddP o 2 = xs) := by show oddP o 2 = _; rw [oddP, if_neg hp, hxs]
          clear hxs
          go_wp2_with fail
          exact ⟨⟨2, by omega, rfl, by rw [HN.out]; exact HO.out, HB.out⟩, by simp [intOf]⟩
      · obtain ⟨xs, hxs⟩ : ∃ xs, oddP o 2 = xs := ⟨_, rfl⟩
        rw [hxs] at HO hlen
        by_cases hp : 0 < o 2
        · have HN : Hid (oddP o 3 = xs ++ [(2 : Int)]) := by show oddP o 3 = _; rw [oddP, if_pos hp, hxs]; rfl
          clear hxs
          go_wp2_with (at_builtin; refine app_num w.heap.size rfl _ _ 43 3 .i64 8 rfl Try.underlying43 (by kernel_rfl) u3 xs 2 rfl rfl HO.out ?_ ?_ ?_ ?_)
          · omega
          · omega
          · omega
          intro v1 w3 ho hb3 hg3
          have HO3 := hid ho
          have HB3 := hid (HB.out.trans (hb3.mono (Nat.le_refl _)))
          clear ho hb3 hg3
          go_wp2_with fail
          exact ⟨⟨3, by omega, rfl, by rw [HN.out]; exact HO3.out, HB3.out⟩, by simp [intOf]⟩
        · have HN : Hid (oddP o 3 = xs) := by show oddP o 3 = _; rw [oddP, if_neg hp, hxs]
          clear hxs
          go_wp2_with fail
          exact ⟨⟨3, by omega, rfl, by rw [HN.out]; exact HO.out, HB.out⟩, by simp [intOf]⟩
      · obtain ⟨xs, hxs⟩ : ∃ xs, oddP o 3 = xs := ⟨_, rfl⟩
        rw [hxs] at HO hlen
        by_cases hp : 0 < o 3
        · have HN : Hid (oddP o 4 = xs ++ [(3 : Int)]) := by show oddP o 4 = _; rw [oddP, if_pos hp, hxs]; rfl
          clear hxs
          go_wp2_with (at_builtin; refine app_num w.heap.size rfl _ _ 43 3 .i64 8 rfl Try.underlying43 (by kernel_rfl) u3 xs 3 rfl rfl HO.out ?_ ?_ ?_ ?_)
          · omega
          · omega
          · omega
          intro v1 w3 ho hb3 hg3
          have HO3 := hid ho
          have HB3 := hid (HB.out.trans (hb3.mono (Nat.le_refl _)))
          clear ho hb3 hg3
          go_wp2_with fail
          exact ⟨⟨4, by omega, rfl, by rw [HN.out]; exact HO3.out, HB3.out⟩, by simp [intOf]⟩
        · have HN : Hid (oddP o 4 = xs) := by show oddP o 4 = _; rw [oddP, if_neg hp, hxs]
          clear hxs
          go_wp2_with fail
          exact ⟨⟨4, by omega, rfl, by rw [HN.out]; exact HO.out, HB.out⟩, by simp [intOf]⟩
    · obtain rfl : n = 4 := by omega
      obtain ⟨A, c, rfl, _, _, rd⟩ := HO.out.shape
      have RD := hid rd
      clear rd
      go_wp2_with fail
      go_ret
      exact ⟨A, c, rfl, RD.out, HB.out⟩

theorem below_drewN' {B : Nat} {w w1 : World} (h : Below B w w1) (n : Nat) : Below B w (w1.drewN n) := ⟨h.os, h.tape, h.output, h.size, h.block⟩
def susp (o : Nat → Int) : Int := if (oddP o 4).length = 1 then (oddP o 4).getD 0 0 else -1
theorem suspect_any (b : Int) (o : Nat → Int) (w : World) : Calls Try.prog 33 #[.agg #[.int .i64 b, .int .i64 (o 0), .int .i64 (o 1), .int .i64 (o 2), .int .i64 (o 3)]] w fun e w' =>
    e = .returned (.int .i64 (susp o)) ∧ Below w.heap.size w w' := by
  go_enter Try.func33, Try.ntmps33
  go_wp2_with fail
  refine (odd_any b o _).mono ?_
  rintro e w1 ⟨A, c, rfl, rd, hb⟩
  have HB := hid (below_trans' ((Below.refl _ _).alloc (Nat.le_refl _) _) hb (by simp))
  have hm : (oddP o 4).length ≤ 4 := oddP_len o 4
  clear hb
  by_cases h1 : (oddP o 4).length = 1
  · have HV : Hid (susp o = (oddP o 4).getD 0 0) := by show susp o = _; unfold susp; rw [if_pos h1]
    obtain ⟨ad, rfl, hc⟩ := rd 0 (by omega)
    obtain ⟨x, hx⟩ : ∃ x, (oddP o 4).getD 0 0 = x := ⟨_, rfl⟩
    rw [hx] at hc HV
    obtain ⟨xs, hxs⟩ : ∃ xs, oddP o 4 = xs := ⟨_, rfl⟩
    rw [hxs] at h1 hm
    rw [hxs, h1]
    have hc' : w1.cell? ad = some (.int .i64 x) := by simpa [Addr.add] using hc
    clear rd hx hxs h1 hm hc
    go_wp2_with fail
    go_ret
    exact ⟨by rw [HV.out]; rfl, HB.out⟩
  · have HV : Hid (susp o = -1) := by show susp o = _; unfold susp; rw [if_neg h1]
    have h1' : (((oddP o 4).length : Int) == 1) = false := by simp; omega
    clear rd h1
    go_wp2_with fail
    go_ret
    exact ⟨by rw [HV.out]; rfl, HB.out⟩
theorem clean_any (b : Int) (o : Nat → Int) (w : World) : Calls Try.prog 37 #[.agg #[.int .i64 b, .int .i64 (o 0), .int .i64 (o 1), .int .i64 (o 2), .int .i64 (o 3)]] w fun e w' =>
    e = .returned (.bool (wst o 4 == -1)) ∧ Below w.heap.size w w' := by
  have hv : (((oddP o 4).length : Int) == 0) = (wst o 4 == -1) := by
    have h := (wst_range o 4).2.2.1
    by_cases h0 : oddP o 4 = []
    · rw [h0, h.2 h0]; rfl
    · have h2 : ¬ wst o 4 = -1 := fun e => h0 (h.1 e)
      have h3 : (oddP o 4).length ≠ 0 := fun e => h0 (List.eq_nil_of_length_eq_zero e)
      rw [show (wst o 4 == -1) = false from by simp [h2]]
      simp
      exact h0
  have HV := hid hv
  clear hv
  go_enter Try.func37, Try.ntmps37
  go_wp2_with fail
  refine (odd_any b o _).mono ?_
  rintro e w1 ⟨A, c, rfl, rd, hb⟩
  have HB := hid (below_trans' ((Below.refl _ _).alloc (Nat.le_refl _) _) hb (by simp))
  clear hb rd
  go_wp2_with fail
  go_ret
  exact ⟨by rw [← HV.out]; rfl, HB.out⟩

/-- Going through the lines that said some otherwise, the worst so far. -/
def wstep (o : Nat → Int) (best k : Int) : Int := if best < 0 ∨ o best.toNat < o k.toNat then k else best
theorem wst_fold (o : Nat → Int) (n : Nat) : (oddP o n).foldl (wstep o) (-1) = wst o n := by
  induction n with
  | zero => rfl
  | succ n ih =>
    rw [oddP, wst]
    by_cases hp : 0 < o n
    · rw [if_pos hp, List.foldl_append, ih]
      show wstep o (wst o n) n = _
      unfold wstep
      simp only [Int.toNat_natCast, hp, true_and]
    · rw [if_neg hp, if_neg (fun h => hp h.1)]
      exact ih
theorem wstep_range (o : Nat → Int) (b x : Int) (hb : -1 ≤ b ∧ b < 4) (hx : 0 ≤ x ∧ x < 4) : -1 ≤ wstep o b x ∧ wstep o b x < 4 := by
  unfold wstep
  split <;> omega
theorem fold_take (o : Nat → Int) (l : List Int) (i : Nat) (hi : i < l.length) : (l.take (i + 1)).foldl (wstep o) (-1) = wstep o ((l.take i).foldl (wstep o) (-1)) (l.getD i 0) := by
  rw [List.take_succ_eq_append_getElem hi, List.foldl_append, List.getD_eq_getElem?_getD, List.getElem?_eq_getElem hi]
  rfl
theorem fold_range (o : Nat → Int) (l : List Int) (hl : ∀ x ∈ l, 0 ≤ x ∧ x < 4) (i : Nat) : -1 ≤ (l.take i).foldl (wstep o) (-1) ∧ (l.take i).foldl (wstep o) (-1) < 4 := by
  induction i with
  | zero => simp
  | succ i ih =>
    by_cases hi : i < l.length
    · rw [fold_take o l i hi]
      have := hl (l.getD i 0) (by rw [List.getD_eq_getElem?_getD, List.getElem?_eq_getElem hi]; exact List.getElem_mem hi)
      exact wstep_range o _ _ ih this
    · rw [List.take_of_length_le (by omega)]
      rw [List.take_of_length_le (by omega)] at ih
      exact ih

set_option maxHeartbeats 1000000 in
theorem worst_any (b : Int) (o : Nat → Int) (w : World) : Calls Try.prog 35 #[.agg #[.int .i64 b, .int .i64 (o 0), .int .i64 (o 1), .int .i64 (o 2), .int .i64 (o 3)]] w fun e w' =>
    e = .returned (.int .i64 (wst o 4)) ∧ Below w.heap.size w w' := by
  go_enter Try.func35, Try.ntmps35
  go_wp2_with fail
  refine (odd_any b o _).mono ?_
  rintro e w1 ⟨A, c, rfl, rd, hb⟩
  have HB := hid (below_trans' ((Below.refl _ _).alloc (Nat.le_refl _) _) hb (by simp))
  have hbx : w1.heap[w.heap.size]? = some (.cells (Cnt b o) 58 (0, 0)) := (hb.block w.heap.size (by simp)).trans (heap_alloc_new _ _)
  have HX := hid hbx
  have HF := hid (wst_fold o 4)
  have HM := hid (oddP_mem o 4)
  have RD := hid rd
  have hlen := oddP_len o 4
  clear hb hbx rd
  generalize oddP o 4 = xs at *
  go_wp2_with fail
  go_loopw [3, 9] (fun best i wr => ∃ n : Nat, n ≤ xs.length ∧ i = .int .i64 n ∧ best = .int .i64 ((xs.take n).foldl (wstep o) (-1)) ∧ ∃ q, wr = w1.drewN q) (fun _ i _ => xs.length - (intOf i).toNat)
  case atStart => exact ⟨0, by omega, rfl, rfl, 0, rfl⟩
  case round =>
    obtain ⟨n, hn, rfl, rfl, q, rfl⟩ := hrel
    by_cases hlt : (n : Int) < (xs.length : Int)
    · obtain ⟨ad, hA, hc⟩ := RD.out n (by omega)
      cases hA
      have hk := HM.out (xs.getD n 0) (by rw [List.getD_eq_getElem?_getD, List.getElem?_eq_getElem (by omega)]; exact List.getElem_mem _)
      have HT := hid (fold_take o xs n (by omega))
      have hr := fold_range o xs HM.out n
      obtain ⟨x, hx⟩ : ∃ x, xs.getD n 0 = x := ⟨_, rfl⟩
      obtain ⟨best, hbest⟩ : ∃ y, (xs.take n).foldl (wstep o) (-1) = y := ⟨_, rfl⟩
      rw [hx] at hc hk HT
      rw [hbest] at hr HT
      rw [hbest]
      clear hx hbest
      have HC := fun (k : Nat) (hk : k < 4) => show w1.cell? ⟨w.heap.size, 1 + k, none⟩ = some (.int .i64 (o k)) from by
        refine (cell_in HX.out (1 + k)).trans ?_
        obtain rfl | rfl | rfl | rfl : k = 0 ∨ k = 1 ∨ k = 2 ∨ k = 3 := by omega
        all_goals rfl
      obtain ⟨k, hk4, rfl⟩ : ∃ k : Nat, k < 4 ∧ x = (k : Int) := ⟨x.toNat, by omega, by omega⟩
      have hck := HC k hk4
      by_cases hneg : best < 0
      · have hd : decide (best < 0) = true := by simpa using hneg
        have HS : Hid (wstep o best k = k) := by show wstep o best k = k; unfold wstep; rw [if_pos (.inl hneg)]
        rw [HS.out] at HT
        clear HC hck
        go_wp2_with fail
        go_quiet (fail)
        go_wp2_with fail
        exact ⟨⟨n + 1, by omega, by go_num, by rw [HT.out], _, rfl⟩, by simp [intOf]; omega⟩
      · obtain ⟨m, hm4, rfl⟩ : ∃ m : Nat, m < 4 ∧ best = (m : Int) := ⟨best.toNat, by omega, by omega⟩
        have hcm := HC m hm4
        have hd : decide ((m : Int) < 0) = false := by simp
        have hk4' : (k : Int) < 4 := by omega
        have hm4' : (m : Int) < 4 := by omega
        have hk0' : (0 : Int) ≤ (k : Int) := by omega
        have hm0' : (0 : Int) ≤ (m : Int) := by omega
        have HS : Hid (wstep o m k = if o m < o k then (k : Int) else m) := by
          show wstep o m k = _
          unfold wstep
          simp only [Int.toNat_natCast]
          by_cases h : o m < o k
          · rw [if_pos (.inr h), if_pos h]
          · rw [if_neg (by omega), if_neg h]
        rw [HS.out] at HT
        clear HC
        by_cases hlo : o m < o k
        · rw [if_pos hlo] at HT
          go_wp2_with fail
          go_quiet (fail)
          go_wp2_with fail
          exact ⟨⟨n + 1, by omega, by go_num, by rw [HT.out], _, rfl⟩, by simp [intOf]; omega⟩
        · rw [if_neg hlo] at HT
          go_wp2_with fail
          go_quiet (fail)
          go_wp2_with fail
          exact ⟨⟨n + 1, by omega, by go_num, by rw [HT.out], _, rfl⟩, by simp [intOf]; omega⟩
    · obtain rfl : n = xs.length := by omega
      rw [List.take_length, HF.out]
      go_wp2_with fail
      go_ret
      exact ⟨rfl, below_drewN' HB.out q⟩
end Go.Proofs.Ytfmepbpipknblaa.Dg
