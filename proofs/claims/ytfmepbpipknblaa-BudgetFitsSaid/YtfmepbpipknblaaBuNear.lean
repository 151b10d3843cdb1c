/- Is a slip too near to some ticks? Helper text. -/
import Derived.Test.YtfmepbpipknblaaPBux0
import Derived.WalkSpells
namespace Go.Proofs.Ytfmepbpipknblaa.PBu
open Go.RowKit Go.Proofs.YtfmepbpipknblaaW.PrintWords Go.Proofs.YtfmepbpipknblaaW.PrintLast Go.Proofs.YtfmepbpipknblaaW.PrintMore
set_option linter.unusedVariables false
set_option linter.unusedSimpArgs false

/-- Are two ticks too near? -/
def nearP (t u : Int) : Bool := decide ((if wrap64 (u - t) < wrap64 (t - u) then wrap64 (t - u) else wrap64 (u - t)) < 4400)
/-- The first place at which a predicate holds, from k on; -1: none. -/
def idxP (p : Int → Bool) : List Int → Nat → Int
  | [], _ => -1
  | x :: r, k => if p x = true then (k : Int) else idxP p r (k + 1)
theorem idxP_any (p : Int → Bool) : ∀ (l : List Int) (k : Nat), decide (idxP p l k ≥ 0) = l.any p
  | [], k => by simp [idxP]
  | x :: r, k => by
    rw [idxP, List.any_cons]
    by_cases h : p x = true
    · rw [if_pos h, h]
      simp
    · rw [if_neg h, idxP_any p r (k + 1)]
      simp [Bool.eq_false_iff.mpr h]
theorem idxP_stay (p : Int → Bool) (l : List Int) (k : Nat) (hk : k < l.length) (h : p (l.getD k 0) = false) : idxP p (l.drop k) k = idxP p (l.drop (k + 1)) (k + 1) := by
  rw [List.drop_eq_getElem_cons hk, idxP, if_neg]
  rw [List.getD_eq_getElem?_getD, List.getElem?_eq_getElem hk] at h
  simp only [Option.getD_some] at h
  rw [h]
  simp
theorem idxP_hit (p : Int → Bool) (l : List Int) (k : Nat) (hk : k < l.length) (h : p (l.getD k 0) = true) : idxP p (l.drop k) k = k := by
  rw [List.drop_eq_getElem_cons hk, idxP, if_pos]
  rw [List.getD_eq_getElem?_getD, List.getElem?_eq_getElem hk] at h
  exact h
theorem near1_any (t u : Int) (B : Nat) (w : World) (hc : w.cell? ⟨B, 2, none⟩ = some (.int .i64 t)) :
    Calls Try.prog 114 #[.int .i64 u, .pointer (some ⟨B, 0, none⟩)] w fun e w' => e = .returned (.bool (nearP t u)) ∧ w = w' := by
  go_enter Try.func114, Try.ntmps114
  go_wp2
  · go_ret
    exact ⟨by unfold nearP; rw [if_pos h]; rfl, rfl⟩
  · go_ret
    exact ⟨by unfold nearP; rw [if_neg (by omega)]; rfl, rfl⟩
theorem at_ints {w : World} {k : IntKind} {A : Option Addr} {n : Nat} {xs : List Int} (h : Kd.C (Kd.int k) w A n xs) (i : Nat) (hi : i < n) : ∃ ad, A = some ad ∧ w.cell? (ad.add i) = some (.int k (xs.getD i 0)) := by
  obtain ⟨ad, c, e, _, hK, hc⟩ := Kd.C_get h 0 (i : Int) (by omega) (by omega)
  refine ⟨ad, e, ?_⟩
  obtain rfl : c = [.int k (xs.getD i 0)] := by simpa [Kd.int, Kd.scalar] using hK
  have := hc 0 _ rfl
  simpa [Kd.int, Kd.scalar] using this
set_option maxHeartbeats 1000000 in
theorem indexFunc_near (t : Int) (B : Nat) (A : Option Addr) (c : Nat) (xs : List Int) (w : World) (hx : Kd.C (Kd.int .i64) w A xs.length xs) (hc : w.cell? ⟨B, 2, none⟩ = some (.int .i64 t)) :
    Calls Try.prog 148 #[.slice A xs.length c, .func (.func 114) #[] #[.pointer (some ⟨B, 0, none⟩)]] w fun e w' => e = .returned (.int .i64 (idxP (nearP t) xs 0)) ∧ w = w' := by
  have HX := Aside0.mk hx
  have hm : xs.length ≤ 9223372036854775807 := hx.2.1
  clear hx
  go_enter Try.func148, Try.ntmps148
  go_wp2_with fail
  go_loop [4, 5, 8] (fun _ _ u8 => ∃ k : Nat, k ≤ xs.length ∧ u8 = .int .i64 k ∧ Aside0 (idxP (nearP t) xs 0 = idxP (nearP t) (xs.drop k) k)) (fun _ _ u8 => xs.length - (intOf u8).toNat)
  case atStart => exact ⟨0, Nat.zero_le _, rfl, ⟨by simp⟩⟩
  case round =>
    obtain ⟨k, hk, rfl, HI⟩ := hrel
    by_cases hlt : (k : Int) < (xs.length : Int)
    · obtain ⟨ad, rfl, hcell⟩ := at_ints HX.out k (by omega)
      have hk0 : (0 : Int) ≤ (k : Int) := by omega
      obtain ⟨x, hx⟩ : ∃ x, xs.getD k 0 = x := ⟨_, rfl⟩
      rw [hx] at hcell
      have HXk := Aside0.mk hx
      clear hx
      by_cases hp : nearP t x = true
      · have HP := Aside0.mk hp
        have HH : Aside0 (idxP (nearP t) xs 0 = k) := ⟨by rw [HI.out, idxP_hit _ _ _ (by omega) (by rw [HXk.out]; exact hp)]⟩
        have hn := fun (w : World) (hc : w.cell? ⟨B, 2, none⟩ = some (.int .i64 t)) => near1_any t x B w hc
        rw [hp] at hn
        have HN := Aside0.mk hn
        clear hp hn
        go_wp2_with (go_at_call 114; refine (HN.out _ hc).mono ?_; rintro e w' ⟨rfl, rfl⟩)
        go_ret
        exact ⟨by rw [HH.out]; rfl, rfl⟩
      · have hq : nearP t x = false := Bool.eq_false_iff.mpr hp
        have HH : Aside0 (idxP (nearP t) xs 0 = idxP (nearP t) (xs.drop (k + 1)) (k + 1)) := ⟨by rw [HI.out, idxP_stay _ _ _ (by omega) (by rw [HXk.out]; exact hq)]⟩
        have hn := fun (w : World) (hc : w.cell? ⟨B, 2, none⟩ = some (.int .i64 t)) => near1_any t x B w hc
        rw [hq] at hn
        have HN := Aside0.mk hn
        clear hp hn hq
        go_wp2_with (go_at_call 114; refine (HN.out _ hc).mono ?_; rintro e w' ⟨rfl, rfl⟩)
        go_round
        case rel => exact ⟨k + 1, by omega, by go_num, HH⟩
        case measure => simp [intOf]; omega
    · obtain rfl : k = xs.length := by omega
      have HH : Aside0 (idxP (nearP t) xs 0 = -1) := ⟨by rw [HI.out, List.drop_length]; rfl⟩
      clear hlt hk
      go_wp2_with fail
      go_ret
      exact ⟨by rw [HH.out]; rfl, rfl⟩
theorem containsFunc_near (t : Int) (B : Nat) (A : Option Addr) (c : Nat) (xs : List Int) (w : World) (hx : Kd.C (Kd.int .i64) w A xs.length xs) (hc : w.cell? ⟨B, 2, none⟩ = some (.int .i64 t)) :
    Calls Try.prog 113 #[.slice A xs.length c, .func (.func 114) #[] #[.pointer (some ⟨B, 0, none⟩)]] w fun e w' => e = .returned (.bool (xs.any (nearP t))) ∧ w = w' := by
  have HI := Aside0.mk (fun (w : World) hx hc => indexFunc_near t B A c xs w hx hc)
  have HX := Aside0.mk hx
  have HV := Aside0.mk (idxP_any (nearP t) xs 0)
  obtain ⟨v, hv⟩ : ∃ v, idxP (nearP t) xs 0 = v := ⟨_, rfl⟩
  rw [hv] at HI HV
  clear hx hv
  go_enter Try.func113, Try.ntmps113
  go_wp2_with (go_at_call 148; refine (HI.out _ HX.out hc).mono ?_; rintro e w' ⟨rfl, rfl⟩)
  go_ret
  exact ⟨by rw [← HV.out]; rfl, rfl⟩
/-- A slip's near. -/
theorem near_any (m : Int) (y : Bool) (t b : Int) (A : Option Addr) (c : Nat) (xs : List Int) (w : World) (hx : Kd.C (Kd.int .i64) w A xs.length xs) :
    Calls Try.prog 72 #[.agg #[.int .i64 m, .bool y, .int .i64 t, .int .i64 b], .slice A xs.length c] w fun e w' => e = .returned (.bool (xs.any (nearP t))) ∧ Below w.heap.size w w' := by
  have HI := Aside0.mk (fun (w : World) B hx hc => containsFunc_near t B A c xs w hx hc)
  have HX := Aside0.mk (Kd.C_below hx (below_alloc (Below.refl w.heap.size w) (.cells #[.int .i64 m, .bool y, .int .i64 t, .int .i64 b] 40)))
  obtain ⟨v, hv⟩ : ∃ v, xs.any (nearP t) = v := ⟨_, rfl⟩
  rw [hv] at HI ⊢
  clear hx hv
  go_enter Try.func72, Try.ntmps72
  go_wp2_with (go_at_call 113; refine (HI.out _ w.heap.size HX.out ((blk_cell (blk_new w (.cells #[.int .i64 m, .bool y, .int .i64 t, .int .i64 b] 40)) 2).trans rfl)).mono ?_; rintro e w' ⟨rfl, rfl⟩)
  go_ret
  exact ⟨rfl, below_alloc (Below.refl _ _) _⟩
end Go.Proofs.Ytfmepbpipknblaa.PBu
