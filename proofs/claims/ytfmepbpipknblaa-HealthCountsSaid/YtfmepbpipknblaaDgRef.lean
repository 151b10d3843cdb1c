/- The reference's suspect and worst, and the share, as contracts. Helper text. -/
import Derived.Test.YtfmepbpipknblaaDgWalk
namespace Go.Proofs.Ytfmepbpipknblaa.Dg
open Go.RowKit Go.Proofs.Ytfmepbpipknblaa.Kx
set_option linter.unusedVariables false
set_option linter.unusedSimpArgs false

theorem len_step (o : Nat → Int) (n : Nat) : (oddP o n).length ≤ (oddP o (n + 1)).length := by
  rw [oddP]; split <;> simp
theorem len_mono (o : Nat → Int) (n : Nat) (hn : n ≤ 4) : (oddP o n).length ≤ (oddP o 4).length := by
  have a := len_step o 0
  have b := len_step o 1
  have c := len_step o 2
  have d := len_step o 3
  simp only [Nat.reduceAdd] at a b c d
  obtain rfl | rfl | rfl | rfl | rfl : n = 0 ∨ n = 1 ∨ n = 2 ∨ n = 3 ∨ n = 4 := by omega
  all_goals omega
def sus (o : Nat → Int) (n : Nat) : Int := if (oddP o n).length = 1 then (oddP o n).getD 0 0 else -1
theorem sus_range (o : Nat → Int) (n : Nat) (h : (oddP o n).length ≤ 1) : (0 ≤ sus o n ↔ (oddP o n).length = 1) ∧ -1 ≤ sus o n := by
  unfold sus
  by_cases h1 : (oddP o n).length = 1
  · rw [if_pos h1]
    have := oddP_mem o n ((oddP o n).getD 0 0) (by rw [List.getD_eq_getElem?_getD, List.getElem?_eq_getElem (by omega)]; exact List.getElem_mem _)
    omega
  · rw [if_neg h1]
    omega

theorem arr_cell {w : World} {g : Nat} {o : Nat → Int} {T : TypeId} {fr : Nat × Nat} (h : w.heap[g]? = some (.cells #[.int .i64 (o 0), .int .i64 (o 1), .int .i64 (o 2), .int .i64 (o 3)] T fr)) (k : Nat) (hk : k < 4) : w.cell? ⟨g, k, none⟩ = some (.int .i64 (o k)) := by
  refine (cell_in h k).trans ?_
  obtain rfl | rfl | rfl | rfl : k = 0 ∨ k = 1 ∨ k = 2 ∨ k = 3 := by omega
  all_goals rfl

set_option maxHeartbeats 1000000 in
theorem ref_suspect (o : Nat → Int) (w : World) : Calls Try.prog 34 #[.agg #[.int .i64 (o 0), .int .i64 (o 1), .int .i64 (o 2), .int .i64 (o 3)]] w fun e w' =>
    e = .returned (.int .i64 (susp o)) ∧ Below w.heap.size w w' := by
  have HC := fun (k : Nat) (hk : k < 4) => arr_cell (w := w.alloc (.cells #[.int .i64 (o 0), .int .i64 (o 1), .int .i64 (o 2), .int .i64 (o 3)] 56)) (g := w.heap.size) (o := o) (heap_alloc_new _ _) k hk
  have HC' := hid HC
  clear HC
  go_enter Try.func34, Try.ntmps34
  go_wp2_with fail
  go_loop [3, 4] (fun out i => ∃ n : Nat, n ≤ 4 ∧ i = .int .i64 n ∧ (oddP o n).length ≤ 1 ∧ out = .int .i64 (sus o n)) (fun _ i => 4 - (intOf i).toNat)
  case atStart => exact ⟨0, by omega, rfl, by simp [oddP], rfl⟩
  case round =>
    obtain ⟨n, hn, rfl, hl, rfl⟩ := hrel
    have hsr := sus_range o n hl
    by_cases hlt : (n : Int) < 4
    · have hc := HC'.out n (by omega)
      by_cases hp : o n ≤ 0
      · have HS : Hid (sus o (n + 1) = sus o n) := by show sus o (n + 1) = sus o n; unfold sus; rw [oddP, if_neg (show ¬ 0 < o n by omega)]
        have HL : Hid ((oddP o (n + 1)).length ≤ 1) := by show (oddP o (n + 1)).length ≤ 1; rw [oddP, if_neg (show ¬ 0 < o n by omega)]; exact hl
        generalize sus o n = y at *
        clear hl hsr
        go_wp2_with fail
        exact ⟨⟨n + 1, by omega, by go_num, HL.out, by rw [HS.out]⟩, by simp [intOf]; omega⟩
      · by_cases h1 : 0 ≤ sus o n
        · have hl1 := hsr.1.1 h1
          have h2 : (oddP o (n + 1)).length = 2 := by rw [oddP, if_pos (show 0 < o n by omega), List.length_append, hl1]; rfl
          have h4 := len_mono o (n + 1) (by omega)
          have HV : Hid (susp o = -1) := by show susp o = -1; unfold susp; rw [if_neg (by omega)]
          generalize sus o n = y at *
          clear hl1 h2 h4 hl hsr
          go_wp2_with fail
          go_ret
          exact ⟨by rw [HV.out]; rfl, (Below.refl _ _).alloc (Nat.le_refl _) _⟩
        · have h0 : oddP o n = [] := by
            refine List.eq_nil_of_length_eq_zero ?_
            have := hsr.1
            omega
          have HS : Hid (sus o (n + 1) = n) := by show sus o (n + 1) = n; unfold sus; rw [oddP, if_pos (show 0 < o n by omega), h0]; rfl
          have HL : Hid ((oddP o (n + 1)).length ≤ 1) := by show (oddP o (n + 1)).length ≤ 1; rw [oddP, if_pos (show 0 < o n by omega), h0]; exact Nat.le_refl _
          generalize sus o n = y at *
          clear h0 hl hsr
          go_wp2_with fail
          exact ⟨⟨n + 1, by omega, by go_num, HL.out, by rw [HS.out]⟩, by simp [intOf]; omega⟩
    · obtain rfl : n = 4 := by omega
      have HV : Hid (susp o = sus o 4) := rfl
      generalize sus o 4 = y at *
      clear hl hsr
      go_wp2_with fail
      go_ret
      exact ⟨by rw [HV.out]; rfl, (Below.refl _ _).alloc (Nat.le_refl _) _⟩

set_option maxHeartbeats 1000000 in
theorem ref_worst (o : Nat → Int) (w : World) : Calls Try.prog 36 #[.agg #[.int .i64 (o 0), .int .i64 (o 1), .int .i64 (o 2), .int .i64 (o 3)]] w fun e w' =>
    e = .returned (.int .i64 (wst o 4)) ∧ Below w.heap.size w w' := by
  have HC := fun (k : Nat) (hk : k < 4) => arr_cell (w := w.alloc (.cells #[.int .i64 (o 0), .int .i64 (o 1), .int .i64 (o 2), .int .i64 (o 3)] 56)) (g := w.heap.size) (o := o) (heap_alloc_new _ _) k hk
  have HC' := hid HC
  clear HC
  go_enter Try.func36, Try.ntmps36
  go_wp2_with fail
  go_loopw [3, 4, 5] (fun out most i wr => ∃ n : Nat, n ≤ 4 ∧ i = .int .i64 n ∧ out = .int .i64 (wst o n) ∧ most = .int .i64 (if wst o n < 0 then 0 else o (wst o n).toNat) ∧ ∃ q, wr = (w.alloc (.cells #[.int .i64 (o 0), .int .i64 (o 1), .int .i64 (o 2), .int .i64 (o 3)] 56)).drewN q) (fun _ _ i _ => 4 - (intOf i).toNat)
  case atStart => exact ⟨0, by omega, rfl, rfl, rfl, 0, rfl⟩
  case round =>
    obtain ⟨n, hn, rfl, rfl, rfl, q, rfl⟩ := hrel
    have hw := wst_range o n
    obtain ⟨best, hb⟩ : ∃ b, wst o n = b := ⟨_, rfl⟩
    obtain ⟨most, hm⟩ : ∃ m, (if wst o n < 0 then 0 else o (wst o n).toNat) = m := ⟨_, rfl⟩
    rw [hm, hb]
    have hm2 : (best < 0 → most = 0) ∧ (¬ best < 0 → most = o best.toNat) := by rw [← hm, hb]; exact ⟨fun h => if_pos h, fun h => if_neg h⟩
    rw [hb] at hw
    by_cases hlt : (n : Int) < 4
    · have hc := HC'.out n (by omega)
      by_cases hp : most < o n
      · have hpos : 0 < o n ∧ (best < 0 ∨ o best.toNat < o n) := by
          by_cases h0 : best < 0
          · have := hm2.1 h0; omega
          · have := hm2.2 h0
            have h3 := hw.2.2.2 (by omega)
            omega
        have HS : Hid (wst o (n + 1) = n) := by show wst o (n + 1) = n; rw [wst, hb, if_pos hpos]
        have HS2 : Hid ((if wst o (n + 1) < 0 then 0 else o (wst o (n + 1)).toNat) = o n) := by show (if wst o (n + 1) < 0 then 0 else o (wst o (n + 1)).toNat) = o n; rw [HS.out, if_neg (by omega)]; rfl
        have hn0 : (0 : Int) ≤ (n : Int) := by omega
        clear hpos hm hb hm2 hw
        go_wp2_with fail
        go_quiet (fail)
        go_wp2_with fail
        exact ⟨⟨n + 1, by omega, by go_num, by rw [HS.out], by rw [HS2.out], _, rfl⟩, by simp [intOf]; omega⟩
      · have hneg : ¬ (0 < o n ∧ (best < 0 ∨ o best.toNat < o n)) := by
          by_cases h0 : best < 0
          · have := hm2.1 h0; omega
          · have := hm2.2 h0; omega
        have HS : Hid (wst o (n + 1) = best) := by show wst o (n + 1) = best; rw [wst, hb, if_neg hneg]
        have HS2 : Hid ((if wst o (n + 1) < 0 then 0 else o (wst o (n + 1)).toNat) = most) := by show (if wst o (n + 1) < 0 then 0 else o (wst o (n + 1)).toNat) = most; rw [HS.out, ← hm, hb]
        clear hneg hm hb hm2 hw
        go_wp2_with fail
        exact ⟨⟨n + 1, by omega, by go_num, by rw [HS.out], by rw [HS2.out], _, rfl⟩, by simp [intOf]; omega⟩
    · obtain rfl : n = 4 := by omega
      have HV := hid hb
      clear hm hb hm2 hw
      go_wp2_with fail
      go_ret
      exact ⟨by rw [HV.out]; rfl, below_drewN' ((Below.refl _ _).alloc (Nat.le_refl _) _) q⟩
end Go.Proofs.Ytfmepbpipknblaa.Dg
