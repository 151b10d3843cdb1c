/- Share of diag as a contract. Helper text. -/
import Derived.Test.YtfmepbpipknblaaDgWalk
import Derived.Test.YtfmepbpipknblaaDgRef
namespace Go.Proofs.Ytfmepbpipknblaa.Dg
open Go.RowKit Go.Proofs.Ytfmepbpipknblaa.Kx
set_option linter.unusedVariables false
set_option linter.unusedSimpArgs false

def shq (b x : Int) : Int := min 1000 ((1000 * max 0 (min x 1099511627776)) / (min b 1099511627776))
def shr (b : Int) (o : Nat → Int) (l : Int) : Int := if 0 < b ∧ 0 ≤ l ∧ l ≤ 3 then shq b (o l.toNat) else 0
theorem cnt_cell {w : World} {g : Nat} {b : Int} {o : Nat → Int} {T : TypeId} {fr : Nat × Nat} (h : w.heap[g]? = some (.cells (Cnt b o) T fr)) (k : Nat) (hk : k < 4) : w.cell? ⟨g, 1 + k, none⟩ = some (.int .i64 (o k)) := by
  refine (cell_in h (1 + k)).trans ?_
  obtain rfl | rfl | rfl | rfl : k = 0 ∨ k = 1 ∨ k = 2 ∨ k = 3 := by omega
  all_goals rfl
set_option maxHeartbeats 1000000 in
theorem share_any (b : Int) (o : Nat → Int) (l : Int) (w : World) : Calls Try.prog 38 #[.agg #[.int .i64 b, .int .i64 (o 0), .int .i64 (o 1), .int .i64 (o 2), .int .i64 (o 3)], .int .i64 l] w fun e w' =>
    e = .returned (.int .i64 (shr b o l)) ∧ Below w.heap.size w w' := by
  by_cases hc : 0 < b ∧ 0 ≤ l ∧ l ≤ 3
  · have HV : Hid (shr b o l = shq b (o l.toNat)) := by show shr b o l = _; unfold shr; rw [if_pos hc]
    obtain ⟨hb, h0, h3⟩ := hc
    obtain ⟨k, rfl⟩ : ∃ k : Nat, l = (k : Int) := ⟨l.toNat, by omega⟩
    have hk : k < 4 := by omega
    have hx := cnt_cell (w := w.alloc (.cells (Cnt b o) 58)) (g := w.heap.size) (b := b) (o := o) (heap_alloc_new _ _) k hk
    unfold Cnt at hx
    have e0 : ((k : Int)).toNat = k := by omega
    rw [e0] at HV
    obtain ⟨x, he⟩ : ∃ x, o k = x := ⟨_, rfl⟩
    rw [he] at hx HV
    have hd1 : decide (b ≤ 0) = false := by simp; omega
    clear he
    go_enter Try.func38, Try.ntmps38
    go_wp2_with fail
    go_region
    go_wp2_with fail
    go_ret
    exact ⟨by rw [HV.out]; rfl, below_drewN' ((Below.refl _ _).alloc (Nat.le_refl _) _) 1⟩
  · have HV : Hid (shr b o l = 0) := by show shr b o l = _; unfold shr; rw [if_neg hc]
    by_cases hb : 0 < b
    · have hd1 : decide (b ≤ 0) = false := by simp; omega
      by_cases h0 : l < 0
      · clear hc
        go_enter Try.func38, Try.ntmps38
        go_wp2_with fail
        go_ret
        exact ⟨by rw [HV.out]; rfl, (Below.refl _ _).alloc (Nat.le_refl _) _⟩
      · have h3 : 3 < l := by omega
        have hd0 : decide (l < 0) = false := by simp; omega
        clear hc
        go_enter Try.func38, Try.ntmps38
        go_wp2_with fail
        go_ret
        exact ⟨by rw [HV.out]; rfl, (Below.refl _ _).alloc (Nat.le_refl _) _⟩
    · have hd1 : decide (b ≤ 0) = true := by simp; omega
      clear hc
      go_enter Try.func38, Try.ntmps38
      go_wp2_with fail
      go_ret
      exact ⟨by rw [HV.out]; rfl, (Below.refl _ _).alloc (Nat.le_refl _) _⟩
end Go.Proofs.Ytfmepbpipknblaa.Dg
