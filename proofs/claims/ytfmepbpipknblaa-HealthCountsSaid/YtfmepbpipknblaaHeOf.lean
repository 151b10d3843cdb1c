/- Health: Fit, Numbers, Of as contracts. Helper text. -/
import Derived.Test.YtfmepbpipknblaaHeSum
namespace Go.Proofs.Ytfmepbpipknblaa.He
open Go.RowKit Go.Proofs.Ytfmepbpipknblaa.Kx
set_option linter.unusedVariables false
set_option linter.unusedSimpArgs false

def fitOf (a : Nat → Int) : Int := if a 1 + a 2 ≤ 0 then 1000 else 1000 * a 1 / (a 1 + a 2)
set_option maxHeartbeats 1000000 in
theorem fit_any (a : Nat → Int) (h1 : 0 ≤ a 1) (h1' : a 1 ≤ 1000000) (h2 : 0 ≤ a 2) (h2' : a 2 ≤ 1000000) (w : World) :
    Calls Try.prog 29 #[.agg (H7 a)] w fun e w' => e = .returned (.int .i64 (fitOf a)) ∧ Below w.heap.size w w' := by
  unfold H7
  by_cases hc : a 1 + a 2 ≤ 0
  · have HV : Hid (fitOf a = 1000) := by show fitOf a = 1000; unfold fitOf; rw [if_pos hc]
    go_enter Try.func29, Try.ntmps29
    go_wp2_with fail
    go_ret
    exact ⟨by rw [HV.out]; rfl, (Below.refl _ _).alloc (Nat.le_refl _) _⟩
  · have HV : Hid (fitOf a = 1000 * a 1 / (a 1 + a 2)) := by show fitOf a = _; unfold fitOf; rw [if_neg hc]
    go_enter Try.func29, Try.ntmps29
    go_wp2_with fail
    go_ret
    exact ⟨by rw [HV.out]; rfl, (Below.refl _ _).alloc (Nat.le_refl _) _⟩
set_option maxHeartbeats 1000000 in
theorem nums_any (a : Nat → Int) (w : World) :
    Calls Try.prog 27 #[.agg (H7 a)] w fun e w' => e = .returned (.agg (H7 a)) ∧ Below w.heap.size w w' := by
  unfold H7
  go_enter Try.func27, Try.ntmps27
  go_wp2_with fail
  (try simp only [Exit.inBlock, Exit.then])
  refine bodyPost_ret (results_cell_row rfl _ _ (w.heap.size + 1) 46 #[.int .i64 (a 0), .int .i64 (a 1), .int .i64 (a 2), .int .i64 (a 3), .int .i64 (a 4), .int .i64 (a 5), .int .i64 (a 6)] (0, 0) _ rfl ?_ Try.underlying46 rfl (by kernel_rfl)) rfl ⟨rfl, ?_⟩
  · simpa using heap_alloc_new (w.alloc _) _
  · exact ((Below.refl _ _).alloc (Nat.le_refl _) _).alloc (by simp) _
end Go.Proofs.Ytfmepbpipknblaa.He
