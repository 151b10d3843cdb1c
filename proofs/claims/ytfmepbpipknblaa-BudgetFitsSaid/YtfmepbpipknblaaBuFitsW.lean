/- The walk of BudgetFits, out of the printed one and the plain law. Helper text. -/
import Derived.Test.YtfmepbpipknblaaBuFits
import Derived.Test.YtfmepbpipknblaaBuOpen
namespace Go.Proofs.Ytfmepbpipknblaa.PBu
open Go.RowKit Go.Proofs.Ytfmepbpipknblaa.Kx Go.Proofs.YtfmepbpipknblaaW.PrintWords Go.Proofs.YtfmepbpipknblaaW.PrintLast Go.Proofs.YtfmepbpipknblaaW.PrintMore
set_option linter.unusedVariables false
set_option linter.unusedSimpArgs false

theorem fits_row (x : Crs) (a1 : Int) (w : World) (hx : Kd.C (Kd.int .u8) w x.A5 x.l5.length x.l5 ∧ x.l5.length ≤ x.c5 ∧ Kd.C k40 w x.A6 x.l6.length x.l6 ∧ x.l6.length ≤ x.c6 ∧ ∀ s ∈ x.l6, (Lit.int .i64 s.f0).wf = true) (_ : (Lit.int .i64 a1).wf = true) :
    Calls Try.prog 4 #[.agg x.arr, .int .i64 a1] w fun e w' => e = .returned (.bool true) ∧ Below w.heap.size w w' := by
  obtain ⟨h5, hc5, h6, hc6, hw⟩ := hx
  obtain ⟨k, hk⟩ := fits_pure x.f0 x.f1 x.f2 x.f3 x.f4 x.l5 x.l6 a1 hw
  exact busbarlaw21_BudgetFits.calls k x.f0 x.f1 x.f2 x.f3 x.f4 x.A5 x.c5 x.l5 x.A6 x.c6 x.l6 a1 true w h5 hc5 h6 hc6 hk
end Go.Proofs.Ytfmepbpipknblaa.PBu
