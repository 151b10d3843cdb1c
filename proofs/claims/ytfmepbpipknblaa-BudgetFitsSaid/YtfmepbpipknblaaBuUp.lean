/- Two plain facts on slips. Helper text. -/
import Derived.Test.YtfmepbpipknblaaBuStep
namespace Go.Proofs.Ytfmepbpipknblaa.PBu
open Go.RowKit Go.Proofs.YtfmepbpipknblaaW.PrintWords Go.Proofs.YtfmepbpipknblaaW.PrintLast Go.Proofs.YtfmepbpipknblaaW.PrintMore
set_option linter.unusedVariables false
set_option linter.unusedSimpArgs false

theorem wrap_up (i n : Nat) (h : i < n) (hn : n ≤ 1000) : wrap64 ((i : Int) + 1) = ((i + 1 : Nat) : Int) := by unfold wrap64; omega
theorem fits_len (m : Int) : ∀ (r acc : List S40), (fits m acc r).length ≤ acc.length + r.length
  | [], acc => by simp [fits]
  | s :: r, acc => by
    rw [fits]
    split
    · have := fits_len m r (acc ++ [s])
      simp at this ⊢
      omega
    · have := fits_len m r acc
      simp
      omega
end Go.Proofs.Ytfmepbpipknblaa.PBu
