/- Functions of the given program as plain Lean functions, each with its walk: printed by a program of this claim's own over the kit's print. Helper text. -/
import Derived.Test.YtedjjodnceinlaaDoorPWvx0
namespace Go.Proofs.YtedjjodnceinlaaDoor.PWv
open Go.RowKit Go.Proofs.YtedjjodnceinlaaDoorW.PrintWords Go.Proofs.YtedjjodnceinlaaDoorW.PrintLast Go.Proofs.YtedjjodnceinlaaDoorW.PrintMore
attribute [local go_sem] max2_int min2_int max_two min_two max_three min_three max_four min_four   -- for this text's walks alone
set_option linter.unusedVariables false
set_option linter.unusedSimpArgs false

theorem eqA46 (d : Nat) (w : World) (x0 y0 : Int) (x1 y1 : Int) :
 (Op.equalIn (d + 2) 46 (.agg #[.int .u8 x0, .int .i64 x1]) (.agg #[.int .u8 y0, .int .i64 y1])).run Tryd.prog w = .ok (x0 == y0 && (x1 == y1)) w := by
 refine eqA_of Tryd.underlying46 (by kernel_rfl) ?_
 refine eqf_cons (by rfl) (by go_simp; rfl) (by go_simp; rfl) (by go_simp) ?_
 exact eqf_last (by rfl) (by go_simp; rfl) (by go_simp; rfl) (by go_simp)
end Go.Proofs.YtedjjodnceinlaaDoor.PWv
