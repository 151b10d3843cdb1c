-- Out of the words that the kit's print laid at this seat: what this claim uses.
import Derived.Test.YtedjjodnceinlaaDoorWInv
import Derived.Test.YtedjjodnceinlaaDoorWFootNe
namespace Go.Proofs.YtedjjodnceinlaaDoorW.PrintWords
open Go.RowKit
end Go.Proofs.YtedjjodnceinlaaDoorW.PrintWords
namespace Go.Proofs.YtedjjodnceinlaaDoorW.PrintLast
section
variable {ops : Array Oper} {a : Act} {o og : Oper} {g : Nat} {t : Tmp} {u : Bool}
end
end Go.Proofs.YtedjjodnceinlaaDoorW.PrintLast
