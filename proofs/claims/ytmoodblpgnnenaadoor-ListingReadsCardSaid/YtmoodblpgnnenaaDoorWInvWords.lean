-- Out of the words that the kit's print laid at this seat: what this claim uses.
import Derived.Test.YtmoodblpgnnenaaDoorWInv
import Derived.Test.YtmoodblpgnnenaaDoorWFootNe
namespace Go.Proofs.YtmoodblpgnnenaaDoorW.PrintWords
open Go.RowKit
end Go.Proofs.YtmoodblpgnnenaaDoorW.PrintWords
namespace Go.Proofs.YtmoodblpgnnenaaDoorW.PrintLast
section
variable {ops : Array Oper} {a : Act} {o og : Oper} {g : Nat} {t : Tmp} {u : Bool}
end
end Go.Proofs.YtmoodblpgnnenaaDoorW.PrintLast
