-- Out of the words that the kit's print laid at this seat: what this claim uses.
import Derived.Test.YtbaapakkdnhcmaaWInv
import Derived.Test.YtbaapakkdnhcmaaWFootNe
namespace Go.Proofs.YtbaapakkdnhcmaaW.PrintWords
open Go.RowKit
end Go.Proofs.YtbaapakkdnhcmaaW.PrintWords
namespace Go.Proofs.YtbaapakkdnhcmaaW.PrintLast
section
variable {ops : Array Oper} {a : Act} {o og : Oper} {g : Nat} {t : Tmp} {u : Bool}
end
end Go.Proofs.YtbaapakkdnhcmaaW.PrintLast
