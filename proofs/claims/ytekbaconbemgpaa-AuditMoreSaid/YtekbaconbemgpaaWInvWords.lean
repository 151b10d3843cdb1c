-- Out of the words that the kit's print laid at this seat: what this claim uses.
import Derived.Test.YtekbaconbemgpaaWInv
import Derived.Test.YtekbaconbemgpaaWFootNe
namespace Go.Proofs.YtekbaconbemgpaaW.PrintWords
open Go.RowKit
end Go.Proofs.YtekbaconbemgpaaW.PrintWords
namespace Go.Proofs.YtekbaconbemgpaaW.PrintLast
section
variable {ops : Array Oper} {a : Act} {o og : Oper} {g : Nat} {t : Tmp} {u : Bool}
end
end Go.Proofs.YtekbaconbemgpaaW.PrintLast
