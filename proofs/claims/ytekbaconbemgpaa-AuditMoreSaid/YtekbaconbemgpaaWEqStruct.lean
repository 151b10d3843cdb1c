-- Out of the words that the kit's print laid at this seat: what this claim uses.
import Derived.Test.YtekbaconbemgpaaWWords
import Derived.Laws.StructEq
namespace Go.Proofs.YtekbaconbemgpaaW.PrintWords
open Go.RowKit
section
variable {P : Program} {d : Nat} {xs ys : Array Value} {f : Field} {fs : List Field} {a b : Value} {r s : Bool} {w : World}
end
end Go.Proofs.YtekbaconbemgpaaW.PrintWords
