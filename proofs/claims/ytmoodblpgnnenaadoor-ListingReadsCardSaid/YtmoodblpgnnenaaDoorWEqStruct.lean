-- Out of the words that the kit's print laid at this seat: what this claim uses.
import Derived.Test.YtmoodblpgnnenaaDoorWWords
import Derived.Laws.StructEq
namespace Go.Proofs.YtmoodblpgnnenaaDoorW.PrintWords
open Go.RowKit
section
variable {P : Program} {d : Nat} {xs ys : Array Value} {f : Field} {fs : List Field} {a b : Value} {r s : Bool} {w : World}
end
end Go.Proofs.YtmoodblpgnnenaaDoorW.PrintWords
