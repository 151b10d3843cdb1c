-- Out of the words that the kit's print laid at this seat: what this claim uses.
import Derived.Test.YtmoodblpgnnenaaDoorWN
namespace Go.Proofs.YtmoodblpgnnenaaDoorW.PrintWords
open Go.RowKit
namespace Kd
section
variable {α : Type} {d : Kd α} {W : World} {g n : Nat} {S ok : Nat → Prop} {A : Option Addr} {ad : Addr} {xs : List α}
end
end Kd
end Go.Proofs.YtmoodblpgnnenaaDoorW.PrintWords
