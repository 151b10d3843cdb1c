-- Out of the words that the kit's print laid at this seat: what this claim uses.
import Derived.Test.YtekbaconbemgpaaWTab
namespace Go.Proofs.YtekbaconbemgpaaW.PrintLast
section
variable {P : Program} {ops : Array Oper} {Q : Exit → Act → World → Prop} {md : Region.Mode} {S : World → Prop} {ds : List Nat} {T : Bool × List (List Nat × List Nat)}
end
end Go.Proofs.YtekbaconbemgpaaW.PrintLast
