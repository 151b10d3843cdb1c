-- Out of the words that the kit's print laid at this seat: what this claim uses.
import Derived.Test.YtedjjodnceinlaaDoorWWords
namespace Go.Proofs.YtedjjodnceinlaaDoorW.PrintWords
open Go.RowKit
section
variable {P : Program} {ops : Array Oper} {rest : List Oper} {o : Oper} {a : Act} {Q : Exit → Act → World → Prop} {W : World}
end
end Go.Proofs.YtedjjodnceinlaaDoorW.PrintWords
