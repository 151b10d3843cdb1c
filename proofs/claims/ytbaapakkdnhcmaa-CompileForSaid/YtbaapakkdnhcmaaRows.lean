/-
  No cell of these rows narrows 'for every input' (looked for: loops, veiled, ifaces, maps, wideKeys, modest, calm, conditions, laid).
  DERIVED. THE GIVEN ROWS OF THIS SEAT. 6 by the template 'for every input the law returns true; each argument reads behind the call as it read before'; 0 by the template 'total and deterministic' (their statements: YtbaapakkdnhcmaaTotals.lean).
  GIVEN WITH THE SEED: the statements are not yours to turn. If you find one false, say at which input.
  Laid BY PROGRAM, IN A SANDBOX (cutbox-rows.mjs): the forced cells as the released guide's own fill.sh prints them over the translation 3d67df0a0328a309… (all of the seat's roots in one cut). By AI agents, Wed Nov 11 2026. No macro, syntax, notation, axiom, sorry.
-/
import Derived.Test.YtbaapakkdnhcmaaChecked
import GoSem.Claim
import GoSem.ClaimJoined
import GoSem.ClaimMapViews
import Derived.JoinedTies
import Derived.KernelRfl
namespace Go.Proofs.Ytbaapakkdnhcmaa
/- THE CELL 'sum', in the pinned program and in every row, IS THE sha256 OF THE DUMP (.gsa) THAT YtbaapakkdnhcmaaProg.lean LOADS. Nothing in Lean hashes anything: it is a label: what it is worth is what the hold of that sum in a sandbox is worth. -/
noncomputable def Try.pinned : Pinned := { name := "ytbaapakkdnhcmaa", sum := "3d67df0a0328a309ea26734e4d5dc9b0f33fba89cac4e89ff1a8a4b16b3a26e6", checked := Try.checked }
namespace Rows
def none {H : Type} : Left H := { results := [], args := [] }

/-- 'busbarlaw12.CompileBytes': WHATEVER THE INPUT: true; the input reads as it did. -/
def compileBytesSpec : ChangeSpec := { name := "compileBytes", fn := fun _ => fun
  | [d1, d2] => { results := [.lit (.bool true)], args := [d1, d2] }
  | _ => none }
def compileBytesRow : OpenClaim := { program := "ytbaapakkdnhcmaa", sum := "3d67df0a0328a309ea26734e4d5dc9b0f33fba89cac4e89ff1a8a4b16b3a26e6", func := "busbar/busbarlaw12.CompileBytes", spec := "compileBytes", unfollowed := true, recurses := true, apart := false }
def CompileBytesSaid : Prop := compileBytesRow.holds Try.pinned (OpenSpec.ofChange compileBytesSpec)

/-- ITS FALSE NEIGHBOUR: 'it returns false'. Refute it at one input. -/
def compileBytesWrong : ChangeSpec := { name := "compileBytes", fn := fun _ => fun
  | [d1, d2] => { results := [.lit (.bool false)], args := [d1, d2] }
  | _ => none }
def CompileBytesWrongFalsely : Prop := compileBytesRow.holds Try.pinned (OpenSpec.ofChange compileBytesWrong)

/-- 'busbarlaw12.CompileFor': WHATEVER THE INPUT: true; the input reads as it did. -/
def compileForSpec : ChangeSpec := { name := "compileFor", fn := fun _ => fun
  | [d1, d2] => { results := [.lit (.bool true)], args := [d1, d2] }
  | _ => none }
def compileForRow : OpenClaim := { program := "ytbaapakkdnhcmaa", sum := "3d67df0a0328a309ea26734e4d5dc9b0f33fba89cac4e89ff1a8a4b16b3a26e6", func := "busbar/busbarlaw12.CompileFor", spec := "compileFor", unfollowed := true, recurses := true, apart := false }
def CompileForSaid : Prop := compileForRow.holds Try.pinned (OpenSpec.ofChange compileForSpec)

/-- ITS FALSE NEIGHBOUR: 'it returns false'. Refute it at one input. -/
def compileForWrong : ChangeSpec := { name := "compileFor", fn := fun _ => fun
  | [d1, d2] => { results := [.lit (.bool false)], args := [d1, d2] }
  | _ => none }
def CompileForWrongFalsely : Prop := compileForRow.holds Try.pinned (OpenSpec.ofChange compileForWrong)

/-- 'busbarlaw12.CompileLoads': WHATEVER THE INPUT: true; the input reads as it did. -/
def compileLoadsSpec : ChangeSpec := { name := "compileLoads", fn := fun _ => fun
  | [d] => { results := [.lit (.bool true)], args := [d] }
  | _ => none }
def compileLoadsRow : OpenClaim := { program := "ytbaapakkdnhcmaa", sum := "3d67df0a0328a309ea26734e4d5dc9b0f33fba89cac4e89ff1a8a4b16b3a26e6", func := "busbar/busbarlaw12.CompileLoads", spec := "compileLoads", unfollowed := true, recurses := true, apart := false }
def CompileLoadsSaid : Prop := compileLoadsRow.holds Try.pinned (OpenSpec.ofChange compileLoadsSpec)

/-- ITS FALSE NEIGHBOUR: 'it returns false'. Refute it at one input. -/
def compileLoadsWrong : ChangeSpec := { name := "compileLoads", fn := fun _ => fun
  | [d] => { results := [.lit (.bool false)], args := [d] }
  | _ => none }
def CompileLoadsWrongFalsely : Prop := compileLoadsRow.holds Try.pinned (OpenSpec.ofChange compileLoadsWrong)

/-- 'busbarlaw12.CompileSame': WHATEVER THE INPUT: true; the input reads as it did. -/
def compileSameSpec : ChangeSpec := { name := "compileSame", fn := fun _ => fun
  | [d1, d2] => { results := [.lit (.bool true)], args := [d1, d2] }
  | _ => none }
def compileSameRow : OpenClaim := { program := "ytbaapakkdnhcmaa", sum := "3d67df0a0328a309ea26734e4d5dc9b0f33fba89cac4e89ff1a8a4b16b3a26e6", func := "busbar/busbarlaw12.CompileSame", spec := "compileSame", unfollowed := true, recurses := true, apart := false }
def CompileSameSaid : Prop := compileSameRow.holds Try.pinned (OpenSpec.ofChange compileSameSpec)

/-- ITS FALSE NEIGHBOUR: 'it returns false'. Refute it at one input. -/
def compileSameWrong : ChangeSpec := { name := "compileSame", fn := fun _ => fun
  | [d1, d2] => { results := [.lit (.bool false)], args := [d1, d2] }
  | _ => none }
def CompileSameWrongFalsely : Prop := compileSameRow.holds Try.pinned (OpenSpec.ofChange compileSameWrong)

/-- 'busbarlaw41.RosterTells': WHATEVER THE INPUT: true; the input reads as it did. -/
def rosterTellsSpec : ChangeSpec := { name := "rosterTells", fn := fun _ => fun
  | [d1, d2, d3] => { results := [.lit (.bool true)], args := [d1, d2, d3] }
  | _ => none }
def rosterTellsRow : OpenClaim := { program := "ytbaapakkdnhcmaa", sum := "3d67df0a0328a309ea26734e4d5dc9b0f33fba89cac4e89ff1a8a4b16b3a26e6", func := "busbar/busbarlaw41.RosterTells", spec := "rosterTells", inPlace := ["internal/abi.NoEscape"], unfollowed := true, recurses := true, apart := false }
def RosterTellsSaid : Prop := rosterTellsRow.holds Try.pinned (OpenSpec.ofChange rosterTellsSpec)

/-- ITS FALSE NEIGHBOUR: 'it returns false'. Refute it at one input. -/
def rosterTellsWrong : ChangeSpec := { name := "rosterTells", fn := fun _ => fun
  | [d1, d2, d3] => { results := [.lit (.bool false)], args := [d1, d2, d3] }
  | _ => none }
def RosterTellsWrongFalsely : Prop := rosterTellsRow.holds Try.pinned (OpenSpec.ofChange rosterTellsWrong)

/-- 'busbarlaw41.RosterBoth': WHATEVER THE INPUT: true; the input reads as it did. -/
def rosterBothSpec : ChangeSpec := { name := "rosterBoth", fn := fun _ => fun
  | [d1, d2] => { results := [.lit (.bool true)], args := [d1, d2] }
  | _ => none }
def rosterBothRow : OpenClaim := { program := "ytbaapakkdnhcmaa", sum := "3d67df0a0328a309ea26734e4d5dc9b0f33fba89cac4e89ff1a8a4b16b3a26e6", func := "busbar/busbarlaw41.RosterBoth", spec := "rosterBoth", inPlace := ["internal/abi.NoEscape"], unfollowed := true, recurses := true, apart := false }
def RosterBothSaid : Prop := rosterBothRow.holds Try.pinned (OpenSpec.ofChange rosterBothSpec)

/-- ITS FALSE NEIGHBOUR: 'it returns false'. Refute it at one input. -/
def rosterBothWrong : ChangeSpec := { name := "rosterBoth", fn := fun _ => fun
  | [d1, d2] => { results := [.lit (.bool false)], args := [d1, d2] }
  | _ => none }
def RosterBothWrongFalsely : Prop := rosterBothRow.holds Try.pinned (OpenSpec.ofChange rosterBothWrong)

/- THE SECOND FORM. 'bulk': how many values and letters a reading holds, each counted each time it is reached (what is shared counts as often as it is met; a slice's spare places count too). A statement '..UptoSaid' is the law's where the arguments, and the package variables that the reading takes, are together of bulk at most 1048576: NARROWER than '..Said'. Prove '..Said' where nothing that the law and all that it calls make is longer than what came in: it says more and counts as full. Else prove '..UptoSaid'. A law counts once. -/
mutual
def uptoBulk {H : Type} : DataW H → Nat
  | .lit (.string bytes) => bytes.length + 1
  | .lit _ => 1
  | .nil => 1
  | .ptr d => uptoBulk d + 1
  | .slice elems spare => uptoBulkAll elems + uptoBulkAll spare + 1
  | .agg parts => uptoBulkAll parts + 1
  | .iface _ d => uptoBulk d + 1
  | .map entries => uptoBulkEntries entries + 1
  | .held _ => 1
def uptoBulkAll {H : Type} : List (DataW H) → Nat
  | [] => 0
  | d :: r => uptoBulk d + uptoBulkAll r
def uptoBulkEntries {H : Type} : List (Lit × DataW H) → Nat
  | [] => 0
  | x :: r => uptoBulkEntry x + uptoBulkEntries r
def uptoBulkEntry {H : Type} : Lit × DataW H → Nat
  | (.string bytes, d) => bytes.length + uptoBulk d + 1
  | (_, d) => uptoBulk d + 1
 end
def uptoSmall : (H : Type) → List (DataW H) → Bool := fun _ ds => decide (uptoBulkAll ds ≤ 1048576)
def OpenSpec.upto (s : _root_.Go.ChangeSpec) : _root_.Go.OpenSpec := { _root_.Go.OpenSpec.ofChange s with cond := some uptoSmall }

/-- 'busbarlaw12.CompileBytes', WHERE WHAT IT READS IS OF BULK AT MOST 1048576: true; the input reads as it did. -/
def compileBytesUptoRow : OpenClaim := { program := "ytbaapakkdnhcmaa", sum := "3d67df0a0328a309ea26734e4d5dc9b0f33fba89cac4e89ff1a8a4b16b3a26e6", func := "busbar/busbarlaw12.CompileBytes", spec := "compileBytes", unfollowed := true, recurses := true, apart := false, narrowed := true }
def CompileBytesUptoSaid : Prop := compileBytesUptoRow.holds Try.pinned (OpenSpec.upto compileBytesSpec)

/-- 'busbarlaw12.CompileFor', WHERE WHAT IT READS IS OF BULK AT MOST 1048576: true; the input reads as it did. -/
def compileForUptoRow : OpenClaim := { program := "ytbaapakkdnhcmaa", sum := "3d67df0a0328a309ea26734e4d5dc9b0f33fba89cac4e89ff1a8a4b16b3a26e6", func := "busbar/busbarlaw12.CompileFor", spec := "compileFor", unfollowed := true, recurses := true, apart := false, narrowed := true }
def CompileForUptoSaid : Prop := compileForUptoRow.holds Try.pinned (OpenSpec.upto compileForSpec)

/-- 'busbarlaw12.CompileLoads', WHERE WHAT IT READS IS OF BULK AT MOST 1048576: true; the input reads as it did. -/
def compileLoadsUptoRow : OpenClaim := { program := "ytbaapakkdnhcmaa", sum := "3d67df0a0328a309ea26734e4d5dc9b0f33fba89cac4e89ff1a8a4b16b3a26e6", func := "busbar/busbarlaw12.CompileLoads", spec := "compileLoads", unfollowed := true, recurses := true, apart := false, narrowed := true }
def CompileLoadsUptoSaid : Prop := compileLoadsUptoRow.holds Try.pinned (OpenSpec.upto compileLoadsSpec)

/-- 'busbarlaw12.CompileSame', WHERE WHAT IT READS IS OF BULK AT MOST 1048576: true; the input reads as it did. -/
def compileSameUptoRow : OpenClaim := { program := "ytbaapakkdnhcmaa", sum := "3d67df0a0328a309ea26734e4d5dc9b0f33fba89cac4e89ff1a8a4b16b3a26e6", func := "busbar/busbarlaw12.CompileSame", spec := "compileSame", unfollowed := true, recurses := true, apart := false, narrowed := true }
def CompileSameUptoSaid : Prop := compileSameUptoRow.holds Try.pinned (OpenSpec.upto compileSameSpec)

/-- 'busbarlaw41.RosterTells', WHERE WHAT IT READS IS OF BULK AT MOST 1048576: true; the input reads as it did. -/
def rosterTellsUptoRow : OpenClaim := { program := "ytbaapakkdnhcmaa", sum := "3d67df0a0328a309ea26734e4d5dc9b0f33fba89cac4e89ff1a8a4b16b3a26e6", func := "busbar/busbarlaw41.RosterTells", spec := "rosterTells", inPlace := ["internal/abi.NoEscape"], unfollowed := true, recurses := true, apart := false, narrowed := true }
def RosterTellsUptoSaid : Prop := rosterTellsUptoRow.holds Try.pinned (OpenSpec.upto rosterTellsSpec)

/-- 'busbarlaw41.RosterBoth', WHERE WHAT IT READS IS OF BULK AT MOST 1048576: true; the input reads as it did. -/
def rosterBothUptoRow : OpenClaim := { program := "ytbaapakkdnhcmaa", sum := "3d67df0a0328a309ea26734e4d5dc9b0f33fba89cac4e89ff1a8a4b16b3a26e6", func := "busbar/busbarlaw41.RosterBoth", spec := "rosterBoth", inPlace := ["internal/abi.NoEscape"], unfollowed := true, recurses := true, apart := false, narrowed := true }
def RosterBothUptoSaid : Prop := rosterBothUptoRow.holds Try.pinned (OpenSpec.upto rosterBothSpec)

end Rows
end Go.Proofs.Ytbaapakkdnhcmaa
