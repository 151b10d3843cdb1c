/-
  No cell of these rows narrows 'for every input' (looked for: loops, veiled, ifaces, maps, wideKeys, modest, calm, conditions, laid).
  DERIVED. THE GIVEN ROWS OF THIS SEAT. 14 by the template 'for every input the law returns true; each argument reads behind the call as it read before'; 0 by the template 'total and deterministic' (their statements: YtfmepbpipknblaaTotals.lean).
  GIVEN WITH THE SEED: the statements are not yours to turn. If you find one false, say at which input.
  Laid BY PROGRAM, IN A SANDBOX (cutbox-rows.mjs): the forced cells as the released guide's own fill.sh prints them over the translation bd29a5cc67285c5f… (all of the seat's roots in one cut). By AI agents, Wed Nov 11 2026. No macro, syntax, notation, axiom, sorry.
-/
import Derived.Test.YtfmepbpipknblaaChecked
import GoSem.Claim
import GoSem.ClaimJoined
import GoSem.ClaimMapViews
import Derived.JoinedTies
import Derived.KernelRfl
namespace Go.Proofs.Ytfmepbpipknblaa
/- THE CELL 'sum', in the pinned program and in every row, IS THE sha256 OF THE DUMP (.gsa) THAT YtfmepbpipknblaaProg.lean LOADS. Nothing in Lean hashes anything: it is a label: what it is worth is what the hold of that sum in a sandbox is worth. -/
noncomputable def Try.pinned : Pinned := { name := "ytfmepbpipknblaa", sum := "bd29a5cc67285c5f98f7b587e2a289ceeda056dbecf9e9a0e33c31e76187121a", checked := Try.checked }
namespace Rows
def none {H : Type} : Left H := { results := [], args := [] }

/-- 'busbarlaw21.BudgetChecks': WHATEVER THE INPUT: true; the input reads as it did. -/
def budgetChecksSpec : ChangeSpec := { name := "budgetChecks", fn := fun _ => fun
  | [d1, d2] => { results := [.lit (.bool true)], args := [d1, d2] }
  | _ => none }
def budgetChecksRow : OpenClaim := { program := "ytfmepbpipknblaa", sum := "bd29a5cc67285c5f98f7b587e2a289ceeda056dbecf9e9a0e33c31e76187121a", func := "busbar/busbarlaw21.BudgetChecks", spec := "budgetChecks", unfollowed := true, recurses := true, plainKeys := false, apart := false }
def BudgetChecksSaid : Prop := budgetChecksRow.holds Try.pinned (OpenSpec.ofChange budgetChecksSpec)

/-- ITS FALSE NEIGHBOUR: 'it returns false'. Refute it at one input. -/
def budgetChecksWrong : ChangeSpec := { name := "budgetChecks", fn := fun _ => fun
  | [d1, d2] => { results := [.lit (.bool false)], args := [d1, d2] }
  | _ => none }
def BudgetChecksWrongFalsely : Prop := budgetChecksRow.holds Try.pinned (OpenSpec.ofChange budgetChecksWrong)

/-- 'busbarlaw21.BudgetFits': WHATEVER THE INPUT: true; the input reads as it did. -/
def budgetFitsSpec : ChangeSpec := { name := "budgetFits", fn := fun _ => fun
  | [d1, d2] => { results := [.lit (.bool true)], args := [d1, d2] }
  | _ => none }
def budgetFitsRow : OpenClaim := { program := "ytfmepbpipknblaa", sum := "bd29a5cc67285c5f98f7b587e2a289ceeda056dbecf9e9a0e33c31e76187121a", func := "busbar/busbarlaw21.BudgetFits", spec := "budgetFits", unfollowed := true, recurses := true, plainKeys := false, apart := false }
def BudgetFitsSaid : Prop := budgetFitsRow.holds Try.pinned (OpenSpec.ofChange budgetFitsSpec)

/-- ITS FALSE NEIGHBOUR: 'it returns false'. Refute it at one input. -/
def budgetFitsWrong : ChangeSpec := { name := "budgetFits", fn := fun _ => fun
  | [d1, d2] => { results := [.lit (.bool false)], args := [d1, d2] }
  | _ => none }
def BudgetFitsWrongFalsely : Prop := budgetFitsRow.holds Try.pinned (OpenSpec.ofChange budgetFitsWrong)

/-- 'busbarlaw33.HealthCounts': WHATEVER THE INPUT: true; the input reads as it did. -/
def healthCountsSpec : ChangeSpec := { name := "healthCounts", fn := fun _ => fun
  | [d1, d2, d3] => { results := [.lit (.bool true)], args := [d1, d2, d3] }
  | _ => none }
def healthCountsRow : OpenClaim := { program := "ytfmepbpipknblaa", sum := "bd29a5cc67285c5f98f7b587e2a289ceeda056dbecf9e9a0e33c31e76187121a", func := "busbar/busbarlaw33.HealthCounts", spec := "healthCounts", inPlace := ["internal/abi.NoEscape", "internal/bytealg.MakeNoZero"], recurses := true, plainKeys := false, apart := false }
def HealthCountsSaid : Prop := healthCountsRow.holds Try.pinned (OpenSpec.ofChange healthCountsSpec)

/-- ITS FALSE NEIGHBOUR: 'it returns false'. Refute it at one input. -/
def healthCountsWrong : ChangeSpec := { name := "healthCounts", fn := fun _ => fun
  | [d1, d2, d3] => { results := [.lit (.bool false)], args := [d1, d2, d3] }
  | _ => none }
def HealthCountsWrongFalsely : Prop := healthCountsRow.holds Try.pinned (OpenSpec.ofChange healthCountsWrong)

/-- 'busbarlaw40.DiagTells': WHATEVER THE INPUT: true; the input reads as it did. -/
def diagTellsSpec : ChangeSpec := { name := "diagTells", fn := fun _ => fun
  | [d1, d2] => { results := [.lit (.bool true)], args := [d1, d2] }
  | _ => none }
def diagTellsRow : OpenClaim := { program := "ytfmepbpipknblaa", sum := "bd29a5cc67285c5f98f7b587e2a289ceeda056dbecf9e9a0e33c31e76187121a", func := "busbar/busbarlaw40.DiagTells", spec := "diagTells", inPlace := ["internal/abi.NoEscape", "internal/bytealg.MakeNoZero"], recurses := true, plainKeys := false, apart := false }
def DiagTellsSaid : Prop := diagTellsRow.holds Try.pinned (OpenSpec.ofChange diagTellsSpec)

/-- ITS FALSE NEIGHBOUR: 'it returns false'. Refute it at one input. -/
def diagTellsWrong : ChangeSpec := { name := "diagTells", fn := fun _ => fun
  | [d1, d2] => { results := [.lit (.bool false)], args := [d1, d2] }
  | _ => none }
def DiagTellsWrongFalsely : Prop := diagTellsRow.holds Try.pinned (OpenSpec.ofChange diagTellsWrong)

/-- 'busbarlaw40.DiagCounts': WHATEVER THE INPUT: true; the input reads as it did. -/
def diagCountsSpec : ChangeSpec := { name := "diagCounts", fn := fun _ => fun
  | [d1, d2] => { results := [.lit (.bool true)], args := [d1, d2] }
  | _ => none }
def diagCountsRow : OpenClaim := { program := "ytfmepbpipknblaa", sum := "bd29a5cc67285c5f98f7b587e2a289ceeda056dbecf9e9a0e33c31e76187121a", func := "busbar/busbarlaw40.DiagCounts", spec := "diagCounts", inPlace := ["internal/abi.NoEscape", "internal/bytealg.MakeNoZero"], recurses := true, plainKeys := false, apart := false }
def DiagCountsSaid : Prop := diagCountsRow.holds Try.pinned (OpenSpec.ofChange diagCountsSpec)

/-- ITS FALSE NEIGHBOUR: 'it returns false'. Refute it at one input. -/
def diagCountsWrong : ChangeSpec := { name := "diagCounts", fn := fun _ => fun
  | [d1, d2] => { results := [.lit (.bool false)], args := [d1, d2] }
  | _ => none }
def DiagCountsWrongFalsely : Prop := diagCountsRow.holds Try.pinned (OpenSpec.ofChange diagCountsWrong)

/-- 'busbarlaw11.WalkRuns': WHATEVER THE INPUT: true; the input reads as it did. -/
def walkRunsSpec : ChangeSpec := { name := "walkRuns", fn := fun _ => fun
  | [d1, d2] => { results := [.lit (.bool true)], args := [d1, d2] }
  | _ => none }
def walkRunsRow : OpenClaim := { program := "ytfmepbpipknblaa", sum := "bd29a5cc67285c5f98f7b587e2a289ceeda056dbecf9e9a0e33c31e76187121a", func := "busbar/busbarlaw11.WalkRuns", spec := "walkRuns", unfollowed := true, recurses := true, plainKeys := false, apart := false }
def WalkRunsSaid : Prop := walkRunsRow.holds Try.pinned (OpenSpec.ofChange walkRunsSpec)

/-- ITS FALSE NEIGHBOUR: 'it returns false'. Refute it at one input. -/
def walkRunsWrong : ChangeSpec := { name := "walkRuns", fn := fun _ => fun
  | [d1, d2] => { results := [.lit (.bool false)], args := [d1, d2] }
  | _ => none }
def WalkRunsWrongFalsely : Prop := walkRunsRow.holds Try.pinned (OpenSpec.ofChange walkRunsWrong)

/-- 'busbarlaw11.WalkEnds': WHATEVER THE INPUT: true; the input reads as it did. -/
def walkEndsSpec : ChangeSpec := { name := "walkEnds", fn := fun _ => fun
  | [d1, d2] => { results := [.lit (.bool true)], args := [d1, d2] }
  | _ => none }
def walkEndsRow : OpenClaim := { program := "ytfmepbpipknblaa", sum := "bd29a5cc67285c5f98f7b587e2a289ceeda056dbecf9e9a0e33c31e76187121a", func := "busbar/busbarlaw11.WalkEnds", spec := "walkEnds", unfollowed := true, recurses := true, plainKeys := false, apart := false }
def WalkEndsSaid : Prop := walkEndsRow.holds Try.pinned (OpenSpec.ofChange walkEndsSpec)

/-- ITS FALSE NEIGHBOUR: 'it returns false'. Refute it at one input. -/
def walkEndsWrong : ChangeSpec := { name := "walkEnds", fn := fun _ => fun
  | [d1, d2] => { results := [.lit (.bool false)], args := [d1, d2] }
  | _ => none }
def WalkEndsWrongFalsely : Prop := walkEndsRow.holds Try.pinned (OpenSpec.ofChange walkEndsWrong)

/-- 'busbarlaw11.WalkCalls': WHATEVER THE INPUT: true; the input reads as it did. -/
def walkCallsSpec : ChangeSpec := { name := "walkCalls", fn := fun _ => fun
  | [d1, d2, d3] => { results := [.lit (.bool true)], args := [d1, d2, d3] }
  | _ => none }
def walkCallsRow : OpenClaim := { program := "ytfmepbpipknblaa", sum := "bd29a5cc67285c5f98f7b587e2a289ceeda056dbecf9e9a0e33c31e76187121a", func := "busbar/busbarlaw11.WalkCalls", spec := "walkCalls", unfollowed := true, recurses := true, plainKeys := false, apart := false }
def WalkCallsSaid : Prop := walkCallsRow.holds Try.pinned (OpenSpec.ofChange walkCallsSpec)

/-- ITS FALSE NEIGHBOUR: 'it returns false'. Refute it at one input. -/
def walkCallsWrong : ChangeSpec := { name := "walkCalls", fn := fun _ => fun
  | [d1, d2, d3] => { results := [.lit (.bool false)], args := [d1, d2, d3] }
  | _ => none }
def WalkCallsWrongFalsely : Prop := walkCallsRow.holds Try.pinned (OpenSpec.ofChange walkCallsWrong)

/-- 'busbarlaw30.AuditNames': WHATEVER THE INPUT: true; the input reads as it did. -/
def auditNamesSpec : ChangeSpec := { name := "auditNames", fn := fun _ => fun
  | [d1, d2] => { results := [.lit (.bool true)], args := [d1, d2] }
  | _ => none }
def auditNamesRow : OpenClaim := { program := "ytfmepbpipknblaa", sum := "bd29a5cc67285c5f98f7b587e2a289ceeda056dbecf9e9a0e33c31e76187121a", func := "busbar/busbarlaw30.AuditNames", spec := "auditNames", inPlace := ["slices.overlaps[int]"], unfollowed := true, recurses := true, plainKeys := false, apart := false }
def AuditNamesSaid : Prop := auditNamesRow.holds Try.pinned (OpenSpec.ofChange auditNamesSpec)

/-- ITS FALSE NEIGHBOUR: 'it returns false'. Refute it at one input. -/
def auditNamesWrong : ChangeSpec := { name := "auditNames", fn := fun _ => fun
  | [d1, d2] => { results := [.lit (.bool false)], args := [d1, d2] }
  | _ => none }
def AuditNamesWrongFalsely : Prop := auditNamesRow.holds Try.pinned (OpenSpec.ofChange auditNamesWrong)

/-- 'busbarlaw30.AuditMore': WHATEVER THE INPUT: true; the input reads as it did. -/
def auditMoreSpec : ChangeSpec := { name := "auditMore", fn := fun _ => fun
  | [d1, d2, d3] => { results := [.lit (.bool true)], args := [d1, d2, d3] }
  | _ => none }
def auditMoreRow : OpenClaim := { program := "ytfmepbpipknblaa", sum := "bd29a5cc67285c5f98f7b587e2a289ceeda056dbecf9e9a0e33c31e76187121a", func := "busbar/busbarlaw30.AuditMore", spec := "auditMore", inPlace := ["slices.overlaps[int]"], unfollowed := true, recurses := true, plainKeys := false, apart := false }
def AuditMoreSaid : Prop := auditMoreRow.holds Try.pinned (OpenSpec.ofChange auditMoreSpec)

/-- ITS FALSE NEIGHBOUR: 'it returns false'. Refute it at one input. -/
def auditMoreWrong : ChangeSpec := { name := "auditMore", fn := fun _ => fun
  | [d1, d2, d3] => { results := [.lit (.bool false)], args := [d1, d2, d3] }
  | _ => none }
def AuditMoreWrongFalsely : Prop := auditMoreRow.holds Try.pinned (OpenSpec.ofChange auditMoreWrong)

/-- 'busbarlaw06.RunsLater': WHATEVER THE INPUT: true; the input reads as it did. -/
def runsLaterSpec : ChangeSpec := { name := "runsLater", fn := fun _ => fun
  | [d1, d2] => { results := [.lit (.bool true)], args := [d1, d2] }
  | _ => none }
def runsLaterRow : OpenClaim := { program := "ytfmepbpipknblaa", sum := "bd29a5cc67285c5f98f7b587e2a289ceeda056dbecf9e9a0e33c31e76187121a", func := "busbar/busbarlaw06.RunsLater", spec := "runsLater", unfollowed := true, recurses := true, plainKeys := false, apart := false }
def RunsLaterSaid : Prop := runsLaterRow.holds Try.pinned (OpenSpec.ofChange runsLaterSpec)

/-- ITS FALSE NEIGHBOUR: 'it returns false'. Refute it at one input. -/
def runsLaterWrong : ChangeSpec := { name := "runsLater", fn := fun _ => fun
  | [d1, d2] => { results := [.lit (.bool false)], args := [d1, d2] }
  | _ => none }
def RunsLaterWrongFalsely : Prop := runsLaterRow.holds Try.pinned (OpenSpec.ofChange runsLaterWrong)

/-- 'busbarlaw06.RunsTell': WHATEVER THE INPUT: true; the input reads as it did. -/
def runsTellSpec : ChangeSpec := { name := "runsTell", fn := fun _ => fun
  | [d1, d2] => { results := [.lit (.bool true)], args := [d1, d2] }
  | _ => none }
def runsTellRow : OpenClaim := { program := "ytfmepbpipknblaa", sum := "bd29a5cc67285c5f98f7b587e2a289ceeda056dbecf9e9a0e33c31e76187121a", func := "busbar/busbarlaw06.RunsTell", spec := "runsTell", unfollowed := true, recurses := true, plainKeys := false, apart := false }
def RunsTellSaid : Prop := runsTellRow.holds Try.pinned (OpenSpec.ofChange runsTellSpec)

/-- ITS FALSE NEIGHBOUR: 'it returns false'. Refute it at one input. -/
def runsTellWrong : ChangeSpec := { name := "runsTell", fn := fun _ => fun
  | [d1, d2] => { results := [.lit (.bool false)], args := [d1, d2] }
  | _ => none }
def RunsTellWrongFalsely : Prop := runsTellRow.holds Try.pinned (OpenSpec.ofChange runsTellWrong)

/-- 'busbarlaw06.RunsNobody': WHATEVER THE INPUT: true; the input reads as it did. -/
def runsNobodySpec : ChangeSpec := { name := "runsNobody", fn := fun _ => fun
  | [d1, d2] => { results := [.lit (.bool true)], args := [d1, d2] }
  | _ => none }
def runsNobodyRow : OpenClaim := { program := "ytfmepbpipknblaa", sum := "bd29a5cc67285c5f98f7b587e2a289ceeda056dbecf9e9a0e33c31e76187121a", func := "busbar/busbarlaw06.RunsNobody", spec := "runsNobody", unfollowed := true, recurses := true, plainKeys := false, apart := false }
def RunsNobodySaid : Prop := runsNobodyRow.holds Try.pinned (OpenSpec.ofChange runsNobodySpec)

/-- ITS FALSE NEIGHBOUR: 'it returns false'. Refute it at one input. -/
def runsNobodyWrong : ChangeSpec := { name := "runsNobody", fn := fun _ => fun
  | [d1, d2] => { results := [.lit (.bool false)], args := [d1, d2] }
  | _ => none }
def RunsNobodyWrongFalsely : Prop := runsNobodyRow.holds Try.pinned (OpenSpec.ofChange runsNobodyWrong)

/-- 'busbarlaw06.RunsHold': WHATEVER THE INPUT: true; the input reads as it did. -/
def runsHoldSpec : ChangeSpec := { name := "runsHold", fn := fun _ => fun
  | [d1, d2, d3] => { results := [.lit (.bool true)], args := [d1, d2, d3] }
  | _ => none }
def runsHoldRow : OpenClaim := { program := "ytfmepbpipknblaa", sum := "bd29a5cc67285c5f98f7b587e2a289ceeda056dbecf9e9a0e33c31e76187121a", func := "busbar/busbarlaw06.RunsHold", spec := "runsHold", unfollowed := true, recurses := true, plainKeys := false, apart := false }
def RunsHoldSaid : Prop := runsHoldRow.holds Try.pinned (OpenSpec.ofChange runsHoldSpec)

/-- ITS FALSE NEIGHBOUR: 'it returns false'. Refute it at one input. -/
def runsHoldWrong : ChangeSpec := { name := "runsHold", fn := fun _ => fun
  | [d1, d2, d3] => { results := [.lit (.bool false)], args := [d1, d2, d3] }
  | _ => none }
def RunsHoldWrongFalsely : Prop := runsHoldRow.holds Try.pinned (OpenSpec.ofChange runsHoldWrong)

/- THE SECOND FORM. 'bulk': how many values and letters a reading holds, each counted each time it is reached (what is shared counts as often as it is met; a slice's spare places count too). A statement '..UptoSaid' is the law's where the arguments, and the package variables that the reading takes, are together of bulk at most 1048576: NARROWER than '..Said'. Prove '..Said' where nothing that the law and all that it calls make is longer than what came in: it says more and counts as full. Else prove '..UptoSaid'. A law counts once. -/
mutual
def uptoBulk {H : Type} : DataW H → Nat
  | .lit (.string bytes) => bytes.length + 1
  | .lit _ => 1
  | .nil => 1
  | .ptr d => uptoBulk d + 1
  | .slice elems spare => uptoBulkAll elems + uptoBulkAll spare + 1
  | .agg parts => uptoBulkAll parts + 1
  | .iface _ d => uptoBulk d + 1
  | .map entries => uptoBulkEntries entries + 1
  | .held _ => 1
def uptoBulkAll {H : Type} : List (DataW H) → Nat
  | [] => 0
  | d :: r => uptoBulk d + uptoBulkAll r
def uptoBulkEntries {H : Type} : List (Lit × DataW H) → Nat
  | [] => 0
  | x :: r => uptoBulkEntry x + uptoBulkEntries r
def uptoBulkEntry {H : Type} : Lit × DataW H → Nat
  | (.string bytes, d) => bytes.length + uptoBulk d + 1
  | (_, d) => uptoBulk d + 1
 end
def uptoSmall : (H : Type) → List (DataW H) → Bool := fun _ ds => decide (uptoBulkAll ds ≤ 1048576)
def OpenSpec.upto (s : _root_.Go.ChangeSpec) : _root_.Go.OpenSpec := { _root_.Go.OpenSpec.ofChange s with cond := some uptoSmall }

/-- 'busbarlaw21.BudgetChecks', WHERE WHAT IT READS IS OF BULK AT MOST 1048576: true; the input reads as it did. -/
def budgetChecksUptoRow : OpenClaim := { program := "ytfmepbpipknblaa", sum := "bd29a5cc67285c5f98f7b587e2a289ceeda056dbecf9e9a0e33c31e76187121a", func := "busbar/busbarlaw21.BudgetChecks", spec := "budgetChecks", unfollowed := true, recurses := true, plainKeys := false, apart := false, narrowed := true }
def BudgetChecksUptoSaid : Prop := budgetChecksUptoRow.holds Try.pinned (OpenSpec.upto budgetChecksSpec)

/-- 'busbarlaw21.BudgetFits', WHERE WHAT IT READS IS OF BULK AT MOST 1048576: true; the input reads as it did. -/
def budgetFitsUptoRow : OpenClaim := { program := "ytfmepbpipknblaa", sum := "bd29a5cc67285c5f98f7b587e2a289ceeda056dbecf9e9a0e33c31e76187121a", func := "busbar/busbarlaw21.BudgetFits", spec := "budgetFits", unfollowed := true, recurses := true, plainKeys := false, apart := false, narrowed := true }
def BudgetFitsUptoSaid : Prop := budgetFitsUptoRow.holds Try.pinned (OpenSpec.upto budgetFitsSpec)

/-- 'busbarlaw33.HealthCounts', WHERE WHAT IT READS IS OF BULK AT MOST 1048576: true; the input reads as it did. -/
def healthCountsUptoRow : OpenClaim := { program := "ytfmepbpipknblaa", sum := "bd29a5cc67285c5f98f7b587e2a289ceeda056dbecf9e9a0e33c31e76187121a", func := "busbar/busbarlaw33.HealthCounts", spec := "healthCounts", inPlace := ["internal/abi.NoEscape", "internal/bytealg.MakeNoZero"], recurses := true, plainKeys := false, apart := false, narrowed := true }
def HealthCountsUptoSaid : Prop := healthCountsUptoRow.holds Try.pinned (OpenSpec.upto healthCountsSpec)

/-- 'busbarlaw40.DiagTells', WHERE WHAT IT READS IS OF BULK AT MOST 1048576: true; the input reads as it did. -/
def diagTellsUptoRow : OpenClaim := { program := "ytfmepbpipknblaa", sum := "bd29a5cc67285c5f98f7b587e2a289ceeda056dbecf9e9a0e33c31e76187121a", func := "busbar/busbarlaw40.DiagTells", spec := "diagTells", inPlace := ["internal/abi.NoEscape", "internal/bytealg.MakeNoZero"], recurses := true, plainKeys := false, apart := false, narrowed := true }
def DiagTellsUptoSaid : Prop := diagTellsUptoRow.holds Try.pinned (OpenSpec.upto diagTellsSpec)

/-- 'busbarlaw40.DiagCounts', WHERE WHAT IT READS IS OF BULK AT MOST 1048576: true; the input reads as it did. -/
def diagCountsUptoRow : OpenClaim := { program := "ytfmepbpipknblaa", sum := "bd29a5cc67285c5f98f7b587e2a289ceeda056dbecf9e9a0e33c31e76187121a", func := "busbar/busbarlaw40.DiagCounts", spec := "diagCounts", inPlace := ["internal/abi.NoEscape", "internal/bytealg.MakeNoZero"], recurses := true, plainKeys := false, apart := false, narrowed := true }
def DiagCountsUptoSaid : Prop := diagCountsUptoRow.holds Try.pinned (OpenSpec.upto diagCountsSpec)

/-- 'busbarlaw11.WalkRuns', WHERE WHAT IT READS IS OF BULK AT MOST 1048576: true; the input reads as it did. -/
def walkRunsUptoRow : OpenClaim := { program := "ytfmepbpipknblaa", sum := "bd29a5cc67285c5f98f7b587e2a289ceeda056dbecf9e9a0e33c31e76187121a", func := "busbar/busbarlaw11.WalkRuns", spec := "walkRuns", unfollowed := true, recurses := true, plainKeys := false, apart := false, narrowed := true }
def WalkRunsUptoSaid : Prop := walkRunsUptoRow.holds Try.pinned (OpenSpec.upto walkRunsSpec)

/-- 'busbarlaw11.WalkEnds', WHERE WHAT IT READS IS OF BULK AT MOST 1048576: true; the input reads as it did. -/
def walkEndsUptoRow : OpenClaim := { program := "ytfmepbpipknblaa", sum := "bd29a5cc67285c5f98f7b587e2a289ceeda056dbecf9e9a0e33c31e76187121a", func := "busbar/busbarlaw11.WalkEnds", spec := "walkEnds", unfollowed := true, recurses := true, plainKeys := false, apart := false, narrowed := true }
def WalkEndsUptoSaid : Prop := walkEndsUptoRow.holds Try.pinned (OpenSpec.upto walkEndsSpec)

/-- 'busbarlaw11.WalkCalls', WHERE WHAT IT READS IS OF BULK AT MOST 1048576: true; the input reads as it did. -/
def walkCallsUptoRow : OpenClaim := { program := "ytfmepbpipknblaa", sum := "bd29a5cc67285c5f98f7b587e2a289ceeda056dbecf9e9a0e33c31e76187121a", func := "busbar/busbarlaw11.WalkCalls", spec := "walkCalls", unfollowed := true, recurses := true, plainKeys := false, apart := false, narrowed := true }
def WalkCallsUptoSaid : Prop := walkCallsUptoRow.holds Try.pinned (OpenSpec.upto walkCallsSpec)

/-- 'busbarlaw30.AuditNames', WHERE WHAT IT READS IS OF BULK AT MOST 1048576: true; the input reads as it did. -/
def auditNamesUptoRow : OpenClaim := { program := "ytfmepbpipknblaa", sum := "bd29a5cc67285c5f98f7b587e2a289ceeda056dbecf9e9a0e33c31e76187121a", func := "busbar/busbarlaw30.AuditNames", spec := "auditNames", inPlace := ["slices.overlaps[int]"], unfollowed := true, recurses := true, plainKeys := false, apart := false, narrowed := true }
def AuditNamesUptoSaid : Prop := auditNamesUptoRow.holds Try.pinned (OpenSpec.upto auditNamesSpec)

/-- 'busbarlaw30.AuditMore', WHERE WHAT IT READS IS OF BULK AT MOST 1048576: true; the input reads as it did. -/
def auditMoreUptoRow : OpenClaim := { program := "ytfmepbpipknblaa", sum := "bd29a5cc67285c5f98f7b587e2a289ceeda056dbecf9e9a0e33c31e76187121a", func := "busbar/busbarlaw30.AuditMore", spec := "auditMore", inPlace := ["slices.overlaps[int]"], unfollowed := true, recurses := true, plainKeys := false, apart := false, narrowed := true }
def AuditMoreUptoSaid : Prop := auditMoreUptoRow.holds Try.pinned (OpenSpec.upto auditMoreSpec)

/-- 'busbarlaw06.RunsLater', WHERE WHAT IT READS IS OF BULK AT MOST 1048576: true; the input reads as it did. -/
def runsLaterUptoRow : OpenClaim := { program := "ytfmepbpipknblaa", sum := "bd29a5cc67285c5f98f7b587e2a289ceeda056dbecf9e9a0e33c31e76187121a", func := "busbar/busbarlaw06.RunsLater", spec := "runsLater", unfollowed := true, recurses := true, plainKeys := false, apart := false, narrowed := true }
def RunsLaterUptoSaid : Prop := runsLaterUptoRow.holds Try.pinned (OpenSpec.upto runsLaterSpec)

/-- 'busbarlaw06.RunsTell', WHERE WHAT IT READS IS OF BULK AT MOST 1048576: true; the input reads as it did. -/
def runsTellUptoRow : OpenClaim := { program := "ytfmepbpipknblaa", sum := "bd29a5cc67285c5f98f7b587e2a289ceeda056dbecf9e9a0e33c31e76187121a", func := "busbar/busbarlaw06.RunsTell", spec := "runsTell", unfollowed := true, recurses := true, plainKeys := false, apart := false, narrowed := true }
def RunsTellUptoSaid : Prop := runsTellUptoRow.holds Try.pinned (OpenSpec.upto runsTellSpec)

/-- 'busbarlaw06.RunsNobody', WHERE WHAT IT READS IS OF BULK AT MOST 1048576: true; the input reads as it did. -/
def runsNobodyUptoRow : OpenClaim := { program := "ytfmepbpipknblaa", sum := "bd29a5cc67285c5f98f7b587e2a289ceeda056dbecf9e9a0e33c31e76187121a", func := "busbar/busbarlaw06.RunsNobody", spec := "runsNobody", unfollowed := true, recurses := true, plainKeys := false, apart := false, narrowed := true }
def RunsNobodyUptoSaid : Prop := runsNobodyUptoRow.holds Try.pinned (OpenSpec.upto runsNobodySpec)

/-- 'busbarlaw06.RunsHold', WHERE WHAT IT READS IS OF BULK AT MOST 1048576: true; the input reads as it did. -/
def runsHoldUptoRow : OpenClaim := { program := "ytfmepbpipknblaa", sum := "bd29a5cc67285c5f98f7b587e2a289ceeda056dbecf9e9a0e33c31e76187121a", func := "busbar/busbarlaw06.RunsHold", spec := "runsHold", unfollowed := true, recurses := true, plainKeys := false, apart := false, narrowed := true }
def RunsHoldUptoSaid : Prop := runsHoldUptoRow.holds Try.pinned (OpenSpec.upto runsHoldSpec)

end Rows
end Go.Proofs.Ytfmepbpipknblaa
