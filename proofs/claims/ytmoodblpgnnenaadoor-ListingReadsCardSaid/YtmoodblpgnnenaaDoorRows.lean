/-
  NARROWER THAN 'FOR EVERY INPUT', by the rows' own cells (each row's printed sentence says how): ListingPlaces: laid · ListingLines: laid · ListingReads: laid · ListingBack: laid · ListingCodes: laid.
  DERIVED. THE GIVEN ROWS OF THIS SEAT. 5 by the template 'for every input the law returns true; each argument reads behind the call as it read before'; 0 by the template 'total and deterministic' (their statements: YtmoodblpgnnenaaDoorTotals.lean).
  GIVEN WITH THE SEED: the statements are not yours to turn. If you find one false, say at which input.
  Laid BY PROGRAM, IN A SANDBOX (cutbox-rows.mjs): the forced cells as the released guide's own fill.sh prints them over the translation 10c8f7c9c040e372… (all of the seat's roots in one cut). By AI agents, Wed Nov 11 2026. No macro, syntax, notation, axiom, sorry.
-/
import Derived.Test.YtmoodblpgnnenaaDoorChecked
import GoSem.PinnedTables
import GoSem.Claim
import GoSem.ClaimJoined
import GoSem.ClaimMapViews
import Derived.JoinedTies
import Derived.KernelRfl
namespace Go.Proofs.YtmoodblpgnnenaaDoor
/- THE CELL 'sum', in the pinned program and in every row, IS THE sha256 OF THE DUMP (.gsa) THAT YtmoodblpgnnenaaDoorProg.lean LOADS. Nothing in Lean hashes anything: it is a label: what it is worth is what the hold of that sum in a sandbox is worth. -/
noncomputable def Tryd.pinned : Pinned := { name := "ytmoodblpgnnenaadoor", sum := "10c8f7c9c040e372bf0fd001d0aa0cddb58c5ca5dd5e6d177e560fd0c47462be", checked := Tryd.checked }
namespace Rows
def none {H : Type} : Left H := { results := [], args := [] }

/- WHAT THE LISTED PACKAGE-LEVEL VARIABLES READ AS WHEN THE CALL BEGINS. Each datum BY PROGRAM (the guide's laid-datum.mjs) off the statement by which the dump's own 'gosem.cut.vars' lays the variable. In a bare row this is a premise. The card (YtmoodblpgnnenaaDoorCards.lean) ties it to the program's text. -/
def laid_unicode_utf8_acceptRanges {H : Type} : DataW H := .agg [.agg [.lit (.int .u8 128), .lit (.int .u8 191)], .agg [.lit (.int .u8 160), .lit (.int .u8 191)], .agg [.lit (.int .u8 128), .lit (.int .u8 159)], .agg [.lit (.int .u8 144), .lit (.int .u8 191)], .agg [.lit (.int .u8 128), .lit (.int .u8 143)], .agg [.lit (.int .u8 0), .lit (.int .u8 0)], .agg [.lit (.int .u8 0), .lit (.int .u8 0)], .agg [.lit (.int .u8 0), .lit (.int .u8 0)], .agg [.lit (.int .u8 0), .lit (.int .u8 0)], .agg [.lit (.int .u8 0), .lit (.int .u8 0)], .agg [.lit (.int .u8 0), .lit (.int .u8 0)], .agg [.lit (.int .u8 0), .lit (.int .u8 0)], .agg [.lit (.int .u8 0), .lit (.int .u8 0)], .agg [.lit (.int .u8 0), .lit (.int .u8 0)], .agg [.lit (.int .u8 0), .lit (.int .u8 0)], .agg [.lit (.int .u8 0), .lit (.int .u8 0)]]
/-- One of Go's own tables, pinned by name: the form's constant. -/
def laid_unicode_utf8_first : DataW Unit := Go.Pinned.utf8First

/-- 'busbarlaw35.ListingPlaces': WHATEVER THE INPUT: true; the input reads as it did. -/
def listingPlacesSpec : ChangeSpec := { name := "listingPlaces", fn := fun _ => fun
  | [d1, d2, d3] => { results := [.lit (.bool true)], args := [d1, d2, d3] }
  | _ => none }
def listingPlacesRow : OpenClaim := { program := "ytmoodblpgnnenaadoor", sum := "10c8f7c9c040e372bf0fd001d0aa0cddb58c5ca5dd5e6d177e560fd0c47462be", func := "busbar/busbarlaw35.ListingPlaces", spec := "listingPlaces", inPlace := ["internal/abi.NoEscape", "internal/bytealg.MakeNoZero", "internal/bytealg.CountString", "internal/bytealg.IndexByteString", "internal/bytealg.IndexString"], unfollowed := true, recurses := true, named := ["unicode/utf8.first", "unicode/utf8.acceptRanges", "internal/bytealg.MaxLen"], apart := false, laid := [("unicode/utf8.acceptRanges", laid_unicode_utf8_acceptRanges), ("unicode/utf8.first", laid_unicode_utf8_first)] }
def ListingPlacesSaid : Prop := listingPlacesRow.holds Tryd.pinned (OpenSpec.ofChange listingPlacesSpec)

/-- ITS FALSE NEIGHBOUR: 'it returns false'. Refute it at one input. -/
def listingPlacesWrong : ChangeSpec := { name := "listingPlaces", fn := fun _ => fun
  | [d1, d2, d3] => { results := [.lit (.bool false)], args := [d1, d2, d3] }
  | _ => none }
def ListingPlacesWrongFalsely : Prop := listingPlacesRow.holds Tryd.pinned (OpenSpec.ofChange listingPlacesWrong)

/-- 'busbarlaw35.ListingLines': WHATEVER THE INPUT: true; the input reads as it did. -/
def listingLinesSpec : ChangeSpec := { name := "listingLines", fn := fun _ => fun
  | [d] => { results := [.lit (.bool true)], args := [d] }
  | _ => none }
def listingLinesRow : OpenClaim := { program := "ytmoodblpgnnenaadoor", sum := "10c8f7c9c040e372bf0fd001d0aa0cddb58c5ca5dd5e6d177e560fd0c47462be", func := "busbar/busbarlaw35.ListingLines", spec := "listingLines", inPlace := ["internal/abi.NoEscape", "internal/bytealg.MakeNoZero", "internal/bytealg.CountString", "internal/bytealg.IndexByteString", "internal/bytealg.IndexString"], unfollowed := true, recurses := true, named := ["unicode/utf8.first", "unicode/utf8.acceptRanges", "internal/bytealg.MaxLen"], apart := false, laid := [("unicode/utf8.acceptRanges", laid_unicode_utf8_acceptRanges), ("unicode/utf8.first", laid_unicode_utf8_first)] }
def ListingLinesSaid : Prop := listingLinesRow.holds Tryd.pinned (OpenSpec.ofChange listingLinesSpec)

/-- ITS FALSE NEIGHBOUR: 'it returns false'. Refute it at one input. -/
def listingLinesWrong : ChangeSpec := { name := "listingLines", fn := fun _ => fun
  | [d] => { results := [.lit (.bool false)], args := [d] }
  | _ => none }
def ListingLinesWrongFalsely : Prop := listingLinesRow.holds Tryd.pinned (OpenSpec.ofChange listingLinesWrong)

/-- 'busbarlaw35.ListingReads': WHATEVER THE INPUT: true; the input reads as it did. -/
def listingReadsSpec : ChangeSpec := { name := "listingReads", fn := fun _ => fun
  | [d] => { results := [.lit (.bool true)], args := [d] }
  | _ => none }
def listingReadsRow : OpenClaim := { program := "ytmoodblpgnnenaadoor", sum := "10c8f7c9c040e372bf0fd001d0aa0cddb58c5ca5dd5e6d177e560fd0c47462be", func := "busbar/busbarlaw35.ListingReads", spec := "listingReads", inPlace := ["internal/bytealg.CountString", "internal/bytealg.IndexByteString", "internal/bytealg.IndexString", "internal/abi.NoEscape", "internal/bytealg.MakeNoZero"], unfollowed := true, recurses := true, named := ["unicode/utf8.first", "unicode/utf8.acceptRanges", "internal/bytealg.MaxLen"], apart := false, laid := [("unicode/utf8.acceptRanges", laid_unicode_utf8_acceptRanges), ("unicode/utf8.first", laid_unicode_utf8_first)] }
def ListingReadsSaid : Prop := listingReadsRow.holds Tryd.pinned (OpenSpec.ofChange listingReadsSpec)

/-- ITS FALSE NEIGHBOUR: 'it returns false'. Refute it at one input. -/
def listingReadsWrong : ChangeSpec := { name := "listingReads", fn := fun _ => fun
  | [d] => { results := [.lit (.bool false)], args := [d] }
  | _ => none }
def ListingReadsWrongFalsely : Prop := listingReadsRow.holds Tryd.pinned (OpenSpec.ofChange listingReadsWrong)

/-- 'busbarlaw35.ListingBack': WHATEVER THE INPUT: true; the input reads as it did. -/
def listingBackSpec : ChangeSpec := { name := "listingBack", fn := fun _ => fun
  | [d1, d2] => { results := [.lit (.bool true)], args := [d1, d2] }
  | _ => none }
def listingBackRow : OpenClaim := { program := "ytmoodblpgnnenaadoor", sum := "10c8f7c9c040e372bf0fd001d0aa0cddb58c5ca5dd5e6d177e560fd0c47462be", func := "busbar/busbarlaw35.ListingBack", spec := "listingBack", inPlace := ["internal/abi.NoEscape", "internal/bytealg.MakeNoZero", "internal/bytealg.CountString", "internal/bytealg.IndexByteString", "internal/bytealg.IndexString"], unfollowed := true, recurses := true, named := ["unicode/utf8.first", "unicode/utf8.acceptRanges", "internal/bytealg.MaxLen"], apart := false, laid := [("unicode/utf8.acceptRanges", laid_unicode_utf8_acceptRanges), ("unicode/utf8.first", laid_unicode_utf8_first)] }
def ListingBackSaid : Prop := listingBackRow.holds Tryd.pinned (OpenSpec.ofChange listingBackSpec)

/-- ITS FALSE NEIGHBOUR: 'it returns false'. Refute it at one input. -/
def listingBackWrong : ChangeSpec := { name := "listingBack", fn := fun _ => fun
  | [d1, d2] => { results := [.lit (.bool false)], args := [d1, d2] }
  | _ => none }
def ListingBackWrongFalsely : Prop := listingBackRow.holds Tryd.pinned (OpenSpec.ofChange listingBackWrong)

/-- 'busbarlaw35.ListingCodes': WHATEVER THE INPUT: true; the input reads as it did. -/
def listingCodesSpec : ChangeSpec := { name := "listingCodes", fn := fun _ => fun
  | [d] => { results := [.lit (.bool true)], args := [d] }
  | _ => none }
def listingCodesRow : OpenClaim := { program := "ytmoodblpgnnenaadoor", sum := "10c8f7c9c040e372bf0fd001d0aa0cddb58c5ca5dd5e6d177e560fd0c47462be", func := "busbar/busbarlaw35.ListingCodes", spec := "listingCodes", inPlace := ["internal/abi.NoEscape", "internal/bytealg.MakeNoZero", "internal/bytealg.CountString", "internal/bytealg.IndexByteString", "internal/bytealg.IndexString"], unfollowed := true, recurses := true, named := ["unicode/utf8.first", "unicode/utf8.acceptRanges", "internal/bytealg.MaxLen"], apart := false, laid := [("unicode/utf8.acceptRanges", laid_unicode_utf8_acceptRanges), ("unicode/utf8.first", laid_unicode_utf8_first)] }
def ListingCodesSaid : Prop := listingCodesRow.holds Tryd.pinned (OpenSpec.ofChange listingCodesSpec)

/-- ITS FALSE NEIGHBOUR: 'it returns false'. Refute it at one input. -/
def listingCodesWrong : ChangeSpec := { name := "listingCodes", fn := fun _ => fun
  | [d] => { results := [.lit (.bool false)], args := [d] }
  | _ => none }
def ListingCodesWrongFalsely : Prop := listingCodesRow.holds Tryd.pinned (OpenSpec.ofChange listingCodesWrong)

/- THE SECOND FORM. 'bulk': how many values and letters a reading holds, each counted each time it is reached (what is shared counts as often as it is met; a slice's spare places count too). A statement '..UptoSaid' is the law's where the arguments, and the package variables that the reading takes, are together of bulk at most 1048576: NARROWER than '..Said'. Prove '..Said' where nothing that the law and all that it calls make is longer than what came in: it says more and counts as full. Else prove '..UptoSaid'. A law counts once. -/
mutual
def uptoBulk {H : Type} : DataW H → Nat
  | .lit (.string bytes) => bytes.length + 1
  | .lit _ => 1
  | .nil => 1
  | .ptr d => uptoBulk d + 1
  | .slice elems spare => uptoBulkAll elems + uptoBulkAll spare + 1
  | .agg parts => uptoBulkAll parts + 1
  | .iface _ d => uptoBulk d + 1
  | .map entries => uptoBulkEntries entries + 1
  | .held _ => 1
def uptoBulkAll {H : Type} : List (DataW H) → Nat
  | [] => 0
  | d :: r => uptoBulk d + uptoBulkAll r
def uptoBulkEntries {H : Type} : List (Lit × DataW H) → Nat
  | [] => 0
  | x :: r => uptoBulkEntry x + uptoBulkEntries r
def uptoBulkEntry {H : Type} : Lit × DataW H → Nat
  | (.string bytes, d) => bytes.length + uptoBulk d + 1
  | (_, d) => uptoBulk d + 1
 end
def uptoSmall : (H : Type) → List (DataW H) → Bool := fun _ ds => decide (uptoBulkAll ds ≤ 1048576)
def OpenSpec.upto (s : _root_.Go.ChangeSpec) : _root_.Go.OpenSpec := { _root_.Go.OpenSpec.ofChange s with cond := some uptoSmall }

/-- 'busbarlaw35.ListingPlaces', WHERE WHAT IT READS IS OF BULK AT MOST 1048576: true; the input reads as it did. -/
def listingPlacesUptoRow : OpenClaim := { program := "ytmoodblpgnnenaadoor", sum := "10c8f7c9c040e372bf0fd001d0aa0cddb58c5ca5dd5e6d177e560fd0c47462be", func := "busbar/busbarlaw35.ListingPlaces", spec := "listingPlaces", inPlace := ["internal/abi.NoEscape", "internal/bytealg.MakeNoZero", "internal/bytealg.CountString", "internal/bytealg.IndexByteString", "internal/bytealg.IndexString"], unfollowed := true, recurses := true, named := ["unicode/utf8.first", "unicode/utf8.acceptRanges", "internal/bytealg.MaxLen"], apart := false, laid := [("unicode/utf8.acceptRanges", laid_unicode_utf8_acceptRanges), ("unicode/utf8.first", laid_unicode_utf8_first)], narrowed := true }
def ListingPlacesUptoSaid : Prop := listingPlacesUptoRow.holds Tryd.pinned (OpenSpec.upto listingPlacesSpec)

/-- 'busbarlaw35.ListingLines', WHERE WHAT IT READS IS OF BULK AT MOST 1048576: true; the input reads as it did. -/
def listingLinesUptoRow : OpenClaim := { program := "ytmoodblpgnnenaadoor", sum := "10c8f7c9c040e372bf0fd001d0aa0cddb58c5ca5dd5e6d177e560fd0c47462be", func := "busbar/busbarlaw35.ListingLines", spec := "listingLines", inPlace := ["internal/abi.NoEscape", "internal/bytealg.MakeNoZero", "internal/bytealg.CountString", "internal/bytealg.IndexByteString", "internal/bytealg.IndexString"], unfollowed := true, recurses := true, named := ["unicode/utf8.first", "unicode/utf8.acceptRanges", "internal/bytealg.MaxLen"], apart := false, laid := [("unicode/utf8.acceptRanges", laid_unicode_utf8_acceptRanges), ("unicode/utf8.first", laid_unicode_utf8_first)], narrowed := true }
def ListingLinesUptoSaid : Prop := listingLinesUptoRow.holds Tryd.pinned (OpenSpec.upto listingLinesSpec)

/-- 'busbarlaw35.ListingReads', WHERE WHAT IT READS IS OF BULK AT MOST 1048576: true; the input reads as it did. -/
def listingReadsUptoRow : OpenClaim := { program := "ytmoodblpgnnenaadoor", sum := "10c8f7c9c040e372bf0fd001d0aa0cddb58c5ca5dd5e6d177e560fd0c47462be", func := "busbar/busbarlaw35.ListingReads", spec := "listingReads", inPlace := ["internal/bytealg.CountString", "internal/bytealg.IndexByteString", "internal/bytealg.IndexString", "internal/abi.NoEscape", "internal/bytealg.MakeNoZero"], unfollowed := true, recurses := true, named := ["unicode/utf8.first", "unicode/utf8.acceptRanges", "internal/bytealg.MaxLen"], apart := false, laid := [("unicode/utf8.acceptRanges", laid_unicode_utf8_acceptRanges), ("unicode/utf8.first", laid_unicode_utf8_first)], narrowed := true }
def ListingReadsUptoSaid : Prop := listingReadsUptoRow.holds Tryd.pinned (OpenSpec.upto listingReadsSpec)

/-- 'busbarlaw35.ListingBack', WHERE WHAT IT READS IS OF BULK AT MOST 1048576: true; the input reads as it did. -/
def listingBackUptoRow : OpenClaim := { program := "ytmoodblpgnnenaadoor", sum := "10c8f7c9c040e372bf0fd001d0aa0cddb58c5ca5dd5e6d177e560fd0c47462be", func := "busbar/busbarlaw35.ListingBack", spec := "listingBack", inPlace := ["internal/abi.NoEscape", "internal/bytealg.MakeNoZero", "internal/bytealg.CountString", "internal/bytealg.IndexByteString", "internal/bytealg.IndexString"], unfollowed := true, recurses := true, named := ["unicode/utf8.first", "unicode/utf8.acceptRanges", "internal/bytealg.MaxLen"], apart := false, laid := [("unicode/utf8.acceptRanges", laid_unicode_utf8_acceptRanges), ("unicode/utf8.first", laid_unicode_utf8_first)], narrowed := true }
def ListingBackUptoSaid : Prop := listingBackUptoRow.holds Tryd.pinned (OpenSpec.upto listingBackSpec)

/-- 'busbarlaw35.ListingCodes', WHERE WHAT IT READS IS OF BULK AT MOST 1048576: true; the input reads as it did. -/
def listingCodesUptoRow : OpenClaim := { program := "ytmoodblpgnnenaadoor", sum := "10c8f7c9c040e372bf0fd001d0aa0cddb58c5ca5dd5e6d177e560fd0c47462be", func := "busbar/busbarlaw35.ListingCodes", spec := "listingCodes", inPlace := ["internal/abi.NoEscape", "internal/bytealg.MakeNoZero", "internal/bytealg.CountString", "internal/bytealg.IndexByteString", "internal/bytealg.IndexString"], unfollowed := true, recurses := true, named := ["unicode/utf8.first", "unicode/utf8.acceptRanges", "internal/bytealg.MaxLen"], apart := false, laid := [("unicode/utf8.acceptRanges", laid_unicode_utf8_acceptRanges), ("unicode/utf8.first", laid_unicode_utf8_first)], narrowed := true }
def ListingCodesUptoSaid : Prop := listingCodesUptoRow.holds Tryd.pinned (OpenSpec.upto listingCodesSpec)

end Rows
end Go.Proofs.YtmoodblpgnnenaaDoor
