/-
  DERIVED. GIVEN WITH THE SEED: THE CARDS: each row of YtmoodblpgnnenaaDoorRows.lean that lists a variable, with what it lists TIED to the program's text (the seventh form; the later family's looks); each row that meets fmt, with fmt's text TOLD by the authors' own Lean function (tested against real Go, not proved from fmt's source: count such statements apart). THE CARD IS WHAT COUNTS. Prove the row's statement (the work); the ties are given (YtmoodblpgnnenaaDoorTie.lean); close each card by the builder's one call (the guide's Derived/Test/ToyasCard.lean, 'card_holds'). Laid BY PROGRAM, IN A SANDBOX (cutbox-door.mjs). By AI agents, Wed Nov 11 2026. No macro, syntax, notation, axiom, sorry.
-/
import Derived.Test.YtmoodblpgnnenaaDoorRows
import GoSem.ClaimSeven
namespace Go.Proofs.YtmoodblpgnnenaaDoor
namespace Rows

/-- THE TIED CARD OF 'busbarlaw35.ListingPlaces'. -/
def listingPlacesCard : Claim7 := { stood := { row := listingPlacesRow, standIns := [], harness := (true, "a28376b2aa6d68bf30890585eda31769e72e1ec36de1b5754b364f9def758dbe"), looks := false }, kinds := [], alts := [], laidByText := true, laidKinds := [.data, .pinned], laidTests := true, laidLooks := .later }
def ListingPlacesCardSaid : Prop := Claim7.holds Tryd.pinned (.plain (OpenSpec.ofChange listingPlacesSpec)) listingPlacesCard

/-- THE TIED CARD OF 'busbarlaw35.ListingLines'. -/
def listingLinesCard : Claim7 := { stood := { row := listingLinesRow, standIns := [], harness := (true, "a28376b2aa6d68bf30890585eda31769e72e1ec36de1b5754b364f9def758dbe"), looks := false }, kinds := [], alts := [], laidByText := true, laidKinds := [.data, .pinned], laidTests := true, laidLooks := .later }
def ListingLinesCardSaid : Prop := Claim7.holds Tryd.pinned (.plain (OpenSpec.ofChange listingLinesSpec)) listingLinesCard

/-- THE TIED CARD OF 'busbarlaw35.ListingReads'. -/
def listingReadsCard : Claim7 := { stood := { row := listingReadsRow, standIns := [], harness := (true, "a28376b2aa6d68bf30890585eda31769e72e1ec36de1b5754b364f9def758dbe"), looks := false }, kinds := [], alts := [], laidByText := true, laidKinds := [.data, .pinned], laidTests := true, laidLooks := .later }
def ListingReadsCardSaid : Prop := Claim7.holds Tryd.pinned (.plain (OpenSpec.ofChange listingReadsSpec)) listingReadsCard

/-- THE TIED CARD OF 'busbarlaw35.ListingBack'. -/
def listingBackCard : Claim7 := { stood := { row := listingBackRow, standIns := [], harness := (true, "a28376b2aa6d68bf30890585eda31769e72e1ec36de1b5754b364f9def758dbe"), looks := false }, kinds := [], alts := [], laidByText := true, laidKinds := [.data, .pinned], laidTests := true, laidLooks := .later }
def ListingBackCardSaid : Prop := Claim7.holds Tryd.pinned (.plain (OpenSpec.ofChange listingBackSpec)) listingBackCard

/-- THE TIED CARD OF 'busbarlaw35.ListingCodes'. -/
def listingCodesCard : Claim7 := { stood := { row := listingCodesRow, standIns := [], harness := (true, "a28376b2aa6d68bf30890585eda31769e72e1ec36de1b5754b364f9def758dbe"), looks := false }, kinds := [], alts := [], laidByText := true, laidKinds := [.data, .pinned], laidTests := true, laidLooks := .later }
def ListingCodesCardSaid : Prop := Claim7.holds Tryd.pinned (.plain (OpenSpec.ofChange listingCodesSpec)) listingCodesCard

/-- THE SECOND FORM's CARD OF 'busbarlaw35.ListingPlaces'. -/
def listingPlacesUptoCard : Claim7 := { stood := { row := listingPlacesUptoRow, standIns := [], harness := (true, "a28376b2aa6d68bf30890585eda31769e72e1ec36de1b5754b364f9def758dbe"), looks := false }, kinds := [], alts := [], laidByText := true, laidKinds := [.data, .pinned], laidTests := true, laidLooks := .later }
def ListingPlacesUptoCardSaid : Prop := Claim7.holds Tryd.pinned (.plain (OpenSpec.upto listingPlacesSpec)) listingPlacesUptoCard

/-- THE SECOND FORM's CARD OF 'busbarlaw35.ListingLines'. -/
def listingLinesUptoCard : Claim7 := { stood := { row := listingLinesUptoRow, standIns := [], harness := (true, "a28376b2aa6d68bf30890585eda31769e72e1ec36de1b5754b364f9def758dbe"), looks := false }, kinds := [], alts := [], laidByText := true, laidKinds := [.data, .pinned], laidTests := true, laidLooks := .later }
def ListingLinesUptoCardSaid : Prop := Claim7.holds Tryd.pinned (.plain (OpenSpec.upto listingLinesSpec)) listingLinesUptoCard

/-- THE SECOND FORM's CARD OF 'busbarlaw35.ListingReads'. -/
def listingReadsUptoCard : Claim7 := { stood := { row := listingReadsUptoRow, standIns := [], harness := (true, "a28376b2aa6d68bf30890585eda31769e72e1ec36de1b5754b364f9def758dbe"), looks := false }, kinds := [], alts := [], laidByText := true, laidKinds := [.data, .pinned], laidTests := true, laidLooks := .later }
def ListingReadsUptoCardSaid : Prop := Claim7.holds Tryd.pinned (.plain (OpenSpec.upto listingReadsSpec)) listingReadsUptoCard

/-- THE SECOND FORM's CARD OF 'busbarlaw35.ListingBack'. -/
def listingBackUptoCard : Claim7 := { stood := { row := listingBackUptoRow, standIns := [], harness := (true, "a28376b2aa6d68bf30890585eda31769e72e1ec36de1b5754b364f9def758dbe"), looks := false }, kinds := [], alts := [], laidByText := true, laidKinds := [.data, .pinned], laidTests := true, laidLooks := .later }
def ListingBackUptoCardSaid : Prop := Claim7.holds Tryd.pinned (.plain (OpenSpec.upto listingBackSpec)) listingBackUptoCard

/-- THE SECOND FORM's CARD OF 'busbarlaw35.ListingCodes'. -/
def listingCodesUptoCard : Claim7 := { stood := { row := listingCodesUptoRow, standIns := [], harness := (true, "a28376b2aa6d68bf30890585eda31769e72e1ec36de1b5754b364f9def758dbe"), looks := false }, kinds := [], alts := [], laidByText := true, laidKinds := [.data, .pinned], laidTests := true, laidLooks := .later }
def ListingCodesUptoCardSaid : Prop := Claim7.holds Tryd.pinned (.plain (OpenSpec.upto listingCodesSpec)) listingCodesUptoCard
end Rows
end Go.Proofs.YtmoodblpgnnenaaDoor
