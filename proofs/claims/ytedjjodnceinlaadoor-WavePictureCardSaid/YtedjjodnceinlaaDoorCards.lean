/-
  DERIVED. GIVEN WITH THE SEED: THE CARDS: each row of YtedjjodnceinlaaDoorRows.lean that lists a variable, with what it lists TIED to the program's text (the seventh form; the later family's looks); each row that meets fmt, with fmt's text TOLD by the authors' own Lean function (tested against real Go, not proved from fmt's source: count such statements apart). THE CARD IS WHAT COUNTS. Prove the row's statement (the work); the ties are given (YtedjjodnceinlaaDoorTie.lean); close each card by the builder's one call (the guide's Derived/Test/ToyasCard.lean, 'card_holds'). Laid BY PROGRAM, IN A SANDBOX (cutbox-door.mjs). By AI agents, Wed Nov 11 2026. No macro, syntax, notation, axiom, sorry.
-/
import Derived.Test.YtedjjodnceinlaaDoorRows
import GoSem.ClaimSeven
namespace Go.Proofs.YtedjjodnceinlaaDoor
namespace Rows

/-- THE TIED CARD OF 'busbarlaw37.WaveReads'. -/
def waveReadsCard : Claim7 := { stood := { row := waveReadsRow, standIns := [], harness := (true, "28a8d47035dd926730ae4af21cdf8c8df929591ba3f11f9ac436b8e9ceea5c43"), looks := false }, kinds := [], alts := [], laidByText := true, laidKinds := [.data, .pinned], laidTests := true, laidLooks := .later }
def WaveReadsCardSaid : Prop := Claim7.holds Tryd.pinned (.plain (OpenSpec.ofChange waveReadsSpec)) waveReadsCard

/-- THE TIED CARD OF 'busbarlaw37.WaveWalks'. -/
def waveWalksCard : Claim7 := { stood := { row := waveWalksRow, standIns := [], harness := (true, "28a8d47035dd926730ae4af21cdf8c8df929591ba3f11f9ac436b8e9ceea5c43"), looks := false }, kinds := [], alts := [], laidByText := true, laidKinds := [.data, .pinned], laidTests := true, laidLooks := .later }
def WaveWalksCardSaid : Prop := Claim7.holds Tryd.pinned (.plain (OpenSpec.ofChange waveWalksSpec)) waveWalksCard

/-- THE TIED CARD OF 'busbarlaw37.WavePicture'. -/
def wavePictureCard : Claim7 := { stood := { row := wavePictureRow, standIns := [], harness := (true, "28a8d47035dd926730ae4af21cdf8c8df929591ba3f11f9ac436b8e9ceea5c43"), looks := false }, kinds := [], alts := [], laidByText := true, laidKinds := [.data, .pinned], laidTests := true, laidLooks := .later }
def WavePictureCardSaid : Prop := Claim7.holds Tryd.pinned (.plain (OpenSpec.ofChange wavePictureSpec)) wavePictureCard

/-- THE SECOND FORM's CARD OF 'busbarlaw37.WaveReads'. -/
def waveReadsUptoCard : Claim7 := { stood := { row := waveReadsUptoRow, standIns := [], harness := (true, "28a8d47035dd926730ae4af21cdf8c8df929591ba3f11f9ac436b8e9ceea5c43"), looks := false }, kinds := [], alts := [], laidByText := true, laidKinds := [.data, .pinned], laidTests := true, laidLooks := .later }
def WaveReadsUptoCardSaid : Prop := Claim7.holds Tryd.pinned (.plain (OpenSpec.upto waveReadsSpec)) waveReadsUptoCard

/-- THE SECOND FORM's CARD OF 'busbarlaw37.WaveWalks'. -/
def waveWalksUptoCard : Claim7 := { stood := { row := waveWalksUptoRow, standIns := [], harness := (true, "28a8d47035dd926730ae4af21cdf8c8df929591ba3f11f9ac436b8e9ceea5c43"), looks := false }, kinds := [], alts := [], laidByText := true, laidKinds := [.data, .pinned], laidTests := true, laidLooks := .later }
def WaveWalksUptoCardSaid : Prop := Claim7.holds Tryd.pinned (.plain (OpenSpec.upto waveWalksSpec)) waveWalksUptoCard

/-- THE SECOND FORM's CARD OF 'busbarlaw37.WavePicture'. -/
def wavePictureUptoCard : Claim7 := { stood := { row := wavePictureUptoRow, standIns := [], harness := (true, "28a8d47035dd926730ae4af21cdf8c8df929591ba3f11f9ac436b8e9ceea5c43"), looks := false }, kinds := [], alts := [], laidByText := true, laidKinds := [.data, .pinned], laidTests := true, laidLooks := .later }
def WavePictureUptoCardSaid : Prop := Claim7.holds Tryd.pinned (.plain (OpenSpec.upto wavePictureSpec)) wavePictureUptoCard
end Rows
end Go.Proofs.YtedjjodnceinlaaDoor
