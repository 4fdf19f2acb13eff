/-
  DERIVED. GIVEN WITH THE SEED: THE CARDS: each row of YtnhbgahfmcicnaaGreatDoorRows.lean that lists a variable, with what it lists TIED to the program's text (the seventh form; the later family's looks); each row that meets fmt, with fmt's text TOLD by the authors' own Lean function (tested against real Go, not proved from fmt's source: count such statements apart). THE CARD IS WHAT COUNTS. Prove the row's statement (the work); the ties are given (YtnhbgahfmcicnaaGreatDoorTie.lean); close each card by the builder's one call (the guide's Derived/Test/ToyasCard.lean, 'card_holds'). Laid BY PROGRAM, IN A SANDBOX (cutbox-door.mjs). By AI agents, Wed Nov 11 2026. No macro, syntax, notation, axiom, sorry.
-/
import Derived.Test.YtnhbgahfmcicnaaGreatDoorRows
import GoSem.ClaimSeven
namespace Go.Proofs.YtnhbgahfmcicnaaGreatDoor
namespace Rows

/-- THE TIED CARD OF 'sorobanlaw21.SpecParses'. -/
def specParsesCard : Claim7 := { stood := { row := specParsesRow, standIns := [], harness := (true, "fd4a775da9bce5eccd2daef472e836efff5813af169d2713f9b198458ef7f5d5"), looks := true }, kinds := [], alts := [], laidByText := true, laidKinds := [.data, .data, .data, .data, .pinned], laidTests := true, laidLooks := .later }
def SpecParsesCardSaid : Prop := Claim7.holds Tryz.pinned (.plain (OpenSpec.ofChange specParsesSpec)) specParsesCard

/-- THE TIED CARD OF 'sorobanlaw21.SpecEscapes'. -/
def specEscapesCard : Claim7 := { stood := { row := specEscapesRow, standIns := [], harness := (true, "fd4a775da9bce5eccd2daef472e836efff5813af169d2713f9b198458ef7f5d5"), looks := true }, kinds := [], alts := [], laidByText := true, laidKinds := [.data, .data, .data, .data, .pinned], laidTests := true, laidLooks := .later }
def SpecEscapesCardSaid : Prop := Claim7.holds Tryz.pinned (.plain (OpenSpec.ofChange specEscapesSpec)) specEscapesCard

/-- THE TIED CARD OF 'sorobanlaw21.SpecBack'. -/
def specBackCard : Claim7 := { stood := { row := specBackRow, standIns := [], harness := (true, "fd4a775da9bce5eccd2daef472e836efff5813af169d2713f9b198458ef7f5d5"), looks := true }, kinds := [], alts := [], laidByText := true, laidKinds := [.data, .data, .data, .data, .pinned], laidTests := true, laidLooks := .later }
def SpecBackCardSaid : Prop := Claim7.holds Tryz.pinned (.plain (OpenSpec.ofChange specBackSpec)) specBackCard

/-- THE TIED CARD OF 'sorobanlaw21.SpecCanonical'. -/
def specCanonicalCard : Claim7 := { stood := { row := specCanonicalRow, standIns := [], harness := (true, "fd4a775da9bce5eccd2daef472e836efff5813af169d2713f9b198458ef7f5d5"), looks := true }, kinds := [], alts := [], laidByText := true, laidKinds := [.data, .data, .data, .data, .pinned], laidTests := true, laidLooks := .later }
def SpecCanonicalCardSaid : Prop := Claim7.holds Tryz.pinned (.plain (OpenSpec.ofChange specCanonicalSpec)) specCanonicalCard

/-- THE TIED CARD OF 'sorobanlaw21.SpecOffsets'. -/
def specOffsetsCard : Claim7 := { stood := { row := specOffsetsRow, standIns := [], harness := (true, "fd4a775da9bce5eccd2daef472e836efff5813af169d2713f9b198458ef7f5d5"), looks := true }, kinds := [], alts := [], laidByText := true, laidKinds := [.data, .data, .data, .data, .pinned], laidTests := true, laidLooks := .later }
def SpecOffsetsCardSaid : Prop := Claim7.holds Tryz.pinned (.plain (OpenSpec.ofChange specOffsetsSpec)) specOffsetsCard

/-- THE TIED CARD OF 'sorobanlaw21.SpecChecks'. -/
def specChecksCard : Claim7 := { stood := { row := specChecksRow, standIns := [], harness := (true, "fd4a775da9bce5eccd2daef472e836efff5813af169d2713f9b198458ef7f5d5"), looks := true }, kinds := [], alts := [], laidByText := true, laidKinds := [.data, .data, .data, .data, .pinned], laidTests := true, laidLooks := .later }
def SpecChecksCardSaid : Prop := Claim7.holds Tryz.pinned (.plain (OpenSpec.ofChange specChecksSpec)) specChecksCard

/-- THE TIED CARD OF 'sorobanlaw21.SpecPieces'. -/
def specPiecesCard : Claim7 := { stood := { row := specPiecesRow, standIns := [], harness := (true, "fd4a775da9bce5eccd2daef472e836efff5813af169d2713f9b198458ef7f5d5"), looks := true }, kinds := [], alts := [], laidByText := true, laidKinds := [.data, .data, .data, .data, .pinned], laidTests := true, laidLooks := .later }
def SpecPiecesCardSaid : Prop := Claim7.holds Tryz.pinned (.plain (OpenSpec.ofChange specPiecesSpec)) specPiecesCard

/-- THE TIED CARD OF 'sorobanlaw21.SpecPrints'. -/
def specPrintsCard : Claim7 := { stood := { row := specPrintsRow, standIns := [], harness := (true, "fd4a775da9bce5eccd2daef472e836efff5813af169d2713f9b198458ef7f5d5"), looks := true }, kinds := [], alts := [], laidByText := true, laidKinds := [.data, .data, .data, .data, .pinned], laidTests := true, laidLooks := .later }
def SpecPrintsCardSaid : Prop := Claim7.holds Tryz.pinned (.plain (OpenSpec.ofChange specPrintsSpec)) specPrintsCard

/-- THE SECOND FORM's CARD OF 'sorobanlaw21.SpecParses'. -/
def specParsesUptoCard : Claim7 := { stood := { row := specParsesUptoRow, standIns := [], harness := (true, "fd4a775da9bce5eccd2daef472e836efff5813af169d2713f9b198458ef7f5d5"), looks := true }, kinds := [], alts := [], laidByText := true, laidKinds := [.data, .data, .data, .data, .pinned], laidTests := true, laidLooks := .later }
def SpecParsesUptoCardSaid : Prop := Claim7.holds Tryz.pinned (.plain (OpenSpec.upto specParsesSpec)) specParsesUptoCard

/-- THE SECOND FORM's CARD OF 'sorobanlaw21.SpecEscapes'. -/
def specEscapesUptoCard : Claim7 := { stood := { row := specEscapesUptoRow, standIns := [], harness := (true, "fd4a775da9bce5eccd2daef472e836efff5813af169d2713f9b198458ef7f5d5"), looks := true }, kinds := [], alts := [], laidByText := true, laidKinds := [.data, .data, .data, .data, .pinned], laidTests := true, laidLooks := .later }
def SpecEscapesUptoCardSaid : Prop := Claim7.holds Tryz.pinned (.plain (OpenSpec.upto specEscapesSpec)) specEscapesUptoCard

/-- THE SECOND FORM's CARD OF 'sorobanlaw21.SpecBack'. -/
def specBackUptoCard : Claim7 := { stood := { row := specBackUptoRow, standIns := [], harness := (true, "fd4a775da9bce5eccd2daef472e836efff5813af169d2713f9b198458ef7f5d5"), looks := true }, kinds := [], alts := [], laidByText := true, laidKinds := [.data, .data, .data, .data, .pinned], laidTests := true, laidLooks := .later }
def SpecBackUptoCardSaid : Prop := Claim7.holds Tryz.pinned (.plain (OpenSpec.upto specBackSpec)) specBackUptoCard

/-- THE SECOND FORM's CARD OF 'sorobanlaw21.SpecCanonical'. -/
def specCanonicalUptoCard : Claim7 := { stood := { row := specCanonicalUptoRow, standIns := [], harness := (true, "fd4a775da9bce5eccd2daef472e836efff5813af169d2713f9b198458ef7f5d5"), looks := true }, kinds := [], alts := [], laidByText := true, laidKinds := [.data, .data, .data, .data, .pinned], laidTests := true, laidLooks := .later }
def SpecCanonicalUptoCardSaid : Prop := Claim7.holds Tryz.pinned (.plain (OpenSpec.upto specCanonicalSpec)) specCanonicalUptoCard

/-- THE SECOND FORM's CARD OF 'sorobanlaw21.SpecOffsets'. -/
def specOffsetsUptoCard : Claim7 := { stood := { row := specOffsetsUptoRow, standIns := [], harness := (true, "fd4a775da9bce5eccd2daef472e836efff5813af169d2713f9b198458ef7f5d5"), looks := true }, kinds := [], alts := [], laidByText := true, laidKinds := [.data, .data, .data, .data, .pinned], laidTests := true, laidLooks := .later }
def SpecOffsetsUptoCardSaid : Prop := Claim7.holds Tryz.pinned (.plain (OpenSpec.upto specOffsetsSpec)) specOffsetsUptoCard

/-- THE SECOND FORM's CARD OF 'sorobanlaw21.SpecChecks'. -/
def specChecksUptoCard : Claim7 := { stood := { row := specChecksUptoRow, standIns := [], harness := (true, "fd4a775da9bce5eccd2daef472e836efff5813af169d2713f9b198458ef7f5d5"), looks := true }, kinds := [], alts := [], laidByText := true, laidKinds := [.data, .data, .data, .data, .pinned], laidTests := true, laidLooks := .later }
def SpecChecksUptoCardSaid : Prop := Claim7.holds Tryz.pinned (.plain (OpenSpec.upto specChecksSpec)) specChecksUptoCard

/-- THE SECOND FORM's CARD OF 'sorobanlaw21.SpecPieces'. -/
def specPiecesUptoCard : Claim7 := { stood := { row := specPiecesUptoRow, standIns := [], harness := (true, "fd4a775da9bce5eccd2daef472e836efff5813af169d2713f9b198458ef7f5d5"), looks := true }, kinds := [], alts := [], laidByText := true, laidKinds := [.data, .data, .data, .data, .pinned], laidTests := true, laidLooks := .later }
def SpecPiecesUptoCardSaid : Prop := Claim7.holds Tryz.pinned (.plain (OpenSpec.upto specPiecesSpec)) specPiecesUptoCard

/-- THE SECOND FORM's CARD OF 'sorobanlaw21.SpecPrints'. -/
def specPrintsUptoCard : Claim7 := { stood := { row := specPrintsUptoRow, standIns := [], harness := (true, "fd4a775da9bce5eccd2daef472e836efff5813af169d2713f9b198458ef7f5d5"), looks := true }, kinds := [], alts := [], laidByText := true, laidKinds := [.data, .data, .data, .data, .pinned], laidTests := true, laidLooks := .later }
def SpecPrintsUptoCardSaid : Prop := Claim7.holds Tryz.pinned (.plain (OpenSpec.upto specPrintsSpec)) specPrintsUptoCard
end Rows
end Go.Proofs.YtnhbgahfmcicnaaGreatDoor
