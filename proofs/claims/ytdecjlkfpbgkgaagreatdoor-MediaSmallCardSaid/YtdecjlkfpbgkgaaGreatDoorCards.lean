/-
  DERIVED. GIVEN WITH THE SEED: THE CARDS: each row of YtdecjlkfpbgkgaaGreatDoorRows.lean that lists a variable, with what it lists TIED to the program's text (the seventh form; the later family's looks); each row that meets fmt, with fmt's text TOLD by the authors' own Lean function (tested against real Go, not proved from fmt's source: count such statements apart). THE CARD IS WHAT COUNTS. Prove the row's statement (the work); the ties are given (YtdecjlkfpbgkgaaGreatDoorTie.lean); close each card by the builder's one call (the guide's Derived/Test/ToyasCard.lean, 'card_holds'). Laid BY PROGRAM, IN A SANDBOX (cutbox-door.mjs). By AI agents, Wed Nov 11 2026. No macro, syntax, notation, axiom, sorry.
-/
import Derived.Test.YtdecjlkfpbgkgaaGreatDoorRows
import GoSem.ClaimSeven
namespace Go.Proofs.YtdecjlkfpbgkgaaGreatDoor
namespace Rows

/-- THE TIED CARD OF 'broadsheetlaw13.MediaParses'. -/
def mediaParsesCard : Claim7 := { stood := { row := mediaParsesRow, standIns := [], harness := (true, "fcffb1a13678de9eb7b592172acf365787b7201a8cad7a44be4f3a8f7c43b946"), looks := true }, kinds := [], alts := [], laidByText := true, laidKinds := [.data, .pinned], laidTests := true, laidLooks := .later }
def MediaParsesCardSaid : Prop := Claim7.holds Tryz.pinned (.plain (OpenSpec.ofChange mediaParsesSpec)) mediaParsesCard

/-- THE TIED CARD OF 'broadsheetlaw13.MediaFits'. -/
def mediaFitsCard : Claim7 := { stood := { row := mediaFitsRow, standIns := [], harness := (true, "fcffb1a13678de9eb7b592172acf365787b7201a8cad7a44be4f3a8f7c43b946"), looks := true }, kinds := [], alts := [], laidByText := true, laidKinds := [.data, .pinned], laidTests := true, laidLooks := .later }
def MediaFitsCardSaid : Prop := Claim7.holds Tryz.pinned (.plain (OpenSpec.ofChange mediaFitsSpec)) mediaFitsCard

/-- THE TIED CARD OF 'broadsheetlaw13.MediaTexts'. -/
def mediaTextsCard : Claim7 := { stood := { row := mediaTextsRow, standIns := [], harness := (true, "fcffb1a13678de9eb7b592172acf365787b7201a8cad7a44be4f3a8f7c43b946"), looks := true }, kinds := [], alts := [], laidByText := true, laidKinds := [.data, .pinned], laidTests := true, laidLooks := .later }
def MediaTextsCardSaid : Prop := Claim7.holds Tryz.pinned (.plain (OpenSpec.ofChange mediaTextsSpec)) mediaTextsCard

/-- THE TIED CARD OF 'broadsheetlaw13.MediaBack'. -/
def mediaBackCard : Claim7 := { stood := { row := mediaBackRow, standIns := [], harness := (true, "fcffb1a13678de9eb7b592172acf365787b7201a8cad7a44be4f3a8f7c43b946"), looks := true }, kinds := [], alts := [], laidByText := true, laidKinds := [.data, .pinned], laidTests := true, laidLooks := .later }
def MediaBackCardSaid : Prop := Claim7.holds Tryz.pinned (.plain (OpenSpec.ofChange mediaBackSpec)) mediaBackCard

/-- THE TIED CARD OF 'broadsheetlaw13.MediaWide'. -/
def mediaWideCard : Claim7 := { stood := { row := mediaWideRow, standIns := [], harness := (true, "fcffb1a13678de9eb7b592172acf365787b7201a8cad7a44be4f3a8f7c43b946"), looks := true }, kinds := [], alts := [], laidByText := true, laidKinds := [.data, .pinned], laidTests := true, laidLooks := .later }
def MediaWideCardSaid : Prop := Claim7.holds Tryz.pinned (.plain (OpenSpec.ofChange mediaWideSpec)) mediaWideCard

/-- THE TIED CARD OF 'broadsheetlaw13.MediaSmall'. -/
def mediaSmallCard : Claim7 := { stood := { row := mediaSmallRow, standIns := [], harness := (true, "fcffb1a13678de9eb7b592172acf365787b7201a8cad7a44be4f3a8f7c43b946"), looks := true }, kinds := [], alts := [], laidByText := true, laidKinds := [.data, .pinned], laidTests := true, laidLooks := .later }
def MediaSmallCardSaid : Prop := Claim7.holds Tryz.pinned (.plain (OpenSpec.ofChange mediaSmallSpec)) mediaSmallCard

/-- THE SECOND FORM's CARD OF 'broadsheetlaw13.MediaParses'. -/
def mediaParsesUptoCard : Claim7 := { stood := { row := mediaParsesUptoRow, standIns := [], harness := (true, "fcffb1a13678de9eb7b592172acf365787b7201a8cad7a44be4f3a8f7c43b946"), looks := true }, kinds := [], alts := [], laidByText := true, laidKinds := [.data, .pinned], laidTests := true, laidLooks := .later }
def MediaParsesUptoCardSaid : Prop := Claim7.holds Tryz.pinned (.plain (OpenSpec.upto mediaParsesSpec)) mediaParsesUptoCard

/-- THE SECOND FORM's CARD OF 'broadsheetlaw13.MediaFits'. -/
def mediaFitsUptoCard : Claim7 := { stood := { row := mediaFitsUptoRow, standIns := [], harness := (true, "fcffb1a13678de9eb7b592172acf365787b7201a8cad7a44be4f3a8f7c43b946"), looks := true }, kinds := [], alts := [], laidByText := true, laidKinds := [.data, .pinned], laidTests := true, laidLooks := .later }
def MediaFitsUptoCardSaid : Prop := Claim7.holds Tryz.pinned (.plain (OpenSpec.upto mediaFitsSpec)) mediaFitsUptoCard

/-- THE SECOND FORM's CARD OF 'broadsheetlaw13.MediaTexts'. -/
def mediaTextsUptoCard : Claim7 := { stood := { row := mediaTextsUptoRow, standIns := [], harness := (true, "fcffb1a13678de9eb7b592172acf365787b7201a8cad7a44be4f3a8f7c43b946"), looks := true }, kinds := [], alts := [], laidByText := true, laidKinds := [.data, .pinned], laidTests := true, laidLooks := .later }
def MediaTextsUptoCardSaid : Prop := Claim7.holds Tryz.pinned (.plain (OpenSpec.upto mediaTextsSpec)) mediaTextsUptoCard

/-- THE SECOND FORM's CARD OF 'broadsheetlaw13.MediaBack'. -/
def mediaBackUptoCard : Claim7 := { stood := { row := mediaBackUptoRow, standIns := [], harness := (true, "fcffb1a13678de9eb7b592172acf365787b7201a8cad7a44be4f3a8f7c43b946"), looks := true }, kinds := [], alts := [], laidByText := true, laidKinds := [.data, .pinned], laidTests := true, laidLooks := .later }
def MediaBackUptoCardSaid : Prop := Claim7.holds Tryz.pinned (.plain (OpenSpec.upto mediaBackSpec)) mediaBackUptoCard

/-- THE SECOND FORM's CARD OF 'broadsheetlaw13.MediaWide'. -/
def mediaWideUptoCard : Claim7 := { stood := { row := mediaWideUptoRow, standIns := [], harness := (true, "fcffb1a13678de9eb7b592172acf365787b7201a8cad7a44be4f3a8f7c43b946"), looks := true }, kinds := [], alts := [], laidByText := true, laidKinds := [.data, .pinned], laidTests := true, laidLooks := .later }
def MediaWideUptoCardSaid : Prop := Claim7.holds Tryz.pinned (.plain (OpenSpec.upto mediaWideSpec)) mediaWideUptoCard

/-- THE SECOND FORM's CARD OF 'broadsheetlaw13.MediaSmall'. -/
def mediaSmallUptoCard : Claim7 := { stood := { row := mediaSmallUptoRow, standIns := [], harness := (true, "fcffb1a13678de9eb7b592172acf365787b7201a8cad7a44be4f3a8f7c43b946"), looks := true }, kinds := [], alts := [], laidByText := true, laidKinds := [.data, .pinned], laidTests := true, laidLooks := .later }
def MediaSmallUptoCardSaid : Prop := Claim7.holds Tryz.pinned (.plain (OpenSpec.upto mediaSmallSpec)) mediaSmallUptoCard
end Rows
end Go.Proofs.YtdecjlkfpbgkgaaGreatDoor
