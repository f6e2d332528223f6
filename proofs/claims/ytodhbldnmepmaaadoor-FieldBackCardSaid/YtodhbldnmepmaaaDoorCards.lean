/-
  DERIVED. GIVEN WITH THE SEED: THE CARDS: each row of YtodhbldnmepmaaaDoorRows.lean that lists a variable, with what it lists TIED to the program's text (the seventh form; the later family's looks); each row that meets fmt, with fmt's text TOLD by the authors' own Lean function (tested against real Go, not proved from fmt's source: count such statements apart). THE CARD IS WHAT COUNTS. Prove the row's statement (the work); the ties are given (YtodhbldnmepmaaaDoorTie.lean); close each card by the builder's one call (the guide's Derived/Test/ToyasCard.lean, 'card_holds'). Laid BY PROGRAM, IN A SANDBOX (cutbox-door.mjs). By AI agents, Wed Nov 11 2026. No macro, syntax, notation, axiom, sorry.
-/
import Derived.Test.YtodhbldnmepmaaaDoorRows
import GoSem.ClaimSeven
namespace Go.Proofs.YtodhbldnmepmaaaDoor
namespace Rows

/-- THE TIED CARD OF 'broadsheetlaw17.ETagMays'. -/
def eTagMaysCard : Claim7 := { stood := { row := eTagMaysRow, standIns := [], harness := (true, "92c082be173379b46534b39489ac498720a6dfd25080379448ab8d8bf1416cd8"), looks := false }, kinds := [], alts := [], laidByText := true, laidKinds := [.data, .pinned], laidTests := true, laidLooks := .later }
def ETagMaysCardSaid : Prop := Claim7.holds Tryd.pinned (.plain (OpenSpec.ofChange eTagMaysSpec)) eTagMaysCard

/-- THE TIED CARD OF 'broadsheetlaw17.ETagSmall'. -/
def eTagSmallCard : Claim7 := { stood := { row := eTagSmallRow, standIns := [], harness := (true, "92c082be173379b46534b39489ac498720a6dfd25080379448ab8d8bf1416cd8"), looks := false }, kinds := [], alts := [], laidByText := true, laidKinds := [.data, .pinned], laidTests := true, laidLooks := .later }
def ETagSmallCardSaid : Prop := Claim7.holds Tryd.pinned (.plain (OpenSpec.ofChange eTagSmallSpec)) eTagSmallCard

/-- THE TIED CARD OF 'broadsheetlaw17.ETagLists'. -/
def eTagListsCard : Claim7 := { stood := { row := eTagListsRow, standIns := [], harness := (true, "92c082be173379b46534b39489ac498720a6dfd25080379448ab8d8bf1416cd8"), looks := false }, kinds := [], alts := [], laidByText := true, laidKinds := [.data, .pinned], laidTests := true, laidLooks := .later }
def ETagListsCardSaid : Prop := Claim7.holds Tryd.pinned (.plain (OpenSpec.ofChange eTagListsSpec)) eTagListsCard

/-- THE TIED CARD OF 'broadsheetlaw17.ETagBack'. -/
def eTagBackCard : Claim7 := { stood := { row := eTagBackRow, standIns := [], harness := (true, "92c082be173379b46534b39489ac498720a6dfd25080379448ab8d8bf1416cd8"), looks := false }, kinds := [], alts := [], laidByText := true, laidKinds := [.data, .pinned], laidTests := true, laidLooks := .later }
def ETagBackCardSaid : Prop := Claim7.holds Tryd.pinned (.plain (OpenSpec.ofChange eTagBackSpec)) eTagBackCard

/-- THE TIED CARD OF 'broadsheetlaw17.ETagMatches'. -/
def eTagMatchesCard : Claim7 := { stood := { row := eTagMatchesRow, standIns := [], harness := (true, "92c082be173379b46534b39489ac498720a6dfd25080379448ab8d8bf1416cd8"), looks := false }, kinds := [], alts := [], laidByText := true, laidKinds := [.data, .pinned], laidTests := true, laidLooks := .later }
def ETagMatchesCardSaid : Prop := Claim7.holds Tryd.pinned (.plain (OpenSpec.ofChange eTagMatchesSpec)) eTagMatchesCard

/-- THE TIED CARD OF 'broadsheetlaw18.FieldParses'. -/
def fieldParsesCard : Claim7 := { stood := { row := fieldParsesRow, standIns := [], harness := (true, "92c082be173379b46534b39489ac498720a6dfd25080379448ab8d8bf1416cd8"), looks := false }, kinds := [], alts := [], laidByText := true, laidKinds := [.data, .pinned], laidTests := true, laidLooks := .later }
def FieldParsesCardSaid : Prop := Claim7.holds Tryd.pinned (.plain (OpenSpec.ofChange fieldParsesSpec)) fieldParsesCard

/-- THE TIED CARD OF 'broadsheetlaw18.FieldLong'. -/
def fieldLongCard : Claim7 := { stood := { row := fieldLongRow, standIns := [], harness := (true, "92c082be173379b46534b39489ac498720a6dfd25080379448ab8d8bf1416cd8"), looks := false }, kinds := [], alts := [], laidByText := true, laidKinds := [.data, .pinned], laidTests := true, laidLooks := .later }
def FieldLongCardSaid : Prop := Claim7.holds Tryd.pinned (.plain (OpenSpec.ofChange fieldLongSpec)) fieldLongCard

/-- THE TIED CARD OF 'broadsheetlaw18.FieldPrints'. -/
def fieldPrintsCard : Claim7 := { stood := { row := fieldPrintsRow, standIns := [], harness := (true, "92c082be173379b46534b39489ac498720a6dfd25080379448ab8d8bf1416cd8"), looks := false }, kinds := [], alts := [], laidByText := true, laidKinds := [.data, .pinned], laidTests := true, laidLooks := .later }
def FieldPrintsCardSaid : Prop := Claim7.holds Tryd.pinned (.plain (OpenSpec.ofChange fieldPrintsSpec)) fieldPrintsCard

/-- THE TIED CARD OF 'broadsheetlaw18.FieldBack'. -/
def fieldBackCard : Claim7 := { stood := { row := fieldBackRow, standIns := [], harness := (true, "92c082be173379b46534b39489ac498720a6dfd25080379448ab8d8bf1416cd8"), looks := false }, kinds := [], alts := [], laidByText := true, laidKinds := [.data, .pinned], laidTests := true, laidLooks := .later }
def FieldBackCardSaid : Prop := Claim7.holds Tryd.pinned (.plain (OpenSpec.ofChange fieldBackSpec)) fieldBackCard

/-- THE TIED CARD OF 'broadsheetlaw18.FieldAgain'. -/
def fieldAgainCard : Claim7 := { stood := { row := fieldAgainRow, standIns := [], harness := (true, "92c082be173379b46534b39489ac498720a6dfd25080379448ab8d8bf1416cd8"), looks := false }, kinds := [], alts := [], laidByText := true, laidKinds := [.data, .pinned], laidTests := true, laidLooks := .later }
def FieldAgainCardSaid : Prop := Claim7.holds Tryd.pinned (.plain (OpenSpec.ofChange fieldAgainSpec)) fieldAgainCard

/-- THE TIED CARD OF 'broadsheetlaw18.FieldSmall'. -/
def fieldSmallCard : Claim7 := { stood := { row := fieldSmallRow, standIns := [], harness := (true, "92c082be173379b46534b39489ac498720a6dfd25080379448ab8d8bf1416cd8"), looks := false }, kinds := [], alts := [], laidByText := true, laidKinds := [.data, .pinned], laidTests := true, laidLooks := .later }
def FieldSmallCardSaid : Prop := Claim7.holds Tryd.pinned (.plain (OpenSpec.ofChange fieldSmallSpec)) fieldSmallCard

/-- THE SECOND FORM's CARD OF 'broadsheetlaw17.ETagMays'. -/
def eTagMaysUptoCard : Claim7 := { stood := { row := eTagMaysUptoRow, standIns := [], harness := (true, "92c082be173379b46534b39489ac498720a6dfd25080379448ab8d8bf1416cd8"), looks := false }, kinds := [], alts := [], laidByText := true, laidKinds := [.data, .pinned], laidTests := true, laidLooks := .later }
def ETagMaysUptoCardSaid : Prop := Claim7.holds Tryd.pinned (.plain (OpenSpec.upto eTagMaysSpec)) eTagMaysUptoCard

/-- THE SECOND FORM's CARD OF 'broadsheetlaw17.ETagSmall'. -/
def eTagSmallUptoCard : Claim7 := { stood := { row := eTagSmallUptoRow, standIns := [], harness := (true, "92c082be173379b46534b39489ac498720a6dfd25080379448ab8d8bf1416cd8"), looks := false }, kinds := [], alts := [], laidByText := true, laidKinds := [.data, .pinned], laidTests := true, laidLooks := .later }
def ETagSmallUptoCardSaid : Prop := Claim7.holds Tryd.pinned (.plain (OpenSpec.upto eTagSmallSpec)) eTagSmallUptoCard

/-- THE SECOND FORM's CARD OF 'broadsheetlaw17.ETagLists'. -/
def eTagListsUptoCard : Claim7 := { stood := { row := eTagListsUptoRow, standIns := [], harness := (true, "92c082be173379b46534b39489ac498720a6dfd25080379448ab8d8bf1416cd8"), looks := false }, kinds := [], alts := [], laidByText := true, laidKinds := [.data, .pinned], laidTests := true, laidLooks := .later }
def ETagListsUptoCardSaid : Prop := Claim7.holds Tryd.pinned (.plain (OpenSpec.upto eTagListsSpec)) eTagListsUptoCard

/-- THE SECOND FORM's CARD OF 'broadsheetlaw17.ETagBack'. -/
def eTagBackUptoCard : Claim7 := { stood := { row := eTagBackUptoRow, standIns := [], harness := (true, "92c082be173379b46534b39489ac498720a6dfd25080379448ab8d8bf1416cd8"), looks := false }, kinds := [], alts := [], laidByText := true, laidKinds := [.data, .pinned], laidTests := true, laidLooks := .later }
def ETagBackUptoCardSaid : Prop := Claim7.holds Tryd.pinned (.plain (OpenSpec.upto eTagBackSpec)) eTagBackUptoCard

/-- THE SECOND FORM's CARD OF 'broadsheetlaw17.ETagMatches'. -/
def eTagMatchesUptoCard : Claim7 := { stood := { row := eTagMatchesUptoRow, standIns := [], harness := (true, "92c082be173379b46534b39489ac498720a6dfd25080379448ab8d8bf1416cd8"), looks := false }, kinds := [], alts := [], laidByText := true, laidKinds := [.data, .pinned], laidTests := true, laidLooks := .later }
def ETagMatchesUptoCardSaid : Prop := Claim7.holds Tryd.pinned (.plain (OpenSpec.upto eTagMatchesSpec)) eTagMatchesUptoCard

/-- THE SECOND FORM's CARD OF 'broadsheetlaw18.FieldParses'. -/
def fieldParsesUptoCard : Claim7 := { stood := { row := fieldParsesUptoRow, standIns := [], harness := (true, "92c082be173379b46534b39489ac498720a6dfd25080379448ab8d8bf1416cd8"), looks := false }, kinds := [], alts := [], laidByText := true, laidKinds := [.data, .pinned], laidTests := true, laidLooks := .later }
def FieldParsesUptoCardSaid : Prop := Claim7.holds Tryd.pinned (.plain (OpenSpec.upto fieldParsesSpec)) fieldParsesUptoCard

/-- THE SECOND FORM's CARD OF 'broadsheetlaw18.FieldLong'. -/
def fieldLongUptoCard : Claim7 := { stood := { row := fieldLongUptoRow, standIns := [], harness := (true, "92c082be173379b46534b39489ac498720a6dfd25080379448ab8d8bf1416cd8"), looks := false }, kinds := [], alts := [], laidByText := true, laidKinds := [.data, .pinned], laidTests := true, laidLooks := .later }
def FieldLongUptoCardSaid : Prop := Claim7.holds Tryd.pinned (.plain (OpenSpec.upto fieldLongSpec)) fieldLongUptoCard

/-- THE SECOND FORM's CARD OF 'broadsheetlaw18.FieldPrints'. -/
def fieldPrintsUptoCard : Claim7 := { stood := { row := fieldPrintsUptoRow, standIns := [], harness := (true, "92c082be173379b46534b39489ac498720a6dfd25080379448ab8d8bf1416cd8"), looks := false }, kinds := [], alts := [], laidByText := true, laidKinds := [.data, .pinned], laidTests := true, laidLooks := .later }
def FieldPrintsUptoCardSaid : Prop := Claim7.holds Tryd.pinned (.plain (OpenSpec.upto fieldPrintsSpec)) fieldPrintsUptoCard

/-- THE SECOND FORM's CARD OF 'broadsheetlaw18.FieldBack'. -/
def fieldBackUptoCard : Claim7 := { stood := { row := fieldBackUptoRow, standIns := [], harness := (true, "92c082be173379b46534b39489ac498720a6dfd25080379448ab8d8bf1416cd8"), looks := false }, kinds := [], alts := [], laidByText := true, laidKinds := [.data, .pinned], laidTests := true, laidLooks := .later }
def FieldBackUptoCardSaid : Prop := Claim7.holds Tryd.pinned (.plain (OpenSpec.upto fieldBackSpec)) fieldBackUptoCard

/-- THE SECOND FORM's CARD OF 'broadsheetlaw18.FieldAgain'. -/
def fieldAgainUptoCard : Claim7 := { stood := { row := fieldAgainUptoRow, standIns := [], harness := (true, "92c082be173379b46534b39489ac498720a6dfd25080379448ab8d8bf1416cd8"), looks := false }, kinds := [], alts := [], laidByText := true, laidKinds := [.data, .pinned], laidTests := true, laidLooks := .later }
def FieldAgainUptoCardSaid : Prop := Claim7.holds Tryd.pinned (.plain (OpenSpec.upto fieldAgainSpec)) fieldAgainUptoCard

/-- THE SECOND FORM's CARD OF 'broadsheetlaw18.FieldSmall'. -/
def fieldSmallUptoCard : Claim7 := { stood := { row := fieldSmallUptoRow, standIns := [], harness := (true, "92c082be173379b46534b39489ac498720a6dfd25080379448ab8d8bf1416cd8"), looks := false }, kinds := [], alts := [], laidByText := true, laidKinds := [.data, .pinned], laidTests := true, laidLooks := .later }
def FieldSmallUptoCardSaid : Prop := Claim7.holds Tryd.pinned (.plain (OpenSpec.upto fieldSmallSpec)) fieldSmallUptoCard
end Rows
end Go.Proofs.YtodhbldnmepmaaaDoor
