/-
  DERIVED. GIVEN WITH THE SEED: THE CARDS: each row of YtldancekpigkaaaDoorRows.lean that lists a variable, with what it lists TIED to the program's text (the seventh form; the later family's looks); each row that meets fmt, with fmt's text TOLD by the authors' own Lean function (tested against real Go, not proved from fmt's source: count such statements apart). THE CARD IS WHAT COUNTS. Prove the row's statement (the work); the ties are given (YtldancekpigkaaaDoorTie.lean); close each card by the builder's one call (the guide's Derived/Test/ToyasCard.lean, 'card_holds'). Laid BY PROGRAM, IN A SANDBOX (cutbox-door.mjs). By AI agents, Wed Nov 11 2026. No macro, syntax, notation, axiom, sorry.
-/
import Derived.Test.YtldancekpigkaaaDoorRows
import GoSem.ClaimSeven
namespace Go.Proofs.YtldancekpigkaaaDoor
namespace Rows

/-- THE TIED CARD OF 'broadsheetlaw12.LocatorParses'. -/
def locatorParsesCard : Claim7 := { stood := { row := locatorParsesRow, standIns := [], harness := (true, "39279390f054a2809373f7f8484b0a91a7d1372e5a1df9a5d2c06c7bfa264c91"), looks := false }, kinds := [], alts := [], laidByText := true, laidKinds := [.data, .pinned], laidTests := true, laidLooks := .later }
def LocatorParsesCardSaid : Prop := Claim7.holds Tryd.pinned (.plain (OpenSpec.ofChange locatorParsesSpec)) locatorParsesCard

/-- THE TIED CARD OF 'broadsheetlaw12.LocatorPrints'. -/
def locatorPrintsCard : Claim7 := { stood := { row := locatorPrintsRow, standIns := [], harness := (true, "39279390f054a2809373f7f8484b0a91a7d1372e5a1df9a5d2c06c7bfa264c91"), looks := false }, kinds := [], alts := [], laidByText := true, laidKinds := [.data, .pinned], laidTests := true, laidLooks := .later }
def LocatorPrintsCardSaid : Prop := Claim7.holds Tryd.pinned (.plain (OpenSpec.ofChange locatorPrintsSpec)) locatorPrintsCard

/-- THE TIED CARD OF 'broadsheetlaw12.LocatorTexts'. -/
def locatorTextsCard : Claim7 := { stood := { row := locatorTextsRow, standIns := [], harness := (true, "39279390f054a2809373f7f8484b0a91a7d1372e5a1df9a5d2c06c7bfa264c91"), looks := false }, kinds := [], alts := [], laidByText := true, laidKinds := [.data, .pinned], laidTests := true, laidLooks := .later }
def LocatorTextsCardSaid : Prop := Claim7.holds Tryd.pinned (.plain (OpenSpec.ofChange locatorTextsSpec)) locatorTextsCard

/-- THE TIED CARD OF 'broadsheetlaw12.LocatorBack'. -/
def locatorBackCard : Claim7 := { stood := { row := locatorBackRow, standIns := [], harness := (true, "39279390f054a2809373f7f8484b0a91a7d1372e5a1df9a5d2c06c7bfa264c91"), looks := false }, kinds := [], alts := [], laidByText := true, laidKinds := [.data, .pinned], laidTests := true, laidLooks := .later }
def LocatorBackCardSaid : Prop := Claim7.holds Tryd.pinned (.plain (OpenSpec.ofChange locatorBackSpec)) locatorBackCard

/-- THE TIED CARD OF 'broadsheetlaw12.LocatorDots'. -/
def locatorDotsCard : Claim7 := { stood := { row := locatorDotsRow, standIns := [], harness := (true, "39279390f054a2809373f7f8484b0a91a7d1372e5a1df9a5d2c06c7bfa264c91"), looks := false }, kinds := [], alts := [], laidByText := true, laidKinds := [.data, .pinned], laidTests := true, laidLooks := .later }
def LocatorDotsCardSaid : Prop := Claim7.holds Tryd.pinned (.plain (OpenSpec.ofChange locatorDotsSpec)) locatorDotsCard

/-- THE TIED CARD OF 'broadsheetlaw12.LocatorBases'. -/
def locatorBasesCard : Claim7 := { stood := { row := locatorBasesRow, standIns := [], harness := (true, "39279390f054a2809373f7f8484b0a91a7d1372e5a1df9a5d2c06c7bfa264c91"), looks := false }, kinds := [], alts := [], laidByText := true, laidKinds := [.data, .pinned], laidTests := true, laidLooks := .later }
def LocatorBasesCardSaid : Prop := Claim7.holds Tryd.pinned (.plain (OpenSpec.ofChange locatorBasesSpec)) locatorBasesCard

/-- THE TIED CARD OF 'broadsheetlaw12.LocatorSmall'. -/
def locatorSmallCard : Claim7 := { stood := { row := locatorSmallRow, standIns := [], harness := (true, "39279390f054a2809373f7f8484b0a91a7d1372e5a1df9a5d2c06c7bfa264c91"), looks := false }, kinds := [], alts := [], laidByText := true, laidKinds := [.data, .pinned], laidTests := true, laidLooks := .later }
def LocatorSmallCardSaid : Prop := Claim7.holds Tryd.pinned (.plain (OpenSpec.ofChange locatorSmallSpec)) locatorSmallCard

/-- THE SECOND FORM's CARD OF 'broadsheetlaw12.LocatorParses'. -/
def locatorParsesUptoCard : Claim7 := { stood := { row := locatorParsesUptoRow, standIns := [], harness := (true, "39279390f054a2809373f7f8484b0a91a7d1372e5a1df9a5d2c06c7bfa264c91"), looks := false }, kinds := [], alts := [], laidByText := true, laidKinds := [.data, .pinned], laidTests := true, laidLooks := .later }
def LocatorParsesUptoCardSaid : Prop := Claim7.holds Tryd.pinned (.plain (OpenSpec.upto locatorParsesSpec)) locatorParsesUptoCard

/-- THE SECOND FORM's CARD OF 'broadsheetlaw12.LocatorPrints'. -/
def locatorPrintsUptoCard : Claim7 := { stood := { row := locatorPrintsUptoRow, standIns := [], harness := (true, "39279390f054a2809373f7f8484b0a91a7d1372e5a1df9a5d2c06c7bfa264c91"), looks := false }, kinds := [], alts := [], laidByText := true, laidKinds := [.data, .pinned], laidTests := true, laidLooks := .later }
def LocatorPrintsUptoCardSaid : Prop := Claim7.holds Tryd.pinned (.plain (OpenSpec.upto locatorPrintsSpec)) locatorPrintsUptoCard

/-- THE SECOND FORM's CARD OF 'broadsheetlaw12.LocatorTexts'. -/
def locatorTextsUptoCard : Claim7 := { stood := { row := locatorTextsUptoRow, standIns := [], harness := (true, "39279390f054a2809373f7f8484b0a91a7d1372e5a1df9a5d2c06c7bfa264c91"), looks := false }, kinds := [], alts := [], laidByText := true, laidKinds := [.data, .pinned], laidTests := true, laidLooks := .later }
def LocatorTextsUptoCardSaid : Prop := Claim7.holds Tryd.pinned (.plain (OpenSpec.upto locatorTextsSpec)) locatorTextsUptoCard

/-- THE SECOND FORM's CARD OF 'broadsheetlaw12.LocatorBack'. -/
def locatorBackUptoCard : Claim7 := { stood := { row := locatorBackUptoRow, standIns := [], harness := (true, "39279390f054a2809373f7f8484b0a91a7d1372e5a1df9a5d2c06c7bfa264c91"), looks := false }, kinds := [], alts := [], laidByText := true, laidKinds := [.data, .pinned], laidTests := true, laidLooks := .later }
def LocatorBackUptoCardSaid : Prop := Claim7.holds Tryd.pinned (.plain (OpenSpec.upto locatorBackSpec)) locatorBackUptoCard

/-- THE SECOND FORM's CARD OF 'broadsheetlaw12.LocatorDots'. -/
def locatorDotsUptoCard : Claim7 := { stood := { row := locatorDotsUptoRow, standIns := [], harness := (true, "39279390f054a2809373f7f8484b0a91a7d1372e5a1df9a5d2c06c7bfa264c91"), looks := false }, kinds := [], alts := [], laidByText := true, laidKinds := [.data, .pinned], laidTests := true, laidLooks := .later }
def LocatorDotsUptoCardSaid : Prop := Claim7.holds Tryd.pinned (.plain (OpenSpec.upto locatorDotsSpec)) locatorDotsUptoCard

/-- THE SECOND FORM's CARD OF 'broadsheetlaw12.LocatorBases'. -/
def locatorBasesUptoCard : Claim7 := { stood := { row := locatorBasesUptoRow, standIns := [], harness := (true, "39279390f054a2809373f7f8484b0a91a7d1372e5a1df9a5d2c06c7bfa264c91"), looks := false }, kinds := [], alts := [], laidByText := true, laidKinds := [.data, .pinned], laidTests := true, laidLooks := .later }
def LocatorBasesUptoCardSaid : Prop := Claim7.holds Tryd.pinned (.plain (OpenSpec.upto locatorBasesSpec)) locatorBasesUptoCard

/-- THE SECOND FORM's CARD OF 'broadsheetlaw12.LocatorSmall'. -/
def locatorSmallUptoCard : Claim7 := { stood := { row := locatorSmallUptoRow, standIns := [], harness := (true, "39279390f054a2809373f7f8484b0a91a7d1372e5a1df9a5d2c06c7bfa264c91"), looks := false }, kinds := [], alts := [], laidByText := true, laidKinds := [.data, .pinned], laidTests := true, laidLooks := .later }
def LocatorSmallUptoCardSaid : Prop := Claim7.holds Tryd.pinned (.plain (OpenSpec.upto locatorSmallSpec)) locatorSmallUptoCard
end Rows
end Go.Proofs.YtldancekpigkaaaDoor
