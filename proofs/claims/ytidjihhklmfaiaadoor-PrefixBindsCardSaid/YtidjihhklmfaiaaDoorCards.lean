/-
  DERIVED. GIVEN WITH THE SEED: THE CARDS: each row of YtidjihhklmfaiaaDoorRows.lean that lists a variable, with what it lists TIED to the program's text (the seventh form; the later family's looks); each row that meets fmt, with fmt's text TOLD by the authors' own Lean function (tested against real Go, not proved from fmt's source: count such statements apart). THE CARD IS WHAT COUNTS. Prove the row's statement (the work); the ties are given (YtidjihhklmfaiaaDoorTie.lean); close each card by the builder's one call (the guide's Derived/Test/ToyasCard.lean, 'card_holds'). Laid BY PROGRAM, IN A SANDBOX (cutbox-door.mjs). By AI agents, Wed Nov 11 2026. No macro, syntax, notation, axiom, sorry.
-/
import Derived.Test.YtidjihhklmfaiaaDoorRows
import GoSem.ClaimSeven
namespace Go.Proofs.YtidjihhklmfaiaaDoor
namespace Rows

/-- THE TIED CARD OF 'broadsheetlaw08.PrefixSplits'. -/
def prefixSplitsCard : Claim7 := { stood := { row := prefixSplitsRow, standIns := [], harness := (true, "c9499e701302312ed8fb1f5f0603cf1520c400872724d302f9ba69ea1d0e9daf"), looks := false }, kinds := [], alts := [], laidByText := true, laidKinds := [.data, .pinned], laidTests := true, laidLooks := .later }
def PrefixSplitsCardSaid : Prop := Claim7.holds Tryd.pinned (.plain (OpenSpec.ofChange prefixSplitsSpec)) prefixSplitsCard

/-- THE TIED CARD OF 'broadsheetlaw08.PrefixDeclares'. -/
def prefixDeclaresCard : Claim7 := { stood := { row := prefixDeclaresRow, standIns := [], harness := (true, "c9499e701302312ed8fb1f5f0603cf1520c400872724d302f9ba69ea1d0e9daf"), looks := false }, kinds := [], alts := [], laidByText := true, laidKinds := [.data, .pinned], laidTests := true, laidLooks := .later }
def PrefixDeclaresCardSaid : Prop := Claim7.holds Tryd.pinned (.plain (OpenSpec.ofChange prefixDeclaresSpec)) prefixDeclaresCard

/-- THE TIED CARD OF 'broadsheetlaw08.PrefixKeeps'. -/
def prefixKeepsCard : Claim7 := { stood := { row := prefixKeepsRow, standIns := [], harness := (true, "c9499e701302312ed8fb1f5f0603cf1520c400872724d302f9ba69ea1d0e9daf"), looks := false }, kinds := [], alts := [], laidByText := true, laidKinds := [.data, .pinned], laidTests := true, laidLooks := .later }
def PrefixKeepsCardSaid : Prop := Claim7.holds Tryd.pinned (.plain (OpenSpec.ofChange prefixKeepsSpec)) prefixKeepsCard

/-- THE TIED CARD OF 'broadsheetlaw08.PrefixBinds'. -/
def prefixBindsCard : Claim7 := { stood := { row := prefixBindsRow, standIns := [], harness := (true, "c9499e701302312ed8fb1f5f0603cf1520c400872724d302f9ba69ea1d0e9daf"), looks := false }, kinds := [], alts := [], laidByText := true, laidKinds := [.data, .pinned], laidTests := true, laidLooks := .later }
def PrefixBindsCardSaid : Prop := Claim7.holds Tryd.pinned (.plain (OpenSpec.ofChange prefixBindsSpec)) prefixBindsCard

/-- THE TIED CARD OF 'broadsheetlaw08.PrefixSmall'. -/
def prefixSmallCard : Claim7 := { stood := { row := prefixSmallRow, standIns := [], harness := (true, "c9499e701302312ed8fb1f5f0603cf1520c400872724d302f9ba69ea1d0e9daf"), looks := false }, kinds := [], alts := [], laidByText := true, laidKinds := [.data, .pinned], laidTests := true, laidLooks := .later }
def PrefixSmallCardSaid : Prop := Claim7.holds Tryd.pinned (.plain (OpenSpec.ofChange prefixSmallSpec)) prefixSmallCard

/-- THE TIED CARD OF 'broadsheetlaw05.GlyphChars'. -/
def glyphCharsCard : Claim7 := { stood := { row := glyphCharsRow, standIns := [], harness := (true, "c9499e701302312ed8fb1f5f0603cf1520c400872724d302f9ba69ea1d0e9daf"), looks := false }, kinds := [], alts := [], laidByText := true, laidKinds := [.data, .pinned], laidTests := true, laidLooks := .later }
def GlyphCharsCardSaid : Prop := Claim7.holds Tryd.pinned (.plain (OpenSpec.ofChange glyphCharsSpec)) glyphCharsCard

/-- THE TIED CARD OF 'broadsheetlaw05.GlyphNear'. -/
def glyphNearCard : Claim7 := { stood := { row := glyphNearRow, standIns := [], harness := (true, "c9499e701302312ed8fb1f5f0603cf1520c400872724d302f9ba69ea1d0e9daf"), looks := false }, kinds := [], alts := [], laidByText := true, laidKinds := [.data, .pinned], laidTests := true, laidLooks := .later }
def GlyphNearCardSaid : Prop := Claim7.holds Tryd.pinned (.plain (OpenSpec.ofChange glyphNearSpec)) glyphNearCard

/-- THE TIED CARD OF 'broadsheetlaw05.GlyphTexts'. -/
def glyphTextsCard : Claim7 := { stood := { row := glyphTextsRow, standIns := [], harness := (true, "c9499e701302312ed8fb1f5f0603cf1520c400872724d302f9ba69ea1d0e9daf"), looks := false }, kinds := [], alts := [], laidByText := true, laidKinds := [.data, .pinned], laidTests := true, laidLooks := .later }
def GlyphTextsCardSaid : Prop := Claim7.holds Tryd.pinned (.plain (OpenSpec.ofChange glyphTextsSpec)) glyphTextsCard

/-- THE TIED CARD OF 'broadsheetlaw05.GlyphNames'. -/
def glyphNamesCard : Claim7 := { stood := { row := glyphNamesRow, standIns := [], harness := (true, "c9499e701302312ed8fb1f5f0603cf1520c400872724d302f9ba69ea1d0e9daf"), looks := false }, kinds := [], alts := [], laidByText := true, laidKinds := [.data, .pinned], laidTests := true, laidLooks := .later }
def GlyphNamesCardSaid : Prop := Claim7.holds Tryd.pinned (.plain (OpenSpec.ofChange glyphNamesSpec)) glyphNamesCard

/-- THE TIED CARD OF 'broadsheetlaw05.GlyphLines'. -/
def glyphLinesCard : Claim7 := { stood := { row := glyphLinesRow, standIns := [], harness := (true, "c9499e701302312ed8fb1f5f0603cf1520c400872724d302f9ba69ea1d0e9daf"), looks := false }, kinds := [], alts := [], laidByText := true, laidKinds := [.data, .pinned], laidTests := true, laidLooks := .later }
def GlyphLinesCardSaid : Prop := Claim7.holds Tryd.pinned (.plain (OpenSpec.ofChange glyphLinesSpec)) glyphLinesCard

/-- THE TIED CARD OF 'broadsheetlaw05.GlyphSmall'. -/
def glyphSmallCard : Claim7 := { stood := { row := glyphSmallRow, standIns := [], harness := (true, "c9499e701302312ed8fb1f5f0603cf1520c400872724d302f9ba69ea1d0e9daf"), looks := false }, kinds := [], alts := [], laidByText := true, laidKinds := [.data, .pinned], laidTests := true, laidLooks := .later }
def GlyphSmallCardSaid : Prop := Claim7.holds Tryd.pinned (.plain (OpenSpec.ofChange glyphSmallSpec)) glyphSmallCard

/-- THE SECOND FORM's CARD OF 'broadsheetlaw08.PrefixSplits'. -/
def prefixSplitsUptoCard : Claim7 := { stood := { row := prefixSplitsUptoRow, standIns := [], harness := (true, "c9499e701302312ed8fb1f5f0603cf1520c400872724d302f9ba69ea1d0e9daf"), looks := false }, kinds := [], alts := [], laidByText := true, laidKinds := [.data, .pinned], laidTests := true, laidLooks := .later }
def PrefixSplitsUptoCardSaid : Prop := Claim7.holds Tryd.pinned (.plain (OpenSpec.upto prefixSplitsSpec)) prefixSplitsUptoCard

/-- THE SECOND FORM's CARD OF 'broadsheetlaw08.PrefixDeclares'. -/
def prefixDeclaresUptoCard : Claim7 := { stood := { row := prefixDeclaresUptoRow, standIns := [], harness := (true, "c9499e701302312ed8fb1f5f0603cf1520c400872724d302f9ba69ea1d0e9daf"), looks := false }, kinds := [], alts := [], laidByText := true, laidKinds := [.data, .pinned], laidTests := true, laidLooks := .later }
def PrefixDeclaresUptoCardSaid : Prop := Claim7.holds Tryd.pinned (.plain (OpenSpec.upto prefixDeclaresSpec)) prefixDeclaresUptoCard

/-- THE SECOND FORM's CARD OF 'broadsheetlaw08.PrefixKeeps'. -/
def prefixKeepsUptoCard : Claim7 := { stood := { row := prefixKeepsUptoRow, standIns := [], harness := (true, "c9499e701302312ed8fb1f5f0603cf1520c400872724d302f9ba69ea1d0e9daf"), looks := false }, kinds := [], alts := [], laidByText := true, laidKinds := [.data, .pinned], laidTests := true, laidLooks := .later }
def PrefixKeepsUptoCardSaid : Prop := Claim7.holds Tryd.pinned (.plain (OpenSpec.upto prefixKeepsSpec)) prefixKeepsUptoCard

/-- THE SECOND FORM's CARD OF 'broadsheetlaw08.PrefixBinds'. -/
def prefixBindsUptoCard : Claim7 := { stood := { row := prefixBindsUptoRow, standIns := [], harness := (true, "c9499e701302312ed8fb1f5f0603cf1520c400872724d302f9ba69ea1d0e9daf"), looks := false }, kinds := [], alts := [], laidByText := true, laidKinds := [.data, .pinned], laidTests := true, laidLooks := .later }
def PrefixBindsUptoCardSaid : Prop := Claim7.holds Tryd.pinned (.plain (OpenSpec.upto prefixBindsSpec)) prefixBindsUptoCard

/-- THE SECOND FORM's CARD OF 'broadsheetlaw08.PrefixSmall'. -/
def prefixSmallUptoCard : Claim7 := { stood := { row := prefixSmallUptoRow, standIns := [], harness := (true, "c9499e701302312ed8fb1f5f0603cf1520c400872724d302f9ba69ea1d0e9daf"), looks := false }, kinds := [], alts := [], laidByText := true, laidKinds := [.data, .pinned], laidTests := true, laidLooks := .later }
def PrefixSmallUptoCardSaid : Prop := Claim7.holds Tryd.pinned (.plain (OpenSpec.upto prefixSmallSpec)) prefixSmallUptoCard

/-- THE SECOND FORM's CARD OF 'broadsheetlaw05.GlyphChars'. -/
def glyphCharsUptoCard : Claim7 := { stood := { row := glyphCharsUptoRow, standIns := [], harness := (true, "c9499e701302312ed8fb1f5f0603cf1520c400872724d302f9ba69ea1d0e9daf"), looks := false }, kinds := [], alts := [], laidByText := true, laidKinds := [.data, .pinned], laidTests := true, laidLooks := .later }
def GlyphCharsUptoCardSaid : Prop := Claim7.holds Tryd.pinned (.plain (OpenSpec.upto glyphCharsSpec)) glyphCharsUptoCard

/-- THE SECOND FORM's CARD OF 'broadsheetlaw05.GlyphNear'. -/
def glyphNearUptoCard : Claim7 := { stood := { row := glyphNearUptoRow, standIns := [], harness := (true, "c9499e701302312ed8fb1f5f0603cf1520c400872724d302f9ba69ea1d0e9daf"), looks := false }, kinds := [], alts := [], laidByText := true, laidKinds := [.data, .pinned], laidTests := true, laidLooks := .later }
def GlyphNearUptoCardSaid : Prop := Claim7.holds Tryd.pinned (.plain (OpenSpec.upto glyphNearSpec)) glyphNearUptoCard

/-- THE SECOND FORM's CARD OF 'broadsheetlaw05.GlyphTexts'. -/
def glyphTextsUptoCard : Claim7 := { stood := { row := glyphTextsUptoRow, standIns := [], harness := (true, "c9499e701302312ed8fb1f5f0603cf1520c400872724d302f9ba69ea1d0e9daf"), looks := false }, kinds := [], alts := [], laidByText := true, laidKinds := [.data, .pinned], laidTests := true, laidLooks := .later }
def GlyphTextsUptoCardSaid : Prop := Claim7.holds Tryd.pinned (.plain (OpenSpec.upto glyphTextsSpec)) glyphTextsUptoCard

/-- THE SECOND FORM's CARD OF 'broadsheetlaw05.GlyphNames'. -/
def glyphNamesUptoCard : Claim7 := { stood := { row := glyphNamesUptoRow, standIns := [], harness := (true, "c9499e701302312ed8fb1f5f0603cf1520c400872724d302f9ba69ea1d0e9daf"), looks := false }, kinds := [], alts := [], laidByText := true, laidKinds := [.data, .pinned], laidTests := true, laidLooks := .later }
def GlyphNamesUptoCardSaid : Prop := Claim7.holds Tryd.pinned (.plain (OpenSpec.upto glyphNamesSpec)) glyphNamesUptoCard

/-- THE SECOND FORM's CARD OF 'broadsheetlaw05.GlyphLines'. -/
def glyphLinesUptoCard : Claim7 := { stood := { row := glyphLinesUptoRow, standIns := [], harness := (true, "c9499e701302312ed8fb1f5f0603cf1520c400872724d302f9ba69ea1d0e9daf"), looks := false }, kinds := [], alts := [], laidByText := true, laidKinds := [.data, .pinned], laidTests := true, laidLooks := .later }
def GlyphLinesUptoCardSaid : Prop := Claim7.holds Tryd.pinned (.plain (OpenSpec.upto glyphLinesSpec)) glyphLinesUptoCard

/-- THE SECOND FORM's CARD OF 'broadsheetlaw05.GlyphSmall'. -/
def glyphSmallUptoCard : Claim7 := { stood := { row := glyphSmallUptoRow, standIns := [], harness := (true, "c9499e701302312ed8fb1f5f0603cf1520c400872724d302f9ba69ea1d0e9daf"), looks := false }, kinds := [], alts := [], laidByText := true, laidKinds := [.data, .pinned], laidTests := true, laidLooks := .later }
def GlyphSmallUptoCardSaid : Prop := Claim7.holds Tryd.pinned (.plain (OpenSpec.upto glyphSmallSpec)) glyphSmallUptoCard
end Rows
end Go.Proofs.YtidjihhklmfaiaaDoor
