/-
  NARROWER THAN 'FOR EVERY INPUT', by the rows' own cells (each row's printed sentence says how): PrefixSplits: laid · PrefixDeclares: laid · PrefixKeeps: laid · PrefixBinds: laid · PrefixSmall: laid · GlyphChars: laid · GlyphNear: laid · GlyphTexts: laid · GlyphNames: laid · GlyphLines: laid · GlyphSmall: laid.
  DERIVED. THE GIVEN ROWS OF THIS SEAT. 11 by the template 'for every input the law returns true; each argument reads behind the call as it read before'; 0 by the template 'total and deterministic' (their statements: YtidjihhklmfaiaaDoorTotals.lean).
  GIVEN WITH THE SEED: the statements are not yours to turn. If you find one false, say at which input.
  Laid BY PROGRAM, IN A SANDBOX (cutbox-rows.mjs): the forced cells as the released guide's own fill.sh prints them over the translation e6ad99daa7bd2997… (all of the seat's roots in one cut). By AI agents, Wed Nov 11 2026. No macro, syntax, notation, axiom, sorry.
-/
import Derived.Test.YtidjihhklmfaiaaDoorChecked
import GoSem.PinnedTables
import GoSem.Claim
import GoSem.ClaimJoined
import GoSem.ClaimMapViews
import Derived.JoinedTies
import Derived.KernelRfl
namespace Go.Proofs.YtidjihhklmfaiaaDoor
/- THE CELL 'sum', in the pinned program and in every row, IS THE sha256 OF THE DUMP (.gsa) THAT YtidjihhklmfaiaaDoorProg.lean LOADS. Nothing in Lean hashes anything: it is a label: what it is worth is what the hold of that sum in a sandbox is worth. -/
noncomputable def Tryd.pinned : Pinned := { name := "ytidjihhklmfaiaadoor", sum := "e6ad99daa7bd2997d6ca308b1fa095de3371b1cdba70f548ba1618629dda77ef", checked := Tryd.checked }
namespace Rows
def none {H : Type} : Left H := { results := [], args := [] }

/- WHAT THE LISTED PACKAGE-LEVEL VARIABLES READ AS WHEN THE CALL BEGINS. Each datum BY PROGRAM (the guide's laid-datum.mjs) off the statement by which the dump's own 'gosem.cut.vars' lays the variable. In a bare row this is a premise. The card (YtidjihhklmfaiaaDoorCards.lean) ties it to the program's text. -/
def laid_unicode_utf8_acceptRanges {H : Type} : DataW H := .agg [.agg [.lit (.int .u8 128), .lit (.int .u8 191)], .agg [.lit (.int .u8 160), .lit (.int .u8 191)], .agg [.lit (.int .u8 128), .lit (.int .u8 159)], .agg [.lit (.int .u8 144), .lit (.int .u8 191)], .agg [.lit (.int .u8 128), .lit (.int .u8 143)], .agg [.lit (.int .u8 0), .lit (.int .u8 0)], .agg [.lit (.int .u8 0), .lit (.int .u8 0)], .agg [.lit (.int .u8 0), .lit (.int .u8 0)], .agg [.lit (.int .u8 0), .lit (.int .u8 0)], .agg [.lit (.int .u8 0), .lit (.int .u8 0)], .agg [.lit (.int .u8 0), .lit (.int .u8 0)], .agg [.lit (.int .u8 0), .lit (.int .u8 0)], .agg [.lit (.int .u8 0), .lit (.int .u8 0)], .agg [.lit (.int .u8 0), .lit (.int .u8 0)], .agg [.lit (.int .u8 0), .lit (.int .u8 0)], .agg [.lit (.int .u8 0), .lit (.int .u8 0)]]
/-- One of Go's own tables, pinned by name: the form's constant. -/
def laid_unicode_utf8_first : DataW Unit := Go.Pinned.utf8First

/-- 'broadsheetlaw08.PrefixSplits': WHATEVER THE INPUT: true; the input reads as it did. -/
def prefixSplitsSpec : ChangeSpec := { name := "prefixSplits", fn := fun _ => fun
  | [d1, d2, d3] => { results := [.lit (.bool true)], args := [d1, d2, d3] }
  | _ => none }
def prefixSplitsRow : OpenClaim := { program := "ytidjihhklmfaiaadoor", sum := "e6ad99daa7bd2997d6ca308b1fa095de3371b1cdba70f548ba1618629dda77ef", func := "broadsheet/broadsheetlaw08.PrefixSplits", spec := "prefixSplits", inPlace := ["internal/bytealg.IndexByteString", "internal/bytealg.IndexString"], unfollowed := true, recurses := true, named := ["internal/bytealg.MaxLen", "unicode/utf8.first", "unicode/utf8.acceptRanges"], apart := false, laid := [("unicode/utf8.acceptRanges", laid_unicode_utf8_acceptRanges), ("unicode/utf8.first", laid_unicode_utf8_first)] }
def PrefixSplitsSaid : Prop := prefixSplitsRow.holds Tryd.pinned (OpenSpec.ofChange prefixSplitsSpec)

/-- ITS FALSE NEIGHBOUR: 'it returns false'. Refute it at one input. -/
def prefixSplitsWrong : ChangeSpec := { name := "prefixSplits", fn := fun _ => fun
  | [d1, d2, d3] => { results := [.lit (.bool false)], args := [d1, d2, d3] }
  | _ => none }
def PrefixSplitsWrongFalsely : Prop := prefixSplitsRow.holds Tryd.pinned (OpenSpec.ofChange prefixSplitsWrong)

/-- 'broadsheetlaw08.PrefixDeclares': WHATEVER THE INPUT: true; the input reads as it did. -/
def prefixDeclaresSpec : ChangeSpec := { name := "prefixDeclares", fn := fun _ => fun
  | [d] => { results := [.lit (.bool true)], args := [d] }
  | _ => none }
def prefixDeclaresRow : OpenClaim := { program := "ytidjihhklmfaiaadoor", sum := "e6ad99daa7bd2997d6ca308b1fa095de3371b1cdba70f548ba1618629dda77ef", func := "broadsheet/broadsheetlaw08.PrefixDeclares", spec := "prefixDeclares", inPlace := ["internal/bytealg.IndexByteString", "internal/bytealg.IndexString"], unfollowed := true, recurses := true, named := ["internal/bytealg.MaxLen", "unicode/utf8.first", "unicode/utf8.acceptRanges"], apart := false, laid := [("unicode/utf8.acceptRanges", laid_unicode_utf8_acceptRanges), ("unicode/utf8.first", laid_unicode_utf8_first)] }
def PrefixDeclaresSaid : Prop := prefixDeclaresRow.holds Tryd.pinned (OpenSpec.ofChange prefixDeclaresSpec)

/-- ITS FALSE NEIGHBOUR: 'it returns false'. Refute it at one input. -/
def prefixDeclaresWrong : ChangeSpec := { name := "prefixDeclares", fn := fun _ => fun
  | [d] => { results := [.lit (.bool false)], args := [d] }
  | _ => none }
def PrefixDeclaresWrongFalsely : Prop := prefixDeclaresRow.holds Tryd.pinned (OpenSpec.ofChange prefixDeclaresWrong)

/-- 'broadsheetlaw08.PrefixKeeps': WHATEVER THE INPUT: true; the input reads as it did. -/
def prefixKeepsSpec : ChangeSpec := { name := "prefixKeeps", fn := fun _ => fun
  | [d1, d2, d3, d4] => { results := [.lit (.bool true)], args := [d1, d2, d3, d4] }
  | _ => none }
def prefixKeepsRow : OpenClaim := { program := "ytidjihhklmfaiaadoor", sum := "e6ad99daa7bd2997d6ca308b1fa095de3371b1cdba70f548ba1618629dda77ef", func := "broadsheet/broadsheetlaw08.PrefixKeeps", spec := "prefixKeeps", inPlace := ["internal/bytealg.IndexByteString", "internal/bytealg.IndexString"], unfollowed := true, recurses := true, named := ["internal/bytealg.MaxLen", "unicode/utf8.first", "unicode/utf8.acceptRanges"], apart := false, laid := [("unicode/utf8.acceptRanges", laid_unicode_utf8_acceptRanges), ("unicode/utf8.first", laid_unicode_utf8_first)] }
def PrefixKeepsSaid : Prop := prefixKeepsRow.holds Tryd.pinned (OpenSpec.ofChange prefixKeepsSpec)

/-- ITS FALSE NEIGHBOUR: 'it returns false'. Refute it at one input. -/
def prefixKeepsWrong : ChangeSpec := { name := "prefixKeeps", fn := fun _ => fun
  | [d1, d2, d3, d4] => { results := [.lit (.bool false)], args := [d1, d2, d3, d4] }
  | _ => none }
def PrefixKeepsWrongFalsely : Prop := prefixKeepsRow.holds Tryd.pinned (OpenSpec.ofChange prefixKeepsWrong)

/-- 'broadsheetlaw08.PrefixBinds': WHATEVER THE INPUT: true; the input reads as it did. -/
def prefixBindsSpec : ChangeSpec := { name := "prefixBinds", fn := fun _ => fun
  | [d1, d2] => { results := [.lit (.bool true)], args := [d1, d2] }
  | _ => none }
def prefixBindsRow : OpenClaim := { program := "ytidjihhklmfaiaadoor", sum := "e6ad99daa7bd2997d6ca308b1fa095de3371b1cdba70f548ba1618629dda77ef", func := "broadsheet/broadsheetlaw08.PrefixBinds", spec := "prefixBinds", inPlace := ["internal/bytealg.IndexByteString", "internal/bytealg.IndexString"], unfollowed := true, recurses := true, named := ["internal/bytealg.MaxLen", "unicode/utf8.first", "unicode/utf8.acceptRanges"], apart := false, laid := [("unicode/utf8.acceptRanges", laid_unicode_utf8_acceptRanges), ("unicode/utf8.first", laid_unicode_utf8_first)] }
def PrefixBindsSaid : Prop := prefixBindsRow.holds Tryd.pinned (OpenSpec.ofChange prefixBindsSpec)

/-- ITS FALSE NEIGHBOUR: 'it returns false'. Refute it at one input. -/
def prefixBindsWrong : ChangeSpec := { name := "prefixBinds", fn := fun _ => fun
  | [d1, d2] => { results := [.lit (.bool false)], args := [d1, d2] }
  | _ => none }
def PrefixBindsWrongFalsely : Prop := prefixBindsRow.holds Tryd.pinned (OpenSpec.ofChange prefixBindsWrong)

/-- 'broadsheetlaw08.PrefixSmall': WHATEVER THE INPUT: true; the input reads as it did. -/
def prefixSmallSpec : ChangeSpec := { name := "prefixSmall", fn := fun _ => fun
  | [d1, d2, d3] => { results := [.lit (.bool true)], args := [d1, d2, d3] }
  | _ => none }
def prefixSmallRow : OpenClaim := { program := "ytidjihhklmfaiaadoor", sum := "e6ad99daa7bd2997d6ca308b1fa095de3371b1cdba70f548ba1618629dda77ef", func := "broadsheet/broadsheetlaw08.PrefixSmall", spec := "prefixSmall", inPlace := ["internal/bytealg.IndexByteString", "internal/bytealg.IndexString"], unfollowed := true, recurses := true, named := ["internal/bytealg.MaxLen", "unicode/utf8.first", "unicode/utf8.acceptRanges"], apart := false, laid := [("unicode/utf8.acceptRanges", laid_unicode_utf8_acceptRanges), ("unicode/utf8.first", laid_unicode_utf8_first)] }
def PrefixSmallSaid : Prop := prefixSmallRow.holds Tryd.pinned (OpenSpec.ofChange prefixSmallSpec)

/-- ITS FALSE NEIGHBOUR: 'it returns false'. Refute it at one input. -/
def prefixSmallWrong : ChangeSpec := { name := "prefixSmall", fn := fun _ => fun
  | [d1, d2, d3] => { results := [.lit (.bool false)], args := [d1, d2, d3] }
  | _ => none }
def PrefixSmallWrongFalsely : Prop := prefixSmallRow.holds Tryd.pinned (OpenSpec.ofChange prefixSmallWrong)

/-- 'broadsheetlaw05.GlyphChars': WHATEVER THE INPUT: true; the input reads as it did. -/
def glyphCharsSpec : ChangeSpec := { name := "glyphChars", fn := fun _ => fun
  | [d] => { results := [.lit (.bool true)], args := [d] }
  | _ => none }
def glyphCharsRow : OpenClaim := { program := "ytidjihhklmfaiaadoor", sum := "e6ad99daa7bd2997d6ca308b1fa095de3371b1cdba70f548ba1618629dda77ef", func := "broadsheet/broadsheetlaw05.GlyphChars", spec := "glyphChars", inPlace := ["internal/bytealg.CountString", "internal/bytealg.IndexByteString", "internal/bytealg.IndexString", "internal/abi.NoEscape", "internal/bytealg.MakeNoZero"], named := ["unicode/utf8.first", "unicode/utf8.acceptRanges", "internal/bytealg.MaxLen"], apart := false, laid := [("unicode/utf8.acceptRanges", laid_unicode_utf8_acceptRanges), ("unicode/utf8.first", laid_unicode_utf8_first)] }
def GlyphCharsSaid : Prop := glyphCharsRow.holds Tryd.pinned (OpenSpec.ofChange glyphCharsSpec)

/-- ITS FALSE NEIGHBOUR: 'it returns false'. Refute it at one input. -/
def glyphCharsWrong : ChangeSpec := { name := "glyphChars", fn := fun _ => fun
  | [d] => { results := [.lit (.bool false)], args := [d] }
  | _ => none }
def GlyphCharsWrongFalsely : Prop := glyphCharsRow.holds Tryd.pinned (OpenSpec.ofChange glyphCharsWrong)

/-- 'broadsheetlaw05.GlyphNear': WHATEVER THE INPUT: true; the input reads as it did. -/
def glyphNearSpec : ChangeSpec := { name := "glyphNear", fn := fun _ => fun
  | [d] => { results := [.lit (.bool true)], args := [d] }
  | _ => none }
def glyphNearRow : OpenClaim := { program := "ytidjihhklmfaiaadoor", sum := "e6ad99daa7bd2997d6ca308b1fa095de3371b1cdba70f548ba1618629dda77ef", func := "broadsheet/broadsheetlaw05.GlyphNear", spec := "glyphNear", inPlace := ["internal/bytealg.CountString", "internal/bytealg.IndexByteString", "internal/bytealg.IndexString", "internal/abi.NoEscape", "internal/bytealg.MakeNoZero"], named := ["unicode/utf8.first", "unicode/utf8.acceptRanges", "internal/bytealg.MaxLen"], apart := false, laid := [("unicode/utf8.acceptRanges", laid_unicode_utf8_acceptRanges), ("unicode/utf8.first", laid_unicode_utf8_first)] }
def GlyphNearSaid : Prop := glyphNearRow.holds Tryd.pinned (OpenSpec.ofChange glyphNearSpec)

/-- ITS FALSE NEIGHBOUR: 'it returns false'. Refute it at one input. -/
def glyphNearWrong : ChangeSpec := { name := "glyphNear", fn := fun _ => fun
  | [d] => { results := [.lit (.bool false)], args := [d] }
  | _ => none }
def GlyphNearWrongFalsely : Prop := glyphNearRow.holds Tryd.pinned (OpenSpec.ofChange glyphNearWrong)

/-- 'broadsheetlaw05.GlyphTexts': WHATEVER THE INPUT: true; the input reads as it did. -/
def glyphTextsSpec : ChangeSpec := { name := "glyphTexts", fn := fun _ => fun
  | [d] => { results := [.lit (.bool true)], args := [d] }
  | _ => none }
def glyphTextsRow : OpenClaim := { program := "ytidjihhklmfaiaadoor", sum := "e6ad99daa7bd2997d6ca308b1fa095de3371b1cdba70f548ba1618629dda77ef", func := "broadsheet/broadsheetlaw05.GlyphTexts", spec := "glyphTexts", inPlace := ["internal/bytealg.CountString", "internal/bytealg.IndexByteString", "internal/bytealg.IndexString", "internal/abi.NoEscape", "internal/bytealg.MakeNoZero"], named := ["unicode/utf8.first", "unicode/utf8.acceptRanges", "internal/bytealg.MaxLen"], apart := false, laid := [("unicode/utf8.acceptRanges", laid_unicode_utf8_acceptRanges), ("unicode/utf8.first", laid_unicode_utf8_first)] }
def GlyphTextsSaid : Prop := glyphTextsRow.holds Tryd.pinned (OpenSpec.ofChange glyphTextsSpec)

/-- ITS FALSE NEIGHBOUR: 'it returns false'. Refute it at one input. -/
def glyphTextsWrong : ChangeSpec := { name := "glyphTexts", fn := fun _ => fun
  | [d] => { results := [.lit (.bool false)], args := [d] }
  | _ => none }
def GlyphTextsWrongFalsely : Prop := glyphTextsRow.holds Tryd.pinned (OpenSpec.ofChange glyphTextsWrong)

/-- 'broadsheetlaw05.GlyphNames': WHATEVER THE INPUT: true; the input reads as it did. -/
def glyphNamesSpec : ChangeSpec := { name := "glyphNames", fn := fun _ => fun
  | [d] => { results := [.lit (.bool true)], args := [d] }
  | _ => none }
def glyphNamesRow : OpenClaim := { program := "ytidjihhklmfaiaadoor", sum := "e6ad99daa7bd2997d6ca308b1fa095de3371b1cdba70f548ba1618629dda77ef", func := "broadsheet/broadsheetlaw05.GlyphNames", spec := "glyphNames", inPlace := ["internal/bytealg.CountString", "internal/bytealg.IndexByteString", "internal/bytealg.IndexString", "internal/abi.NoEscape", "internal/bytealg.MakeNoZero"], named := ["unicode/utf8.first", "unicode/utf8.acceptRanges", "internal/bytealg.MaxLen"], apart := false, laid := [("unicode/utf8.acceptRanges", laid_unicode_utf8_acceptRanges), ("unicode/utf8.first", laid_unicode_utf8_first)] }
def GlyphNamesSaid : Prop := glyphNamesRow.holds Tryd.pinned (OpenSpec.ofChange glyphNamesSpec)

/-- ITS FALSE NEIGHBOUR: 'it returns false'. Refute it at one input. -/
def glyphNamesWrong : ChangeSpec := { name := "glyphNames", fn := fun _ => fun
  | [d] => { results := [.lit (.bool false)], args := [d] }
  | _ => none }
def GlyphNamesWrongFalsely : Prop := glyphNamesRow.holds Tryd.pinned (OpenSpec.ofChange glyphNamesWrong)

/-- 'broadsheetlaw05.GlyphLines': WHATEVER THE INPUT: true; the input reads as it did. -/
def glyphLinesSpec : ChangeSpec := { name := "glyphLines", fn := fun _ => fun
  | [d1, d2] => { results := [.lit (.bool true)], args := [d1, d2] }
  | _ => none }
def glyphLinesRow : OpenClaim := { program := "ytidjihhklmfaiaadoor", sum := "e6ad99daa7bd2997d6ca308b1fa095de3371b1cdba70f548ba1618629dda77ef", func := "broadsheet/broadsheetlaw05.GlyphLines", spec := "glyphLines", inPlace := ["internal/bytealg.CountString", "internal/bytealg.IndexByteString", "internal/bytealg.IndexString", "internal/abi.NoEscape", "internal/bytealg.MakeNoZero"], named := ["unicode/utf8.first", "unicode/utf8.acceptRanges", "internal/bytealg.MaxLen"], apart := false, laid := [("unicode/utf8.acceptRanges", laid_unicode_utf8_acceptRanges), ("unicode/utf8.first", laid_unicode_utf8_first)] }
def GlyphLinesSaid : Prop := glyphLinesRow.holds Tryd.pinned (OpenSpec.ofChange glyphLinesSpec)

/-- ITS FALSE NEIGHBOUR: 'it returns false'. Refute it at one input. -/
def glyphLinesWrong : ChangeSpec := { name := "glyphLines", fn := fun _ => fun
  | [d1, d2] => { results := [.lit (.bool false)], args := [d1, d2] }
  | _ => none }
def GlyphLinesWrongFalsely : Prop := glyphLinesRow.holds Tryd.pinned (OpenSpec.ofChange glyphLinesWrong)

/-- 'broadsheetlaw05.GlyphSmall': WHATEVER THE INPUT: true; the input reads as it did. -/
def glyphSmallSpec : ChangeSpec := { name := "glyphSmall", fn := fun _ => fun
  | [d] => { results := [.lit (.bool true)], args := [d] }
  | _ => none }
def glyphSmallRow : OpenClaim := { program := "ytidjihhklmfaiaadoor", sum := "e6ad99daa7bd2997d6ca308b1fa095de3371b1cdba70f548ba1618629dda77ef", func := "broadsheet/broadsheetlaw05.GlyphSmall", spec := "glyphSmall", inPlace := ["internal/bytealg.CountString", "internal/bytealg.IndexByteString", "internal/bytealg.IndexString", "internal/abi.NoEscape", "internal/bytealg.MakeNoZero"], named := ["unicode/utf8.first", "unicode/utf8.acceptRanges", "internal/bytealg.MaxLen"], apart := false, laid := [("unicode/utf8.acceptRanges", laid_unicode_utf8_acceptRanges), ("unicode/utf8.first", laid_unicode_utf8_first)] }
def GlyphSmallSaid : Prop := glyphSmallRow.holds Tryd.pinned (OpenSpec.ofChange glyphSmallSpec)

/-- ITS FALSE NEIGHBOUR: 'it returns false'. Refute it at one input. -/
def glyphSmallWrong : ChangeSpec := { name := "glyphSmall", fn := fun _ => fun
  | [d] => { results := [.lit (.bool false)], args := [d] }
  | _ => none }
def GlyphSmallWrongFalsely : Prop := glyphSmallRow.holds Tryd.pinned (OpenSpec.ofChange glyphSmallWrong)

/- THE SECOND FORM. 'bulk': how many values and letters a reading holds, each counted each time it is reached (what is shared counts as often as it is met; a slice's spare places count too). A statement '..UptoSaid' is the law's where the arguments, and the package variables that the reading takes, are together of bulk at most 1048576: NARROWER than '..Said'. Prove '..Said' where nothing that the law and all that it calls make is longer than what came in: it says more and counts as full. Else prove '..UptoSaid'. A law counts once. -/
mutual
def uptoBulk {H : Type} : DataW H → Nat
  | .lit (.string bytes) => bytes.length + 1
  | .lit _ => 1
  | .nil => 1
  | .ptr d => uptoBulk d + 1
  | .slice elems spare => uptoBulkAll elems + uptoBulkAll spare + 1
  | .agg parts => uptoBulkAll parts + 1
  | .iface _ d => uptoBulk d + 1
  | .map entries => uptoBulkEntries entries + 1
  | .held _ => 1
def uptoBulkAll {H : Type} : List (DataW H) → Nat
  | [] => 0
  | d :: r => uptoBulk d + uptoBulkAll r
def uptoBulkEntries {H : Type} : List (Lit × DataW H) → Nat
  | [] => 0
  | x :: r => uptoBulkEntry x + uptoBulkEntries r
def uptoBulkEntry {H : Type} : Lit × DataW H → Nat
  | (.string bytes, d) => bytes.length + uptoBulk d + 1
  | (_, d) => uptoBulk d + 1
 end
def uptoSmall : (H : Type) → List (DataW H) → Bool := fun _ ds => decide (uptoBulkAll ds ≤ 1048576)
def OpenSpec.upto (s : _root_.Go.ChangeSpec) : _root_.Go.OpenSpec := { _root_.Go.OpenSpec.ofChange s with cond := some uptoSmall }

/-- 'broadsheetlaw08.PrefixSplits', WHERE WHAT IT READS IS OF BULK AT MOST 1048576: true; the input reads as it did. -/
def prefixSplitsUptoRow : OpenClaim := { program := "ytidjihhklmfaiaadoor", sum := "e6ad99daa7bd2997d6ca308b1fa095de3371b1cdba70f548ba1618629dda77ef", func := "broadsheet/broadsheetlaw08.PrefixSplits", spec := "prefixSplits", inPlace := ["internal/bytealg.IndexByteString", "internal/bytealg.IndexString"], unfollowed := true, recurses := true, named := ["internal/bytealg.MaxLen", "unicode/utf8.first", "unicode/utf8.acceptRanges"], apart := false, laid := [("unicode/utf8.acceptRanges", laid_unicode_utf8_acceptRanges), ("unicode/utf8.first", laid_unicode_utf8_first)], narrowed := true }
def PrefixSplitsUptoSaid : Prop := prefixSplitsUptoRow.holds Tryd.pinned (OpenSpec.upto prefixSplitsSpec)

/-- 'broadsheetlaw08.PrefixDeclares', WHERE WHAT IT READS IS OF BULK AT MOST 1048576: true; the input reads as it did. -/
def prefixDeclaresUptoRow : OpenClaim := { program := "ytidjihhklmfaiaadoor", sum := "e6ad99daa7bd2997d6ca308b1fa095de3371b1cdba70f548ba1618629dda77ef", func := "broadsheet/broadsheetlaw08.PrefixDeclares", spec := "prefixDeclares", inPlace := ["internal/bytealg.IndexByteString", "internal/bytealg.IndexString"], unfollowed := true, recurses := true, named := ["internal/bytealg.MaxLen", "unicode/utf8.first", "unicode/utf8.acceptRanges"], apart := false, laid := [("unicode/utf8.acceptRanges", laid_unicode_utf8_acceptRanges), ("unicode/utf8.first", laid_unicode_utf8_first)], narrowed := true }
def PrefixDeclaresUptoSaid : Prop := prefixDeclaresUptoRow.holds Tryd.pinned (OpenSpec.upto prefixDeclaresSpec)

/-- 'broadsheetlaw08.PrefixKeeps', WHERE WHAT IT READS IS OF BULK AT MOST 1048576: true; the input reads as it did. -/
def prefixKeepsUptoRow : OpenClaim := { program := "ytidjihhklmfaiaadoor", sum := "e6ad99daa7bd2997d6ca308b1fa095de3371b1cdba70f548ba1618629dda77ef", func := "broadsheet/broadsheetlaw08.PrefixKeeps", spec := "prefixKeeps", inPlace := ["internal/bytealg.IndexByteString", "internal/bytealg.IndexString"], unfollowed := true, recurses := true, named := ["internal/bytealg.MaxLen", "unicode/utf8.first", "unicode/utf8.acceptRanges"], apart := false, laid := [("unicode/utf8.acceptRanges", laid_unicode_utf8_acceptRanges), ("unicode/utf8.first", laid_unicode_utf8_first)], narrowed := true }
def PrefixKeepsUptoSaid : Prop := prefixKeepsUptoRow.holds Tryd.pinned (OpenSpec.upto prefixKeepsSpec)

/-- 'broadsheetlaw08.PrefixBinds', WHERE WHAT IT READS IS OF BULK AT MOST 1048576: true; the input reads as it did. -/
def prefixBindsUptoRow : OpenClaim := { program := "ytidjihhklmfaiaadoor", sum := "e6ad99daa7bd2997d6ca308b1fa095de3371b1cdba70f548ba1618629dda77ef", func := "broadsheet/broadsheetlaw08.PrefixBinds", spec := "prefixBinds", inPlace := ["internal/bytealg.IndexByteString", "internal/bytealg.IndexString"], unfollowed := true, recurses := true, named := ["internal/bytealg.MaxLen", "unicode/utf8.first", "unicode/utf8.acceptRanges"], apart := false, laid := [("unicode/utf8.acceptRanges", laid_unicode_utf8_acceptRanges), ("unicode/utf8.first", laid_unicode_utf8_first)], narrowed := true }
def PrefixBindsUptoSaid : Prop := prefixBindsUptoRow.holds Tryd.pinned (OpenSpec.upto prefixBindsSpec)

/-- 'broadsheetlaw08.PrefixSmall', WHERE WHAT IT READS IS OF BULK AT MOST 1048576: true; the input reads as it did. -/
def prefixSmallUptoRow : OpenClaim := { program := "ytidjihhklmfaiaadoor", sum := "e6ad99daa7bd2997d6ca308b1fa095de3371b1cdba70f548ba1618629dda77ef", func := "broadsheet/broadsheetlaw08.PrefixSmall", spec := "prefixSmall", inPlace := ["internal/bytealg.IndexByteString", "internal/bytealg.IndexString"], unfollowed := true, recurses := true, named := ["internal/bytealg.MaxLen", "unicode/utf8.first", "unicode/utf8.acceptRanges"], apart := false, laid := [("unicode/utf8.acceptRanges", laid_unicode_utf8_acceptRanges), ("unicode/utf8.first", laid_unicode_utf8_first)], narrowed := true }
def PrefixSmallUptoSaid : Prop := prefixSmallUptoRow.holds Tryd.pinned (OpenSpec.upto prefixSmallSpec)

/-- 'broadsheetlaw05.GlyphChars', WHERE WHAT IT READS IS OF BULK AT MOST 1048576: true; the input reads as it did. -/
def glyphCharsUptoRow : OpenClaim := { program := "ytidjihhklmfaiaadoor", sum := "e6ad99daa7bd2997d6ca308b1fa095de3371b1cdba70f548ba1618629dda77ef", func := "broadsheet/broadsheetlaw05.GlyphChars", spec := "glyphChars", inPlace := ["internal/bytealg.CountString", "internal/bytealg.IndexByteString", "internal/bytealg.IndexString", "internal/abi.NoEscape", "internal/bytealg.MakeNoZero"], named := ["unicode/utf8.first", "unicode/utf8.acceptRanges", "internal/bytealg.MaxLen"], apart := false, laid := [("unicode/utf8.acceptRanges", laid_unicode_utf8_acceptRanges), ("unicode/utf8.first", laid_unicode_utf8_first)], narrowed := true }
def GlyphCharsUptoSaid : Prop := glyphCharsUptoRow.holds Tryd.pinned (OpenSpec.upto glyphCharsSpec)

/-- 'broadsheetlaw05.GlyphNear', WHERE WHAT IT READS IS OF BULK AT MOST 1048576: true; the input reads as it did. -/
def glyphNearUptoRow : OpenClaim := { program := "ytidjihhklmfaiaadoor", sum := "e6ad99daa7bd2997d6ca308b1fa095de3371b1cdba70f548ba1618629dda77ef", func := "broadsheet/broadsheetlaw05.GlyphNear", spec := "glyphNear", inPlace := ["internal/bytealg.CountString", "internal/bytealg.IndexByteString", "internal/bytealg.IndexString", "internal/abi.NoEscape", "internal/bytealg.MakeNoZero"], named := ["unicode/utf8.first", "unicode/utf8.acceptRanges", "internal/bytealg.MaxLen"], apart := false, laid := [("unicode/utf8.acceptRanges", laid_unicode_utf8_acceptRanges), ("unicode/utf8.first", laid_unicode_utf8_first)], narrowed := true }
def GlyphNearUptoSaid : Prop := glyphNearUptoRow.holds Tryd.pinned (OpenSpec.upto glyphNearSpec)

/-- 'broadsheetlaw05.GlyphTexts', WHERE WHAT IT READS IS OF BULK AT MOST 1048576: true; the input reads as it did. -/
def glyphTextsUptoRow : OpenClaim := { program := "ytidjihhklmfaiaadoor", sum := "e6ad99daa7bd2997d6ca308b1fa095de3371b1cdba70f548ba1618629dda77ef", func := "broadsheet/broadsheetlaw05.GlyphTexts", spec := "glyphTexts", inPlace := ["internal/bytealg.CountString", "internal/bytealg.IndexByteString", "internal/bytealg.IndexString", "internal/abi.NoEscape", "internal/bytealg.MakeNoZero"], named := ["unicode/utf8.first", "unicode/utf8.acceptRanges", "internal/bytealg.MaxLen"], apart := false, laid := [("unicode/utf8.acceptRanges", laid_unicode_utf8_acceptRanges), ("unicode/utf8.first", laid_unicode_utf8_first)], narrowed := true }
def GlyphTextsUptoSaid : Prop := glyphTextsUptoRow.holds Tryd.pinned (OpenSpec.upto glyphTextsSpec)

/-- 'broadsheetlaw05.GlyphNames', WHERE WHAT IT READS IS OF BULK AT MOST 1048576: true; the input reads as it did. -/
def glyphNamesUptoRow : OpenClaim := { program := "ytidjihhklmfaiaadoor", sum := "e6ad99daa7bd2997d6ca308b1fa095de3371b1cdba70f548ba1618629dda77ef", func := "broadsheet/broadsheetlaw05.GlyphNames", spec := "glyphNames", inPlace := ["internal/bytealg.CountString", "internal/bytealg.IndexByteString", "internal/bytealg.IndexString", "internal/abi.NoEscape", "internal/bytealg.MakeNoZero"], named := ["unicode/utf8.first", "unicode/utf8.acceptRanges", "internal/bytealg.MaxLen"], apart := false, laid := [("unicode/utf8.acceptRanges", laid_unicode_utf8_acceptRanges), ("unicode/utf8.first", laid_unicode_utf8_first)], narrowed := true }
def GlyphNamesUptoSaid : Prop := glyphNamesUptoRow.holds Tryd.pinned (OpenSpec.upto glyphNamesSpec)

/-- 'broadsheetlaw05.GlyphLines', WHERE WHAT IT READS IS OF BULK AT MOST 1048576: true; the input reads as it did. -/
def glyphLinesUptoRow : OpenClaim := { program := "ytidjihhklmfaiaadoor", sum := "e6ad99daa7bd2997d6ca308b1fa095de3371b1cdba70f548ba1618629dda77ef", func := "broadsheet/broadsheetlaw05.GlyphLines", spec := "glyphLines", inPlace := ["internal/bytealg.CountString", "internal/bytealg.IndexByteString", "internal/bytealg.IndexString", "internal/abi.NoEscape", "internal/bytealg.MakeNoZero"], named := ["unicode/utf8.first", "unicode/utf8.acceptRanges", "internal/bytealg.MaxLen"], apart := false, laid := [("unicode/utf8.acceptRanges", laid_unicode_utf8_acceptRanges), ("unicode/utf8.first", laid_unicode_utf8_first)], narrowed := true }
def GlyphLinesUptoSaid : Prop := glyphLinesUptoRow.holds Tryd.pinned (OpenSpec.upto glyphLinesSpec)

/-- 'broadsheetlaw05.GlyphSmall', WHERE WHAT IT READS IS OF BULK AT MOST 1048576: true; the input reads as it did. -/
def glyphSmallUptoRow : OpenClaim := { program := "ytidjihhklmfaiaadoor", sum := "e6ad99daa7bd2997d6ca308b1fa095de3371b1cdba70f548ba1618629dda77ef", func := "broadsheet/broadsheetlaw05.GlyphSmall", spec := "glyphSmall", inPlace := ["internal/bytealg.CountString", "internal/bytealg.IndexByteString", "internal/bytealg.IndexString", "internal/abi.NoEscape", "internal/bytealg.MakeNoZero"], named := ["unicode/utf8.first", "unicode/utf8.acceptRanges", "internal/bytealg.MaxLen"], apart := false, laid := [("unicode/utf8.acceptRanges", laid_unicode_utf8_acceptRanges), ("unicode/utf8.first", laid_unicode_utf8_first)], narrowed := true }
def GlyphSmallUptoSaid : Prop := glyphSmallUptoRow.holds Tryd.pinned (OpenSpec.upto glyphSmallSpec)

end Rows
end Go.Proofs.YtidjihhklmfaiaaDoor
