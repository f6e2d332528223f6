/-
  NARROWER THAN 'FOR EVERY INPUT', by the rows' own cells (each row's printed sentence says how): ETagMays: laid · ETagSmall: laid · ETagLists: laid · ETagBack: laid · ETagMatches: laid · FieldParses: laid · FieldLong: laid · FieldPrints: laid · FieldBack: laid · FieldAgain: laid · FieldSmall: laid.
  DERIVED. THE GIVEN ROWS OF THIS SEAT. 11 by the template 'for every input the law returns true; each argument reads behind the call as it read before'; 0 by the template 'total and deterministic' (their statements: YtodhbldnmepmaaaDoorTotals.lean).
  GIVEN WITH THE SEED: the statements are not yours to turn. If you find one false, say at which input.
  Laid BY PROGRAM, IN A SANDBOX (cutbox-rows.mjs): the forced cells as the released guide's own fill.sh prints them over the translation 0d51b1de08c2186e… (all of the seat's roots in one cut). By AI agents, Wed Nov 11 2026. No macro, syntax, notation, axiom, sorry.
-/
import Derived.Test.YtodhbldnmepmaaaDoorChecked
import GoSem.PinnedTables
import GoSem.Claim
import GoSem.ClaimJoined
import GoSem.ClaimMapViews
import Derived.JoinedTies
import Derived.KernelRfl
namespace Go.Proofs.YtodhbldnmepmaaaDoor
/- THE CELL 'sum', in the pinned program and in every row, IS THE sha256 OF THE DUMP (.gsa) THAT YtodhbldnmepmaaaDoorProg.lean LOADS. Nothing in Lean hashes anything: it is a label: what it is worth is what the hold of that sum in a sandbox is worth. -/
noncomputable def Tryd.pinned : Pinned := { name := "ytodhbldnmepmaaadoor", sum := "0d51b1de08c2186ebc962652b41faf242bd7801e9c1b7e75defd11538872373b", checked := Tryd.checked }
namespace Rows
def none {H : Type} : Left H := { results := [], args := [] }

/- WHAT THE LISTED PACKAGE-LEVEL VARIABLES READ AS WHEN THE CALL BEGINS. Each datum BY PROGRAM (the guide's laid-datum.mjs) off the statement by which the dump's own 'gosem.cut.vars' lays the variable. In a bare row this is a premise. The card (YtodhbldnmepmaaaDoorCards.lean) ties it to the program's text. -/
def laid_unicode_utf8_acceptRanges {H : Type} : DataW H := .agg [.agg [.lit (.int .u8 128), .lit (.int .u8 191)], .agg [.lit (.int .u8 160), .lit (.int .u8 191)], .agg [.lit (.int .u8 128), .lit (.int .u8 159)], .agg [.lit (.int .u8 144), .lit (.int .u8 191)], .agg [.lit (.int .u8 128), .lit (.int .u8 143)], .agg [.lit (.int .u8 0), .lit (.int .u8 0)], .agg [.lit (.int .u8 0), .lit (.int .u8 0)], .agg [.lit (.int .u8 0), .lit (.int .u8 0)], .agg [.lit (.int .u8 0), .lit (.int .u8 0)], .agg [.lit (.int .u8 0), .lit (.int .u8 0)], .agg [.lit (.int .u8 0), .lit (.int .u8 0)], .agg [.lit (.int .u8 0), .lit (.int .u8 0)], .agg [.lit (.int .u8 0), .lit (.int .u8 0)], .agg [.lit (.int .u8 0), .lit (.int .u8 0)], .agg [.lit (.int .u8 0), .lit (.int .u8 0)], .agg [.lit (.int .u8 0), .lit (.int .u8 0)]]
/-- One of Go's own tables, pinned by name: the form's constant. -/
def laid_unicode_utf8_first : DataW Unit := Go.Pinned.utf8First

/-- 'broadsheetlaw17.ETagMays': WHATEVER THE INPUT: true; the input reads as it did. -/
def eTagMaysSpec : ChangeSpec := { name := "eTagMays", fn := fun _ => fun
  | [d1, d2, d3, d4, d5, d6] => { results := [.lit (.bool true)], args := [d1, d2, d3, d4, d5, d6] }
  | _ => none }
def eTagMaysRow : OpenClaim := { program := "ytodhbldnmepmaaadoor", sum := "0d51b1de08c2186ebc962652b41faf242bd7801e9c1b7e75defd11538872373b", func := "broadsheet/broadsheetlaw17.ETagMays", spec := "eTagMays", inPlace := ["internal/bytealg.IndexByteString", "internal/bytealg.IndexString"], unfollowed := true, recurses := true, named := ["unicode/utf8.first", "unicode/utf8.acceptRanges", "internal/bytealg.MaxLen"], apart := false, laid := [("unicode/utf8.acceptRanges", laid_unicode_utf8_acceptRanges), ("unicode/utf8.first", laid_unicode_utf8_first)] }
def ETagMaysSaid : Prop := eTagMaysRow.holds Tryd.pinned (OpenSpec.ofChange eTagMaysSpec)

/-- ITS FALSE NEIGHBOUR: 'it returns false'. Refute it at one input. -/
def eTagMaysWrong : ChangeSpec := { name := "eTagMays", fn := fun _ => fun
  | [d1, d2, d3, d4, d5, d6] => { results := [.lit (.bool false)], args := [d1, d2, d3, d4, d5, d6] }
  | _ => none }
def ETagMaysWrongFalsely : Prop := eTagMaysRow.holds Tryd.pinned (OpenSpec.ofChange eTagMaysWrong)

/-- 'broadsheetlaw17.ETagSmall': WHATEVER THE INPUT: true; the input reads as it did. -/
def eTagSmallSpec : ChangeSpec := { name := "eTagSmall", fn := fun _ => fun
  | [d1, d2, d3, d4, d5] => { results := [.lit (.bool true)], args := [d1, d2, d3, d4, d5] }
  | _ => none }
def eTagSmallRow : OpenClaim := { program := "ytodhbldnmepmaaadoor", sum := "0d51b1de08c2186ebc962652b41faf242bd7801e9c1b7e75defd11538872373b", func := "broadsheet/broadsheetlaw17.ETagSmall", spec := "eTagSmall", inPlace := ["internal/bytealg.IndexByteString", "internal/bytealg.IndexString"], unfollowed := true, recurses := true, named := ["unicode/utf8.first", "unicode/utf8.acceptRanges", "internal/bytealg.MaxLen"], apart := false, laid := [("unicode/utf8.acceptRanges", laid_unicode_utf8_acceptRanges), ("unicode/utf8.first", laid_unicode_utf8_first)] }
def ETagSmallSaid : Prop := eTagSmallRow.holds Tryd.pinned (OpenSpec.ofChange eTagSmallSpec)

/-- ITS FALSE NEIGHBOUR: 'it returns false'. Refute it at one input. -/
def eTagSmallWrong : ChangeSpec := { name := "eTagSmall", fn := fun _ => fun
  | [d1, d2, d3, d4, d5] => { results := [.lit (.bool false)], args := [d1, d2, d3, d4, d5] }
  | _ => none }
def ETagSmallWrongFalsely : Prop := eTagSmallRow.holds Tryd.pinned (OpenSpec.ofChange eTagSmallWrong)

/-- 'broadsheetlaw17.ETagLists': WHATEVER THE INPUT: true; the input reads as it did. -/
def eTagListsSpec : ChangeSpec := { name := "eTagLists", fn := fun _ => fun
  | [d1, d2] => { results := [.lit (.bool true)], args := [d1, d2] }
  | _ => none }
def eTagListsRow : OpenClaim := { program := "ytodhbldnmepmaaadoor", sum := "0d51b1de08c2186ebc962652b41faf242bd7801e9c1b7e75defd11538872373b", func := "broadsheet/broadsheetlaw17.ETagLists", spec := "eTagLists", inPlace := ["internal/bytealg.IndexByteString", "internal/bytealg.IndexString"], unfollowed := true, recurses := true, named := ["unicode/utf8.first", "unicode/utf8.acceptRanges", "internal/bytealg.MaxLen"], apart := false, laid := [("unicode/utf8.acceptRanges", laid_unicode_utf8_acceptRanges), ("unicode/utf8.first", laid_unicode_utf8_first)] }
def ETagListsSaid : Prop := eTagListsRow.holds Tryd.pinned (OpenSpec.ofChange eTagListsSpec)

/-- ITS FALSE NEIGHBOUR: 'it returns false'. Refute it at one input. -/
def eTagListsWrong : ChangeSpec := { name := "eTagLists", fn := fun _ => fun
  | [d1, d2] => { results := [.lit (.bool false)], args := [d1, d2] }
  | _ => none }
def ETagListsWrongFalsely : Prop := eTagListsRow.holds Tryd.pinned (OpenSpec.ofChange eTagListsWrong)

/-- 'broadsheetlaw17.ETagBack': WHATEVER THE INPUT: true; the input reads as it did. -/
def eTagBackSpec : ChangeSpec := { name := "eTagBack", fn := fun _ => fun
  | [d1, d2] => { results := [.lit (.bool true)], args := [d1, d2] }
  | _ => none }
def eTagBackRow : OpenClaim := { program := "ytodhbldnmepmaaadoor", sum := "0d51b1de08c2186ebc962652b41faf242bd7801e9c1b7e75defd11538872373b", func := "broadsheet/broadsheetlaw17.ETagBack", spec := "eTagBack", inPlace := ["internal/bytealg.IndexByteString", "internal/bytealg.IndexString"], unfollowed := true, recurses := true, named := ["unicode/utf8.first", "unicode/utf8.acceptRanges", "internal/bytealg.MaxLen"], apart := false, laid := [("unicode/utf8.acceptRanges", laid_unicode_utf8_acceptRanges), ("unicode/utf8.first", laid_unicode_utf8_first)] }
def ETagBackSaid : Prop := eTagBackRow.holds Tryd.pinned (OpenSpec.ofChange eTagBackSpec)

/-- ITS FALSE NEIGHBOUR: 'it returns false'. Refute it at one input. -/
def eTagBackWrong : ChangeSpec := { name := "eTagBack", fn := fun _ => fun
  | [d1, d2] => { results := [.lit (.bool false)], args := [d1, d2] }
  | _ => none }
def ETagBackWrongFalsely : Prop := eTagBackRow.holds Tryd.pinned (OpenSpec.ofChange eTagBackWrong)

/-- 'broadsheetlaw17.ETagMatches': WHATEVER THE INPUT: true; the input reads as it did. -/
def eTagMatchesSpec : ChangeSpec := { name := "eTagMatches", fn := fun _ => fun
  | [d1, d2, d3] => { results := [.lit (.bool true)], args := [d1, d2, d3] }
  | _ => none }
def eTagMatchesRow : OpenClaim := { program := "ytodhbldnmepmaaadoor", sum := "0d51b1de08c2186ebc962652b41faf242bd7801e9c1b7e75defd11538872373b", func := "broadsheet/broadsheetlaw17.ETagMatches", spec := "eTagMatches", inPlace := ["internal/bytealg.IndexByteString", "internal/bytealg.IndexString"], unfollowed := true, recurses := true, named := ["unicode/utf8.first", "unicode/utf8.acceptRanges", "internal/bytealg.MaxLen"], apart := false, laid := [("unicode/utf8.acceptRanges", laid_unicode_utf8_acceptRanges), ("unicode/utf8.first", laid_unicode_utf8_first)] }
def ETagMatchesSaid : Prop := eTagMatchesRow.holds Tryd.pinned (OpenSpec.ofChange eTagMatchesSpec)

/-- ITS FALSE NEIGHBOUR: 'it returns false'. Refute it at one input. -/
def eTagMatchesWrong : ChangeSpec := { name := "eTagMatches", fn := fun _ => fun
  | [d1, d2, d3] => { results := [.lit (.bool false)], args := [d1, d2, d3] }
  | _ => none }
def ETagMatchesWrongFalsely : Prop := eTagMatchesRow.holds Tryd.pinned (OpenSpec.ofChange eTagMatchesWrong)

/-- 'broadsheetlaw18.FieldParses': WHATEVER THE INPUT: true; the input reads as it did. -/
def fieldParsesSpec : ChangeSpec := { name := "fieldParses", fn := fun _ => fun
  | [d] => { results := [.lit (.bool true)], args := [d] }
  | _ => none }
def fieldParsesRow : OpenClaim := { program := "ytodhbldnmepmaaadoor", sum := "0d51b1de08c2186ebc962652b41faf242bd7801e9c1b7e75defd11538872373b", func := "broadsheet/broadsheetlaw18.FieldParses", spec := "fieldParses", inPlace := ["internal/bytealg.IndexByteString", "internal/bytealg.IndexString", "internal/abi.NoEscape", "internal/bytealg.MakeNoZero"], unfollowed := true, recurses := true, named := ["internal/bytealg.MaxLen", "unicode/utf8.first", "unicode/utf8.acceptRanges"], apart := false, laid := [("unicode/utf8.acceptRanges", laid_unicode_utf8_acceptRanges), ("unicode/utf8.first", laid_unicode_utf8_first)] }
def FieldParsesSaid : Prop := fieldParsesRow.holds Tryd.pinned (OpenSpec.ofChange fieldParsesSpec)

/-- ITS FALSE NEIGHBOUR: 'it returns false'. Refute it at one input. -/
def fieldParsesWrong : ChangeSpec := { name := "fieldParses", fn := fun _ => fun
  | [d] => { results := [.lit (.bool false)], args := [d] }
  | _ => none }
def FieldParsesWrongFalsely : Prop := fieldParsesRow.holds Tryd.pinned (OpenSpec.ofChange fieldParsesWrong)

/-- 'broadsheetlaw18.FieldLong': WHATEVER THE INPUT: true; the input reads as it did. -/
def fieldLongSpec : ChangeSpec := { name := "fieldLong", fn := fun _ => fun
  | [d1, d2, d3] => { results := [.lit (.bool true)], args := [d1, d2, d3] }
  | _ => none }
def fieldLongRow : OpenClaim := { program := "ytodhbldnmepmaaadoor", sum := "0d51b1de08c2186ebc962652b41faf242bd7801e9c1b7e75defd11538872373b", func := "broadsheet/broadsheetlaw18.FieldLong", spec := "fieldLong", inPlace := ["internal/bytealg.IndexByteString", "internal/bytealg.IndexString", "internal/abi.NoEscape", "internal/bytealg.MakeNoZero"], unfollowed := true, recurses := true, named := ["internal/bytealg.MaxLen", "unicode/utf8.first", "unicode/utf8.acceptRanges"], apart := false, laid := [("unicode/utf8.acceptRanges", laid_unicode_utf8_acceptRanges), ("unicode/utf8.first", laid_unicode_utf8_first)] }
def FieldLongSaid : Prop := fieldLongRow.holds Tryd.pinned (OpenSpec.ofChange fieldLongSpec)

/-- ITS FALSE NEIGHBOUR: 'it returns false'. Refute it at one input. -/
def fieldLongWrong : ChangeSpec := { name := "fieldLong", fn := fun _ => fun
  | [d1, d2, d3] => { results := [.lit (.bool false)], args := [d1, d2, d3] }
  | _ => none }
def FieldLongWrongFalsely : Prop := fieldLongRow.holds Tryd.pinned (OpenSpec.ofChange fieldLongWrong)

/-- 'broadsheetlaw18.FieldPrints': WHATEVER THE INPUT: true; the input reads as it did. -/
def fieldPrintsSpec : ChangeSpec := { name := "fieldPrints", fn := fun _ => fun
  | [d1, d2] => { results := [.lit (.bool true)], args := [d1, d2] }
  | _ => none }
def fieldPrintsRow : OpenClaim := { program := "ytodhbldnmepmaaadoor", sum := "0d51b1de08c2186ebc962652b41faf242bd7801e9c1b7e75defd11538872373b", func := "broadsheet/broadsheetlaw18.FieldPrints", spec := "fieldPrints", inPlace := ["internal/bytealg.IndexByteString", "internal/bytealg.IndexString", "internal/abi.NoEscape", "internal/bytealg.MakeNoZero"], unfollowed := true, recurses := true, named := ["internal/bytealg.MaxLen", "unicode/utf8.first", "unicode/utf8.acceptRanges"], apart := false, laid := [("unicode/utf8.acceptRanges", laid_unicode_utf8_acceptRanges), ("unicode/utf8.first", laid_unicode_utf8_first)] }
def FieldPrintsSaid : Prop := fieldPrintsRow.holds Tryd.pinned (OpenSpec.ofChange fieldPrintsSpec)

/-- ITS FALSE NEIGHBOUR: 'it returns false'. Refute it at one input. -/
def fieldPrintsWrong : ChangeSpec := { name := "fieldPrints", fn := fun _ => fun
  | [d1, d2] => { results := [.lit (.bool false)], args := [d1, d2] }
  | _ => none }
def FieldPrintsWrongFalsely : Prop := fieldPrintsRow.holds Tryd.pinned (OpenSpec.ofChange fieldPrintsWrong)

/-- 'broadsheetlaw18.FieldBack': WHATEVER THE INPUT: true; the input reads as it did. -/
def fieldBackSpec : ChangeSpec := { name := "fieldBack", fn := fun _ => fun
  | [d1, d2] => { results := [.lit (.bool true)], args := [d1, d2] }
  | _ => none }
def fieldBackRow : OpenClaim := { program := "ytodhbldnmepmaaadoor", sum := "0d51b1de08c2186ebc962652b41faf242bd7801e9c1b7e75defd11538872373b", func := "broadsheet/broadsheetlaw18.FieldBack", spec := "fieldBack", inPlace := ["internal/bytealg.IndexByteString", "internal/bytealg.IndexString", "internal/abi.NoEscape", "internal/bytealg.MakeNoZero"], unfollowed := true, recurses := true, named := ["internal/bytealg.MaxLen", "unicode/utf8.first", "unicode/utf8.acceptRanges"], apart := false, laid := [("unicode/utf8.acceptRanges", laid_unicode_utf8_acceptRanges), ("unicode/utf8.first", laid_unicode_utf8_first)] }
def FieldBackSaid : Prop := fieldBackRow.holds Tryd.pinned (OpenSpec.ofChange fieldBackSpec)

/-- ITS FALSE NEIGHBOUR: 'it returns false'. Refute it at one input. -/
def fieldBackWrong : ChangeSpec := { name := "fieldBack", fn := fun _ => fun
  | [d1, d2] => { results := [.lit (.bool false)], args := [d1, d2] }
  | _ => none }
def FieldBackWrongFalsely : Prop := fieldBackRow.holds Tryd.pinned (OpenSpec.ofChange fieldBackWrong)

/-- 'broadsheetlaw18.FieldAgain': WHATEVER THE INPUT: true; the input reads as it did. -/
def fieldAgainSpec : ChangeSpec := { name := "fieldAgain", fn := fun _ => fun
  | [d] => { results := [.lit (.bool true)], args := [d] }
  | _ => none }
def fieldAgainRow : OpenClaim := { program := "ytodhbldnmepmaaadoor", sum := "0d51b1de08c2186ebc962652b41faf242bd7801e9c1b7e75defd11538872373b", func := "broadsheet/broadsheetlaw18.FieldAgain", spec := "fieldAgain", inPlace := ["internal/bytealg.IndexByteString", "internal/bytealg.IndexString", "internal/abi.NoEscape", "internal/bytealg.MakeNoZero"], unfollowed := true, recurses := true, named := ["internal/bytealg.MaxLen", "unicode/utf8.first", "unicode/utf8.acceptRanges"], apart := false, laid := [("unicode/utf8.acceptRanges", laid_unicode_utf8_acceptRanges), ("unicode/utf8.first", laid_unicode_utf8_first)] }
def FieldAgainSaid : Prop := fieldAgainRow.holds Tryd.pinned (OpenSpec.ofChange fieldAgainSpec)

/-- ITS FALSE NEIGHBOUR: 'it returns false'. Refute it at one input. -/
def fieldAgainWrong : ChangeSpec := { name := "fieldAgain", fn := fun _ => fun
  | [d] => { results := [.lit (.bool false)], args := [d] }
  | _ => none }
def FieldAgainWrongFalsely : Prop := fieldAgainRow.holds Tryd.pinned (OpenSpec.ofChange fieldAgainWrong)

/-- 'broadsheetlaw18.FieldSmall': WHATEVER THE INPUT: true; the input reads as it did. -/
def fieldSmallSpec : ChangeSpec := { name := "fieldSmall", fn := fun _ => fun
  | [d] => { results := [.lit (.bool true)], args := [d] }
  | _ => none }
def fieldSmallRow : OpenClaim := { program := "ytodhbldnmepmaaadoor", sum := "0d51b1de08c2186ebc962652b41faf242bd7801e9c1b7e75defd11538872373b", func := "broadsheet/broadsheetlaw18.FieldSmall", spec := "fieldSmall", inPlace := ["internal/bytealg.IndexByteString", "internal/bytealg.IndexString", "internal/abi.NoEscape", "internal/bytealg.MakeNoZero"], unfollowed := true, recurses := true, named := ["internal/bytealg.MaxLen", "unicode/utf8.first", "unicode/utf8.acceptRanges"], apart := false, laid := [("unicode/utf8.acceptRanges", laid_unicode_utf8_acceptRanges), ("unicode/utf8.first", laid_unicode_utf8_first)] }
def FieldSmallSaid : Prop := fieldSmallRow.holds Tryd.pinned (OpenSpec.ofChange fieldSmallSpec)

/-- ITS FALSE NEIGHBOUR: 'it returns false'. Refute it at one input. -/
def fieldSmallWrong : ChangeSpec := { name := "fieldSmall", fn := fun _ => fun
  | [d] => { results := [.lit (.bool false)], args := [d] }
  | _ => none }
def FieldSmallWrongFalsely : Prop := fieldSmallRow.holds Tryd.pinned (OpenSpec.ofChange fieldSmallWrong)

/- THE SECOND FORM. 'bulk': how many values and letters a reading holds, each counted each time it is reached (what is shared counts as often as it is met; a slice's spare places count too). A statement '..UptoSaid' is the law's where the arguments, and the package variables that the reading takes, are together of bulk at most 1048576: NARROWER than '..Said'. Prove '..Said' where nothing that the law and all that it calls make is longer than what came in: it says more and counts as full. Else prove '..UptoSaid'. A law counts once. -/
mutual
def uptoBulk {H : Type} : DataW H → Nat
  | .lit (.string bytes) => bytes.length + 1
  | .lit _ => 1
  | .nil => 1
  | .ptr d => uptoBulk d + 1
  | .slice elems spare => uptoBulkAll elems + uptoBulkAll spare + 1
  | .agg parts => uptoBulkAll parts + 1
  | .iface _ d => uptoBulk d + 1
  | .map entries => uptoBulkEntries entries + 1
  | .held _ => 1
def uptoBulkAll {H : Type} : List (DataW H) → Nat
  | [] => 0
  | d :: r => uptoBulk d + uptoBulkAll r
def uptoBulkEntries {H : Type} : List (Lit × DataW H) → Nat
  | [] => 0
  | x :: r => uptoBulkEntry x + uptoBulkEntries r
def uptoBulkEntry {H : Type} : Lit × DataW H → Nat
  | (.string bytes, d) => bytes.length + uptoBulk d + 1
  | (_, d) => uptoBulk d + 1
 end
def uptoSmall : (H : Type) → List (DataW H) → Bool := fun _ ds => decide (uptoBulkAll ds ≤ 1048576)
def OpenSpec.upto (s : _root_.Go.ChangeSpec) : _root_.Go.OpenSpec := { _root_.Go.OpenSpec.ofChange s with cond := some uptoSmall }

/-- 'broadsheetlaw17.ETagMays', WHERE WHAT IT READS IS OF BULK AT MOST 1048576: true; the input reads as it did. -/
def eTagMaysUptoRow : OpenClaim := { program := "ytodhbldnmepmaaadoor", sum := "0d51b1de08c2186ebc962652b41faf242bd7801e9c1b7e75defd11538872373b", func := "broadsheet/broadsheetlaw17.ETagMays", spec := "eTagMays", inPlace := ["internal/bytealg.IndexByteString", "internal/bytealg.IndexString"], unfollowed := true, recurses := true, named := ["unicode/utf8.first", "unicode/utf8.acceptRanges", "internal/bytealg.MaxLen"], apart := false, laid := [("unicode/utf8.acceptRanges", laid_unicode_utf8_acceptRanges), ("unicode/utf8.first", laid_unicode_utf8_first)], narrowed := true }
def ETagMaysUptoSaid : Prop := eTagMaysUptoRow.holds Tryd.pinned (OpenSpec.upto eTagMaysSpec)

/-- 'broadsheetlaw17.ETagSmall', WHERE WHAT IT READS IS OF BULK AT MOST 1048576: true; the input reads as it did. -/
def eTagSmallUptoRow : OpenClaim := { program := "ytodhbldnmepmaaadoor", sum := "0d51b1de08c2186ebc962652b41faf242bd7801e9c1b7e75defd11538872373b", func := "broadsheet/broadsheetlaw17.ETagSmall", spec := "eTagSmall", inPlace := ["internal/bytealg.IndexByteString", "internal/bytealg.IndexString"], unfollowed := true, recurses := true, named := ["unicode/utf8.first", "unicode/utf8.acceptRanges", "internal/bytealg.MaxLen"], apart := false, laid := [("unicode/utf8.acceptRanges", laid_unicode_utf8_acceptRanges), ("unicode/utf8.first", laid_unicode_utf8_first)], narrowed := true }
def ETagSmallUptoSaid : Prop := eTagSmallUptoRow.holds Tryd.pinned (OpenSpec.upto eTagSmallSpec)

/-- 'broadsheetlaw17.ETagLists', WHERE WHAT IT READS IS OF BULK AT MOST 1048576: true; the input reads as it did. -/
def eTagListsUptoRow : OpenClaim := { program := "ytodhbldnmepmaaadoor", sum := "0d51b1de08c2186ebc962652b41faf242bd7801e9c1b7e75defd11538872373b", func := "broadsheet/broadsheetlaw17.ETagLists", spec := "eTagLists", inPlace := ["internal/bytealg.IndexByteString", "internal/bytealg.IndexString"], unfollowed := true, recurses := true, named := ["unicode/utf8.first", "unicode/utf8.acceptRanges", "internal/bytealg.MaxLen"], apart := false, laid := [("unicode/utf8.acceptRanges", laid_unicode_utf8_acceptRanges), ("unicode/utf8.first", laid_unicode_utf8_first)], narrowed := true }
def ETagListsUptoSaid : Prop := eTagListsUptoRow.holds Tryd.pinned (OpenSpec.upto eTagListsSpec)

/-- 'broadsheetlaw17.ETagBack', WHERE WHAT IT READS IS OF BULK AT MOST 1048576: true; the input reads as it did. -/
def eTagBackUptoRow : OpenClaim := { program := "ytodhbldnmepmaaadoor", sum := "0d51b1de08c2186ebc962652b41faf242bd7801e9c1b7e75defd11538872373b", func := "broadsheet/broadsheetlaw17.ETagBack", spec := "eTagBack", inPlace := ["internal/bytealg.IndexByteString", "internal/bytealg.IndexString"], unfollowed := true, recurses := true, named := ["unicode/utf8.first", "unicode/utf8.acceptRanges", "internal/bytealg.MaxLen"], apart := false, laid := [("unicode/utf8.acceptRanges", laid_unicode_utf8_acceptRanges), ("unicode/utf8.first", laid_unicode_utf8_first)], narrowed := true }
def ETagBackUptoSaid : Prop := eTagBackUptoRow.holds Tryd.pinned (OpenSpec.upto eTagBackSpec)

/-- 'broadsheetlaw17.ETagMatches', WHERE WHAT IT READS IS OF BULK AT MOST 1048576: true; the input reads as it did. -/
def eTagMatchesUptoRow : OpenClaim := { program := "ytodhbldnmepmaaadoor", sum := "0d51b1de08c2186ebc962652b41faf242bd7801e9c1b7e75defd11538872373b", func := "broadsheet/broadsheetlaw17.ETagMatches", spec := "eTagMatches", inPlace := ["internal/bytealg.IndexByteString", "internal/bytealg.IndexString"], unfollowed := true, recurses := true, named := ["unicode/utf8.first", "unicode/utf8.acceptRanges", "internal/bytealg.MaxLen"], apart := false, laid := [("unicode/utf8.acceptRanges", laid_unicode_utf8_acceptRanges), ("unicode/utf8.first", laid_unicode_utf8_first)], narrowed := true }
def ETagMatchesUptoSaid : Prop := eTagMatchesUptoRow.holds Tryd.pinned (OpenSpec.upto eTagMatchesSpec)

/-- 'broadsheetlaw18.FieldParses', WHERE WHAT IT READS IS OF BULK AT MOST 1048576: true; the input reads as it did. -/
def fieldParsesUptoRow : OpenClaim := { program := "ytodhbldnmepmaaadoor", sum := "0d51b1de08c2186ebc962652b41faf242bd7801e9c1b7e75defd11538872373b", func := "broadsheet/broadsheetlaw18.FieldParses", spec := "fieldParses", inPlace := ["internal/bytealg.IndexByteString", "internal/bytealg.IndexString", "internal/abi.NoEscape", "internal/bytealg.MakeNoZero"], unfollowed := true, recurses := true, named := ["internal/bytealg.MaxLen", "unicode/utf8.first", "unicode/utf8.acceptRanges"], apart := false, laid := [("unicode/utf8.acceptRanges", laid_unicode_utf8_acceptRanges), ("unicode/utf8.first", laid_unicode_utf8_first)], narrowed := true }
def FieldParsesUptoSaid : Prop := fieldParsesUptoRow.holds Tryd.pinned (OpenSpec.upto fieldParsesSpec)

/-- 'broadsheetlaw18.FieldLong', WHERE WHAT IT READS IS OF BULK AT MOST 1048576: true; the input reads as it did. -/
def fieldLongUptoRow : OpenClaim := { program := "ytodhbldnmepmaaadoor", sum := "0d51b1de08c2186ebc962652b41faf242bd7801e9c1b7e75defd11538872373b", func := "broadsheet/broadsheetlaw18.FieldLong", spec := "fieldLong", inPlace := ["internal/bytealg.IndexByteString", "internal/bytealg.IndexString", "internal/abi.NoEscape", "internal/bytealg.MakeNoZero"], unfollowed := true, recurses := true, named := ["internal/bytealg.MaxLen", "unicode/utf8.first", "unicode/utf8.acceptRanges"], apart := false, laid := [("unicode/utf8.acceptRanges", laid_unicode_utf8_acceptRanges), ("unicode/utf8.first", laid_unicode_utf8_first)], narrowed := true }
def FieldLongUptoSaid : Prop := fieldLongUptoRow.holds Tryd.pinned (OpenSpec.upto fieldLongSpec)

/-- 'broadsheetlaw18.FieldPrints', WHERE WHAT IT READS IS OF BULK AT MOST 1048576: true; the input reads as it did. -/
def fieldPrintsUptoRow : OpenClaim := { program := "ytodhbldnmepmaaadoor", sum := "0d51b1de08c2186ebc962652b41faf242bd7801e9c1b7e75defd11538872373b", func := "broadsheet/broadsheetlaw18.FieldPrints", spec := "fieldPrints", inPlace := ["internal/bytealg.IndexByteString", "internal/bytealg.IndexString", "internal/abi.NoEscape", "internal/bytealg.MakeNoZero"], unfollowed := true, recurses := true, named := ["internal/bytealg.MaxLen", "unicode/utf8.first", "unicode/utf8.acceptRanges"], apart := false, laid := [("unicode/utf8.acceptRanges", laid_unicode_utf8_acceptRanges), ("unicode/utf8.first", laid_unicode_utf8_first)], narrowed := true }
def FieldPrintsUptoSaid : Prop := fieldPrintsUptoRow.holds Tryd.pinned (OpenSpec.upto fieldPrintsSpec)

/-- 'broadsheetlaw18.FieldBack', WHERE WHAT IT READS IS OF BULK AT MOST 1048576: true; the input reads as it did. -/
def fieldBackUptoRow : OpenClaim := { program := "ytodhbldnmepmaaadoor", sum := "0d51b1de08c2186ebc962652b41faf242bd7801e9c1b7e75defd11538872373b", func := "broadsheet/broadsheetlaw18.FieldBack", spec := "fieldBack", inPlace := ["internal/bytealg.IndexByteString", "internal/bytealg.IndexString", "internal/abi.NoEscape", "internal/bytealg.MakeNoZero"], unfollowed := true, recurses := true, named := ["internal/bytealg.MaxLen", "unicode/utf8.first", "unicode/utf8.acceptRanges"], apart := false, laid := [("unicode/utf8.acceptRanges", laid_unicode_utf8_acceptRanges), ("unicode/utf8.first", laid_unicode_utf8_first)], narrowed := true }
def FieldBackUptoSaid : Prop := fieldBackUptoRow.holds Tryd.pinned (OpenSpec.upto fieldBackSpec)

/-- 'broadsheetlaw18.FieldAgain', WHERE WHAT IT READS IS OF BULK AT MOST 1048576: true; the input reads as it did. -/
def fieldAgainUptoRow : OpenClaim := { program := "ytodhbldnmepmaaadoor", sum := "0d51b1de08c2186ebc962652b41faf242bd7801e9c1b7e75defd11538872373b", func := "broadsheet/broadsheetlaw18.FieldAgain", spec := "fieldAgain", inPlace := ["internal/bytealg.IndexByteString", "internal/bytealg.IndexString", "internal/abi.NoEscape", "internal/bytealg.MakeNoZero"], unfollowed := true, recurses := true, named := ["internal/bytealg.MaxLen", "unicode/utf8.first", "unicode/utf8.acceptRanges"], apart := false, laid := [("unicode/utf8.acceptRanges", laid_unicode_utf8_acceptRanges), ("unicode/utf8.first", laid_unicode_utf8_first)], narrowed := true }
def FieldAgainUptoSaid : Prop := fieldAgainUptoRow.holds Tryd.pinned (OpenSpec.upto fieldAgainSpec)

/-- 'broadsheetlaw18.FieldSmall', WHERE WHAT IT READS IS OF BULK AT MOST 1048576: true; the input reads as it did. -/
def fieldSmallUptoRow : OpenClaim := { program := "ytodhbldnmepmaaadoor", sum := "0d51b1de08c2186ebc962652b41faf242bd7801e9c1b7e75defd11538872373b", func := "broadsheet/broadsheetlaw18.FieldSmall", spec := "fieldSmall", inPlace := ["internal/bytealg.IndexByteString", "internal/bytealg.IndexString", "internal/abi.NoEscape", "internal/bytealg.MakeNoZero"], unfollowed := true, recurses := true, named := ["internal/bytealg.MaxLen", "unicode/utf8.first", "unicode/utf8.acceptRanges"], apart := false, laid := [("unicode/utf8.acceptRanges", laid_unicode_utf8_acceptRanges), ("unicode/utf8.first", laid_unicode_utf8_first)], narrowed := true }
def FieldSmallUptoSaid : Prop := fieldSmallUptoRow.holds Tryd.pinned (OpenSpec.upto fieldSmallSpec)

end Rows
end Go.Proofs.YtodhbldnmepmaaaDoor
