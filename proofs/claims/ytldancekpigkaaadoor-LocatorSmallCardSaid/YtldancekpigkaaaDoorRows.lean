/-
  NARROWER THAN 'FOR EVERY INPUT', by the rows' own cells (each row's printed sentence says how): LocatorParses: laid · LocatorPrints: laid · LocatorTexts: laid · LocatorBack: laid · LocatorDots: laid · LocatorBases: laid · LocatorSmall: laid.
  DERIVED. THE GIVEN ROWS OF THIS SEAT. 7 by the template 'for every input the law returns true; each argument reads behind the call as it read before'; 0 by the template 'total and deterministic' (their statements: YtldancekpigkaaaDoorTotals.lean).
  GIVEN WITH THE SEED: the statements are not yours to turn. If you find one false, say at which input.
  Laid BY PROGRAM, IN A SANDBOX (cutbox-rows.mjs): the forced cells as the released guide's own fill.sh prints them over the translation cd2471972bcf160e… (all of the seat's roots in one cut). By AI agents, Wed Nov 11 2026. No macro, syntax, notation, axiom, sorry.
-/
import Derived.Test.YtldancekpigkaaaDoorChecked
import GoSem.PinnedTables
import GoSem.Claim
import GoSem.ClaimJoined
import GoSem.ClaimMapViews
import Derived.JoinedTies
import Derived.KernelRfl
namespace Go.Proofs.YtldancekpigkaaaDoor
/- THE CELL 'sum', in the pinned program and in every row, IS THE sha256 OF THE DUMP (.gsa) THAT YtldancekpigkaaaDoorProg.lean LOADS. Nothing in Lean hashes anything: it is a label: what it is worth is what the hold of that sum in a sandbox is worth. -/
noncomputable def Tryd.pinned : Pinned := { name := "ytldancekpigkaaadoor", sum := "cd2471972bcf160e3093013f3db4e6eb0a6468c4f7afa7de2b577a26c97b9552", checked := Tryd.checked }
namespace Rows
def none {H : Type} : Left H := { results := [], args := [] }

/- WHAT THE LISTED PACKAGE-LEVEL VARIABLES READ AS WHEN THE CALL BEGINS. Each datum BY PROGRAM (the guide's laid-datum.mjs) off the statement by which the dump's own 'gosem.cut.vars' lays the variable. In a bare row this is a premise. The card (YtldancekpigkaaaDoorCards.lean) ties it to the program's text. -/
def laid_unicode_utf8_acceptRanges {H : Type} : DataW H := .agg [.agg [.lit (.int .u8 128), .lit (.int .u8 191)], .agg [.lit (.int .u8 160), .lit (.int .u8 191)], .agg [.lit (.int .u8 128), .lit (.int .u8 159)], .agg [.lit (.int .u8 144), .lit (.int .u8 191)], .agg [.lit (.int .u8 128), .lit (.int .u8 143)], .agg [.lit (.int .u8 0), .lit (.int .u8 0)], .agg [.lit (.int .u8 0), .lit (.int .u8 0)], .agg [.lit (.int .u8 0), .lit (.int .u8 0)], .agg [.lit (.int .u8 0), .lit (.int .u8 0)], .agg [.lit (.int .u8 0), .lit (.int .u8 0)], .agg [.lit (.int .u8 0), .lit (.int .u8 0)], .agg [.lit (.int .u8 0), .lit (.int .u8 0)], .agg [.lit (.int .u8 0), .lit (.int .u8 0)], .agg [.lit (.int .u8 0), .lit (.int .u8 0)], .agg [.lit (.int .u8 0), .lit (.int .u8 0)], .agg [.lit (.int .u8 0), .lit (.int .u8 0)]]
/-- One of Go's own tables, pinned by name: the form's constant. -/
def laid_unicode_utf8_first : DataW Unit := Go.Pinned.utf8First

/-- 'broadsheetlaw12.LocatorParses': WHATEVER THE INPUT: true; the input reads as it did. -/
def locatorParsesSpec : ChangeSpec := { name := "locatorParses", fn := fun _ => fun
  | [d] => { results := [.lit (.bool true)], args := [d] }
  | _ => none }
def locatorParsesRow : OpenClaim := { program := "ytldancekpigkaaadoor", sum := "cd2471972bcf160e3093013f3db4e6eb0a6468c4f7afa7de2b577a26c97b9552", func := "broadsheet/broadsheetlaw12.LocatorParses", spec := "locatorParses", inPlace := ["internal/bytealg.IndexByteString", "internal/bytealg.IndexString", "internal/abi.NoEscape", "internal/bytealg.MakeNoZero"], unfollowed := true, recurses := true, named := ["unicode/utf8.first", "unicode/utf8.acceptRanges", "internal/bytealg.MaxLen"], apart := false, laid := [("unicode/utf8.acceptRanges", laid_unicode_utf8_acceptRanges), ("unicode/utf8.first", laid_unicode_utf8_first)] }
def LocatorParsesSaid : Prop := locatorParsesRow.holds Tryd.pinned (OpenSpec.ofChange locatorParsesSpec)

/-- ITS FALSE NEIGHBOUR: 'it returns false'. Refute it at one input. -/
def locatorParsesWrong : ChangeSpec := { name := "locatorParses", fn := fun _ => fun
  | [d] => { results := [.lit (.bool false)], args := [d] }
  | _ => none }
def LocatorParsesWrongFalsely : Prop := locatorParsesRow.holds Tryd.pinned (OpenSpec.ofChange locatorParsesWrong)

/-- 'broadsheetlaw12.LocatorPrints': WHATEVER THE INPUT: true; the input reads as it did. -/
def locatorPrintsSpec : ChangeSpec := { name := "locatorPrints", fn := fun _ => fun
  | [d1, d2] => { results := [.lit (.bool true)], args := [d1, d2] }
  | _ => none }
def locatorPrintsRow : OpenClaim := { program := "ytldancekpigkaaadoor", sum := "cd2471972bcf160e3093013f3db4e6eb0a6468c4f7afa7de2b577a26c97b9552", func := "broadsheet/broadsheetlaw12.LocatorPrints", spec := "locatorPrints", inPlace := ["internal/bytealg.IndexByteString", "internal/bytealg.IndexString", "internal/abi.NoEscape", "internal/bytealg.MakeNoZero"], unfollowed := true, recurses := true, named := ["unicode/utf8.first", "unicode/utf8.acceptRanges", "internal/bytealg.MaxLen"], apart := false, laid := [("unicode/utf8.acceptRanges", laid_unicode_utf8_acceptRanges), ("unicode/utf8.first", laid_unicode_utf8_first)] }
def LocatorPrintsSaid : Prop := locatorPrintsRow.holds Tryd.pinned (OpenSpec.ofChange locatorPrintsSpec)

/-- ITS FALSE NEIGHBOUR: 'it returns false'. Refute it at one input. -/
def locatorPrintsWrong : ChangeSpec := { name := "locatorPrints", fn := fun _ => fun
  | [d1, d2] => { results := [.lit (.bool false)], args := [d1, d2] }
  | _ => none }
def LocatorPrintsWrongFalsely : Prop := locatorPrintsRow.holds Tryd.pinned (OpenSpec.ofChange locatorPrintsWrong)

/-- 'broadsheetlaw12.LocatorTexts': WHATEVER THE INPUT: true; the input reads as it did. -/
def locatorTextsSpec : ChangeSpec := { name := "locatorTexts", fn := fun _ => fun
  | [d1, d2] => { results := [.lit (.bool true)], args := [d1, d2] }
  | _ => none }
def locatorTextsRow : OpenClaim := { program := "ytldancekpigkaaadoor", sum := "cd2471972bcf160e3093013f3db4e6eb0a6468c4f7afa7de2b577a26c97b9552", func := "broadsheet/broadsheetlaw12.LocatorTexts", spec := "locatorTexts", inPlace := ["internal/bytealg.IndexByteString", "internal/bytealg.IndexString", "internal/abi.NoEscape", "internal/bytealg.MakeNoZero"], unfollowed := true, recurses := true, named := ["unicode/utf8.first", "unicode/utf8.acceptRanges", "internal/bytealg.MaxLen"], apart := false, laid := [("unicode/utf8.acceptRanges", laid_unicode_utf8_acceptRanges), ("unicode/utf8.first", laid_unicode_utf8_first)] }
def LocatorTextsSaid : Prop := locatorTextsRow.holds Tryd.pinned (OpenSpec.ofChange locatorTextsSpec)

/-- ITS FALSE NEIGHBOUR: 'it returns false'. Refute it at one input. -/
def locatorTextsWrong : ChangeSpec := { name := "locatorTexts", fn := fun _ => fun
  | [d1, d2] => { results := [.lit (.bool false)], args := [d1, d2] }
  | _ => none }
def LocatorTextsWrongFalsely : Prop := locatorTextsRow.holds Tryd.pinned (OpenSpec.ofChange locatorTextsWrong)

/-- 'broadsheetlaw12.LocatorBack': WHATEVER THE INPUT: true; the input reads as it did. -/
def locatorBackSpec : ChangeSpec := { name := "locatorBack", fn := fun _ => fun
  | [d] => { results := [.lit (.bool true)], args := [d] }
  | _ => none }
def locatorBackRow : OpenClaim := { program := "ytldancekpigkaaadoor", sum := "cd2471972bcf160e3093013f3db4e6eb0a6468c4f7afa7de2b577a26c97b9552", func := "broadsheet/broadsheetlaw12.LocatorBack", spec := "locatorBack", inPlace := ["internal/bytealg.IndexByteString", "internal/bytealg.IndexString", "internal/abi.NoEscape", "internal/bytealg.MakeNoZero"], unfollowed := true, recurses := true, named := ["unicode/utf8.first", "unicode/utf8.acceptRanges", "internal/bytealg.MaxLen"], apart := false, laid := [("unicode/utf8.acceptRanges", laid_unicode_utf8_acceptRanges), ("unicode/utf8.first", laid_unicode_utf8_first)] }
def LocatorBackSaid : Prop := locatorBackRow.holds Tryd.pinned (OpenSpec.ofChange locatorBackSpec)

/-- ITS FALSE NEIGHBOUR: 'it returns false'. Refute it at one input. -/
def locatorBackWrong : ChangeSpec := { name := "locatorBack", fn := fun _ => fun
  | [d] => { results := [.lit (.bool false)], args := [d] }
  | _ => none }
def LocatorBackWrongFalsely : Prop := locatorBackRow.holds Tryd.pinned (OpenSpec.ofChange locatorBackWrong)

/-- 'broadsheetlaw12.LocatorDots': WHATEVER THE INPUT: true; the input reads as it did. -/
def locatorDotsSpec : ChangeSpec := { name := "locatorDots", fn := fun _ => fun
  | [d] => { results := [.lit (.bool true)], args := [d] }
  | _ => none }
def locatorDotsRow : OpenClaim := { program := "ytldancekpigkaaadoor", sum := "cd2471972bcf160e3093013f3db4e6eb0a6468c4f7afa7de2b577a26c97b9552", func := "broadsheet/broadsheetlaw12.LocatorDots", spec := "locatorDots", inPlace := ["internal/bytealg.IndexByteString", "internal/bytealg.IndexString", "internal/abi.NoEscape", "internal/bytealg.MakeNoZero"], unfollowed := true, recurses := true, named := ["unicode/utf8.first", "unicode/utf8.acceptRanges", "internal/bytealg.MaxLen"], apart := false, laid := [("unicode/utf8.acceptRanges", laid_unicode_utf8_acceptRanges), ("unicode/utf8.first", laid_unicode_utf8_first)] }
def LocatorDotsSaid : Prop := locatorDotsRow.holds Tryd.pinned (OpenSpec.ofChange locatorDotsSpec)

/-- ITS FALSE NEIGHBOUR: 'it returns false'. Refute it at one input. -/
def locatorDotsWrong : ChangeSpec := { name := "locatorDots", fn := fun _ => fun
  | [d] => { results := [.lit (.bool false)], args := [d] }
  | _ => none }
def LocatorDotsWrongFalsely : Prop := locatorDotsRow.holds Tryd.pinned (OpenSpec.ofChange locatorDotsWrong)

/-- 'broadsheetlaw12.LocatorBases': WHATEVER THE INPUT: true; the input reads as it did. -/
def locatorBasesSpec : ChangeSpec := { name := "locatorBases", fn := fun _ => fun
  | [d1, d2] => { results := [.lit (.bool true)], args := [d1, d2] }
  | _ => none }
def locatorBasesRow : OpenClaim := { program := "ytldancekpigkaaadoor", sum := "cd2471972bcf160e3093013f3db4e6eb0a6468c4f7afa7de2b577a26c97b9552", func := "broadsheet/broadsheetlaw12.LocatorBases", spec := "locatorBases", inPlace := ["internal/bytealg.IndexByteString", "internal/bytealg.IndexString", "internal/abi.NoEscape", "internal/bytealg.MakeNoZero"], unfollowed := true, recurses := true, named := ["unicode/utf8.first", "unicode/utf8.acceptRanges", "internal/bytealg.MaxLen"], apart := false, laid := [("unicode/utf8.acceptRanges", laid_unicode_utf8_acceptRanges), ("unicode/utf8.first", laid_unicode_utf8_first)] }
def LocatorBasesSaid : Prop := locatorBasesRow.holds Tryd.pinned (OpenSpec.ofChange locatorBasesSpec)

/-- ITS FALSE NEIGHBOUR: 'it returns false'. Refute it at one input. -/
def locatorBasesWrong : ChangeSpec := { name := "locatorBases", fn := fun _ => fun
  | [d1, d2] => { results := [.lit (.bool false)], args := [d1, d2] }
  | _ => none }
def LocatorBasesWrongFalsely : Prop := locatorBasesRow.holds Tryd.pinned (OpenSpec.ofChange locatorBasesWrong)

/-- 'broadsheetlaw12.LocatorSmall': WHATEVER THE INPUT: true; the input reads as it did. -/
def locatorSmallSpec : ChangeSpec := { name := "locatorSmall", fn := fun _ => fun
  | [d1, d2] => { results := [.lit (.bool true)], args := [d1, d2] }
  | _ => none }
def locatorSmallRow : OpenClaim := { program := "ytldancekpigkaaadoor", sum := "cd2471972bcf160e3093013f3db4e6eb0a6468c4f7afa7de2b577a26c97b9552", func := "broadsheet/broadsheetlaw12.LocatorSmall", spec := "locatorSmall", inPlace := ["internal/bytealg.IndexByteString", "internal/bytealg.IndexString", "internal/abi.NoEscape", "internal/bytealg.MakeNoZero"], unfollowed := true, recurses := true, named := ["unicode/utf8.first", "unicode/utf8.acceptRanges", "internal/bytealg.MaxLen"], apart := false, laid := [("unicode/utf8.acceptRanges", laid_unicode_utf8_acceptRanges), ("unicode/utf8.first", laid_unicode_utf8_first)] }
def LocatorSmallSaid : Prop := locatorSmallRow.holds Tryd.pinned (OpenSpec.ofChange locatorSmallSpec)

/-- ITS FALSE NEIGHBOUR: 'it returns false'. Refute it at one input. -/
def locatorSmallWrong : ChangeSpec := { name := "locatorSmall", fn := fun _ => fun
  | [d1, d2] => { results := [.lit (.bool false)], args := [d1, d2] }
  | _ => none }
def LocatorSmallWrongFalsely : Prop := locatorSmallRow.holds Tryd.pinned (OpenSpec.ofChange locatorSmallWrong)

/- THE SECOND FORM. 'bulk': how many values and letters a reading holds, each counted each time it is reached (what is shared counts as often as it is met; a slice's spare places count too). A statement '..UptoSaid' is the law's where the arguments, and the package variables that the reading takes, are together of bulk at most 1048576: NARROWER than '..Said'. Prove '..Said' where nothing that the law and all that it calls make is longer than what came in: it says more and counts as full. Else prove '..UptoSaid'. A law counts once. -/
mutual
def uptoBulk {H : Type} : DataW H → Nat
  | .lit (.string bytes) => bytes.length + 1
  | .lit _ => 1
  | .nil => 1
  | .ptr d => uptoBulk d + 1
  | .slice elems spare => uptoBulkAll elems + uptoBulkAll spare + 1
  | .agg parts => uptoBulkAll parts + 1
  | .iface _ d => uptoBulk d + 1
  | .map entries => uptoBulkEntries entries + 1
  | .held _ => 1
def uptoBulkAll {H : Type} : List (DataW H) → Nat
  | [] => 0
  | d :: r => uptoBulk d + uptoBulkAll r
def uptoBulkEntries {H : Type} : List (Lit × DataW H) → Nat
  | [] => 0
  | x :: r => uptoBulkEntry x + uptoBulkEntries r
def uptoBulkEntry {H : Type} : Lit × DataW H → Nat
  | (.string bytes, d) => bytes.length + uptoBulk d + 1
  | (_, d) => uptoBulk d + 1
 end
def uptoSmall : (H : Type) → List (DataW H) → Bool := fun _ ds => decide (uptoBulkAll ds ≤ 1048576)
def OpenSpec.upto (s : _root_.Go.ChangeSpec) : _root_.Go.OpenSpec := { _root_.Go.OpenSpec.ofChange s with cond := some uptoSmall }

/-- 'broadsheetlaw12.LocatorParses', WHERE WHAT IT READS IS OF BULK AT MOST 1048576: true; the input reads as it did. -/
def locatorParsesUptoRow : OpenClaim := { program := "ytldancekpigkaaadoor", sum := "cd2471972bcf160e3093013f3db4e6eb0a6468c4f7afa7de2b577a26c97b9552", func := "broadsheet/broadsheetlaw12.LocatorParses", spec := "locatorParses", inPlace := ["internal/bytealg.IndexByteString", "internal/bytealg.IndexString", "internal/abi.NoEscape", "internal/bytealg.MakeNoZero"], unfollowed := true, recurses := true, named := ["unicode/utf8.first", "unicode/utf8.acceptRanges", "internal/bytealg.MaxLen"], apart := false, laid := [("unicode/utf8.acceptRanges", laid_unicode_utf8_acceptRanges), ("unicode/utf8.first", laid_unicode_utf8_first)], narrowed := true }
def LocatorParsesUptoSaid : Prop := locatorParsesUptoRow.holds Tryd.pinned (OpenSpec.upto locatorParsesSpec)

/-- 'broadsheetlaw12.LocatorPrints', WHERE WHAT IT READS IS OF BULK AT MOST 1048576: true; the input reads as it did. -/
def locatorPrintsUptoRow : OpenClaim := { program := "ytldancekpigkaaadoor", sum := "cd2471972bcf160e3093013f3db4e6eb0a6468c4f7afa7de2b577a26c97b9552", func := "broadsheet/broadsheetlaw12.LocatorPrints", spec := "locatorPrints", inPlace := ["internal/bytealg.IndexByteString", "internal/bytealg.IndexString", "internal/abi.NoEscape", "internal/bytealg.MakeNoZero"], unfollowed := true, recurses := true, named := ["unicode/utf8.first", "unicode/utf8.acceptRanges", "internal/bytealg.MaxLen"], apart := false, laid := [("unicode/utf8.acceptRanges", laid_unicode_utf8_acceptRanges), ("unicode/utf8.first", laid_unicode_utf8_first)], narrowed := true }
def LocatorPrintsUptoSaid : Prop := locatorPrintsUptoRow.holds Tryd.pinned (OpenSpec.upto locatorPrintsSpec)

/-- 'broadsheetlaw12.LocatorTexts', WHERE WHAT IT READS IS OF BULK AT MOST 1048576: true; the input reads as it did. -/
def locatorTextsUptoRow : OpenClaim := { program := "ytldancekpigkaaadoor", sum := "cd2471972bcf160e3093013f3db4e6eb0a6468c4f7afa7de2b577a26c97b9552", func := "broadsheet/broadsheetlaw12.LocatorTexts", spec := "locatorTexts", inPlace := ["internal/bytealg.IndexByteString", "internal/bytealg.IndexString", "internal/abi.NoEscape", "internal/bytealg.MakeNoZero"], unfollowed := true, recurses := true, named := ["unicode/utf8.first", "unicode/utf8.acceptRanges", "internal/bytealg.MaxLen"], apart := false, laid := [("unicode/utf8.acceptRanges", laid_unicode_utf8_acceptRanges), ("unicode/utf8.first", laid_unicode_utf8_first)], narrowed := true }
def LocatorTextsUptoSaid : Prop := locatorTextsUptoRow.holds Tryd.pinned (OpenSpec.upto locatorTextsSpec)

/-- 'broadsheetlaw12.LocatorBack', WHERE WHAT IT READS IS OF BULK AT MOST 1048576: true; the input reads as it did. -/
def locatorBackUptoRow : OpenClaim := { program := "ytldancekpigkaaadoor", sum := "cd2471972bcf160e3093013f3db4e6eb0a6468c4f7afa7de2b577a26c97b9552", func := "broadsheet/broadsheetlaw12.LocatorBack", spec := "locatorBack", inPlace := ["internal/bytealg.IndexByteString", "internal/bytealg.IndexString", "internal/abi.NoEscape", "internal/bytealg.MakeNoZero"], unfollowed := true, recurses := true, named := ["unicode/utf8.first", "unicode/utf8.acceptRanges", "internal/bytealg.MaxLen"], apart := false, laid := [("unicode/utf8.acceptRanges", laid_unicode_utf8_acceptRanges), ("unicode/utf8.first", laid_unicode_utf8_first)], narrowed := true }
def LocatorBackUptoSaid : Prop := locatorBackUptoRow.holds Tryd.pinned (OpenSpec.upto locatorBackSpec)

/-- 'broadsheetlaw12.LocatorDots', WHERE WHAT IT READS IS OF BULK AT MOST 1048576: true; the input reads as it did. -/
def locatorDotsUptoRow : OpenClaim := { program := "ytldancekpigkaaadoor", sum := "cd2471972bcf160e3093013f3db4e6eb0a6468c4f7afa7de2b577a26c97b9552", func := "broadsheet/broadsheetlaw12.LocatorDots", spec := "locatorDots", inPlace := ["internal/bytealg.IndexByteString", "internal/bytealg.IndexString", "internal/abi.NoEscape", "internal/bytealg.MakeNoZero"], unfollowed := true, recurses := true, named := ["unicode/utf8.first", "unicode/utf8.acceptRanges", "internal/bytealg.MaxLen"], apart := false, laid := [("unicode/utf8.acceptRanges", laid_unicode_utf8_acceptRanges), ("unicode/utf8.first", laid_unicode_utf8_first)], narrowed := true }
def LocatorDotsUptoSaid : Prop := locatorDotsUptoRow.holds Tryd.pinned (OpenSpec.upto locatorDotsSpec)

/-- 'broadsheetlaw12.LocatorBases', WHERE WHAT IT READS IS OF BULK AT MOST 1048576: true; the input reads as it did. -/
def locatorBasesUptoRow : OpenClaim := { program := "ytldancekpigkaaadoor", sum := "cd2471972bcf160e3093013f3db4e6eb0a6468c4f7afa7de2b577a26c97b9552", func := "broadsheet/broadsheetlaw12.LocatorBases", spec := "locatorBases", inPlace := ["internal/bytealg.IndexByteString", "internal/bytealg.IndexString", "internal/abi.NoEscape", "internal/bytealg.MakeNoZero"], unfollowed := true, recurses := true, named := ["unicode/utf8.first", "unicode/utf8.acceptRanges", "internal/bytealg.MaxLen"], apart := false, laid := [("unicode/utf8.acceptRanges", laid_unicode_utf8_acceptRanges), ("unicode/utf8.first", laid_unicode_utf8_first)], narrowed := true }
def LocatorBasesUptoSaid : Prop := locatorBasesUptoRow.holds Tryd.pinned (OpenSpec.upto locatorBasesSpec)

/-- 'broadsheetlaw12.LocatorSmall', WHERE WHAT IT READS IS OF BULK AT MOST 1048576: true; the input reads as it did. -/
def locatorSmallUptoRow : OpenClaim := { program := "ytldancekpigkaaadoor", sum := "cd2471972bcf160e3093013f3db4e6eb0a6468c4f7afa7de2b577a26c97b9552", func := "broadsheet/broadsheetlaw12.LocatorSmall", spec := "locatorSmall", inPlace := ["internal/bytealg.IndexByteString", "internal/bytealg.IndexString", "internal/abi.NoEscape", "internal/bytealg.MakeNoZero"], unfollowed := true, recurses := true, named := ["unicode/utf8.first", "unicode/utf8.acceptRanges", "internal/bytealg.MaxLen"], apart := false, laid := [("unicode/utf8.acceptRanges", laid_unicode_utf8_acceptRanges), ("unicode/utf8.first", laid_unicode_utf8_first)], narrowed := true }
def LocatorSmallUptoSaid : Prop := locatorSmallUptoRow.holds Tryd.pinned (OpenSpec.upto locatorSmallSpec)

end Rows
end Go.Proofs.YtldancekpigkaaaDoor
