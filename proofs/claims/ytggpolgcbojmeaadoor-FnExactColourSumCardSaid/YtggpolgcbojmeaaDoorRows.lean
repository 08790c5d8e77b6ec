/-
  NARROWER THAN 'FOR EVERY INPUT', by the rows' own cells (each row's printed sentence says how): FnExactIsRule: laid · FnExactIsWorld: laid · FnExactColourAt: laid · FnExactColourSum: laid · FnExactPlaceAnt: laid · FnExactCountColours: laid · FnExactPaintCell: laid · FnExactStepBack: laid · FnExactWorldBefore: laid · FnExactCountWorlds: laid · FnExactEmptyWorld: laid · FnExactFirstPlain: laid.
  DERIVED. THE GIVEN ROWS OF THIS SEAT. 12 by the template 'for every input the law returns true; each argument reads behind the call as it read before'; 0 by the template 'total and deterministic' (their statements: YtggpolgcbojmeaaDoorTotals.lean).
  GIVEN WITH THE SEED: the statements are not yours to turn. If you find one false, say at which input.
  Laid BY PROGRAM, IN A SANDBOX (cutbox-rows.mjs): the forced cells as the released guide's own fill.sh prints them over the translation e410843b1dd3f085… (all of the seat's roots in one cut). By AI agents, Wed Nov 11 2026. No macro, syntax, notation, axiom, sorry.
-/
import Derived.Test.YtggpolgcbojmeaaDoorChecked
import GoSem.PinnedTables
import GoSem.Claim
import GoSem.ClaimJoined
import GoSem.ClaimMapViews
import Derived.JoinedTies
import Derived.KernelRfl
namespace Go.Proofs.YtggpolgcbojmeaaDoor
/- THE CELL 'sum', in the pinned program and in every row, IS THE sha256 OF THE DUMP (.gsa) THAT YtggpolgcbojmeaaDoorProg.lean LOADS. Nothing in Lean hashes anything: it is a label: what it is worth is what the hold of that sum in a sandbox is worth. -/
noncomputable def Tryd.pinned : Pinned := { name := "ytggpolgcbojmeaadoor", sum := "e410843b1dd3f0853229ab7324c6ada0d855a442283b32f8e4d471a344b0d05b", checked := Tryd.checked }
namespace Rows
def none {H : Type} : Left H := { results := [], args := [] }

/- WHAT THE LISTED PACKAGE-LEVEL VARIABLES READ AS WHEN THE CALL BEGINS. Each datum BY PROGRAM (the guide's laid-datum.mjs) off the statement by which the dump's own 'gosem.cut.vars' lays the variable. In a bare row this is a premise. The card (YtggpolgcbojmeaaDoorCards.lean) ties it to the program's text. -/
def laid_unicode_utf8_acceptRanges {H : Type} : DataW H := .agg [.agg [.lit (.int .u8 128), .lit (.int .u8 191)], .agg [.lit (.int .u8 160), .lit (.int .u8 191)], .agg [.lit (.int .u8 128), .lit (.int .u8 159)], .agg [.lit (.int .u8 144), .lit (.int .u8 191)], .agg [.lit (.int .u8 128), .lit (.int .u8 143)], .agg [.lit (.int .u8 0), .lit (.int .u8 0)], .agg [.lit (.int .u8 0), .lit (.int .u8 0)], .agg [.lit (.int .u8 0), .lit (.int .u8 0)], .agg [.lit (.int .u8 0), .lit (.int .u8 0)], .agg [.lit (.int .u8 0), .lit (.int .u8 0)], .agg [.lit (.int .u8 0), .lit (.int .u8 0)], .agg [.lit (.int .u8 0), .lit (.int .u8 0)], .agg [.lit (.int .u8 0), .lit (.int .u8 0)], .agg [.lit (.int .u8 0), .lit (.int .u8 0)], .agg [.lit (.int .u8 0), .lit (.int .u8 0)], .agg [.lit (.int .u8 0), .lit (.int .u8 0)]]
/-- One of Go's own tables, pinned by name: the form's constant. -/
def laid_unicode_utf8_first : DataW Unit := Go.Pinned.utf8First

/-- 'laws.FnExactIsRule': WHATEVER THE INPUT: true; the input reads as it did. -/
def fnExactIsRuleSpec : ChangeSpec := { name := "fnExactIsRule", fn := fun _ => fun
  | [d] => { results := [.lit (.bool true)], args := [d] }
  | _ => none }
def fnExactIsRuleRow : OpenClaim := { program := "ytggpolgcbojmeaadoor", sum := "e410843b1dd3f0853229ab7324c6ada0d855a442283b32f8e4d471a344b0d05b", func := "loop.example/g01276/laws.FnExactIsRule", spec := "fnExactIsRule", inPlace := ["internal/bytealg.IndexByteString", "internal/bytealg.IndexString"], named := ["unicode/utf8.first", "unicode/utf8.acceptRanges", "internal/bytealg.MaxLen"], apart := false, laid := [("unicode/utf8.acceptRanges", laid_unicode_utf8_acceptRanges), ("unicode/utf8.first", laid_unicode_utf8_first)] }
def FnExactIsRuleSaid : Prop := fnExactIsRuleRow.holds Tryd.pinned (OpenSpec.ofChange fnExactIsRuleSpec)

/-- ITS FALSE NEIGHBOUR: 'it returns false'. Refute it at one input. -/
def fnExactIsRuleWrong : ChangeSpec := { name := "fnExactIsRule", fn := fun _ => fun
  | [d] => { results := [.lit (.bool false)], args := [d] }
  | _ => none }
def FnExactIsRuleWrongFalsely : Prop := fnExactIsRuleRow.holds Tryd.pinned (OpenSpec.ofChange fnExactIsRuleWrong)

/-- 'laws.FnExactIsWorld': WHATEVER THE INPUT: true; the input reads as it did. -/
def fnExactIsWorldSpec : ChangeSpec := { name := "fnExactIsWorld", fn := fun _ => fun
  | [d] => { results := [.lit (.bool true)], args := [d] }
  | _ => none }
def fnExactIsWorldRow : OpenClaim := { program := "ytggpolgcbojmeaadoor", sum := "e410843b1dd3f0853229ab7324c6ada0d855a442283b32f8e4d471a344b0d05b", func := "loop.example/g01276/laws.FnExactIsWorld", spec := "fnExactIsWorld", inPlace := ["internal/bytealg.IndexByteString", "internal/bytealg.IndexString"], named := ["unicode/utf8.first", "unicode/utf8.acceptRanges", "internal/bytealg.MaxLen"], apart := false, laid := [("unicode/utf8.acceptRanges", laid_unicode_utf8_acceptRanges), ("unicode/utf8.first", laid_unicode_utf8_first)] }
def FnExactIsWorldSaid : Prop := fnExactIsWorldRow.holds Tryd.pinned (OpenSpec.ofChange fnExactIsWorldSpec)

/-- ITS FALSE NEIGHBOUR: 'it returns false'. Refute it at one input. -/
def fnExactIsWorldWrong : ChangeSpec := { name := "fnExactIsWorld", fn := fun _ => fun
  | [d] => { results := [.lit (.bool false)], args := [d] }
  | _ => none }
def FnExactIsWorldWrongFalsely : Prop := fnExactIsWorldRow.holds Tryd.pinned (OpenSpec.ofChange fnExactIsWorldWrong)

/-- 'laws.FnExactColourAt': WHATEVER THE INPUT: true; the input reads as it did. -/
def fnExactColourAtSpec : ChangeSpec := { name := "fnExactColourAt", fn := fun _ => fun
  | [d1, d2, d3] => { results := [.lit (.bool true)], args := [d1, d2, d3] }
  | _ => none }
def fnExactColourAtRow : OpenClaim := { program := "ytggpolgcbojmeaadoor", sum := "e410843b1dd3f0853229ab7324c6ada0d855a442283b32f8e4d471a344b0d05b", func := "loop.example/g01276/laws.FnExactColourAt", spec := "fnExactColourAt", inPlace := ["internal/bytealg.IndexByteString", "internal/bytealg.IndexString"], named := ["unicode/utf8.first", "unicode/utf8.acceptRanges", "internal/bytealg.MaxLen"], apart := false, laid := [("unicode/utf8.acceptRanges", laid_unicode_utf8_acceptRanges), ("unicode/utf8.first", laid_unicode_utf8_first)] }
def FnExactColourAtSaid : Prop := fnExactColourAtRow.holds Tryd.pinned (OpenSpec.ofChange fnExactColourAtSpec)

/-- ITS FALSE NEIGHBOUR: 'it returns false'. Refute it at one input. -/
def fnExactColourAtWrong : ChangeSpec := { name := "fnExactColourAt", fn := fun _ => fun
  | [d1, d2, d3] => { results := [.lit (.bool false)], args := [d1, d2, d3] }
  | _ => none }
def FnExactColourAtWrongFalsely : Prop := fnExactColourAtRow.holds Tryd.pinned (OpenSpec.ofChange fnExactColourAtWrong)

/-- 'laws.FnExactColourSum': WHATEVER THE INPUT: true; the input reads as it did. -/
def fnExactColourSumSpec : ChangeSpec := { name := "fnExactColourSum", fn := fun _ => fun
  | [d] => { results := [.lit (.bool true)], args := [d] }
  | _ => none }
def fnExactColourSumRow : OpenClaim := { program := "ytggpolgcbojmeaadoor", sum := "e410843b1dd3f0853229ab7324c6ada0d855a442283b32f8e4d471a344b0d05b", func := "loop.example/g01276/laws.FnExactColourSum", spec := "fnExactColourSum", inPlace := ["internal/bytealg.IndexByteString", "internal/bytealg.IndexString"], named := ["unicode/utf8.first", "unicode/utf8.acceptRanges", "internal/bytealg.MaxLen"], apart := false, laid := [("unicode/utf8.acceptRanges", laid_unicode_utf8_acceptRanges), ("unicode/utf8.first", laid_unicode_utf8_first)] }
def FnExactColourSumSaid : Prop := fnExactColourSumRow.holds Tryd.pinned (OpenSpec.ofChange fnExactColourSumSpec)

/-- ITS FALSE NEIGHBOUR: 'it returns false'. Refute it at one input. -/
def fnExactColourSumWrong : ChangeSpec := { name := "fnExactColourSum", fn := fun _ => fun
  | [d] => { results := [.lit (.bool false)], args := [d] }
  | _ => none }
def FnExactColourSumWrongFalsely : Prop := fnExactColourSumRow.holds Tryd.pinned (OpenSpec.ofChange fnExactColourSumWrong)

/-- 'laws.FnExactPlaceAnt': WHATEVER THE INPUT: true; the input reads as it did. -/
def fnExactPlaceAntSpec : ChangeSpec := { name := "fnExactPlaceAnt", fn := fun _ => fun
  | [d1, d2, d3, d4] => { results := [.lit (.bool true)], args := [d1, d2, d3, d4] }
  | _ => none }
def fnExactPlaceAntRow : OpenClaim := { program := "ytggpolgcbojmeaadoor", sum := "e410843b1dd3f0853229ab7324c6ada0d855a442283b32f8e4d471a344b0d05b", func := "loop.example/g01276/laws.FnExactPlaceAnt", spec := "fnExactPlaceAnt", inPlace := ["internal/bytealg.IndexByteString", "internal/bytealg.IndexString"], named := ["unicode/utf8.first", "unicode/utf8.acceptRanges", "internal/bytealg.MaxLen"], apart := false, laid := [("unicode/utf8.acceptRanges", laid_unicode_utf8_acceptRanges), ("unicode/utf8.first", laid_unicode_utf8_first)] }
def FnExactPlaceAntSaid : Prop := fnExactPlaceAntRow.holds Tryd.pinned (OpenSpec.ofChange fnExactPlaceAntSpec)

/-- ITS FALSE NEIGHBOUR: 'it returns false'. Refute it at one input. -/
def fnExactPlaceAntWrong : ChangeSpec := { name := "fnExactPlaceAnt", fn := fun _ => fun
  | [d1, d2, d3, d4] => { results := [.lit (.bool false)], args := [d1, d2, d3, d4] }
  | _ => none }
def FnExactPlaceAntWrongFalsely : Prop := fnExactPlaceAntRow.holds Tryd.pinned (OpenSpec.ofChange fnExactPlaceAntWrong)

/-- 'laws.FnExactCountColours': WHATEVER THE INPUT: true; the input reads as it did. -/
def fnExactCountColoursSpec : ChangeSpec := { name := "fnExactCountColours", fn := fun _ => fun
  | [d] => { results := [.lit (.bool true)], args := [d] }
  | _ => none }
def fnExactCountColoursRow : OpenClaim := { program := "ytggpolgcbojmeaadoor", sum := "e410843b1dd3f0853229ab7324c6ada0d855a442283b32f8e4d471a344b0d05b", func := "loop.example/g01276/laws.FnExactCountColours", spec := "fnExactCountColours", inPlace := ["internal/bytealg.IndexByteString", "internal/bytealg.IndexString"], named := ["unicode/utf8.first", "unicode/utf8.acceptRanges", "internal/bytealg.MaxLen"], apart := false, laid := [("unicode/utf8.acceptRanges", laid_unicode_utf8_acceptRanges), ("unicode/utf8.first", laid_unicode_utf8_first)] }
def FnExactCountColoursSaid : Prop := fnExactCountColoursRow.holds Tryd.pinned (OpenSpec.ofChange fnExactCountColoursSpec)

/-- ITS FALSE NEIGHBOUR: 'it returns false'. Refute it at one input. -/
def fnExactCountColoursWrong : ChangeSpec := { name := "fnExactCountColours", fn := fun _ => fun
  | [d] => { results := [.lit (.bool false)], args := [d] }
  | _ => none }
def FnExactCountColoursWrongFalsely : Prop := fnExactCountColoursRow.holds Tryd.pinned (OpenSpec.ofChange fnExactCountColoursWrong)

/-- 'laws.FnExactPaintCell': WHATEVER THE INPUT: true; the input reads as it did. -/
def fnExactPaintCellSpec : ChangeSpec := { name := "fnExactPaintCell", fn := fun _ => fun
  | [d1, d2, d3, d4] => { results := [.lit (.bool true)], args := [d1, d2, d3, d4] }
  | _ => none }
def fnExactPaintCellRow : OpenClaim := { program := "ytggpolgcbojmeaadoor", sum := "e410843b1dd3f0853229ab7324c6ada0d855a442283b32f8e4d471a344b0d05b", func := "loop.example/g01276/laws.FnExactPaintCell", spec := "fnExactPaintCell", inPlace := ["internal/bytealg.IndexByteString", "internal/bytealg.IndexString"], recurses := true, named := ["unicode/utf8.first", "unicode/utf8.acceptRanges", "internal/bytealg.MaxLen"], apart := false, laid := [("unicode/utf8.acceptRanges", laid_unicode_utf8_acceptRanges), ("unicode/utf8.first", laid_unicode_utf8_first)] }
def FnExactPaintCellSaid : Prop := fnExactPaintCellRow.holds Tryd.pinned (OpenSpec.ofChange fnExactPaintCellSpec)

/-- ITS FALSE NEIGHBOUR: 'it returns false'. Refute it at one input. -/
def fnExactPaintCellWrong : ChangeSpec := { name := "fnExactPaintCell", fn := fun _ => fun
  | [d1, d2, d3, d4] => { results := [.lit (.bool false)], args := [d1, d2, d3, d4] }
  | _ => none }
def FnExactPaintCellWrongFalsely : Prop := fnExactPaintCellRow.holds Tryd.pinned (OpenSpec.ofChange fnExactPaintCellWrong)

/-- 'laws.FnExactStepBack': WHATEVER THE INPUT: true; the input reads as it did. -/
def fnExactStepBackSpec : ChangeSpec := { name := "fnExactStepBack", fn := fun _ => fun
  | [d] => { results := [.lit (.bool true)], args := [d] }
  | _ => none }
def fnExactStepBackRow : OpenClaim := { program := "ytggpolgcbojmeaadoor", sum := "e410843b1dd3f0853229ab7324c6ada0d855a442283b32f8e4d471a344b0d05b", func := "loop.example/g01276/laws.FnExactStepBack", spec := "fnExactStepBack", inPlace := ["internal/bytealg.IndexByteString", "internal/bytealg.IndexString"], recurses := true, named := ["unicode/utf8.first", "unicode/utf8.acceptRanges", "internal/bytealg.MaxLen"], apart := false, laid := [("unicode/utf8.acceptRanges", laid_unicode_utf8_acceptRanges), ("unicode/utf8.first", laid_unicode_utf8_first)] }
def FnExactStepBackSaid : Prop := fnExactStepBackRow.holds Tryd.pinned (OpenSpec.ofChange fnExactStepBackSpec)

/-- ITS FALSE NEIGHBOUR: 'it returns false'. Refute it at one input. -/
def fnExactStepBackWrong : ChangeSpec := { name := "fnExactStepBack", fn := fun _ => fun
  | [d] => { results := [.lit (.bool false)], args := [d] }
  | _ => none }
def FnExactStepBackWrongFalsely : Prop := fnExactStepBackRow.holds Tryd.pinned (OpenSpec.ofChange fnExactStepBackWrong)

/-- 'laws.FnExactWorldBefore': WHATEVER THE INPUT: true; the input reads as it did. -/
def fnExactWorldBeforeSpec : ChangeSpec := { name := "fnExactWorldBefore", fn := fun _ => fun
  | [d1, d2] => { results := [.lit (.bool true)], args := [d1, d2] }
  | _ => none }
def fnExactWorldBeforeRow : OpenClaim := { program := "ytggpolgcbojmeaadoor", sum := "e410843b1dd3f0853229ab7324c6ada0d855a442283b32f8e4d471a344b0d05b", func := "loop.example/g01276/laws.FnExactWorldBefore", spec := "fnExactWorldBefore", inPlace := ["internal/bytealg.IndexByteString", "internal/bytealg.IndexString"], recurses := true, named := ["unicode/utf8.first", "unicode/utf8.acceptRanges", "internal/bytealg.MaxLen"], apart := false, laid := [("unicode/utf8.acceptRanges", laid_unicode_utf8_acceptRanges), ("unicode/utf8.first", laid_unicode_utf8_first)] }
def FnExactWorldBeforeSaid : Prop := fnExactWorldBeforeRow.holds Tryd.pinned (OpenSpec.ofChange fnExactWorldBeforeSpec)

/-- ITS FALSE NEIGHBOUR: 'it returns false'. Refute it at one input. -/
def fnExactWorldBeforeWrong : ChangeSpec := { name := "fnExactWorldBefore", fn := fun _ => fun
  | [d1, d2] => { results := [.lit (.bool false)], args := [d1, d2] }
  | _ => none }
def FnExactWorldBeforeWrongFalsely : Prop := fnExactWorldBeforeRow.holds Tryd.pinned (OpenSpec.ofChange fnExactWorldBeforeWrong)

/-- 'laws.FnExactCountWorlds': WHATEVER THE INPUT: true; the input reads as it did. -/
def fnExactCountWorldsSpec : ChangeSpec := { name := "fnExactCountWorlds", fn := fun _ => fun
  | [d1, d2, d3] => { results := [.lit (.bool true)], args := [d1, d2, d3] }
  | _ => none }
def fnExactCountWorldsRow : OpenClaim := { program := "ytggpolgcbojmeaadoor", sum := "e410843b1dd3f0853229ab7324c6ada0d855a442283b32f8e4d471a344b0d05b", func := "loop.example/g01276/laws.FnExactCountWorlds", spec := "fnExactCountWorlds", inPlace := ["internal/bytealg.IndexByteString", "internal/bytealg.IndexString"], named := ["unicode/utf8.first", "unicode/utf8.acceptRanges", "internal/bytealg.MaxLen"], apart := false, laid := [("unicode/utf8.acceptRanges", laid_unicode_utf8_acceptRanges), ("unicode/utf8.first", laid_unicode_utf8_first)] }
def FnExactCountWorldsSaid : Prop := fnExactCountWorldsRow.holds Tryd.pinned (OpenSpec.ofChange fnExactCountWorldsSpec)

/-- ITS FALSE NEIGHBOUR: 'it returns false'. Refute it at one input. -/
def fnExactCountWorldsWrong : ChangeSpec := { name := "fnExactCountWorlds", fn := fun _ => fun
  | [d1, d2, d3] => { results := [.lit (.bool false)], args := [d1, d2, d3] }
  | _ => none }
def FnExactCountWorldsWrongFalsely : Prop := fnExactCountWorldsRow.holds Tryd.pinned (OpenSpec.ofChange fnExactCountWorldsWrong)

/-- 'laws.FnExactEmptyWorld': WHATEVER THE INPUT: true; the input reads as it did. -/
def fnExactEmptyWorldSpec : ChangeSpec := { name := "fnExactEmptyWorld", fn := fun _ => fun
  | [d1, d2, d3] => { results := [.lit (.bool true)], args := [d1, d2, d3] }
  | _ => none }
def fnExactEmptyWorldRow : OpenClaim := { program := "ytggpolgcbojmeaadoor", sum := "e410843b1dd3f0853229ab7324c6ada0d855a442283b32f8e4d471a344b0d05b", func := "loop.example/g01276/laws.FnExactEmptyWorld", spec := "fnExactEmptyWorld", inPlace := ["internal/bytealg.IndexByteString", "internal/bytealg.IndexString", "internal/abi.NoEscape", "internal/bytealg.MakeNoZero"], named := ["unicode/utf8.first", "unicode/utf8.acceptRanges", "internal/bytealg.MaxLen"], apart := false, laid := [("unicode/utf8.acceptRanges", laid_unicode_utf8_acceptRanges), ("unicode/utf8.first", laid_unicode_utf8_first)] }
def FnExactEmptyWorldSaid : Prop := fnExactEmptyWorldRow.holds Tryd.pinned (OpenSpec.ofChange fnExactEmptyWorldSpec)

/-- ITS FALSE NEIGHBOUR: 'it returns false'. Refute it at one input. -/
def fnExactEmptyWorldWrong : ChangeSpec := { name := "fnExactEmptyWorld", fn := fun _ => fun
  | [d1, d2, d3] => { results := [.lit (.bool false)], args := [d1, d2, d3] }
  | _ => none }
def FnExactEmptyWorldWrongFalsely : Prop := fnExactEmptyWorldRow.holds Tryd.pinned (OpenSpec.ofChange fnExactEmptyWorldWrong)

/-- 'laws.FnExactFirstPlain': WHATEVER THE INPUT: true; the input reads as it did. -/
def fnExactFirstPlainSpec : ChangeSpec := { name := "fnExactFirstPlain", fn := fun _ => fun
  | [d] => { results := [.lit (.bool true)], args := [d] }
  | _ => none }
def fnExactFirstPlainRow : OpenClaim := { program := "ytggpolgcbojmeaadoor", sum := "e410843b1dd3f0853229ab7324c6ada0d855a442283b32f8e4d471a344b0d05b", func := "loop.example/g01276/laws.FnExactFirstPlain", spec := "fnExactFirstPlain", inPlace := ["internal/bytealg.IndexByteString", "internal/bytealg.IndexString"], named := ["unicode/utf8.first", "unicode/utf8.acceptRanges", "internal/bytealg.MaxLen"], apart := false, laid := [("unicode/utf8.acceptRanges", laid_unicode_utf8_acceptRanges), ("unicode/utf8.first", laid_unicode_utf8_first)] }
def FnExactFirstPlainSaid : Prop := fnExactFirstPlainRow.holds Tryd.pinned (OpenSpec.ofChange fnExactFirstPlainSpec)

/-- ITS FALSE NEIGHBOUR: 'it returns false'. Refute it at one input. -/
def fnExactFirstPlainWrong : ChangeSpec := { name := "fnExactFirstPlain", fn := fun _ => fun
  | [d] => { results := [.lit (.bool false)], args := [d] }
  | _ => none }
def FnExactFirstPlainWrongFalsely : Prop := fnExactFirstPlainRow.holds Tryd.pinned (OpenSpec.ofChange fnExactFirstPlainWrong)

/- THE SECOND FORM. 'bulk': how many values and letters a reading holds, each counted each time it is reached (what is shared counts as often as it is met; a slice's spare places count too). A statement '..UptoSaid' is the law's where the arguments, and the package variables that the reading takes, are together of bulk at most 1048576: NARROWER than '..Said'. Prove '..Said' where nothing that the law and all that it calls make is longer than what came in: it says more and counts as full. Else prove '..UptoSaid'. A law counts once. -/
mutual
def uptoBulk {H : Type} : DataW H → Nat
  | .lit (.string bytes) => bytes.length + 1
  | .lit _ => 1
  | .nil => 1
  | .ptr d => uptoBulk d + 1
  | .slice elems spare => uptoBulkAll elems + uptoBulkAll spare + 1
  | .agg parts => uptoBulkAll parts + 1
  | .iface _ d => uptoBulk d + 1
  | .map entries => uptoBulkEntries entries + 1
  | .held _ => 1
def uptoBulkAll {H : Type} : List (DataW H) → Nat
  | [] => 0
  | d :: r => uptoBulk d + uptoBulkAll r
def uptoBulkEntries {H : Type} : List (Lit × DataW H) → Nat
  | [] => 0
  | x :: r => uptoBulkEntry x + uptoBulkEntries r
def uptoBulkEntry {H : Type} : Lit × DataW H → Nat
  | (.string bytes, d) => bytes.length + uptoBulk d + 1
  | (_, d) => uptoBulk d + 1
 end
def uptoSmall : (H : Type) → List (DataW H) → Bool := fun _ ds => decide (uptoBulkAll ds ≤ 1048576)
def OpenSpec.upto (s : _root_.Go.ChangeSpec) : _root_.Go.OpenSpec := { _root_.Go.OpenSpec.ofChange s with cond := some uptoSmall }

/-- 'laws.FnExactIsRule', WHERE WHAT IT READS IS OF BULK AT MOST 1048576: true; the input reads as it did. -/
def fnExactIsRuleUptoRow : OpenClaim := { program := "ytggpolgcbojmeaadoor", sum := "e410843b1dd3f0853229ab7324c6ada0d855a442283b32f8e4d471a344b0d05b", func := "loop.example/g01276/laws.FnExactIsRule", spec := "fnExactIsRule", inPlace := ["internal/bytealg.IndexByteString", "internal/bytealg.IndexString"], named := ["unicode/utf8.first", "unicode/utf8.acceptRanges", "internal/bytealg.MaxLen"], apart := false, laid := [("unicode/utf8.acceptRanges", laid_unicode_utf8_acceptRanges), ("unicode/utf8.first", laid_unicode_utf8_first)], narrowed := true }
def FnExactIsRuleUptoSaid : Prop := fnExactIsRuleUptoRow.holds Tryd.pinned (OpenSpec.upto fnExactIsRuleSpec)

/-- 'laws.FnExactIsWorld', WHERE WHAT IT READS IS OF BULK AT MOST 1048576: true; the input reads as it did. -/
def fnExactIsWorldUptoRow : OpenClaim := { program := "ytggpolgcbojmeaadoor", sum := "e410843b1dd3f0853229ab7324c6ada0d855a442283b32f8e4d471a344b0d05b", func := "loop.example/g01276/laws.FnExactIsWorld", spec := "fnExactIsWorld", inPlace := ["internal/bytealg.IndexByteString", "internal/bytealg.IndexString"], named := ["unicode/utf8.first", "unicode/utf8.acceptRanges", "internal/bytealg.MaxLen"], apart := false, laid := [("unicode/utf8.acceptRanges", laid_unicode_utf8_acceptRanges), ("unicode/utf8.first", laid_unicode_utf8_first)], narrowed := true }
def FnExactIsWorldUptoSaid : Prop := fnExactIsWorldUptoRow.holds Tryd.pinned (OpenSpec.upto fnExactIsWorldSpec)

/-- 'laws.FnExactColourAt', WHERE WHAT IT READS IS OF BULK AT MOST 1048576: true; the input reads as it did. -/
def fnExactColourAtUptoRow : OpenClaim := { program := "ytggpolgcbojmeaadoor", sum := "e410843b1dd3f0853229ab7324c6ada0d855a442283b32f8e4d471a344b0d05b", func := "loop.example/g01276/laws.FnExactColourAt", spec := "fnExactColourAt", inPlace := ["internal/bytealg.IndexByteString", "internal/bytealg.IndexString"], named := ["unicode/utf8.first", "unicode/utf8.acceptRanges", "internal/bytealg.MaxLen"], apart := false, laid := [("unicode/utf8.acceptRanges", laid_unicode_utf8_acceptRanges), ("unicode/utf8.first", laid_unicode_utf8_first)], narrowed := true }
def FnExactColourAtUptoSaid : Prop := fnExactColourAtUptoRow.holds Tryd.pinned (OpenSpec.upto fnExactColourAtSpec)

/-- 'laws.FnExactColourSum', WHERE WHAT IT READS IS OF BULK AT MOST 1048576: true; the input reads as it did. -/
def fnExactColourSumUptoRow : OpenClaim := { program := "ytggpolgcbojmeaadoor", sum := "e410843b1dd3f0853229ab7324c6ada0d855a442283b32f8e4d471a344b0d05b", func := "loop.example/g01276/laws.FnExactColourSum", spec := "fnExactColourSum", inPlace := ["internal/bytealg.IndexByteString", "internal/bytealg.IndexString"], named := ["unicode/utf8.first", "unicode/utf8.acceptRanges", "internal/bytealg.MaxLen"], apart := false, laid := [("unicode/utf8.acceptRanges", laid_unicode_utf8_acceptRanges), ("unicode/utf8.first", laid_unicode_utf8_first)], narrowed := true }
def FnExactColourSumUptoSaid : Prop := fnExactColourSumUptoRow.holds Tryd.pinned (OpenSpec.upto fnExactColourSumSpec)

/-- 'laws.FnExactPlaceAnt', WHERE WHAT IT READS IS OF BULK AT MOST 1048576: true; the input reads as it did. -/
def fnExactPlaceAntUptoRow : OpenClaim := { program := "ytggpolgcbojmeaadoor", sum := "e410843b1dd3f0853229ab7324c6ada0d855a442283b32f8e4d471a344b0d05b", func := "loop.example/g01276/laws.FnExactPlaceAnt", spec := "fnExactPlaceAnt", inPlace := ["internal/bytealg.IndexByteString", "internal/bytealg.IndexString"], named := ["unicode/utf8.first", "unicode/utf8.acceptRanges", "internal/bytealg.MaxLen"], apart := false, laid := [("unicode/utf8.acceptRanges", laid_unicode_utf8_acceptRanges), ("unicode/utf8.first", laid_unicode_utf8_first)], narrowed := true }
def FnExactPlaceAntUptoSaid : Prop := fnExactPlaceAntUptoRow.holds Tryd.pinned (OpenSpec.upto fnExactPlaceAntSpec)

/-- 'laws.FnExactCountColours', WHERE WHAT IT READS IS OF BULK AT MOST 1048576: true; the input reads as it did. -/
def fnExactCountColoursUptoRow : OpenClaim := { program := "ytggpolgcbojmeaadoor", sum := "e410843b1dd3f0853229ab7324c6ada0d855a442283b32f8e4d471a344b0d05b", func := "loop.example/g01276/laws.FnExactCountColours", spec := "fnExactCountColours", inPlace := ["internal/bytealg.IndexByteString", "internal/bytealg.IndexString"], named := ["unicode/utf8.first", "unicode/utf8.acceptRanges", "internal/bytealg.MaxLen"], apart := false, laid := [("unicode/utf8.acceptRanges", laid_unicode_utf8_acceptRanges), ("unicode/utf8.first", laid_unicode_utf8_first)], narrowed := true }
def FnExactCountColoursUptoSaid : Prop := fnExactCountColoursUptoRow.holds Tryd.pinned (OpenSpec.upto fnExactCountColoursSpec)

/-- 'laws.FnExactPaintCell', WHERE WHAT IT READS IS OF BULK AT MOST 1048576: true; the input reads as it did. -/
def fnExactPaintCellUptoRow : OpenClaim := { program := "ytggpolgcbojmeaadoor", sum := "e410843b1dd3f0853229ab7324c6ada0d855a442283b32f8e4d471a344b0d05b", func := "loop.example/g01276/laws.FnExactPaintCell", spec := "fnExactPaintCell", inPlace := ["internal/bytealg.IndexByteString", "internal/bytealg.IndexString"], recurses := true, named := ["unicode/utf8.first", "unicode/utf8.acceptRanges", "internal/bytealg.MaxLen"], apart := false, laid := [("unicode/utf8.acceptRanges", laid_unicode_utf8_acceptRanges), ("unicode/utf8.first", laid_unicode_utf8_first)], narrowed := true }
def FnExactPaintCellUptoSaid : Prop := fnExactPaintCellUptoRow.holds Tryd.pinned (OpenSpec.upto fnExactPaintCellSpec)

/-- 'laws.FnExactStepBack', WHERE WHAT IT READS IS OF BULK AT MOST 1048576: true; the input reads as it did. -/
def fnExactStepBackUptoRow : OpenClaim := { program := "ytggpolgcbojmeaadoor", sum := "e410843b1dd3f0853229ab7324c6ada0d855a442283b32f8e4d471a344b0d05b", func := "loop.example/g01276/laws.FnExactStepBack", spec := "fnExactStepBack", inPlace := ["internal/bytealg.IndexByteString", "internal/bytealg.IndexString"], recurses := true, named := ["unicode/utf8.first", "unicode/utf8.acceptRanges", "internal/bytealg.MaxLen"], apart := false, laid := [("unicode/utf8.acceptRanges", laid_unicode_utf8_acceptRanges), ("unicode/utf8.first", laid_unicode_utf8_first)], narrowed := true }
def FnExactStepBackUptoSaid : Prop := fnExactStepBackUptoRow.holds Tryd.pinned (OpenSpec.upto fnExactStepBackSpec)

/-- 'laws.FnExactWorldBefore', WHERE WHAT IT READS IS OF BULK AT MOST 1048576: true; the input reads as it did. -/
def fnExactWorldBeforeUptoRow : OpenClaim := { program := "ytggpolgcbojmeaadoor", sum := "e410843b1dd3f0853229ab7324c6ada0d855a442283b32f8e4d471a344b0d05b", func := "loop.example/g01276/laws.FnExactWorldBefore", spec := "fnExactWorldBefore", inPlace := ["internal/bytealg.IndexByteString", "internal/bytealg.IndexString"], recurses := true, named := ["unicode/utf8.first", "unicode/utf8.acceptRanges", "internal/bytealg.MaxLen"], apart := false, laid := [("unicode/utf8.acceptRanges", laid_unicode_utf8_acceptRanges), ("unicode/utf8.first", laid_unicode_utf8_first)], narrowed := true }
def FnExactWorldBeforeUptoSaid : Prop := fnExactWorldBeforeUptoRow.holds Tryd.pinned (OpenSpec.upto fnExactWorldBeforeSpec)

/-- 'laws.FnExactCountWorlds', WHERE WHAT IT READS IS OF BULK AT MOST 1048576: true; the input reads as it did. -/
def fnExactCountWorldsUptoRow : OpenClaim := { program := "ytggpolgcbojmeaadoor", sum := "e410843b1dd3f0853229ab7324c6ada0d855a442283b32f8e4d471a344b0d05b", func := "loop.example/g01276/laws.FnExactCountWorlds", spec := "fnExactCountWorlds", inPlace := ["internal/bytealg.IndexByteString", "internal/bytealg.IndexString"], named := ["unicode/utf8.first", "unicode/utf8.acceptRanges", "internal/bytealg.MaxLen"], apart := false, laid := [("unicode/utf8.acceptRanges", laid_unicode_utf8_acceptRanges), ("unicode/utf8.first", laid_unicode_utf8_first)], narrowed := true }
def FnExactCountWorldsUptoSaid : Prop := fnExactCountWorldsUptoRow.holds Tryd.pinned (OpenSpec.upto fnExactCountWorldsSpec)

/-- 'laws.FnExactEmptyWorld', WHERE WHAT IT READS IS OF BULK AT MOST 1048576: true; the input reads as it did. -/
def fnExactEmptyWorldUptoRow : OpenClaim := { program := "ytggpolgcbojmeaadoor", sum := "e410843b1dd3f0853229ab7324c6ada0d855a442283b32f8e4d471a344b0d05b", func := "loop.example/g01276/laws.FnExactEmptyWorld", spec := "fnExactEmptyWorld", inPlace := ["internal/bytealg.IndexByteString", "internal/bytealg.IndexString", "internal/abi.NoEscape", "internal/bytealg.MakeNoZero"], named := ["unicode/utf8.first", "unicode/utf8.acceptRanges", "internal/bytealg.MaxLen"], apart := false, laid := [("unicode/utf8.acceptRanges", laid_unicode_utf8_acceptRanges), ("unicode/utf8.first", laid_unicode_utf8_first)], narrowed := true }
def FnExactEmptyWorldUptoSaid : Prop := fnExactEmptyWorldUptoRow.holds Tryd.pinned (OpenSpec.upto fnExactEmptyWorldSpec)

/-- 'laws.FnExactFirstPlain', WHERE WHAT IT READS IS OF BULK AT MOST 1048576: true; the input reads as it did. -/
def fnExactFirstPlainUptoRow : OpenClaim := { program := "ytggpolgcbojmeaadoor", sum := "e410843b1dd3f0853229ab7324c6ada0d855a442283b32f8e4d471a344b0d05b", func := "loop.example/g01276/laws.FnExactFirstPlain", spec := "fnExactFirstPlain", inPlace := ["internal/bytealg.IndexByteString", "internal/bytealg.IndexString"], named := ["unicode/utf8.first", "unicode/utf8.acceptRanges", "internal/bytealg.MaxLen"], apart := false, laid := [("unicode/utf8.acceptRanges", laid_unicode_utf8_acceptRanges), ("unicode/utf8.first", laid_unicode_utf8_first)], narrowed := true }
def FnExactFirstPlainUptoSaid : Prop := fnExactFirstPlainUptoRow.holds Tryd.pinned (OpenSpec.upto fnExactFirstPlainSpec)

end Rows
end Go.Proofs.YtggpolgcbojmeaaDoor
