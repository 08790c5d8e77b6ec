/-
  NARROWER THAN 'FOR EVERY INPUT', by the rows' own cells (each row's printed sentence says how): FnExactIsMaze: laid · FnExactIsBall: laid · FnExactEntryOf: laid · FnExactHitCell: laid · FnExactCountMirrors: laid · FnExactExitOf: laid · FnExactHitsOfBall: laid · FnExactLongestTrack: laid · FnExactBallsUntilSame: laid · FnExactMazeAfterBall: laid · FnExactExitTable: laid · FnExactExitsInTurn: laid.
  DERIVED. THE GIVEN ROWS OF THIS SEAT. 12 by the template 'for every input the law returns true; each argument reads behind the call as it read before'; 0 by the template 'total and deterministic' (their statements: YthmokfnejjiplaaDoorTotals.lean).
  GIVEN WITH THE SEED: the statements are not yours to turn. If you find one false, say at which input.
  Laid BY PROGRAM, IN A SANDBOX (cutbox-rows.mjs): the forced cells as the released guide's own fill.sh prints them over the translation 5c53e58884787ca1… (all of the seat's roots in one cut). By AI agents, Wed Nov 11 2026. No macro, syntax, notation, axiom, sorry.
-/
import Derived.Test.YthmokfnejjiplaaDoorChecked
import GoSem.PinnedTables
import GoSem.Claim
import GoSem.ClaimJoined
import GoSem.ClaimMapViews
import Derived.JoinedTies
import Derived.KernelRfl
namespace Go.Proofs.YthmokfnejjiplaaDoor
/- THE CELL 'sum', in the pinned program and in every row, IS THE sha256 OF THE DUMP (.gsa) THAT YthmokfnejjiplaaDoorProg.lean LOADS. Nothing in Lean hashes anything: it is a label: what it is worth is what the hold of that sum in a sandbox is worth. -/
noncomputable def Tryd.pinned : Pinned := { name := "ythmokfnejjiplaadoor", sum := "5c53e58884787ca1984adb102041ceed48ca8cba08debf9cad67ff184dd17f5b", checked := Tryd.checked }
namespace Rows
def none {H : Type} : Left H := { results := [], args := [] }

/- WHAT THE LISTED PACKAGE-LEVEL VARIABLES READ AS WHEN THE CALL BEGINS. Each datum BY PROGRAM (the guide's laid-datum.mjs) off the statement by which the dump's own 'gosem.cut.vars' lays the variable. In a bare row this is a premise. The card (YthmokfnejjiplaaDoorCards.lean) ties it to the program's text. -/
def laid_unicode_utf8_acceptRanges {H : Type} : DataW H := .agg [.agg [.lit (.int .u8 128), .lit (.int .u8 191)], .agg [.lit (.int .u8 160), .lit (.int .u8 191)], .agg [.lit (.int .u8 128), .lit (.int .u8 159)], .agg [.lit (.int .u8 144), .lit (.int .u8 191)], .agg [.lit (.int .u8 128), .lit (.int .u8 143)], .agg [.lit (.int .u8 0), .lit (.int .u8 0)], .agg [.lit (.int .u8 0), .lit (.int .u8 0)], .agg [.lit (.int .u8 0), .lit (.int .u8 0)], .agg [.lit (.int .u8 0), .lit (.int .u8 0)], .agg [.lit (.int .u8 0), .lit (.int .u8 0)], .agg [.lit (.int .u8 0), .lit (.int .u8 0)], .agg [.lit (.int .u8 0), .lit (.int .u8 0)], .agg [.lit (.int .u8 0), .lit (.int .u8 0)], .agg [.lit (.int .u8 0), .lit (.int .u8 0)], .agg [.lit (.int .u8 0), .lit (.int .u8 0)], .agg [.lit (.int .u8 0), .lit (.int .u8 0)]]
/-- One of Go's own tables, pinned by name: the form's constant. -/
def laid_unicode_utf8_first : DataW Unit := Go.Pinned.utf8First

/-- 'laws.FnExactIsMaze': WHATEVER THE INPUT: true; the input reads as it did. -/
def fnExactIsMazeSpec : ChangeSpec := { name := "fnExactIsMaze", fn := fun _ => fun
  | [d] => { results := [.lit (.bool true)], args := [d] }
  | _ => none }
def fnExactIsMazeRow : OpenClaim := { program := "ythmokfnejjiplaadoor", sum := "5c53e58884787ca1984adb102041ceed48ca8cba08debf9cad67ff184dd17f5b", func := "loop.example/g01276/laws.FnExactIsMaze", spec := "fnExactIsMaze", inPlace := ["internal/bytealg.IndexByteString", "internal/bytealg.IndexString"], named := ["unicode/utf8.first", "unicode/utf8.acceptRanges", "internal/bytealg.MaxLen"], apart := false, laid := [("unicode/utf8.acceptRanges", laid_unicode_utf8_acceptRanges), ("unicode/utf8.first", laid_unicode_utf8_first)] }
def FnExactIsMazeSaid : Prop := fnExactIsMazeRow.holds Tryd.pinned (OpenSpec.ofChange fnExactIsMazeSpec)

/-- ITS FALSE NEIGHBOUR: 'it returns false'. Refute it at one input. -/
def fnExactIsMazeWrong : ChangeSpec := { name := "fnExactIsMaze", fn := fun _ => fun
  | [d] => { results := [.lit (.bool false)], args := [d] }
  | _ => none }
def FnExactIsMazeWrongFalsely : Prop := fnExactIsMazeRow.holds Tryd.pinned (OpenSpec.ofChange fnExactIsMazeWrong)

/-- 'laws.FnExactIsBall': WHATEVER THE INPUT: true; the input reads as it did. -/
def fnExactIsBallSpec : ChangeSpec := { name := "fnExactIsBall", fn := fun _ => fun
  | [d1, d2] => { results := [.lit (.bool true)], args := [d1, d2] }
  | _ => none }
def fnExactIsBallRow : OpenClaim := { program := "ythmokfnejjiplaadoor", sum := "5c53e58884787ca1984adb102041ceed48ca8cba08debf9cad67ff184dd17f5b", func := "loop.example/g01276/laws.FnExactIsBall", spec := "fnExactIsBall", inPlace := ["internal/bytealg.IndexByteString", "internal/bytealg.IndexString"], named := ["unicode/utf8.first", "unicode/utf8.acceptRanges", "internal/bytealg.MaxLen"], apart := false, laid := [("unicode/utf8.acceptRanges", laid_unicode_utf8_acceptRanges), ("unicode/utf8.first", laid_unicode_utf8_first)] }
def FnExactIsBallSaid : Prop := fnExactIsBallRow.holds Tryd.pinned (OpenSpec.ofChange fnExactIsBallSpec)

/-- ITS FALSE NEIGHBOUR: 'it returns false'. Refute it at one input. -/
def fnExactIsBallWrong : ChangeSpec := { name := "fnExactIsBall", fn := fun _ => fun
  | [d1, d2] => { results := [.lit (.bool false)], args := [d1, d2] }
  | _ => none }
def FnExactIsBallWrongFalsely : Prop := fnExactIsBallRow.holds Tryd.pinned (OpenSpec.ofChange fnExactIsBallWrong)

/-- 'laws.FnExactEntryOf': WHATEVER THE INPUT: true; the input reads as it did. -/
def fnExactEntryOfSpec : ChangeSpec := { name := "fnExactEntryOf", fn := fun _ => fun
  | [d1, d2] => { results := [.lit (.bool true)], args := [d1, d2] }
  | _ => none }
def fnExactEntryOfRow : OpenClaim := { program := "ythmokfnejjiplaadoor", sum := "5c53e58884787ca1984adb102041ceed48ca8cba08debf9cad67ff184dd17f5b", func := "loop.example/g01276/laws.FnExactEntryOf", spec := "fnExactEntryOf", inPlace := ["internal/bytealg.IndexByteString", "internal/bytealg.IndexString"], named := ["unicode/utf8.first", "unicode/utf8.acceptRanges", "internal/bytealg.MaxLen"], apart := false, laid := [("unicode/utf8.acceptRanges", laid_unicode_utf8_acceptRanges), ("unicode/utf8.first", laid_unicode_utf8_first)] }
def FnExactEntryOfSaid : Prop := fnExactEntryOfRow.holds Tryd.pinned (OpenSpec.ofChange fnExactEntryOfSpec)

/-- ITS FALSE NEIGHBOUR: 'it returns false'. Refute it at one input. -/
def fnExactEntryOfWrong : ChangeSpec := { name := "fnExactEntryOf", fn := fun _ => fun
  | [d1, d2] => { results := [.lit (.bool false)], args := [d1, d2] }
  | _ => none }
def FnExactEntryOfWrongFalsely : Prop := fnExactEntryOfRow.holds Tryd.pinned (OpenSpec.ofChange fnExactEntryOfWrong)

/-- 'laws.FnExactHitCell': WHATEVER THE INPUT: true; the input reads as it did. -/
def fnExactHitCellSpec : ChangeSpec := { name := "fnExactHitCell", fn := fun _ => fun
  | [d1, d2] => { results := [.lit (.bool true)], args := [d1, d2] }
  | _ => none }
def fnExactHitCellRow : OpenClaim := { program := "ythmokfnejjiplaadoor", sum := "5c53e58884787ca1984adb102041ceed48ca8cba08debf9cad67ff184dd17f5b", func := "loop.example/g01276/laws.FnExactHitCell", spec := "fnExactHitCell", inPlace := ["internal/bytealg.IndexByteString", "internal/bytealg.IndexString"], named := ["unicode/utf8.first", "unicode/utf8.acceptRanges", "internal/bytealg.MaxLen"], apart := false, laid := [("unicode/utf8.acceptRanges", laid_unicode_utf8_acceptRanges), ("unicode/utf8.first", laid_unicode_utf8_first)] }
def FnExactHitCellSaid : Prop := fnExactHitCellRow.holds Tryd.pinned (OpenSpec.ofChange fnExactHitCellSpec)

/-- ITS FALSE NEIGHBOUR: 'it returns false'. Refute it at one input. -/
def fnExactHitCellWrong : ChangeSpec := { name := "fnExactHitCell", fn := fun _ => fun
  | [d1, d2] => { results := [.lit (.bool false)], args := [d1, d2] }
  | _ => none }
def FnExactHitCellWrongFalsely : Prop := fnExactHitCellRow.holds Tryd.pinned (OpenSpec.ofChange fnExactHitCellWrong)

/-- 'laws.FnExactCountMirrors': WHATEVER THE INPUT: true; the input reads as it did. -/
def fnExactCountMirrorsSpec : ChangeSpec := { name := "fnExactCountMirrors", fn := fun _ => fun
  | [d] => { results := [.lit (.bool true)], args := [d] }
  | _ => none }
def fnExactCountMirrorsRow : OpenClaim := { program := "ythmokfnejjiplaadoor", sum := "5c53e58884787ca1984adb102041ceed48ca8cba08debf9cad67ff184dd17f5b", func := "loop.example/g01276/laws.FnExactCountMirrors", spec := "fnExactCountMirrors", inPlace := ["internal/bytealg.IndexByteString", "internal/bytealg.IndexString", "internal/bytealg.CountString"], named := ["unicode/utf8.first", "unicode/utf8.acceptRanges", "internal/bytealg.MaxLen"], apart := false, laid := [("unicode/utf8.acceptRanges", laid_unicode_utf8_acceptRanges), ("unicode/utf8.first", laid_unicode_utf8_first)] }
def FnExactCountMirrorsSaid : Prop := fnExactCountMirrorsRow.holds Tryd.pinned (OpenSpec.ofChange fnExactCountMirrorsSpec)

/-- ITS FALSE NEIGHBOUR: 'it returns false'. Refute it at one input. -/
def fnExactCountMirrorsWrong : ChangeSpec := { name := "fnExactCountMirrors", fn := fun _ => fun
  | [d] => { results := [.lit (.bool false)], args := [d] }
  | _ => none }
def FnExactCountMirrorsWrongFalsely : Prop := fnExactCountMirrorsRow.holds Tryd.pinned (OpenSpec.ofChange fnExactCountMirrorsWrong)

/-- 'laws.FnExactExitOf': WHATEVER THE INPUT: true; the input reads as it did. -/
def fnExactExitOfSpec : ChangeSpec := { name := "fnExactExitOf", fn := fun _ => fun
  | [d1, d2] => { results := [.lit (.bool true)], args := [d1, d2] }
  | _ => none }
def fnExactExitOfRow : OpenClaim := { program := "ythmokfnejjiplaadoor", sum := "5c53e58884787ca1984adb102041ceed48ca8cba08debf9cad67ff184dd17f5b", func := "loop.example/g01276/laws.FnExactExitOf", spec := "fnExactExitOf", inPlace := ["internal/bytealg.IndexByteString", "internal/bytealg.IndexString"], named := ["unicode/utf8.first", "unicode/utf8.acceptRanges", "internal/bytealg.MaxLen"], apart := false, laid := [("unicode/utf8.acceptRanges", laid_unicode_utf8_acceptRanges), ("unicode/utf8.first", laid_unicode_utf8_first)] }
def FnExactExitOfSaid : Prop := fnExactExitOfRow.holds Tryd.pinned (OpenSpec.ofChange fnExactExitOfSpec)

/-- ITS FALSE NEIGHBOUR: 'it returns false'. Refute it at one input. -/
def fnExactExitOfWrong : ChangeSpec := { name := "fnExactExitOf", fn := fun _ => fun
  | [d1, d2] => { results := [.lit (.bool false)], args := [d1, d2] }
  | _ => none }
def FnExactExitOfWrongFalsely : Prop := fnExactExitOfRow.holds Tryd.pinned (OpenSpec.ofChange fnExactExitOfWrong)

/-- 'laws.FnExactHitsOfBall': WHATEVER THE INPUT: true; the input reads as it did. -/
def fnExactHitsOfBallSpec : ChangeSpec := { name := "fnExactHitsOfBall", fn := fun _ => fun
  | [d1, d2] => { results := [.lit (.bool true)], args := [d1, d2] }
  | _ => none }
def fnExactHitsOfBallRow : OpenClaim := { program := "ythmokfnejjiplaadoor", sum := "5c53e58884787ca1984adb102041ceed48ca8cba08debf9cad67ff184dd17f5b", func := "loop.example/g01276/laws.FnExactHitsOfBall", spec := "fnExactHitsOfBall", inPlace := ["internal/bytealg.IndexByteString", "internal/bytealg.IndexString"], named := ["unicode/utf8.first", "unicode/utf8.acceptRanges", "internal/bytealg.MaxLen"], apart := false, laid := [("unicode/utf8.acceptRanges", laid_unicode_utf8_acceptRanges), ("unicode/utf8.first", laid_unicode_utf8_first)] }
def FnExactHitsOfBallSaid : Prop := fnExactHitsOfBallRow.holds Tryd.pinned (OpenSpec.ofChange fnExactHitsOfBallSpec)

/-- ITS FALSE NEIGHBOUR: 'it returns false'. Refute it at one input. -/
def fnExactHitsOfBallWrong : ChangeSpec := { name := "fnExactHitsOfBall", fn := fun _ => fun
  | [d1, d2] => { results := [.lit (.bool false)], args := [d1, d2] }
  | _ => none }
def FnExactHitsOfBallWrongFalsely : Prop := fnExactHitsOfBallRow.holds Tryd.pinned (OpenSpec.ofChange fnExactHitsOfBallWrong)

/-- 'laws.FnExactLongestTrack': WHATEVER THE INPUT: true; the input reads as it did. -/
def fnExactLongestTrackSpec : ChangeSpec := { name := "fnExactLongestTrack", fn := fun _ => fun
  | [d] => { results := [.lit (.bool true)], args := [d] }
  | _ => none }
def fnExactLongestTrackRow : OpenClaim := { program := "ythmokfnejjiplaadoor", sum := "5c53e58884787ca1984adb102041ceed48ca8cba08debf9cad67ff184dd17f5b", func := "loop.example/g01276/laws.FnExactLongestTrack", spec := "fnExactLongestTrack", inPlace := ["internal/bytealg.IndexByteString", "internal/bytealg.IndexString"], named := ["unicode/utf8.first", "unicode/utf8.acceptRanges", "internal/bytealg.MaxLen"], apart := false, laid := [("unicode/utf8.acceptRanges", laid_unicode_utf8_acceptRanges), ("unicode/utf8.first", laid_unicode_utf8_first)] }
def FnExactLongestTrackSaid : Prop := fnExactLongestTrackRow.holds Tryd.pinned (OpenSpec.ofChange fnExactLongestTrackSpec)

/-- ITS FALSE NEIGHBOUR: 'it returns false'. Refute it at one input. -/
def fnExactLongestTrackWrong : ChangeSpec := { name := "fnExactLongestTrack", fn := fun _ => fun
  | [d] => { results := [.lit (.bool false)], args := [d] }
  | _ => none }
def FnExactLongestTrackWrongFalsely : Prop := fnExactLongestTrackRow.holds Tryd.pinned (OpenSpec.ofChange fnExactLongestTrackWrong)

/-- 'laws.FnExactBallsUntilSame': WHATEVER THE INPUT: true; the input reads as it did. -/
def fnExactBallsUntilSameSpec : ChangeSpec := { name := "fnExactBallsUntilSame", fn := fun _ => fun
  | [d1, d2] => { results := [.lit (.bool true)], args := [d1, d2] }
  | _ => none }
def fnExactBallsUntilSameRow : OpenClaim := { program := "ythmokfnejjiplaadoor", sum := "5c53e58884787ca1984adb102041ceed48ca8cba08debf9cad67ff184dd17f5b", func := "loop.example/g01276/laws.FnExactBallsUntilSame", spec := "fnExactBallsUntilSame", inPlace := ["internal/bytealg.IndexByteString", "internal/bytealg.IndexString"], named := ["unicode/utf8.first", "unicode/utf8.acceptRanges", "internal/bytealg.MaxLen"], apart := false, laid := [("unicode/utf8.acceptRanges", laid_unicode_utf8_acceptRanges), ("unicode/utf8.first", laid_unicode_utf8_first)] }
def FnExactBallsUntilSameSaid : Prop := fnExactBallsUntilSameRow.holds Tryd.pinned (OpenSpec.ofChange fnExactBallsUntilSameSpec)

/-- ITS FALSE NEIGHBOUR: 'it returns false'. Refute it at one input. -/
def fnExactBallsUntilSameWrong : ChangeSpec := { name := "fnExactBallsUntilSame", fn := fun _ => fun
  | [d1, d2] => { results := [.lit (.bool false)], args := [d1, d2] }
  | _ => none }
def FnExactBallsUntilSameWrongFalsely : Prop := fnExactBallsUntilSameRow.holds Tryd.pinned (OpenSpec.ofChange fnExactBallsUntilSameWrong)

/-- 'laws.FnExactMazeAfterBall': WHATEVER THE INPUT: true; the input reads as it did. -/
def fnExactMazeAfterBallSpec : ChangeSpec := { name := "fnExactMazeAfterBall", fn := fun _ => fun
  | [d1, d2] => { results := [.lit (.bool true)], args := [d1, d2] }
  | _ => none }
def fnExactMazeAfterBallRow : OpenClaim := { program := "ythmokfnejjiplaadoor", sum := "5c53e58884787ca1984adb102041ceed48ca8cba08debf9cad67ff184dd17f5b", func := "loop.example/g01276/laws.FnExactMazeAfterBall", spec := "fnExactMazeAfterBall", inPlace := ["internal/bytealg.IndexByteString", "internal/bytealg.IndexString"], named := ["unicode/utf8.first", "unicode/utf8.acceptRanges", "internal/bytealg.MaxLen"], apart := false, laid := [("unicode/utf8.acceptRanges", laid_unicode_utf8_acceptRanges), ("unicode/utf8.first", laid_unicode_utf8_first)] }
def FnExactMazeAfterBallSaid : Prop := fnExactMazeAfterBallRow.holds Tryd.pinned (OpenSpec.ofChange fnExactMazeAfterBallSpec)

/-- ITS FALSE NEIGHBOUR: 'it returns false'. Refute it at one input. -/
def fnExactMazeAfterBallWrong : ChangeSpec := { name := "fnExactMazeAfterBall", fn := fun _ => fun
  | [d1, d2] => { results := [.lit (.bool false)], args := [d1, d2] }
  | _ => none }
def FnExactMazeAfterBallWrongFalsely : Prop := fnExactMazeAfterBallRow.holds Tryd.pinned (OpenSpec.ofChange fnExactMazeAfterBallWrong)

/-- 'laws.FnExactExitTable': WHATEVER THE INPUT: true; the input reads as it did. -/
def fnExactExitTableSpec : ChangeSpec := { name := "fnExactExitTable", fn := fun _ => fun
  | [d] => { results := [.lit (.bool true)], args := [d] }
  | _ => none }
def fnExactExitTableRow : OpenClaim := { program := "ythmokfnejjiplaadoor", sum := "5c53e58884787ca1984adb102041ceed48ca8cba08debf9cad67ff184dd17f5b", func := "loop.example/g01276/laws.FnExactExitTable", spec := "fnExactExitTable", inPlace := ["internal/bytealg.IndexByteString", "internal/bytealg.IndexString"], named := ["unicode/utf8.first", "unicode/utf8.acceptRanges", "internal/bytealg.MaxLen"], apart := false, laid := [("unicode/utf8.acceptRanges", laid_unicode_utf8_acceptRanges), ("unicode/utf8.first", laid_unicode_utf8_first)] }
def FnExactExitTableSaid : Prop := fnExactExitTableRow.holds Tryd.pinned (OpenSpec.ofChange fnExactExitTableSpec)

/-- ITS FALSE NEIGHBOUR: 'it returns false'. Refute it at one input. -/
def fnExactExitTableWrong : ChangeSpec := { name := "fnExactExitTable", fn := fun _ => fun
  | [d] => { results := [.lit (.bool false)], args := [d] }
  | _ => none }
def FnExactExitTableWrongFalsely : Prop := fnExactExitTableRow.holds Tryd.pinned (OpenSpec.ofChange fnExactExitTableWrong)

/-- 'laws.FnExactExitsInTurn': WHATEVER THE INPUT: true; the input reads as it did. -/
def fnExactExitsInTurnSpec : ChangeSpec := { name := "fnExactExitsInTurn", fn := fun _ => fun
  | [d1, d2, d3] => { results := [.lit (.bool true)], args := [d1, d2, d3] }
  | _ => none }
def fnExactExitsInTurnRow : OpenClaim := { program := "ythmokfnejjiplaadoor", sum := "5c53e58884787ca1984adb102041ceed48ca8cba08debf9cad67ff184dd17f5b", func := "loop.example/g01276/laws.FnExactExitsInTurn", spec := "fnExactExitsInTurn", inPlace := ["internal/bytealg.IndexByteString", "internal/bytealg.IndexString"], named := ["unicode/utf8.first", "unicode/utf8.acceptRanges", "internal/bytealg.MaxLen"], apart := false, laid := [("unicode/utf8.acceptRanges", laid_unicode_utf8_acceptRanges), ("unicode/utf8.first", laid_unicode_utf8_first)] }
def FnExactExitsInTurnSaid : Prop := fnExactExitsInTurnRow.holds Tryd.pinned (OpenSpec.ofChange fnExactExitsInTurnSpec)

/-- ITS FALSE NEIGHBOUR: 'it returns false'. Refute it at one input. -/
def fnExactExitsInTurnWrong : ChangeSpec := { name := "fnExactExitsInTurn", fn := fun _ => fun
  | [d1, d2, d3] => { results := [.lit (.bool false)], args := [d1, d2, d3] }
  | _ => none }
def FnExactExitsInTurnWrongFalsely : Prop := fnExactExitsInTurnRow.holds Tryd.pinned (OpenSpec.ofChange fnExactExitsInTurnWrong)

/- THE SECOND FORM. 'bulk': how many values and letters a reading holds, each counted each time it is reached (what is shared counts as often as it is met; a slice's spare places count too). A statement '..UptoSaid' is the law's where the arguments, and the package variables that the reading takes, are together of bulk at most 1048576: NARROWER than '..Said'. Prove '..Said' where nothing that the law and all that it calls make is longer than what came in: it says more and counts as full. Else prove '..UptoSaid'. A law counts once. -/
mutual
def uptoBulk {H : Type} : DataW H → Nat
  | .lit (.string bytes) => bytes.length + 1
  | .lit _ => 1
  | .nil => 1
  | .ptr d => uptoBulk d + 1
  | .slice elems spare => uptoBulkAll elems + uptoBulkAll spare + 1
  | .agg parts => uptoBulkAll parts + 1
  | .iface _ d => uptoBulk d + 1
  | .map entries => uptoBulkEntries entries + 1
  | .held _ => 1
def uptoBulkAll {H : Type} : List (DataW H) → Nat
  | [] => 0
  | d :: r => uptoBulk d + uptoBulkAll r
def uptoBulkEntries {H : Type} : List (Lit × DataW H) → Nat
  | [] => 0
  | x :: r => uptoBulkEntry x + uptoBulkEntries r
def uptoBulkEntry {H : Type} : Lit × DataW H → Nat
  | (.string bytes, d) => bytes.length + uptoBulk d + 1
  | (_, d) => uptoBulk d + 1
 end
def uptoSmall : (H : Type) → List (DataW H) → Bool := fun _ ds => decide (uptoBulkAll ds ≤ 1048576)
def OpenSpec.upto (s : _root_.Go.ChangeSpec) : _root_.Go.OpenSpec := { _root_.Go.OpenSpec.ofChange s with cond := some uptoSmall }

/-- 'laws.FnExactIsMaze', WHERE WHAT IT READS IS OF BULK AT MOST 1048576: true; the input reads as it did. -/
def fnExactIsMazeUptoRow : OpenClaim := { program := "ythmokfnejjiplaadoor", sum := "5c53e58884787ca1984adb102041ceed48ca8cba08debf9cad67ff184dd17f5b", func := "loop.example/g01276/laws.FnExactIsMaze", spec := "fnExactIsMaze", inPlace := ["internal/bytealg.IndexByteString", "internal/bytealg.IndexString"], named := ["unicode/utf8.first", "unicode/utf8.acceptRanges", "internal/bytealg.MaxLen"], apart := false, laid := [("unicode/utf8.acceptRanges", laid_unicode_utf8_acceptRanges), ("unicode/utf8.first", laid_unicode_utf8_first)], narrowed := true }
def FnExactIsMazeUptoSaid : Prop := fnExactIsMazeUptoRow.holds Tryd.pinned (OpenSpec.upto fnExactIsMazeSpec)

/-- 'laws.FnExactIsBall', WHERE WHAT IT READS IS OF BULK AT MOST 1048576: true; the input reads as it did. -/
def fnExactIsBallUptoRow : OpenClaim := { program := "ythmokfnejjiplaadoor", sum := "5c53e58884787ca1984adb102041ceed48ca8cba08debf9cad67ff184dd17f5b", func := "loop.example/g01276/laws.FnExactIsBall", spec := "fnExactIsBall", inPlace := ["internal/bytealg.IndexByteString", "internal/bytealg.IndexString"], named := ["unicode/utf8.first", "unicode/utf8.acceptRanges", "internal/bytealg.MaxLen"], apart := false, laid := [("unicode/utf8.acceptRanges", laid_unicode_utf8_acceptRanges), ("unicode/utf8.first", laid_unicode_utf8_first)], narrowed := true }
def FnExactIsBallUptoSaid : Prop := fnExactIsBallUptoRow.holds Tryd.pinned (OpenSpec.upto fnExactIsBallSpec)

/-- 'laws.FnExactEntryOf', WHERE WHAT IT READS IS OF BULK AT MOST 1048576: true; the input reads as it did. -/
def fnExactEntryOfUptoRow : OpenClaim := { program := "ythmokfnejjiplaadoor", sum := "5c53e58884787ca1984adb102041ceed48ca8cba08debf9cad67ff184dd17f5b", func := "loop.example/g01276/laws.FnExactEntryOf", spec := "fnExactEntryOf", inPlace := ["internal/bytealg.IndexByteString", "internal/bytealg.IndexString"], named := ["unicode/utf8.first", "unicode/utf8.acceptRanges", "internal/bytealg.MaxLen"], apart := false, laid := [("unicode/utf8.acceptRanges", laid_unicode_utf8_acceptRanges), ("unicode/utf8.first", laid_unicode_utf8_first)], narrowed := true }
def FnExactEntryOfUptoSaid : Prop := fnExactEntryOfUptoRow.holds Tryd.pinned (OpenSpec.upto fnExactEntryOfSpec)

/-- 'laws.FnExactHitCell', WHERE WHAT IT READS IS OF BULK AT MOST 1048576: true; the input reads as it did. -/
def fnExactHitCellUptoRow : OpenClaim := { program := "ythmokfnejjiplaadoor", sum := "5c53e58884787ca1984adb102041ceed48ca8cba08debf9cad67ff184dd17f5b", func := "loop.example/g01276/laws.FnExactHitCell", spec := "fnExactHitCell", inPlace := ["internal/bytealg.IndexByteString", "internal/bytealg.IndexString"], named := ["unicode/utf8.first", "unicode/utf8.acceptRanges", "internal/bytealg.MaxLen"], apart := false, laid := [("unicode/utf8.acceptRanges", laid_unicode_utf8_acceptRanges), ("unicode/utf8.first", laid_unicode_utf8_first)], narrowed := true }
def FnExactHitCellUptoSaid : Prop := fnExactHitCellUptoRow.holds Tryd.pinned (OpenSpec.upto fnExactHitCellSpec)

/-- 'laws.FnExactCountMirrors', WHERE WHAT IT READS IS OF BULK AT MOST 1048576: true; the input reads as it did. -/
def fnExactCountMirrorsUptoRow : OpenClaim := { program := "ythmokfnejjiplaadoor", sum := "5c53e58884787ca1984adb102041ceed48ca8cba08debf9cad67ff184dd17f5b", func := "loop.example/g01276/laws.FnExactCountMirrors", spec := "fnExactCountMirrors", inPlace := ["internal/bytealg.IndexByteString", "internal/bytealg.IndexString", "internal/bytealg.CountString"], named := ["unicode/utf8.first", "unicode/utf8.acceptRanges", "internal/bytealg.MaxLen"], apart := false, laid := [("unicode/utf8.acceptRanges", laid_unicode_utf8_acceptRanges), ("unicode/utf8.first", laid_unicode_utf8_first)], narrowed := true }
def FnExactCountMirrorsUptoSaid : Prop := fnExactCountMirrorsUptoRow.holds Tryd.pinned (OpenSpec.upto fnExactCountMirrorsSpec)

/-- 'laws.FnExactExitOf', WHERE WHAT IT READS IS OF BULK AT MOST 1048576: true; the input reads as it did. -/
def fnExactExitOfUptoRow : OpenClaim := { program := "ythmokfnejjiplaadoor", sum := "5c53e58884787ca1984adb102041ceed48ca8cba08debf9cad67ff184dd17f5b", func := "loop.example/g01276/laws.FnExactExitOf", spec := "fnExactExitOf", inPlace := ["internal/bytealg.IndexByteString", "internal/bytealg.IndexString"], named := ["unicode/utf8.first", "unicode/utf8.acceptRanges", "internal/bytealg.MaxLen"], apart := false, laid := [("unicode/utf8.acceptRanges", laid_unicode_utf8_acceptRanges), ("unicode/utf8.first", laid_unicode_utf8_first)], narrowed := true }
def FnExactExitOfUptoSaid : Prop := fnExactExitOfUptoRow.holds Tryd.pinned (OpenSpec.upto fnExactExitOfSpec)

/-- 'laws.FnExactHitsOfBall', WHERE WHAT IT READS IS OF BULK AT MOST 1048576: true; the input reads as it did. -/
def fnExactHitsOfBallUptoRow : OpenClaim := { program := "ythmokfnejjiplaadoor", sum := "5c53e58884787ca1984adb102041ceed48ca8cba08debf9cad67ff184dd17f5b", func := "loop.example/g01276/laws.FnExactHitsOfBall", spec := "fnExactHitsOfBall", inPlace := ["internal/bytealg.IndexByteString", "internal/bytealg.IndexString"], named := ["unicode/utf8.first", "unicode/utf8.acceptRanges", "internal/bytealg.MaxLen"], apart := false, laid := [("unicode/utf8.acceptRanges", laid_unicode_utf8_acceptRanges), ("unicode/utf8.first", laid_unicode_utf8_first)], narrowed := true }
def FnExactHitsOfBallUptoSaid : Prop := fnExactHitsOfBallUptoRow.holds Tryd.pinned (OpenSpec.upto fnExactHitsOfBallSpec)

/-- 'laws.FnExactLongestTrack', WHERE WHAT IT READS IS OF BULK AT MOST 1048576: true; the input reads as it did. -/
def fnExactLongestTrackUptoRow : OpenClaim := { program := "ythmokfnejjiplaadoor", sum := "5c53e58884787ca1984adb102041ceed48ca8cba08debf9cad67ff184dd17f5b", func := "loop.example/g01276/laws.FnExactLongestTrack", spec := "fnExactLongestTrack", inPlace := ["internal/bytealg.IndexByteString", "internal/bytealg.IndexString"], named := ["unicode/utf8.first", "unicode/utf8.acceptRanges", "internal/bytealg.MaxLen"], apart := false, laid := [("unicode/utf8.acceptRanges", laid_unicode_utf8_acceptRanges), ("unicode/utf8.first", laid_unicode_utf8_first)], narrowed := true }
def FnExactLongestTrackUptoSaid : Prop := fnExactLongestTrackUptoRow.holds Tryd.pinned (OpenSpec.upto fnExactLongestTrackSpec)

/-- 'laws.FnExactBallsUntilSame', WHERE WHAT IT READS IS OF BULK AT MOST 1048576: true; the input reads as it did. -/
def fnExactBallsUntilSameUptoRow : OpenClaim := { program := "ythmokfnejjiplaadoor", sum := "5c53e58884787ca1984adb102041ceed48ca8cba08debf9cad67ff184dd17f5b", func := "loop.example/g01276/laws.FnExactBallsUntilSame", spec := "fnExactBallsUntilSame", inPlace := ["internal/bytealg.IndexByteString", "internal/bytealg.IndexString"], named := ["unicode/utf8.first", "unicode/utf8.acceptRanges", "internal/bytealg.MaxLen"], apart := false, laid := [("unicode/utf8.acceptRanges", laid_unicode_utf8_acceptRanges), ("unicode/utf8.first", laid_unicode_utf8_first)], narrowed := true }
def FnExactBallsUntilSameUptoSaid : Prop := fnExactBallsUntilSameUptoRow.holds Tryd.pinned (OpenSpec.upto fnExactBallsUntilSameSpec)

/-- 'laws.FnExactMazeAfterBall', WHERE WHAT IT READS IS OF BULK AT MOST 1048576: true; the input reads as it did. -/
def fnExactMazeAfterBallUptoRow : OpenClaim := { program := "ythmokfnejjiplaadoor", sum := "5c53e58884787ca1984adb102041ceed48ca8cba08debf9cad67ff184dd17f5b", func := "loop.example/g01276/laws.FnExactMazeAfterBall", spec := "fnExactMazeAfterBall", inPlace := ["internal/bytealg.IndexByteString", "internal/bytealg.IndexString"], named := ["unicode/utf8.first", "unicode/utf8.acceptRanges", "internal/bytealg.MaxLen"], apart := false, laid := [("unicode/utf8.acceptRanges", laid_unicode_utf8_acceptRanges), ("unicode/utf8.first", laid_unicode_utf8_first)], narrowed := true }
def FnExactMazeAfterBallUptoSaid : Prop := fnExactMazeAfterBallUptoRow.holds Tryd.pinned (OpenSpec.upto fnExactMazeAfterBallSpec)

/-- 'laws.FnExactExitTable', WHERE WHAT IT READS IS OF BULK AT MOST 1048576: true; the input reads as it did. -/
def fnExactExitTableUptoRow : OpenClaim := { program := "ythmokfnejjiplaadoor", sum := "5c53e58884787ca1984adb102041ceed48ca8cba08debf9cad67ff184dd17f5b", func := "loop.example/g01276/laws.FnExactExitTable", spec := "fnExactExitTable", inPlace := ["internal/bytealg.IndexByteString", "internal/bytealg.IndexString"], named := ["unicode/utf8.first", "unicode/utf8.acceptRanges", "internal/bytealg.MaxLen"], apart := false, laid := [("unicode/utf8.acceptRanges", laid_unicode_utf8_acceptRanges), ("unicode/utf8.first", laid_unicode_utf8_first)], narrowed := true }
def FnExactExitTableUptoSaid : Prop := fnExactExitTableUptoRow.holds Tryd.pinned (OpenSpec.upto fnExactExitTableSpec)

/-- 'laws.FnExactExitsInTurn', WHERE WHAT IT READS IS OF BULK AT MOST 1048576: true; the input reads as it did. -/
def fnExactExitsInTurnUptoRow : OpenClaim := { program := "ythmokfnejjiplaadoor", sum := "5c53e58884787ca1984adb102041ceed48ca8cba08debf9cad67ff184dd17f5b", func := "loop.example/g01276/laws.FnExactExitsInTurn", spec := "fnExactExitsInTurn", inPlace := ["internal/bytealg.IndexByteString", "internal/bytealg.IndexString"], named := ["unicode/utf8.first", "unicode/utf8.acceptRanges", "internal/bytealg.MaxLen"], apart := false, laid := [("unicode/utf8.acceptRanges", laid_unicode_utf8_acceptRanges), ("unicode/utf8.first", laid_unicode_utf8_first)], narrowed := true }
def FnExactExitsInTurnUptoSaid : Prop := fnExactExitsInTurnUptoRow.holds Tryd.pinned (OpenSpec.upto fnExactExitsInTurnSpec)

end Rows
end Go.Proofs.YthmokfnejjiplaaDoor
