/-
  No cell of these rows narrows 'for every input' (looked for: loops, veiled, ifaces, maps, wideKeys, modest, calm, conditions, laid).
  DERIVED. THE GIVEN ROWS OF THIS SEAT. 7 by the template 'for every input the law returns true; each argument reads behind the call as it read before'; 0 by the template 'total and deterministic' (their statements: YtjidpcfedlekoaaTotals.lean).
  GIVEN WITH THE SEED: the statements are not yours to turn. If you find one false, say at which input.
  Laid BY PROGRAM, IN A SANDBOX (cutbox-rows.mjs): the forced cells as the released guide's own fill.sh prints them over the translation 96f6ec0418daf03a… (all of the seat's roots in one cut). By AI agents, Wed Nov 11 2026. No macro, syntax, notation, axiom, sorry.
-/
import Derived.Test.YtjidpcfedlekoaaChecked
import GoSem.Claim
import GoSem.ClaimJoined
import GoSem.ClaimMapViews
import Derived.JoinedTies
import Derived.KernelRfl
namespace Go.Proofs.Ytjidpcfedlekoaa
/- THE CELL 'sum', in the pinned program and in every row, IS THE sha256 OF THE DUMP (.gsa) THAT YtjidpcfedlekoaaProg.lean LOADS. Nothing in Lean hashes anything: it is a label: what it is worth is what the hold of that sum in a sandbox is worth. -/
noncomputable def Try.pinned : Pinned := { name := "ytjidpcfedlekoaa", sum := "96f6ec0418daf03a8a69a474ad3ffb7865c75bbee2a7530f0a1611efc91e2b91", checked := Try.checked }
namespace Rows
def none {H : Type} : Left H := { results := [], args := [] }

/-- 'laws.FnExactConstants': WHATEVER THE INPUT: true; the input reads as it did. -/
def fnExactConstantsSpec : ChangeSpec := { name := "fnExactConstants", fn := fun _ => fun
  | [] => { results := [.lit (.bool true)], args := [] }
  | _ => none }
def fnExactConstantsRow : OpenClaim := { program := "ytjidpcfedlekoaa", sum := "96f6ec0418daf03a8a69a474ad3ffb7865c75bbee2a7530f0a1611efc91e2b91", func := "loop.example/g01276/laws.FnExactConstants", spec := "fnExactConstants", apart := false }
def FnExactConstantsSaid : Prop := fnExactConstantsRow.holds Try.pinned (OpenSpec.ofChange fnExactConstantsSpec)

/-- ITS FALSE NEIGHBOUR: 'it returns false'. Refute it at one input. -/
def fnExactConstantsWrong : ChangeSpec := { name := "fnExactConstants", fn := fun _ => fun
  | [] => { results := [.lit (.bool false)], args := [] }
  | _ => none }
def FnExactConstantsWrongFalsely : Prop := fnExactConstantsRow.holds Try.pinned (OpenSpec.ofChange fnExactConstantsWrong)

/-- 'laws.FnExactCountTables': WHATEVER THE INPUT: true; the input reads as it did. -/
def fnExactCountTablesSpec : ChangeSpec := { name := "fnExactCountTables", fn := fun _ => fun
  | [d1, d2] => { results := [.lit (.bool true)], args := [d1, d2] }
  | _ => none }
def fnExactCountTablesRow : OpenClaim := { program := "ytjidpcfedlekoaa", sum := "96f6ec0418daf03a8a69a474ad3ffb7865c75bbee2a7530f0a1611efc91e2b91", func := "loop.example/g01276/laws.FnExactCountTables", spec := "fnExactCountTables", apart := false }
def FnExactCountTablesSaid : Prop := fnExactCountTablesRow.holds Try.pinned (OpenSpec.ofChange fnExactCountTablesSpec)

/-- ITS FALSE NEIGHBOUR: 'it returns false'. Refute it at one input. -/
def fnExactCountTablesWrong : ChangeSpec := { name := "fnExactCountTables", fn := fun _ => fun
  | [d1, d2] => { results := [.lit (.bool false)], args := [d1, d2] }
  | _ => none }
def FnExactCountTablesWrongFalsely : Prop := fnExactCountTablesRow.holds Try.pinned (OpenSpec.ofChange fnExactCountTablesWrong)

/-- 'laws.FnExactCountUndoable': WHATEVER THE INPUT: true; the input reads as it did. -/
def fnExactCountUndoableSpec : ChangeSpec := { name := "fnExactCountUndoable", fn := fun _ => fun
  | [d1, d2] => { results := [.lit (.bool true)], args := [d1, d2] }
  | _ => none }
def fnExactCountUndoableRow : OpenClaim := { program := "ytjidpcfedlekoaa", sum := "96f6ec0418daf03a8a69a474ad3ffb7865c75bbee2a7530f0a1611efc91e2b91", func := "loop.example/g01276/laws.FnExactCountUndoable", spec := "fnExactCountUndoable", apart := false }
def FnExactCountUndoableSaid : Prop := fnExactCountUndoableRow.holds Try.pinned (OpenSpec.ofChange fnExactCountUndoableSpec)

/-- ITS FALSE NEIGHBOUR: 'it returns false'. Refute it at one input. -/
def fnExactCountUndoableWrong : ChangeSpec := { name := "fnExactCountUndoable", fn := fun _ => fun
  | [d1, d2] => { results := [.lit (.bool false)], args := [d1, d2] }
  | _ => none }
def FnExactCountUndoableWrongFalsely : Prop := fnExactCountUndoableRow.holds Try.pinned (OpenSpec.ofChange fnExactCountUndoableWrong)

/-- 'laws.FnExactFillLine': WHATEVER THE INPUT: true; the input reads as it did. -/
def fnExactFillLineSpec : ChangeSpec := { name := "fnExactFillLine", fn := fun _ => fun
  | [d] => { results := [.lit (.bool true)], args := [d] }
  | _ => none }
def fnExactFillLineRow : OpenClaim := { program := "ytjidpcfedlekoaa", sum := "96f6ec0418daf03a8a69a474ad3ffb7865c75bbee2a7530f0a1611efc91e2b91", func := "loop.example/g01276/laws.FnExactFillLine", spec := "fnExactFillLine", apart := false }
def FnExactFillLineSaid : Prop := fnExactFillLineRow.holds Try.pinned (OpenSpec.ofChange fnExactFillLineSpec)

/-- ITS FALSE NEIGHBOUR: 'it returns false'. Refute it at one input. -/
def fnExactFillLineWrong : ChangeSpec := { name := "fnExactFillLine", fn := fun _ => fun
  | [d] => { results := [.lit (.bool false)], args := [d] }
  | _ => none }
def FnExactFillLineWrongFalsely : Prop := fnExactFillLineRow.holds Try.pinned (OpenSpec.ofChange fnExactFillLineWrong)

/-- 'laws.FnExactFillSteps': WHATEVER THE INPUT: true; the input reads as it did. -/
def fnExactFillStepsSpec : ChangeSpec := { name := "fnExactFillSteps", fn := fun _ => fun
  | [d] => { results := [.lit (.bool true)], args := [d] }
  | _ => none }
def fnExactFillStepsRow : OpenClaim := { program := "ytjidpcfedlekoaa", sum := "96f6ec0418daf03a8a69a474ad3ffb7865c75bbee2a7530f0a1611efc91e2b91", func := "loop.example/g01276/laws.FnExactFillSteps", spec := "fnExactFillSteps", apart := false }
def FnExactFillStepsSaid : Prop := fnExactFillStepsRow.holds Try.pinned (OpenSpec.ofChange fnExactFillStepsSpec)

/-- ITS FALSE NEIGHBOUR: 'it returns false'. Refute it at one input. -/
def fnExactFillStepsWrong : ChangeSpec := { name := "fnExactFillSteps", fn := fun _ => fun
  | [d] => { results := [.lit (.bool false)], args := [d] }
  | _ => none }
def FnExactFillStepsWrongFalsely : Prop := fnExactFillStepsRow.holds Try.pinned (OpenSpec.ofChange fnExactFillStepsWrong)

/-- 'laws.FnExactRingRoute': WHATEVER THE INPUT: true; the input reads as it did. -/
def fnExactRingRouteSpec : ChangeSpec := { name := "fnExactRingRoute", fn := fun _ => fun
  | [d] => { results := [.lit (.bool true)], args := [d] }
  | _ => none }
def fnExactRingRouteRow : OpenClaim := { program := "ytjidpcfedlekoaa", sum := "96f6ec0418daf03a8a69a474ad3ffb7865c75bbee2a7530f0a1611efc91e2b91", func := "loop.example/g01276/laws.FnExactRingRoute", spec := "fnExactRingRoute", unfollowed := true, recurses := true, apart := false }
def FnExactRingRouteSaid : Prop := fnExactRingRouteRow.holds Try.pinned (OpenSpec.ofChange fnExactRingRouteSpec)

/-- ITS FALSE NEIGHBOUR: 'it returns false'. Refute it at one input. -/
def fnExactRingRouteWrong : ChangeSpec := { name := "fnExactRingRoute", fn := fun _ => fun
  | [d] => { results := [.lit (.bool false)], args := [d] }
  | _ => none }
def FnExactRingRouteWrongFalsely : Prop := fnExactRingRouteRow.holds Try.pinned (OpenSpec.ofChange fnExactRingRouteWrong)

/-- 'laws.FnExactLineRoute': WHATEVER THE INPUT: true; the input reads as it did. -/
def fnExactLineRouteSpec : ChangeSpec := { name := "fnExactLineRoute", fn := fun _ => fun
  | [d] => { results := [.lit (.bool true)], args := [d] }
  | _ => none }
def fnExactLineRouteRow : OpenClaim := { program := "ytjidpcfedlekoaa", sum := "96f6ec0418daf03a8a69a474ad3ffb7865c75bbee2a7530f0a1611efc91e2b91", func := "loop.example/g01276/laws.FnExactLineRoute", spec := "fnExactLineRoute", unfollowed := true, recurses := true, apart := false }
def FnExactLineRouteSaid : Prop := fnExactLineRouteRow.holds Try.pinned (OpenSpec.ofChange fnExactLineRouteSpec)

/-- ITS FALSE NEIGHBOUR: 'it returns false'. Refute it at one input. -/
def fnExactLineRouteWrong : ChangeSpec := { name := "fnExactLineRoute", fn := fun _ => fun
  | [d] => { results := [.lit (.bool false)], args := [d] }
  | _ => none }
def FnExactLineRouteWrongFalsely : Prop := fnExactLineRouteRow.holds Try.pinned (OpenSpec.ofChange fnExactLineRouteWrong)

/- THE SECOND FORM. 'bulk': how many values and letters a reading holds, each counted each time it is reached (what is shared counts as often as it is met; a slice's spare places count too). A statement '..UptoSaid' is the law's where the arguments, and the package variables that the reading takes, are together of bulk at most 1048576: NARROWER than '..Said'. Prove '..Said' where nothing that the law and all that it calls make is longer than what came in: it says more and counts as full. Else prove '..UptoSaid'. A law counts once. -/
mutual
def uptoBulk {H : Type} : DataW H → Nat
  | .lit (.string bytes) => bytes.length + 1
  | .lit _ => 1
  | .nil => 1
  | .ptr d => uptoBulk d + 1
  | .slice elems spare => uptoBulkAll elems + uptoBulkAll spare + 1
  | .agg parts => uptoBulkAll parts + 1
  | .iface _ d => uptoBulk d + 1
  | .map entries => uptoBulkEntries entries + 1
  | .held _ => 1
def uptoBulkAll {H : Type} : List (DataW H) → Nat
  | [] => 0
  | d :: r => uptoBulk d + uptoBulkAll r
def uptoBulkEntries {H : Type} : List (Lit × DataW H) → Nat
  | [] => 0
  | x :: r => uptoBulkEntry x + uptoBulkEntries r
def uptoBulkEntry {H : Type} : Lit × DataW H → Nat
  | (.string bytes, d) => bytes.length + uptoBulk d + 1
  | (_, d) => uptoBulk d + 1
 end
def uptoSmall : (H : Type) → List (DataW H) → Bool := fun _ ds => decide (uptoBulkAll ds ≤ 1048576)
def OpenSpec.upto (s : _root_.Go.ChangeSpec) : _root_.Go.OpenSpec := { _root_.Go.OpenSpec.ofChange s with cond := some uptoSmall }

/-- 'laws.FnExactConstants', WHERE WHAT IT READS IS OF BULK AT MOST 1048576: true; the input reads as it did. -/
def fnExactConstantsUptoRow : OpenClaim := { program := "ytjidpcfedlekoaa", sum := "96f6ec0418daf03a8a69a474ad3ffb7865c75bbee2a7530f0a1611efc91e2b91", func := "loop.example/g01276/laws.FnExactConstants", spec := "fnExactConstants", apart := false, narrowed := true }
def FnExactConstantsUptoSaid : Prop := fnExactConstantsUptoRow.holds Try.pinned (OpenSpec.upto fnExactConstantsSpec)

/-- 'laws.FnExactCountTables', WHERE WHAT IT READS IS OF BULK AT MOST 1048576: true; the input reads as it did. -/
def fnExactCountTablesUptoRow : OpenClaim := { program := "ytjidpcfedlekoaa", sum := "96f6ec0418daf03a8a69a474ad3ffb7865c75bbee2a7530f0a1611efc91e2b91", func := "loop.example/g01276/laws.FnExactCountTables", spec := "fnExactCountTables", apart := false, narrowed := true }
def FnExactCountTablesUptoSaid : Prop := fnExactCountTablesUptoRow.holds Try.pinned (OpenSpec.upto fnExactCountTablesSpec)

/-- 'laws.FnExactCountUndoable', WHERE WHAT IT READS IS OF BULK AT MOST 1048576: true; the input reads as it did. -/
def fnExactCountUndoableUptoRow : OpenClaim := { program := "ytjidpcfedlekoaa", sum := "96f6ec0418daf03a8a69a474ad3ffb7865c75bbee2a7530f0a1611efc91e2b91", func := "loop.example/g01276/laws.FnExactCountUndoable", spec := "fnExactCountUndoable", apart := false, narrowed := true }
def FnExactCountUndoableUptoSaid : Prop := fnExactCountUndoableUptoRow.holds Try.pinned (OpenSpec.upto fnExactCountUndoableSpec)

/-- 'laws.FnExactFillLine', WHERE WHAT IT READS IS OF BULK AT MOST 1048576: true; the input reads as it did. -/
def fnExactFillLineUptoRow : OpenClaim := { program := "ytjidpcfedlekoaa", sum := "96f6ec0418daf03a8a69a474ad3ffb7865c75bbee2a7530f0a1611efc91e2b91", func := "loop.example/g01276/laws.FnExactFillLine", spec := "fnExactFillLine", apart := false, narrowed := true }
def FnExactFillLineUptoSaid : Prop := fnExactFillLineUptoRow.holds Try.pinned (OpenSpec.upto fnExactFillLineSpec)

/-- 'laws.FnExactFillSteps', WHERE WHAT IT READS IS OF BULK AT MOST 1048576: true; the input reads as it did. -/
def fnExactFillStepsUptoRow : OpenClaim := { program := "ytjidpcfedlekoaa", sum := "96f6ec0418daf03a8a69a474ad3ffb7865c75bbee2a7530f0a1611efc91e2b91", func := "loop.example/g01276/laws.FnExactFillSteps", spec := "fnExactFillSteps", apart := false, narrowed := true }
def FnExactFillStepsUptoSaid : Prop := fnExactFillStepsUptoRow.holds Try.pinned (OpenSpec.upto fnExactFillStepsSpec)

/-- 'laws.FnExactRingRoute', WHERE WHAT IT READS IS OF BULK AT MOST 1048576: true; the input reads as it did. -/
def fnExactRingRouteUptoRow : OpenClaim := { program := "ytjidpcfedlekoaa", sum := "96f6ec0418daf03a8a69a474ad3ffb7865c75bbee2a7530f0a1611efc91e2b91", func := "loop.example/g01276/laws.FnExactRingRoute", spec := "fnExactRingRoute", unfollowed := true, recurses := true, apart := false, narrowed := true }
def FnExactRingRouteUptoSaid : Prop := fnExactRingRouteUptoRow.holds Try.pinned (OpenSpec.upto fnExactRingRouteSpec)

/-- 'laws.FnExactLineRoute', WHERE WHAT IT READS IS OF BULK AT MOST 1048576: true; the input reads as it did. -/
def fnExactLineRouteUptoRow : OpenClaim := { program := "ytjidpcfedlekoaa", sum := "96f6ec0418daf03a8a69a474ad3ffb7865c75bbee2a7530f0a1611efc91e2b91", func := "loop.example/g01276/laws.FnExactLineRoute", spec := "fnExactLineRoute", unfollowed := true, recurses := true, apart := false, narrowed := true }
def FnExactLineRouteUptoSaid : Prop := fnExactLineRouteUptoRow.holds Try.pinned (OpenSpec.upto fnExactLineRouteSpec)

end Rows
end Go.Proofs.Ytjidpcfedlekoaa
