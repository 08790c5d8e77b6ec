/-
  No cell of these rows narrows 'for every input' (looked for: loops, veiled, ifaces, maps, wideKeys, modest, calm, conditions, laid).
  DERIVED. THE GIVEN ROWS OF THIS SEAT. 11 by the template 'for every input the law returns true; each argument reads behind the call as it read before'; 0 by the template 'total and deterministic' (their statements: YtecoeknjnhffbaaTotals.lean).
  GIVEN WITH THE SEED: the statements are not yours to turn. If you find one false, say at which input.
  Laid BY PROGRAM, IN A SANDBOX (cutbox-rows.mjs): the forced cells as the released guide's own fill.sh prints them over the translation ef4e5d04c154ff8b… (all of the seat's roots in one cut). By AI agents, Wed Nov 11 2026. No macro, syntax, notation, axiom, sorry.
-/
import Derived.Test.YtecoeknjnhffbaaChecked
import GoSem.Claim
import GoSem.ClaimJoined
import GoSem.ClaimMapViews
import Derived.JoinedTies
import Derived.KernelRfl
namespace Go.Proofs.Ytecoeknjnhffbaa
/- THE CELL 'sum', in the pinned program and in every row, IS THE sha256 OF THE DUMP (.gsa) THAT YtecoeknjnhffbaaProg.lean LOADS. Nothing in Lean hashes anything: it is a label: what it is worth is what the hold of that sum in a sandbox is worth. -/
noncomputable def Try.pinned : Pinned := { name := "ytecoeknjnhffbaa", sum := "ef4e5d04c154ff8bd8c94c87bbca6453a3d49c86f7bbe92cb935796bf9e322b0", checked := Try.checked }
namespace Rows
def none {H : Type} : Left H := { results := [], args := [] }

/-- 'laws.FnExactIsRoute': WHATEVER THE INPUT: true; the input reads as it did. -/
def fnExactIsRouteSpec : ChangeSpec := { name := "fnExactIsRoute", fn := fun _ => fun
  | [d] => { results := [.lit (.bool true)], args := [d] }
  | _ => none }
def fnExactIsRouteRow : OpenClaim := { program := "ytecoeknjnhffbaa", sum := "ef4e5d04c154ff8bd8c94c87bbca6453a3d49c86f7bbe92cb935796bf9e322b0", func := "loop.example/g01276/laws.FnExactIsRoute", spec := "fnExactIsRoute", unfollowed := true, recurses := true, apart := false }
def FnExactIsRouteSaid : Prop := fnExactIsRouteRow.holds Try.pinned (OpenSpec.ofChange fnExactIsRouteSpec)

/-- ITS FALSE NEIGHBOUR: 'it returns false'. Refute it at one input. -/
def fnExactIsRouteWrong : ChangeSpec := { name := "fnExactIsRoute", fn := fun _ => fun
  | [d] => { results := [.lit (.bool false)], args := [d] }
  | _ => none }
def FnExactIsRouteWrongFalsely : Prop := fnExactIsRouteRow.holds Try.pinned (OpenSpec.ofChange fnExactIsRouteWrong)

/-- 'laws.FnExactRingRoute': WHATEVER THE INPUT: true; the input reads as it did. -/
def fnExactRingRouteSpec : ChangeSpec := { name := "fnExactRingRoute", fn := fun _ => fun
  | [d] => { results := [.lit (.bool true)], args := [d] }
  | _ => none }
def fnExactRingRouteRow : OpenClaim := { program := "ytecoeknjnhffbaa", sum := "ef4e5d04c154ff8bd8c94c87bbca6453a3d49c86f7bbe92cb935796bf9e322b0", func := "loop.example/g01276/laws.FnExactRingRoute", spec := "fnExactRingRoute", unfollowed := true, recurses := true, apart := false }
def FnExactRingRouteSaid : Prop := fnExactRingRouteRow.holds Try.pinned (OpenSpec.ofChange fnExactRingRouteSpec)

/-- ITS FALSE NEIGHBOUR: 'it returns false'. Refute it at one input. -/
def fnExactRingRouteWrong : ChangeSpec := { name := "fnExactRingRoute", fn := fun _ => fun
  | [d] => { results := [.lit (.bool false)], args := [d] }
  | _ => none }
def FnExactRingRouteWrongFalsely : Prop := fnExactRingRouteRow.holds Try.pinned (OpenSpec.ofChange fnExactRingRouteWrong)

/-- 'laws.FnExactLineRoute': WHATEVER THE INPUT: true; the input reads as it did. -/
def fnExactLineRouteSpec : ChangeSpec := { name := "fnExactLineRoute", fn := fun _ => fun
  | [d] => { results := [.lit (.bool true)], args := [d] }
  | _ => none }
def fnExactLineRouteRow : OpenClaim := { program := "ytecoeknjnhffbaa", sum := "ef4e5d04c154ff8bd8c94c87bbca6453a3d49c86f7bbe92cb935796bf9e322b0", func := "loop.example/g01276/laws.FnExactLineRoute", spec := "fnExactLineRoute", unfollowed := true, recurses := true, apart := false }
def FnExactLineRouteSaid : Prop := fnExactLineRouteRow.holds Try.pinned (OpenSpec.ofChange fnExactLineRouteSpec)

/-- ITS FALSE NEIGHBOUR: 'it returns false'. Refute it at one input. -/
def fnExactLineRouteWrong : ChangeSpec := { name := "fnExactLineRoute", fn := fun _ => fun
  | [d] => { results := [.lit (.bool false)], args := [d] }
  | _ => none }
def FnExactLineRouteWrongFalsely : Prop := fnExactLineRouteRow.holds Try.pinned (OpenSpec.ofChange fnExactLineRouteWrong)

/-- 'laws.FnExactCanWalk': WHATEVER THE INPUT: true; the input reads as it did. -/
def fnExactCanWalkSpec : ChangeSpec := { name := "fnExactCanWalk", fn := fun _ => fun
  | [d1, d2, d3] => { results := [.lit (.bool true)], args := [d1, d2, d3] }
  | _ => none }
def fnExactCanWalkRow : OpenClaim := { program := "ytecoeknjnhffbaa", sum := "ef4e5d04c154ff8bd8c94c87bbca6453a3d49c86f7bbe92cb935796bf9e322b0", func := "loop.example/g01276/laws.FnExactCanWalk", spec := "fnExactCanWalk", unfollowed := true, recurses := true, apart := false }
def FnExactCanWalkSaid : Prop := fnExactCanWalkRow.holds Try.pinned (OpenSpec.ofChange fnExactCanWalkSpec)

/-- ITS FALSE NEIGHBOUR: 'it returns false'. Refute it at one input. -/
def fnExactCanWalkWrong : ChangeSpec := { name := "fnExactCanWalk", fn := fun _ => fun
  | [d1, d2, d3] => { results := [.lit (.bool false)], args := [d1, d2, d3] }
  | _ => none }
def FnExactCanWalkWrongFalsely : Prop := fnExactCanWalkRow.holds Try.pinned (OpenSpec.ofChange fnExactCanWalkWrong)

/-- 'laws.FnExactStepsToNode': WHATEVER THE INPUT: true; the input reads as it did. -/
def fnExactStepsToNodeSpec : ChangeSpec := { name := "fnExactStepsToNode", fn := fun _ => fun
  | [d1, d2, d3] => { results := [.lit (.bool true)], args := [d1, d2, d3] }
  | _ => none }
def fnExactStepsToNodeRow : OpenClaim := { program := "ytecoeknjnhffbaa", sum := "ef4e5d04c154ff8bd8c94c87bbca6453a3d49c86f7bbe92cb935796bf9e322b0", func := "loop.example/g01276/laws.FnExactStepsToNode", spec := "fnExactStepsToNode", unfollowed := true, recurses := true, apart := false }
def FnExactStepsToNodeSaid : Prop := fnExactStepsToNodeRow.holds Try.pinned (OpenSpec.ofChange fnExactStepsToNodeSpec)

/-- ITS FALSE NEIGHBOUR: 'it returns false'. Refute it at one input. -/
def fnExactStepsToNodeWrong : ChangeSpec := { name := "fnExactStepsToNode", fn := fun _ => fun
  | [d1, d2, d3] => { results := [.lit (.bool false)], args := [d1, d2, d3] }
  | _ => none }
def FnExactStepsToNodeWrongFalsely : Prop := fnExactStepsToNodeRow.holds Try.pinned (OpenSpec.ofChange fnExactStepsToNodeWrong)

/-- 'laws.FnExactResetRoute': WHATEVER THE INPUT: true; the input reads as it did. -/
def fnExactResetRouteSpec : ChangeSpec := { name := "fnExactResetRoute", fn := fun _ => fun
  | [d] => { results := [.lit (.bool true)], args := [d] }
  | _ => none }
def fnExactResetRouteRow : OpenClaim := { program := "ytecoeknjnhffbaa", sum := "ef4e5d04c154ff8bd8c94c87bbca6453a3d49c86f7bbe92cb935796bf9e322b0", func := "loop.example/g01276/laws.FnExactResetRoute", spec := "fnExactResetRoute", unfollowed := true, recurses := true, apart := false }
def FnExactResetRouteSaid : Prop := fnExactResetRouteRow.holds Try.pinned (OpenSpec.ofChange fnExactResetRouteSpec)

/-- ITS FALSE NEIGHBOUR: 'it returns false'. Refute it at one input. -/
def fnExactResetRouteWrong : ChangeSpec := { name := "fnExactResetRoute", fn := fun _ => fun
  | [d] => { results := [.lit (.bool false)], args := [d] }
  | _ => none }
def FnExactResetRouteWrongFalsely : Prop := fnExactResetRouteRow.holds Try.pinned (OpenSpec.ofChange fnExactResetRouteWrong)

/-- 'laws.FnExactTurnRotor': WHATEVER THE INPUT: true; the input reads as it did. -/
def fnExactTurnRotorSpec : ChangeSpec := { name := "fnExactTurnRotor", fn := fun _ => fun
  | [d1, d2] => { results := [.lit (.bool true)], args := [d1, d2] }
  | _ => none }
def fnExactTurnRotorRow : OpenClaim := { program := "ytecoeknjnhffbaa", sum := "ef4e5d04c154ff8bd8c94c87bbca6453a3d49c86f7bbe92cb935796bf9e322b0", func := "loop.example/g01276/laws.FnExactTurnRotor", spec := "fnExactTurnRotor", unfollowed := true, recurses := true, apart := false }
def FnExactTurnRotorSaid : Prop := fnExactTurnRotorRow.holds Try.pinned (OpenSpec.ofChange fnExactTurnRotorSpec)

/-- ITS FALSE NEIGHBOUR: 'it returns false'. Refute it at one input. -/
def fnExactTurnRotorWrong : ChangeSpec := { name := "fnExactTurnRotor", fn := fun _ => fun
  | [d1, d2] => { results := [.lit (.bool false)], args := [d1, d2] }
  | _ => none }
def FnExactTurnRotorWrongFalsely : Prop := fnExactTurnRotorRow.holds Try.pinned (OpenSpec.ofChange fnExactTurnRotorWrong)

/-- 'laws.FnExactTrackOfWalk': WHATEVER THE INPUT: true; the input reads as it did. -/
def fnExactTrackOfWalkSpec : ChangeSpec := { name := "fnExactTrackOfWalk", fn := fun _ => fun
  | [d1, d2, d3] => { results := [.lit (.bool true)], args := [d1, d2, d3] }
  | _ => none }
def fnExactTrackOfWalkRow : OpenClaim := { program := "ytecoeknjnhffbaa", sum := "ef4e5d04c154ff8bd8c94c87bbca6453a3d49c86f7bbe92cb935796bf9e322b0", func := "loop.example/g01276/laws.FnExactTrackOfWalk", spec := "fnExactTrackOfWalk", unfollowed := true, recurses := true, apart := false }
def FnExactTrackOfWalkSaid : Prop := fnExactTrackOfWalkRow.holds Try.pinned (OpenSpec.ofChange fnExactTrackOfWalkSpec)

/-- ITS FALSE NEIGHBOUR: 'it returns false'. Refute it at one input. -/
def fnExactTrackOfWalkWrong : ChangeSpec := { name := "fnExactTrackOfWalk", fn := fun _ => fun
  | [d1, d2, d3] => { results := [.lit (.bool false)], args := [d1, d2, d3] }
  | _ => none }
def FnExactTrackOfWalkWrongFalsely : Prop := fnExactTrackOfWalkRow.holds Try.pinned (OpenSpec.ofChange fnExactTrackOfWalkWrong)

/-- 'laws.FnExactStepRoute': WHATEVER THE INPUT: true; the input reads as it did. -/
def fnExactStepRouteSpec : ChangeSpec := { name := "fnExactStepRoute", fn := fun _ => fun
  | [d1, d2] => { results := [.lit (.bool true)], args := [d1, d2] }
  | _ => none }
def fnExactStepRouteRow : OpenClaim := { program := "ytecoeknjnhffbaa", sum := "ef4e5d04c154ff8bd8c94c87bbca6453a3d49c86f7bbe92cb935796bf9e322b0", func := "loop.example/g01276/laws.FnExactStepRoute", spec := "fnExactStepRoute", unfollowed := true, recurses := true, apart := false }
def FnExactStepRouteSaid : Prop := fnExactStepRouteRow.holds Try.pinned (OpenSpec.ofChange fnExactStepRouteSpec)

/-- ITS FALSE NEIGHBOUR: 'it returns false'. Refute it at one input. -/
def fnExactStepRouteWrong : ChangeSpec := { name := "fnExactStepRoute", fn := fun _ => fun
  | [d1, d2] => { results := [.lit (.bool false)], args := [d1, d2] }
  | _ => none }
def FnExactStepRouteWrongFalsely : Prop := fnExactStepRouteRow.holds Try.pinned (OpenSpec.ofChange fnExactStepRouteWrong)

/-- 'laws.FnExactVisitsOfWalk': WHATEVER THE INPUT: true; the input reads as it did. -/
def fnExactVisitsOfWalkSpec : ChangeSpec := { name := "fnExactVisitsOfWalk", fn := fun _ => fun
  | [d1, d2, d3] => { results := [.lit (.bool true)], args := [d1, d2, d3] }
  | _ => none }
def fnExactVisitsOfWalkRow : OpenClaim := { program := "ytecoeknjnhffbaa", sum := "ef4e5d04c154ff8bd8c94c87bbca6453a3d49c86f7bbe92cb935796bf9e322b0", func := "loop.example/g01276/laws.FnExactVisitsOfWalk", spec := "fnExactVisitsOfWalk", unfollowed := true, recurses := true, apart := false }
def FnExactVisitsOfWalkSaid : Prop := fnExactVisitsOfWalkRow.holds Try.pinned (OpenSpec.ofChange fnExactVisitsOfWalkSpec)

/-- ITS FALSE NEIGHBOUR: 'it returns false'. Refute it at one input. -/
def fnExactVisitsOfWalkWrong : ChangeSpec := { name := "fnExactVisitsOfWalk", fn := fun _ => fun
  | [d1, d2, d3] => { results := [.lit (.bool false)], args := [d1, d2, d3] }
  | _ => none }
def FnExactVisitsOfWalkWrongFalsely : Prop := fnExactVisitsOfWalkRow.holds Try.pinned (OpenSpec.ofChange fnExactVisitsOfWalkWrong)

/-- 'laws.FnExactLinesUsed': WHATEVER THE INPUT: true; the input reads as it did. -/
def fnExactLinesUsedSpec : ChangeSpec := { name := "fnExactLinesUsed", fn := fun _ => fun
  | [d1, d2, d3] => { results := [.lit (.bool true)], args := [d1, d2, d3] }
  | _ => none }
def fnExactLinesUsedRow : OpenClaim := { program := "ytecoeknjnhffbaa", sum := "ef4e5d04c154ff8bd8c94c87bbca6453a3d49c86f7bbe92cb935796bf9e322b0", func := "loop.example/g01276/laws.FnExactLinesUsed", spec := "fnExactLinesUsed", unfollowed := true, recurses := true, apart := false }
def FnExactLinesUsedSaid : Prop := fnExactLinesUsedRow.holds Try.pinned (OpenSpec.ofChange fnExactLinesUsedSpec)

/-- ITS FALSE NEIGHBOUR: 'it returns false'. Refute it at one input. -/
def fnExactLinesUsedWrong : ChangeSpec := { name := "fnExactLinesUsed", fn := fun _ => fun
  | [d1, d2, d3] => { results := [.lit (.bool false)], args := [d1, d2, d3] }
  | _ => none }
def FnExactLinesUsedWrongFalsely : Prop := fnExactLinesUsedRow.holds Try.pinned (OpenSpec.ofChange fnExactLinesUsedWrong)

/- THE SECOND FORM. 'bulk': how many values and letters a reading holds, each counted each time it is reached (what is shared counts as often as it is met; a slice's spare places count too). A statement '..UptoSaid' is the law's where the arguments, and the package variables that the reading takes, are together of bulk at most 1048576: NARROWER than '..Said'. Prove '..Said' where nothing that the law and all that it calls make is longer than what came in: it says more and counts as full. Else prove '..UptoSaid'. A law counts once. -/
mutual
def uptoBulk {H : Type} : DataW H → Nat
  | .lit (.string bytes) => bytes.length + 1
  | .lit _ => 1
  | .nil => 1
  | .ptr d => uptoBulk d + 1
  | .slice elems spare => uptoBulkAll elems + uptoBulkAll spare + 1
  | .agg parts => uptoBulkAll parts + 1
  | .iface _ d => uptoBulk d + 1
  | .map entries => uptoBulkEntries entries + 1
  | .held _ => 1
def uptoBulkAll {H : Type} : List (DataW H) → Nat
  | [] => 0
  | d :: r => uptoBulk d + uptoBulkAll r
def uptoBulkEntries {H : Type} : List (Lit × DataW H) → Nat
  | [] => 0
  | x :: r => uptoBulkEntry x + uptoBulkEntries r
def uptoBulkEntry {H : Type} : Lit × DataW H → Nat
  | (.string bytes, d) => bytes.length + uptoBulk d + 1
  | (_, d) => uptoBulk d + 1
 end
def uptoSmall : (H : Type) → List (DataW H) → Bool := fun _ ds => decide (uptoBulkAll ds ≤ 1048576)
def OpenSpec.upto (s : _root_.Go.ChangeSpec) : _root_.Go.OpenSpec := { _root_.Go.OpenSpec.ofChange s with cond := some uptoSmall }

/-- 'laws.FnExactIsRoute', WHERE WHAT IT READS IS OF BULK AT MOST 1048576: true; the input reads as it did. -/
def fnExactIsRouteUptoRow : OpenClaim := { program := "ytecoeknjnhffbaa", sum := "ef4e5d04c154ff8bd8c94c87bbca6453a3d49c86f7bbe92cb935796bf9e322b0", func := "loop.example/g01276/laws.FnExactIsRoute", spec := "fnExactIsRoute", unfollowed := true, recurses := true, apart := false, narrowed := true }
def FnExactIsRouteUptoSaid : Prop := fnExactIsRouteUptoRow.holds Try.pinned (OpenSpec.upto fnExactIsRouteSpec)

/-- 'laws.FnExactRingRoute', WHERE WHAT IT READS IS OF BULK AT MOST 1048576: true; the input reads as it did. -/
def fnExactRingRouteUptoRow : OpenClaim := { program := "ytecoeknjnhffbaa", sum := "ef4e5d04c154ff8bd8c94c87bbca6453a3d49c86f7bbe92cb935796bf9e322b0", func := "loop.example/g01276/laws.FnExactRingRoute", spec := "fnExactRingRoute", unfollowed := true, recurses := true, apart := false, narrowed := true }
def FnExactRingRouteUptoSaid : Prop := fnExactRingRouteUptoRow.holds Try.pinned (OpenSpec.upto fnExactRingRouteSpec)

/-- 'laws.FnExactLineRoute', WHERE WHAT IT READS IS OF BULK AT MOST 1048576: true; the input reads as it did. -/
def fnExactLineRouteUptoRow : OpenClaim := { program := "ytecoeknjnhffbaa", sum := "ef4e5d04c154ff8bd8c94c87bbca6453a3d49c86f7bbe92cb935796bf9e322b0", func := "loop.example/g01276/laws.FnExactLineRoute", spec := "fnExactLineRoute", unfollowed := true, recurses := true, apart := false, narrowed := true }
def FnExactLineRouteUptoSaid : Prop := fnExactLineRouteUptoRow.holds Try.pinned (OpenSpec.upto fnExactLineRouteSpec)

/-- 'laws.FnExactCanWalk', WHERE WHAT IT READS IS OF BULK AT MOST 1048576: true; the input reads as it did. -/
def fnExactCanWalkUptoRow : OpenClaim := { program := "ytecoeknjnhffbaa", sum := "ef4e5d04c154ff8bd8c94c87bbca6453a3d49c86f7bbe92cb935796bf9e322b0", func := "loop.example/g01276/laws.FnExactCanWalk", spec := "fnExactCanWalk", unfollowed := true, recurses := true, apart := false, narrowed := true }
def FnExactCanWalkUptoSaid : Prop := fnExactCanWalkUptoRow.holds Try.pinned (OpenSpec.upto fnExactCanWalkSpec)

/-- 'laws.FnExactStepsToNode', WHERE WHAT IT READS IS OF BULK AT MOST 1048576: true; the input reads as it did. -/
def fnExactStepsToNodeUptoRow : OpenClaim := { program := "ytecoeknjnhffbaa", sum := "ef4e5d04c154ff8bd8c94c87bbca6453a3d49c86f7bbe92cb935796bf9e322b0", func := "loop.example/g01276/laws.FnExactStepsToNode", spec := "fnExactStepsToNode", unfollowed := true, recurses := true, apart := false, narrowed := true }
def FnExactStepsToNodeUptoSaid : Prop := fnExactStepsToNodeUptoRow.holds Try.pinned (OpenSpec.upto fnExactStepsToNodeSpec)

/-- 'laws.FnExactResetRoute', WHERE WHAT IT READS IS OF BULK AT MOST 1048576: true; the input reads as it did. -/
def fnExactResetRouteUptoRow : OpenClaim := { program := "ytecoeknjnhffbaa", sum := "ef4e5d04c154ff8bd8c94c87bbca6453a3d49c86f7bbe92cb935796bf9e322b0", func := "loop.example/g01276/laws.FnExactResetRoute", spec := "fnExactResetRoute", unfollowed := true, recurses := true, apart := false, narrowed := true }
def FnExactResetRouteUptoSaid : Prop := fnExactResetRouteUptoRow.holds Try.pinned (OpenSpec.upto fnExactResetRouteSpec)

/-- 'laws.FnExactTurnRotor', WHERE WHAT IT READS IS OF BULK AT MOST 1048576: true; the input reads as it did. -/
def fnExactTurnRotorUptoRow : OpenClaim := { program := "ytecoeknjnhffbaa", sum := "ef4e5d04c154ff8bd8c94c87bbca6453a3d49c86f7bbe92cb935796bf9e322b0", func := "loop.example/g01276/laws.FnExactTurnRotor", spec := "fnExactTurnRotor", unfollowed := true, recurses := true, apart := false, narrowed := true }
def FnExactTurnRotorUptoSaid : Prop := fnExactTurnRotorUptoRow.holds Try.pinned (OpenSpec.upto fnExactTurnRotorSpec)

/-- 'laws.FnExactTrackOfWalk', WHERE WHAT IT READS IS OF BULK AT MOST 1048576: true; the input reads as it did. -/
def fnExactTrackOfWalkUptoRow : OpenClaim := { program := "ytecoeknjnhffbaa", sum := "ef4e5d04c154ff8bd8c94c87bbca6453a3d49c86f7bbe92cb935796bf9e322b0", func := "loop.example/g01276/laws.FnExactTrackOfWalk", spec := "fnExactTrackOfWalk", unfollowed := true, recurses := true, apart := false, narrowed := true }
def FnExactTrackOfWalkUptoSaid : Prop := fnExactTrackOfWalkUptoRow.holds Try.pinned (OpenSpec.upto fnExactTrackOfWalkSpec)

/-- 'laws.FnExactStepRoute', WHERE WHAT IT READS IS OF BULK AT MOST 1048576: true; the input reads as it did. -/
def fnExactStepRouteUptoRow : OpenClaim := { program := "ytecoeknjnhffbaa", sum := "ef4e5d04c154ff8bd8c94c87bbca6453a3d49c86f7bbe92cb935796bf9e322b0", func := "loop.example/g01276/laws.FnExactStepRoute", spec := "fnExactStepRoute", unfollowed := true, recurses := true, apart := false, narrowed := true }
def FnExactStepRouteUptoSaid : Prop := fnExactStepRouteUptoRow.holds Try.pinned (OpenSpec.upto fnExactStepRouteSpec)

/-- 'laws.FnExactVisitsOfWalk', WHERE WHAT IT READS IS OF BULK AT MOST 1048576: true; the input reads as it did. -/
def fnExactVisitsOfWalkUptoRow : OpenClaim := { program := "ytecoeknjnhffbaa", sum := "ef4e5d04c154ff8bd8c94c87bbca6453a3d49c86f7bbe92cb935796bf9e322b0", func := "loop.example/g01276/laws.FnExactVisitsOfWalk", spec := "fnExactVisitsOfWalk", unfollowed := true, recurses := true, apart := false, narrowed := true }
def FnExactVisitsOfWalkUptoSaid : Prop := fnExactVisitsOfWalkUptoRow.holds Try.pinned (OpenSpec.upto fnExactVisitsOfWalkSpec)

/-- 'laws.FnExactLinesUsed', WHERE WHAT IT READS IS OF BULK AT MOST 1048576: true; the input reads as it did. -/
def fnExactLinesUsedUptoRow : OpenClaim := { program := "ytecoeknjnhffbaa", sum := "ef4e5d04c154ff8bd8c94c87bbca6453a3d49c86f7bbe92cb935796bf9e322b0", func := "loop.example/g01276/laws.FnExactLinesUsed", spec := "fnExactLinesUsed", unfollowed := true, recurses := true, apart := false, narrowed := true }
def FnExactLinesUsedUptoSaid : Prop := fnExactLinesUsedUptoRow.holds Try.pinned (OpenSpec.upto fnExactLinesUsedSpec)

end Rows
end Go.Proofs.Ytecoeknjnhffbaa
