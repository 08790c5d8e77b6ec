/- Two short words for steps that the printed texts take often. Plain theorems. Conditions: none. -/
import Derived.Test.YtjhokefoocajpaaDoorTParseMazeW
namespace Go.Proofs.YtjhokefoocajpaaDoor.XSq
open Go.RowKit Go.Proofs.YtjhokefoocajpaaDoorW.PrintWords
set_option linter.unusedVariables false
/-- A block stands in a world that only draws or lays blocks since. -/
theorem bq {W0 W : World} {g : Nat} {o : Obj} (B : Aside0 (W0.heap[g]? = some o)) (h : W0.heap[g]? = some o → W.heap[g]? = some o := by intro h_; (with_reducible repeat (first | refine blk_drewN ?_ _ | refine blk_drew ?_ | refine blk_alloc ?_ _)); exact h_) : W.heap[g]? = some o := h B.out
/-- What lay below stands in a world that only draws, lays blocks or writes into new ones since. -/
theorem bB {B : Nat} {w W0 W : World} (H : Aside0 (Below B w W0)) (h : Below B w W0 → Below B w W := by intro h_; repeat (first | (with_reducible first | exact h_ | apply below_alloc | apply pw_below_drewN | apply below_drew1 | refine below_set ?_ (Aside0.out (by assumption))) | exact h_)) : Below B w W := h H.out
theorem sz1 (b : UInt8) : (⟨#[b]⟩ : ByteArray).size = 1 := rfl
end Go.Proofs.YtjhokefoocajpaaDoor.XSq
