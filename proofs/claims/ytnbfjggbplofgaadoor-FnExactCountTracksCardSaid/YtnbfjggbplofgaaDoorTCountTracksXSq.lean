/- Two short words for steps that the printed texts take often. Plain theorems. Conditions: none. -/
import Derived.Test.YtnbfjggbplofgaaDoorTCountTracksW
namespace Go.Proofs.YtnbfjggbplofgaaDoor.XSq
open Go.RowKit Go.Proofs.YtnbfjggbplofgaaDoorW.PrintWords
set_option linter.unusedVariables false
/-- A block stands in a world that only draws or lays blocks since. -/
theorem bq {W0 W : World} {g : Nat} {o : Obj} (B : Aside0 (W0.heap[g]? = some o)) (h : W0.heap[g]? = some o → W.heap[g]? = some o := by intro h_; (with_reducible repeat (first | refine blk_drewN ?_ _ | refine blk_drew ?_ | refine blk_alloc ?_ _)); exact h_) : W.heap[g]? = some o := h B.out
/-- What lay below stands in a world that only draws, lays blocks or writes into new ones since. -/
theorem bB {B : Nat} {w W0 W : World} (H : Aside0 (Below B w W0)) (h : Below B w W0 → Below B w W := by intro h_; repeat (first | (with_reducible first | exact h_ | apply below_alloc | apply pw_below_drewN | apply below_drew1 | refine below_set ?_ (Aside0.out (by assumption))) | exact h_)) : Below B w W := h H.out
theorem gw {g : Nat} {w W : World} (hg : g = W.heap.size) (H : Below w.heap.size w W) : Aside0 (w.heap.size ≤ g) := ⟨by rw [hg]; exact below_size H⟩
theorem nl {g g' : Nat} {W : World} {o : Obj} (hg : g' = W.heap.size) (H : W.heap[g]? = some o) : Aside0 (g ≠ g') := ⟨by rw [hg]; exact Nat.ne_of_lt (Array.getElem?_eq_some_iff.1 H).1⟩
theorem bb {W0 W W1 : World} {g : Nat} {o : Obj} (B : Aside0 (W0.heap[g]? = some o)) (hb : Below W.heap.size W W1) (h : W0.heap[g]? = some o → W.heap[g]? = some o := by intro h_; (with_reducible repeat (first | refine blk_drewN ?_ _ | refine blk_drew ?_ | refine blk_alloc ?_ _)); exact h_) : Aside0 (W1.heap[g]? = some o) := ⟨blk_below (h B.out) hb⟩
theorem fr {a b : Nat} {q : Prop} (Y : a ≠ b) (h : a ≠ b → q := by intro Y_; first | exact Y_ | (rw [add_block]; exact Y_) | (show (Addr.add _ _).block ≠ _; rw [add_block]; exact Y_) | (dsimp only; exact Y_)) : q := h Y
end Go.Proofs.YtnbfjggbplofgaaDoor.XSq
