/- Two short words for steps that the printed texts take often. Plain theorems. Conditions: none. -/
import Derived.Test.YtfhplgiblknfcaaDoorTPlainBeforeW
namespace Go.Proofs.YtfhplgiblknfcaaDoor.XSq
open Go.RowKit Go.Proofs.YtfhplgiblknfcaaDoorW.PrintWords
set_option linter.unusedVariables false
/-- A block stands in a world that only draws or lays blocks since. -/
theorem bq {W0 W : World} {g : Nat} {o : Obj} (B : Aside0 (W0.heap[g]? = some o)) (h : W0.heap[g]? = some o → W.heap[g]? = some o := by intro h_; (with_reducible repeat (first | refine blk_drewN ?_ _ | refine blk_drew ?_ | refine blk_alloc ?_ _)); exact h_) : W.heap[g]? = some o := h B.out
/-- What lay below stands in a world that only draws, lays blocks or writes into new ones since. -/
theorem bB {B : Nat} {w W0 W : World} (H : Aside0 (Below B w W0)) (h : Below B w W0 → Below B w W := by intro h_; repeat (first | (with_reducible first | exact h_ | apply below_alloc | apply pw_below_drewN | apply below_drew1 | refine below_set ?_ (Aside0.out (by assumption))) | exact h_)) : Below B w W := h H.out
theorem gw {g : Nat} {w W : World} (hg : g = W.heap.size) (H : Below w.heap.size w W) : Aside0 (w.heap.size ≤ g) := ⟨by rw [hg]; exact below_size H⟩
theorem nl {g g' : Nat} {W : World} {o : Obj} (hg : g' = W.heap.size) (H : W.heap[g]? = some o) : Aside0 (g ≠ g') := ⟨by rw [hg]; exact Nat.ne_of_lt (Array.getElem?_eq_some_iff.1 H).1⟩
theorem nr {g g' : Nat} {W : World} {o : Obj} (hg : g' = W.heap.size) (H : W.heap[g]? = some o) : Aside0 (g' ≠ g) := ⟨by rw [hg]; exact Nat.ne_of_gt (Array.getElem?_eq_some_iff.1 H).1⟩
theorem bb {W0 W W1 : World} {g : Nat} {o : Obj} (B : Aside0 (W0.heap[g]? = some o)) (hb : Below W.heap.size W W1) (h : W0.heap[g]? = some o → W.heap[g]? = some o := by intro h_; (with_reducible repeat (first | refine blk_drewN ?_ _ | refine blk_drew ?_ | refine blk_alloc ?_ _)); exact h_) : Aside0 (W1.heap[g]? = some o) := ⟨blk_below (h B.out) hb⟩
/-- A row of the call's own stands in a world that only draws or lays blocks since. -/
theorem pR {α : Type} {d : Kd α} {e base : Nat} {ok : Nat → Prop} {v : Value} {xs : List α} {W0 W : World} (H : Aside0 (d.R e W0 base ok v xs)) (h : d.R e W0 base ok v xs → d.R e W base ok v xs := by intro h_; (with_reducible repeat (first | apply Kd.R_alloc | apply Kd.R_drewN | apply Kd.R_drew)); exact h_) : d.R e W base ok v xs := h H.out
theorem fr {a b : Nat} {q : Prop} (Y : a ≠ b) (h : a ≠ b → q := by intro Y_; first | exact Y_ | (rw [add_block]; exact Y_) | (show (Addr.add _ _).block ≠ _; rw [add_block]; exact Y_) | (dsimp only; exact Y_)) : q := h Y
def bL : Nat → Nat → List Bool
  | 0, _ => []
  | n + 1, m => (m % 2 == 1) :: bL n (m / 2)
/-- A row of true and false, told by a number. -/
def bA (n m : Nat) : Array Bool := (bL n m).toArray
theorem ck {w : World} {g : Nat} {cs : Array Value} {t : TypeId} {v : Value} (B : Aside0 (w.heap[g]? = some (.cells cs t (0, 0)))) (j : Nat) (h : cs[j]? = some v := by rfl) : w.cell? ⟨g, j, none⟩ = some v := (blk_cell B.out j).trans h
theorem p1 {α : Type} {l : List α} {i : Nat} {a : α} : l.toArray.setIfInBounds i a = (l.set i a).toArray := List.setIfInBounds_toArray l i a
theorem p2 {α : Type} {a b : α} {l : List α} : (a :: l).set 0 b = b :: l := List.set_cons_zero
theorem p3 {α : Type} {a b : α} {l : List α} {i : Nat} : (a :: l).set (i + 1) b = a :: l.set i b := List.set_cons_succ
end Go.Proofs.YtfhplgiblknfcaaDoor.XSq
