/- What a closure over a table sees of it. Plain theorems. Conditions: none. -/
import Derived.Below
import Derived.Test.YtnmaidjbnjhmbaaTIsTableW
namespace Go.Proofs.Ytnmaidjbnjhmbaa.XTabl
open Go.RowKit
/-- Block B holds a table with so many states and tints. -/
def Cap (w : World) (B : Nat) (s t : Int) : Prop := ∃ (A : Option Addr) (n c : Nat), w.cell? ⟨B, 0, none⟩ = some (.int .i64 s) ∧ w.cell? ⟨B, 1, none⟩ = some (.int .i64 t) ∧ w.cell? ⟨B, 2, none⟩ = some (.slice A n c)
theorem Cap.below {w w' : World} {B : Nat} {s t : Int} (h : Cap w B s t) (hb : Below w.heap.size w w') : Cap w' B s t := by
  obtain ⟨A, n, c, h0, h1, h2⟩ := h
  exact ⟨A, n, c, (hb.cell (World.block_lt_of_cell? w _ h0)).trans h0, (hb.cell (World.block_lt_of_cell? w _ h1)).trans h1, (hb.cell (World.block_lt_of_cell? w _ h2)).trans h2⟩
end Go.Proofs.Ytnmaidjbnjhmbaa.XTabl
