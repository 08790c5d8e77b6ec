/- Rows of rows of numbers that are written, row by row; what a call leaves of the others. Plain theorems. Conditions: none. -/
import Derived.Test.YtecoeknjnhffbaaTLineRouteW
namespace Go.Proofs.Ytecoeknjnhffbaa.XRoute
open Go.RowKit Go.Proofs.YtecoeknjnhffbaaW.PrintWords
set_option linter.unusedVariables false
/-- One row of a row of rows is written: the whole, with that row turned. -/
theorem S_mark {eI eO : Nat} {W : World} {base n cap : Nat} {ok : Nat → Prop} {ad : Addr} {xs : List (List Int)} (h : Kd.S (Kd.slice eI (Kd.int .i64)) eO W base ok (.slice (some ad) n cap) xs) (i : Int) (h0 : 0 ≤ i) (h1 : i < n) :
    ∃ (oki : Nat → Prop) (u : Value), (∀ k, oki k → ok k) ∧ W.cell? (ad.add i.toNat) = some u ∧ (Kd.int .i64).R eI W base oki u (xs.getD i.toNat []) ∧
      ∀ (w1 : World) (x' : List Int), Kept W w1 oki → (Kd.int .i64).R eI w1 base (fun k => oki k ∨ W.heap.size ≤ k) u x' → Kd.S (Kd.slice eI (Kd.int .i64)) eO w1 base ok (.slice (some ad) n cap) (xs.set i.toNat x') := by
  obtain ⟨g, rfl⟩ := Kd.R_head (Kd.S_R h)
  obtain ⟨oki, c, hcl, hM, hcc, hoki, hH⟩ := Kd.S_lend h [] i h0 h1
  obtain ⟨u, rfl, hu⟩ := hM
  refine ⟨oki, u, fun k hk => (hoki k hk).1, ?_, hu, fun w1 x' hk hr => ?_⟩
  · have := hcc 0 u rfl
    rw [add_plain]
    simpa [Kd.slice] using this
  · exact Kd.H_back (Kd.H_kept hH hk (fun _ _ hn => hn)) (x' := x') (okp := oki) ⟨u, rfl, Kd.R_flat (fun h => h) hr (fun k hk _ => hu.1 k hk)⟩ (fun _ hk => hk)
/-- A route's rows, in blocks from a on, below b. -/
structure Rt (eI eO : Nat) (W : World) (n a b : Nat) (u v : Value) (lo : List (List Int)) (lr : List Int) : Prop where
  s : Kd.S (Kd.slice eI (Kd.int .i64)) eO W n (fun k => (a ≤ k ∧ k < b) ∧ some k ≠ v.ownBlock) u lo
  r : Kd.R (Kd.int .i64) eI W n (fun k => (a ≤ k ∧ k < b) ∧ some k = v.ownBlock) v lr
  le : b ≤ W.heap.size
theorem Rt.made {eI eO n : Nat} {W w' : World} {u v : Value} {lo : List (List Int)} {lr : List Int} (hs : Kd.S (Kd.slice eI (Kd.int .i64)) eO w' W.heap.size (fun k_ => some k_ ≠ v.ownBlock) u lo)
    (hr : Kd.R (Kd.int .i64) eI w' W.heap.size (fun _ => True) v lr) (hn : n ≤ W.heap.size) : Rt eI eO w' n W.heap.size w'.heap.size u v lo lr where
  s := Kd.S_lower (Kd.S_mono (Kd.S_bound hs) (fun k hk => ⟨⟨hk.2.1, hk.2.2.1⟩, hk.1⟩)) hn
  r := Kd.R_lower (Kd.R_mono (Kd.R_bound (Kd.R_tight rfl hr)) (fun k hk => ⟨⟨hk.2.1, hk.2.2.1⟩, hk.1⟩)) hn
  le := Nat.le_refl _
section
variable {eI eO n a b : Nat} {W W2 : World} {u v : Value} {lo : List (List Int)} {lr : List Int}
theorem Rt.below (h : Rt eI eO W n a b u v lo lr) (hb : Below W.heap.size W W2) : Rt eI eO W2 n a b u v lo lr := ⟨Kd.S_below h.s hb, Kd.R_below h.r hb, Nat.le_trans h.le hb.size⟩
theorem Rt.kept {P : Nat → Prop} (h : Rt eI eO W n a b u v lo lr) (hk : Kept W W2 P) (hd : ∀ k, a ≤ k → k < b → ¬ P k) : Rt eI eO W2 n a b u v lo lr :=
  ⟨Kd.S_kept h.s hk (fun k h1 => hd k h1.1.1 h1.1.2), Kd.R_kept h.r hk (fun k h1 => hd k h1.1.1 h1.1.2), Nat.le_trans h.le hk.1⟩
end
/-- A row of numbers, in blocks from a on, below b. -/
structure Ri (eI : Nat) (W : World) (n a b : Nat) (v : Value) (lr : List Int) : Prop where
  r : Kd.R (Kd.int .i64) eI W n (fun k => a ≤ k ∧ k < b) v lr
  le : b ≤ W.heap.size
theorem Ri.made {eI n : Nat} {W w' : World} {v : Value} {lr : List Int} (hr : Kd.R (Kd.int .i64) eI w' W.heap.size (fun _ => True) v lr) (hn : n ≤ W.heap.size) : Ri eI w' n W.heap.size w'.heap.size v lr :=
  ⟨Kd.R_lower (Kd.R_mono (Kd.R_bound hr) (fun k hk => ⟨hk.2.1, hk.2.2.1⟩)) hn, Nat.le_refl _⟩
section
variable {eI n a b : Nat} {W W2 : World} {v : Value} {lr : List Int}
theorem Ri.below (h : Ri eI W n a b v lr) (hb : Below W.heap.size W W2) : Ri eI W2 n a b v lr := ⟨Kd.R_below h.r hb, Nat.le_trans h.le hb.size⟩
theorem Ri.kept {P : Nat → Prop} (h : Ri eI W n a b v lr) (hk : Kept W W2 P) (hd : ∀ k, a ≤ k → k < b → ¬ P k) : Ri eI W2 n a b v lr := ⟨Kd.R_kept h.r hk (fun k h1 => hd k h1.1 h1.2), Nat.le_trans h.le hk.1⟩
end
/-- Rows of rows of numbers, in blocks from a on, below b. -/
structure Rs (eI eO : Nat) (W : World) (n a b : Nat) (u : Value) (lo : List (List Int)) : Prop where
  s : Kd.S (Kd.slice eI (Kd.int .i64)) eO W n (fun k => a ≤ k ∧ k < b) u lo
  le : b ≤ W.heap.size
theorem Rs.made {eI eO n : Nat} {W w' : World} {u : Value} {lo : List (List Int)} (hs : Kd.S (Kd.slice eI (Kd.int .i64)) eO w' W.heap.size (fun _ => True) u lo) (hn : n ≤ W.heap.size) : Rs eI eO w' n W.heap.size w'.heap.size u lo :=
  ⟨Kd.S_lower (Kd.S_mono (Kd.S_bound hs) (fun k hk => ⟨hk.2.1, hk.2.2.1⟩)) hn, Nat.le_refl _⟩
section
variable {eI eO n a b : Nat} {W W2 : World} {u : Value} {lo : List (List Int)}
theorem Rs.below (h : Rs eI eO W n a b u lo) (hb : Below W.heap.size W W2) : Rs eI eO W2 n a b u lo := ⟨Kd.S_below h.s hb, Nat.le_trans h.le hb.size⟩
theorem Rs.kept {P : Nat → Prop} (h : Rs eI eO W n a b u lo) (hk : Kept W W2 P) (hd : ∀ k, a ≤ k → k < b → ¬ P k) : Rs eI eO W2 n a b u lo := ⟨Kd.S_kept h.s hk (fun k h1 => hd k h1.1 h1.2), Nat.le_trans h.le hk.1⟩
end
/-- What stood lies below what was made later. -/
theorem sepR {b : Nat} {W W' w2 : World} (h : b ≤ W.heap.size) (hW : Below W.heap.size W W') (_hb : Below W'.heap.size W' w2) : b ≤ W'.heap.size := Nat.le_trans h hW.size
theorem sepN {o : Obj} {W w2 : World} (_hb : Below (W.alloc o).heap.size (W.alloc o) w2) : W.heap.size < (W.alloc o).heap.size := by
  show _ < (W.heap.push o).size
  rw [Array.size_push]
  exact Nat.lt_succ_self _
end Go.Proofs.Ytecoeknjnhffbaa.XRoute
