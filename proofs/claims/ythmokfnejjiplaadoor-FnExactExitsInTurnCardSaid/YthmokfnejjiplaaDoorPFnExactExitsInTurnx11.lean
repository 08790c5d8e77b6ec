-- Made by wip/tools/xkit.py (a program of this session's) with the kit's printer.
import Derived.Test.YthmokfnejjiplaaDoorPFnExactExitsInTurnx0
import Derived.Test.YthmokfnejjiplaaDoorPFnExactExitsInTurnx1
import Derived.Test.YthmokfnejjiplaaDoorPFnExactExitsInTurnx8
import Derived.Test.YthmokfnejjiplaaDoorPFnExactExitsInTurnx9
import Derived.Test.YthmokfnejjiplaaDoorPFnExactExitsInTurnx10
namespace Go.Proofs.YthmokfnejjiplaaDoor.PFnExactExitsInTurn
open Go.RowKit Go.Proofs.YthmokfnejjiplaaDoorW.PrintWords Go.Proofs.YthmokfnejjiplaaDoorW.PrintLast Go.Proofs.YthmokfnejjiplaaDoorW.PrintMore
attribute [local go_sem] max2_int min2_int max_two min_two max_three min_three max_four min_four   -- for this text's walks alone
set_option linter.unusedVariables false
set_option linter.unusedSimpArgs false

attribute [local go_sem high] eqA32
/-! ### impl_Maze_pass: function 64 -/
mutual
def impl_Maze_pass.j0 : Nat → Int → Int → Int → ByteArray → Bool → Int → Int → Int → Int → Int → ByteArray → Bool → Int → Int → Int → Option (Int × Int × ByteArray × Bool × Int × Int × Int × Bool)
  | 0, _, _, _, _, _, _, _, _, _, _, _, _, _, _, _ => none
  | k + 1, x7, x211000, x211001, x211002, x211003, x212000, x212001, x212002, x214000, x214001, x214002, x214003, x214004, x214005, x214006 => impl_Maze_pass.l0 k x7 x211000 x211001 x211002 x211003 x212000 x212001 x212002 x214000 x214001 x214002 x214003 x214004 x214005 x214006
def impl_Maze_pass.l0 : Nat → Int → Int → Int → ByteArray → Bool → Int → Int → Int → Int → Int → ByteArray → Bool → Int → Int → Int → Option (Int × Int × ByteArray × Bool × Int × Int × Int × Bool)
  | 0, _, _, _, _, _, _, _, _, _, _, _, _, _, _, _ => none
  | k + 1, x7, x211000, x211001, x211002, x211003, x212000, x212001, x212002, x214000, x214001, x214002, x214003, x214004, x214005, x214006 => if x214006 < x7 then ((impl_Maze_hit.f k x214000 x214001 x214002 x214003 x212000 x212001 x212002).bind fun bt214 => ((impl_bit.f bt214.2.2.2.2.2.2.2.1).bind fun t225 => (if bt214.2.2.2.2.2.2.2.2 = true then (impl_Maze_pass.l0 k x7 x211000 x211001 x211002 x211003 bt214.2.2.2.2.1 bt214.2.2.2.2.2.1 bt214.2.2.2.2.2.2.1 bt214.1 bt214.2.1 bt214.2.2.1 bt214.2.2.2.1 x214004 (wrap64 (x214005 + t225)) (wrap64 (x214006 + 1))) else ((impl_ahead.f bt214.2.2.2.2.2.2.1).bind fun bt226 => (impl_Maze_pass.l1 k x211000 x211001 x211002 x211003 bt214.1 bt214.2.1 bt214.2.2.1 bt214.2.2.2.1 x214004 (wrap64 (x214005 + t225)) (wrap64 (x214006 + 1)) (wrap64 (bt214.2.2.2.2.1 - bt226.1)) (wrap64 (bt214.2.2.2.2.2.1 - bt226.2)) (Int.tmod (wrap64 (bt214.2.2.2.2.2.2.1 + 2)) 4)))))) else (some (0, 0, (⟨#[]⟩ : ByteArray), false, 0, 0, 0, false))
def impl_Maze_pass.l1 : Nat → Int → Int → ByteArray → Bool → Int → Int → ByteArray → Bool → Int → Int → Int → Int → Int → Int → Option (Int × Int × ByteArray × Bool × Int × Int × Int × Bool)
  | 0, _, _, _, _, _, _, _, _, _, _, _, _, _, _ => none
  | k + 1, x211000, x211001, x211002, x211003, x214000, x214001, x214002, x214003, x214004, x214005, x214006, x229000, x229001, x229002 => (impl_Maze_entry.f x211000 x211001 x211002 x211003 x214004).bind fun bt229 => (if (!(bt229.1 == x229000) || (!(bt229.2.1 == x229001) || (!(bt229.2.2 == x229002)))) = true then (impl_Maze_pass.l1 k x211000 x211001 x211002 x211003 x214000 x214001 x214002 x214003 (wrap64 (x214004 + 1)) x214005 x214006 x229000 x229001 x229002) else (some (x214000, x214001, x214002, x214003, x214004, x214005, x214006, true)))
end
def impl_Maze_pass.f (k : Nat) (a0_0 : Int) (a0_1 : Int) (a0_2 : ByteArray) (a0_3 : Bool) (a1_0 : Int) (a1_1 : Int) (a1_2 : Int) : Option (Int × Int × ByteArray × Bool × Int × Int × Int × Bool) := if a0_3 = true then (impl_Maze_pass.j0 k 1000000 a0_0 a0_1 a0_2 a0_3 a1_0 a1_1 a1_2 a0_0 a0_1 a0_2 a0_3 0 0 0) else (impl_Maze_pass.j0 k (wrap64 (4 * (a0_2.size : Int))) a0_0 a0_1 a0_2 a0_3 a1_0 a1_1 a1_2 a0_0 a0_1 a0_2 a0_3 0 0 0)
theorem impl_Maze_pass.mono_l : ∀ k, (∀ y0 y1 y2 y3 y4 y5 y6 y7 y8 y9 y10 y11 y12 y13 y14, LeO (impl_Maze_pass.j0 k y0 y1 y2 y3 y4 y5 y6 y7 y8 y9 y10 y11 y12 y13 y14) (impl_Maze_pass.j0 (k + 1) y0 y1 y2 y3 y4 y5 y6 y7 y8 y9 y10 y11 y12 y13 y14)) ∧ (∀ y0 y1 y2 y3 y4 y5 y6 y7 y8 y9 y10 y11 y12 y13 y14, LeO (impl_Maze_pass.l0 k y0 y1 y2 y3 y4 y5 y6 y7 y8 y9 y10 y11 y12 y13 y14) (impl_Maze_pass.l0 (k + 1) y0 y1 y2 y3 y4 y5 y6 y7 y8 y9 y10 y11 y12 y13 y14)) ∧ (∀ y0 y1 y2 y3 y4 y5 y6 y7 y8 y9 y10 y11 y12 y13, LeO (impl_Maze_pass.l1 k y0 y1 y2 y3 y4 y5 y6 y7 y8 y9 y10 y11 y12 y13) (impl_Maze_pass.l1 (k + 1) y0 y1 y2 y3 y4 y5 y6 y7 y8 y9 y10 y11 y12 y13))
  | 0 => ⟨fun _ _ _ _ _ _ _ _ _ _ _ _ _ _ _ r h => by simp [impl_Maze_pass.j0] at h, fun _ _ _ _ _ _ _ _ _ _ _ _ _ _ _ r h => by simp [impl_Maze_pass.l0] at h, fun _ _ _ _ _ _ _ _ _ _ _ _ _ _ r h => by simp [impl_Maze_pass.l1] at h⟩
  | k + 1 => by
    obtain ⟨ih0, ih1, ih2⟩ := impl_Maze_pass.mono_l k
    refine ⟨?_, ?_, ?_⟩
    · intro y0 y1 y2 y3 y4 y5 y6 y7 y8 y9 y10 y11 y12 y13 y14
      unfold impl_Maze_pass.j0
      repeat' first
      | (with_reducible exact ih0 _ _ _ _ _ _ _ _ _ _ _ _ _ _ _)
      | (with_reducible exact ih1 _ _ _ _ _ _ _ _ _ _ _ _ _ _ _)
      | (with_reducible exact ih2 _ _ _ _ _ _ _ _ _ _ _ _ _ _)
      | (with_reducible exact impl_Maze_hit.mono _ _ _ _ _ _ _ _)
      | (with_reducible exact LeO.refl _)
      | (with_reducible exact LeO.none _)
      | (with_reducible refine LeO.ite ?_ ?_)
      | (with_reducible refine LeO.bind ?_ (fun _ => ?_))
      | exact ih0 _ _ _ _ _ _ _ _ _ _ _ _ _ _ _
      | exact ih1 _ _ _ _ _ _ _ _ _ _ _ _ _ _ _
      | exact ih2 _ _ _ _ _ _ _ _ _ _ _ _ _ _
      | exact impl_Maze_hit.mono _ _ _ _ _ _ _ _
      | exact LeO.none _
      | refine LeO.ite ?_ ?_
      | refine LeO.bind ?_ (fun _ => ?_)
    · intro y0 y1 y2 y3 y4 y5 y6 y7 y8 y9 y10 y11 y12 y13 y14
      unfold impl_Maze_pass.l0
      repeat' first
      | (with_reducible exact ih0 _ _ _ _ _ _ _ _ _ _ _ _ _ _ _)
      | (with_reducible exact ih1 _ _ _ _ _ _ _ _ _ _ _ _ _ _ _)
      | (with_reducible exact ih2 _ _ _ _ _ _ _ _ _ _ _ _ _ _)
      | (with_reducible exact impl_Maze_hit.mono _ _ _ _ _ _ _ _)
      | (with_reducible exact LeO.refl _)
      | (with_reducible exact LeO.none _)
      | (with_reducible refine LeO.ite ?_ ?_)
      | (with_reducible refine LeO.bind ?_ (fun _ => ?_))
      | exact ih0 _ _ _ _ _ _ _ _ _ _ _ _ _ _ _
      | exact ih1 _ _ _ _ _ _ _ _ _ _ _ _ _ _ _
      | exact ih2 _ _ _ _ _ _ _ _ _ _ _ _ _ _
      | exact impl_Maze_hit.mono _ _ _ _ _ _ _ _
      | exact LeO.none _
      | refine LeO.ite ?_ ?_
      | refine LeO.bind ?_ (fun _ => ?_)
    · intro y0 y1 y2 y3 y4 y5 y6 y7 y8 y9 y10 y11 y12 y13
      unfold impl_Maze_pass.l1
      repeat' first
      | (with_reducible exact ih0 _ _ _ _ _ _ _ _ _ _ _ _ _ _ _)
      | (with_reducible exact ih1 _ _ _ _ _ _ _ _ _ _ _ _ _ _ _)
      | (with_reducible exact ih2 _ _ _ _ _ _ _ _ _ _ _ _ _ _)
      | (with_reducible exact impl_Maze_hit.mono _ _ _ _ _ _ _ _)
      | (with_reducible exact LeO.refl _)
      | (with_reducible exact LeO.none _)
      | (with_reducible refine LeO.ite ?_ ?_)
      | (with_reducible refine LeO.bind ?_ (fun _ => ?_))
      | exact ih0 _ _ _ _ _ _ _ _ _ _ _ _ _ _ _
      | exact ih1 _ _ _ _ _ _ _ _ _ _ _ _ _ _ _
      | exact ih2 _ _ _ _ _ _ _ _ _ _ _ _ _ _
      | exact impl_Maze_hit.mono _ _ _ _ _ _ _ _
      | exact LeO.none _
      | refine LeO.ite ?_ ?_
      | refine LeO.bind ?_ (fun _ => ?_)
theorem impl_Maze_pass.mono : ∀ a0 a1 a2 a3 a4 a5 a6 k, LeO (impl_Maze_pass.f k a0 a1 a2 a3 a4 a5 a6) (impl_Maze_pass.f (k + 1) a0 a1 a2 a3 a4 a5 a6) := by
  intro a0 a1 a2 a3 a4 a5 a6 k
  obtain ⟨ih0, ih1, ih2⟩ := impl_Maze_pass.mono_l k
  unfold impl_Maze_pass.f
  repeat' first
      | (with_reducible exact ih0 _ _ _ _ _ _ _ _ _ _ _ _ _ _ _)
      | (with_reducible exact ih1 _ _ _ _ _ _ _ _ _ _ _ _ _ _ _)
      | (with_reducible exact ih2 _ _ _ _ _ _ _ _ _ _ _ _ _ _)
      | (with_reducible exact impl_Maze_hit.mono _ _ _ _ _ _ _ _)
      | (with_reducible exact LeO.refl _)
      | (with_reducible exact LeO.none _)
      | (with_reducible refine LeO.ite ?_ ?_)
      | (with_reducible refine LeO.bind ?_ (fun _ => ?_))
      | exact ih0 _ _ _ _ _ _ _ _ _ _ _ _ _ _ _
      | exact ih1 _ _ _ _ _ _ _ _ _ _ _ _ _ _ _
      | exact ih2 _ _ _ _ _ _ _ _ _ _ _ _ _ _
      | exact impl_Maze_hit.mono _ _ _ _ _ _ _ _
      | exact LeO.none _
      | refine LeO.ite ?_ ?_
      | refine LeO.bind ?_ (fun _ => ?_)
def impl_Maze_pass.T6 : Bool × List (List Nat × List Nat) := (true, [([], []), ([], []), ([1], [1]), ([], []), ([3], [3]), ([2, 4], [2, 4]), ([], []), ([6], [6]), ([7], [7]), ([0, 1, 2, 6, 7], []), ([9, 0, 4, 0, 1, 2, 6, 7], [0, 9]), ([0, 1, 2, 3, 4, 5, 6, 7, 9, 10], []), ([11, 5, 10, 0, 1, 2, 3, 4, 5, 6, 7, 9, 10], [5, 11]), ([0, 1, 2, 3, 4, 5, 6, 7, 8, 9, 10, 11, 12], []), ([13, 8, 12, 0, 1, 2, 3, 4, 5, 6, 7, 8, 9, 10, 11, 12], [8, 13])])
def impl_Maze_pass.B6 : List Nat := [0, 0, 2, 0, 8, 30, 0, 64, 192, 199, 735, 1791, 3839, 8191, 16383]
theorem impl_Maze_pass.tab6 : rtab .any (opsOf Tryd.f64 6) = impl_Maze_pass.T6 := by kernel_rfl
theorem impl_Maze_pass.bits6 : waitsOk impl_Maze_pass.T6.2 impl_Maze_pass.B6 = true := by kernel_rfl
set_option maxHeartbeats 8000000 in
set_option maxRecDepth 100000 in
theorem impl_Maze_pass.calls (k : Nat) (a0_0 : Int) (a0_1 : Int) (a0_2 : ByteArray) (a0_3 : Bool) (a1_0 : Int) (a1_1 : Int) (a1_2 : Int) (r1 : Int) (r2 : Int) (r3 : ByteArray) (r4 : Bool) (r5 : Int) (r6 : Int) (r7 : Int) (r8 : Bool) (w : World) (h : impl_Maze_pass.f k a0_0 a0_1 a0_2 a0_3 a1_0 a1_1 a1_2 = some (r1, r2, r3, r4, r5, r6, r7, r8)) :
    Calls Tryd.prog 64 #[.agg #[.int .i64 a0_0, .int .i64 a0_1, .string a0_2, .bool a0_3], .agg #[.int .i64 a1_0, .int .i64 a1_1, .int .i64 a1_2]] w fun e w' => e = .returned (.tuple #[.agg #[.int .i64 r1, .int .i64 r2, .string r3, .bool r4, .int .i64 r5, .int .i64 r6, .int .i64 r7], .bool r8]) ∧ Below w.heap.size w w' := by
  have hu26 := Tryd.underlying26
  have hu32 := Tryd.underlying32
  have hu71 := Tryd.underlying71
  have HB := Aside0.mk (Below.refl w.heap.size w)
  have H : (if a0_3 = true then (impl_Maze_pass.j0 k 1000000 a0_0 a0_1 a0_2 a0_3 a1_0 a1_1 a1_2 a0_0 a0_1 a0_2 a0_3 0 0 0) else (impl_Maze_pass.j0 k (wrap64 (4 * (a0_2.size : Int))) a0_0 a0_1 a0_2 a0_3 a1_0 a1_1 a1_2 a0_0 a0_1 a0_2 a0_3 0 0 0)) = some (r1, r2, r3, r4, r5, r6, r7, r8) := h
  clear h
  have HC3 := Aside0.mk H
  clear H
  go_enter Tryd.func64, Tryd.ntmps64
  go_upto_if 19 with (first | ((with_reducible refine gate_dst (N := 2) rfl ?_); refine box_event ?hg (N := 2) ?hd (cs := #[.int .i64 a0_0, .int .i64 a0_1, .string a0_2, .bool a0_3]) (t := 26) ?hr ?_; (case hd => rfl); (case hg => rfl); (case hr => first | (go_simp; done) | (go_simp; rfl)); intro gb210 hg w4 hbox hb; have n0_ := Aside0.mk (below_step (XSq.bB HB) hb); have n1_ := Aside0.mk (hbox); have n2_ := Aside0.mk ((by rw [hg]; exact (below_size (XSq.bB HB)) : w.heap.size ≤ gb210)); have n3_ := Aside0.mk ((by rw [hg]; exact (below_size (XSq.bB HB)) : w.heap.size ≤ gb210)); clear HB; have HB := n0_; have BK210 := n1_; have GW210 := n2_; have GE210 := n3_; clear n0_ n1_ n2_ n3_; clear hb hbox hg) | ((with_reducible refine gate_dst (N := 3) rfl ?_); refine box_event ?hg (N := 3) ?hd (cs := #[.int .i64 a1_0, .int .i64 a1_1, .int .i64 a1_2]) (t := 32) ?hr ?_; (case hd => rfl); (case hg => rfl); (case hr => first | (go_simp; done) | (go_simp; rfl)); intro gb211 hg w5 hbox hb; have n0_ := Aside0.mk (blk_below (g := gb210) (o := .cells #[.int .i64 a0_0, .int .i64 a0_1, .string a0_2, .bool a0_3] 26 (0, 0)) (XSq.bq BK210) hb); have n1_ := Aside0.mk (below_step (XSq.bB HB) hb); have n2_ := Aside0.mk (hbox); have n3_ := Aside0.mk ((by rw [hg]; exact (below_size (XSq.bB HB)) : w.heap.size ≤ gb211)); have n4_ := Aside0.mk ((by rw [hg]; exact (below_size (XSq.bB HB)) : w.heap.size ≤ gb211)); have n5_ := Aside0.mk ((by rw [hg]; exact Nat.ne_of_lt (blk_lt (g := gb210) (o := .cells #[.int .i64 a0_0, .int .i64 a0_1, .string a0_2, .bool a0_3] 26 (0, 0)) (XSq.bq BK210)) : gb210 ≠ gb211)); have n6_ := Aside0.mk ((by rw [hg]; exact Nat.ne_of_gt (blk_lt (g := gb210) (o := .cells #[.int .i64 a0_0, .int .i64 a0_1, .string a0_2, .bool a0_3] 26 (0, 0)) (XSq.bq BK210)) : gb211 ≠ gb210)); clear BK210; clear HB; have BK210 := n0_; have HB := n1_; have BK211 := n2_; have GW211 := n3_; have GE211 := n4_; have NB210_211 := n5_; have NB211_210 := n6_; clear n0_ n1_ n2_ n3_ n4_ n5_ n6_; clear hb hbox hg) | ((with_reducible refine gate_dst (N := 4) rfl ?_); refine box_event ?hg (N := 4) ?hd (cs := #[.int .i64 0, .int .i64 0, .string (⟨#[]⟩ : ByteArray), .bool false, .int .i64 0, .int .i64 0, .int .i64 0]) (t := 71) ?hr ?_; (case hd => rfl); (case hg => rfl); (case hr => first | (go_simp; done) | (go_simp; rfl)); intro gb212 hg w6 hbox hb; have n0_ := Aside0.mk (blk_below (g := gb210) (o := .cells #[.int .i64 a0_0, .int .i64 a0_1, .string a0_2, .bool a0_3] 26 (0, 0)) (XSq.bq BK210) hb); have n1_ := Aside0.mk (blk_below (g := gb211) (o := .cells #[.int .i64 a1_0, .int .i64 a1_1, .int .i64 a1_2] 32 (0, 0)) (XSq.bq BK211) hb); have n2_ := Aside0.mk (below_step (XSq.bB HB) hb); have n3_ := Aside0.mk (hbox); have n4_ := Aside0.mk ((by rw [hg]; exact (below_size (XSq.bB HB)) : w.heap.size ≤ gb212)); have n5_ := Aside0.mk ((by rw [hg]; exact (below_size (XSq.bB HB)) : w.heap.size ≤ gb212)); have n6_ := Aside0.mk ((by rw [hg]; exact Nat.ne_of_lt (blk_lt (g := gb210) (o := .cells #[.int .i64 a0_0, .int .i64 a0_1, .string a0_2, .bool a0_3] 26 (0, 0)) (XSq.bq BK210)) : gb210 ≠ gb212)); have n7_ := Aside0.mk ((by rw [hg]; exact Nat.ne_of_gt (blk_lt (g := gb210) (o := .cells #[.int .i64 a0_0, .int .i64 a0_1, .string a0_2, .bool a0_3] 26 (0, 0)) (XSq.bq BK210)) : gb212 ≠ gb210)); have n8_ := Aside0.mk ((by rw [hg]; exact Nat.ne_of_lt (blk_lt (g := gb211) (o := .cells #[.int .i64 a1_0, .int .i64 a1_1, .int .i64 a1_2] 32 (0, 0)) (XSq.bq BK211)) : gb211 ≠ gb212)); have n9_ := Aside0.mk ((by rw [hg]; exact Nat.ne_of_gt (blk_lt (g := gb211) (o := .cells #[.int .i64 a1_0, .int .i64 a1_1, .int .i64 a1_2] 32 (0, 0)) (XSq.bq BK211)) : gb212 ≠ gb211)); clear BK210; clear BK211; clear HB; have BK210 := n0_; have BK211 := n1_; have HB := n2_; have BK212 := n3_; have GW212 := n4_; have GE212 := n5_; have NB210_212 := n6_; have NB212_210 := n7_; have NB211_212 := n8_; have NB212_211 := n9_; clear n0_ n1_ n2_ n3_ n4_ n5_ n6_ n7_ n8_ n9_; clear hb hbox hg; have hnb7 := NB210_211.out; have hnc7 := NB211_210.out; have hnb8 := NB210_212.out; have hnc8 := NB212_210.out; have hcz9_0 : w6.cell? ⟨gb210, 0, none⟩ = some (.int .i64 a0_0) := (blk_cell BK210.out 0).trans rfl; have hcz9_1 : w6.cell? ⟨gb210, 1, none⟩ = some (.int .i64 a0_1) := (blk_cell BK210.out 1).trans rfl; have hcz9_2 : w6.cell? ⟨gb210, 2, none⟩ = some (.string a0_2) := (blk_cell BK210.out 2).trans rfl; have hcz9_3 : w6.cell? ⟨gb210, 3, none⟩ = some (.bool a0_3) := (blk_cell BK210.out 3).trans rfl; have hfz9_0 := blk_frozen BK210.out 0; have hfz9_1 := blk_frozen BK210.out 1; have hfz9_2 := blk_frozen BK210.out 2; have hfz9_3 := blk_frozen BK210.out 3) | ((with_reducible refine gate_dst (N := 6) rfl ?_); refine box_event ?hg (N := 6) ?hd (cs := #[.int .i64 0, .int .i64 0, .string (⟨#[]⟩ : ByteArray), .bool false, .int .i64 0, .int .i64 0, .int .i64 0]) (t := 71) ?hr ?_; (case hd => rfl); (case hg => rfl); (case hr => first | (go_simp; done) | (go_simp; rfl)); intro gb213 hg w10 hbox hb; have n0_ := Aside0.mk (blk_below (g := gb210) (o := .cells #[.int .i64 a0_0, .int .i64 a0_1, .string a0_2, .bool a0_3] 26 (0, 0)) (XSq.bq BK210) hb); have n1_ := Aside0.mk (blk_below (g := gb211) (o := .cells #[.int .i64 a1_0, .int .i64 a1_1, .int .i64 a1_2] 32 (0, 0)) (XSq.bq BK211) hb); have n2_ := Aside0.mk (blk_below (g := gb212) (o := .cells #[.int .i64 0, .int .i64 0, .string (⟨#[]⟩ : ByteArray), .bool false, .int .i64 0, .int .i64 0, .int .i64 0] 71 (0, 0)) (XSq.bq BK212) hb); have n3_ := Aside0.mk (below_step (XSq.bB HB) hb); have n4_ := Aside0.mk (hbox); have n5_ := Aside0.mk ((by rw [hg]; exact (below_size (XSq.bB HB)) : w.heap.size ≤ gb213)); have n6_ := Aside0.mk ((by rw [hg]; exact (below_size (XSq.bB HB)) : w.heap.size ≤ gb213)); have n7_ := Aside0.mk ((by rw [hg]; exact Nat.ne_of_lt (blk_lt (g := gb210) (o := .cells #[.int .i64 a0_0, .int .i64 a0_1, .string a0_2, .bool a0_3] 26 (0, 0)) (XSq.bq BK210)) : gb210 ≠ gb213)); have n8_ := Aside0.mk ((by rw [hg]; exact Nat.ne_of_gt (blk_lt (g := gb210) (o := .cells #[.int .i64 a0_0, .int .i64 a0_1, .string a0_2, .bool a0_3] 26 (0, 0)) (XSq.bq BK210)) : gb213 ≠ gb210)); have n9_ := Aside0.mk ((by rw [hg]; exact Nat.ne_of_lt (blk_lt (g := gb211) (o := .cells #[.int .i64 a1_0, .int .i64 a1_1, .int .i64 a1_2] 32 (0, 0)) (XSq.bq BK211)) : gb211 ≠ gb213)); have n10_ := Aside0.mk ((by rw [hg]; exact Nat.ne_of_gt (blk_lt (g := gb211) (o := .cells #[.int .i64 a1_0, .int .i64 a1_1, .int .i64 a1_2] 32 (0, 0)) (XSq.bq BK211)) : gb213 ≠ gb211)); have n11_ := Aside0.mk ((by rw [hg]; exact Nat.ne_of_lt (blk_lt (g := gb212) (o := .cells #[.int .i64 0, .int .i64 0, .string (⟨#[]⟩ : ByteArray), .bool false, .int .i64 0, .int .i64 0, .int .i64 0] 71 (0, 0)) (XSq.bq BK212)) : gb212 ≠ gb213)); have n12_ := Aside0.mk ((by rw [hg]; exact Nat.ne_of_gt (blk_lt (g := gb212) (o := .cells #[.int .i64 0, .int .i64 0, .string (⟨#[]⟩ : ByteArray), .bool false, .int .i64 0, .int .i64 0, .int .i64 0] 71 (0, 0)) (XSq.bq BK212)) : gb213 ≠ gb212)); clear BK210; clear BK211; clear BK212; clear HB; have BK210 := n0_; have BK211 := n1_; have BK212 := n2_; have HB := n3_; have BK213 := n4_; have GW213 := n5_; have GE213 := n6_; have NB210_213 := n7_; have NB213_210 := n8_; have NB211_213 := n9_; have NB213_211 := n10_; have NB212_213 := n11_; have NB213_212 := n12_; clear n0_ n1_ n2_ n3_ n4_ n5_ n6_ n7_ n8_ n9_ n10_ n11_ n12_; clear hb hbox hg; have hnb11 := NB213_210.out; have hnc11 := NB210_213.out; have hnb12 := NB213_211.out; have hnc12 := NB211_213.out; have hnb13 := NB213_212.out; have hnc13 := NB212_213.out; have hcz14_0 : w10.cell? ⟨gb213, 0, none⟩ = some (.int .i64 0) := (blk_cell BK213.out 0).trans rfl; have hcz14_1 : w10.cell? ⟨gb213, 1, none⟩ = some (.int .i64 0) := (blk_cell BK213.out 1).trans rfl; have hcz14_2 : w10.cell? ⟨gb213, 2, none⟩ = some (.string (⟨#[]⟩ : ByteArray)) := (blk_cell BK213.out 2).trans rfl; have hcz14_3 : w10.cell? ⟨gb213, 3, none⟩ = some (.bool false) := (blk_cell BK213.out 3).trans rfl; have hcz14_4 : w10.cell? ⟨gb213, 4, none⟩ = some (.int .i64 0) := (blk_cell BK213.out 4).trans rfl; have hcz14_5 : w10.cell? ⟨gb213, 5, none⟩ = some (.int .i64 0) := (blk_cell BK213.out 5).trans rfl; have hcz14_6 : w10.cell? ⟨gb213, 6, none⟩ = some (.int .i64 0) := (blk_cell BK213.out 6).trans rfl; have hfz14_0 := blk_frozen BK213.out 0; have hfz14_1 := blk_frozen BK213.out 1; have hfz14_2 := blk_frozen BK213.out 2; have hfz14_3 := blk_frozen BK213.out 3; have hfz14_4 := blk_frozen BK213.out 4; have hfz14_5 := blk_frozen BK213.out 5; have hfz14_6 := blk_frozen BK213.out 6; have hcz15_0 : w10.cell? ⟨gb210, 0, none⟩ = some (.int .i64 a0_0) := (blk_cell BK210.out 0).trans rfl; have hcz15_1 : w10.cell? ⟨gb210, 1, none⟩ = some (.int .i64 a0_1) := (blk_cell BK210.out 1).trans rfl; have hcz15_2 : w10.cell? ⟨gb210, 2, none⟩ = some (.string a0_2) := (blk_cell BK210.out 2).trans rfl; have hcz15_3 : w10.cell? ⟨gb210, 3, none⟩ = some (.bool a0_3) := (blk_cell BK210.out 3).trans rfl; have hfz15_0 := blk_frozen BK210.out 0; have hfz15_1 := blk_frozen BK210.out 1; have hfz15_2 := blk_frozen BK210.out 2; have hfz15_3 := blk_frozen BK210.out 3))
  (try simp only [Act.put, List.setIfInBounds_toArray, List.set_cons_zero, List.set_cons_succ])
  go_cut [7] (fun v7 wc => ∃ (kq : Nat) (x7_2 : Int), v7 = .int .i64 x7_2 ∧ Aside0 (impl_Maze_pass.j0 kq x7_2 a0_0 a0_1 a0_2 a0_3 a1_0 a1_1 a1_2 a0_0 a0_1 a0_2 a0_3 0 0 0 = some (r1, r2, r3, r4, r5, r6, r7, r8)) ∧ Aside0 (kq ≤ k) ∧ Aside0 (wc.heap[gb210]? = some (.cells #[.int .i64 a0_0, .int .i64 a0_1, .string a0_2, .bool a0_3] 26 (0, 0))) ∧ Aside0 (wc.heap[gb211]? = some (.cells #[.int .i64 a1_0, .int .i64 a1_1, .int .i64 a1_2] 32 (0, 0))) ∧ Aside0 (wc.heap[gb212]? = some (.cells #[.int .i64 0, .int .i64 0, .string (⟨#[]⟩ : ByteArray), .bool false, .int .i64 0, .int .i64 0, .int .i64 0] 71 (0, 0))) ∧ Aside0 (wc.heap[gb213]? = some (.cells #[.int .i64 a0_0, .int .i64 a0_1, .string a0_2, .bool a0_3, .int .i64 0, .int .i64 0, .int .i64 0] 71 (0, 0))) ∧ Aside0 (Below w.heap.size w wc))
  case first =>
    have H := HC3.out
    clear HC3
    by_cases c16 : a0_3 = true
    · subst c16
      have H1 : (impl_Maze_pass.j0 k 1000000 a0_0 a0_1 a0_2 true a1_0 a1_1 a1_2 a0_0 a0_1 a0_2 true 0 0 0) = some (r1, r2, r3, r4, r5, r6, r7, r8) := by rw [if_pos rfl] at H; exact H
      clear H
      have H := H1
      clear H1
      have H' := Aside0.mk H
      clear H
      go_wp2
      go_meet
      case rel => exact ⟨_, (1000000), (by first | rfl | (simp; done) | (simp [*]; done)), H', ⟨by first | omega | exact Nat.le_refl _⟩, ⟨by (with_reducible repeat (first | refine blk_drewN ?_ _ | refine blk_drew ?_ | refine blk_alloc ?_ _)); refine blk_far ?_ NB210_213.out _; (with_reducible repeat (first | refine blk_drewN ?_ _ | refine blk_drew ?_ | refine blk_alloc ?_ _)); refine blk_far ?_ NB210_213.out _; (with_reducible repeat (first | refine blk_drewN ?_ _ | refine blk_drew ?_ | refine blk_alloc ?_ _)); refine blk_far ?_ NB210_213.out _; (with_reducible repeat (first | refine blk_drewN ?_ _ | refine blk_drew ?_ | refine blk_alloc ?_ _)); refine blk_far ?_ NB210_213.out _; (with_reducible repeat (first | refine blk_drewN ?_ _ | refine blk_drew ?_ | refine blk_alloc ?_ _)); refine blk_far ?_ NB210_213.out _; (with_reducible repeat (first | refine blk_drewN ?_ _ | refine blk_drew ?_ | refine blk_alloc ?_ _)); refine blk_far ?_ NB210_213.out _; (with_reducible repeat (first | refine blk_drewN ?_ _ | refine blk_drew ?_ | refine blk_alloc ?_ _)); refine blk_far ?_ NB210_213.out _; (with_reducible repeat (first | refine blk_drewN ?_ _ | refine blk_drew ?_ | refine blk_alloc ?_ _)); exact BK210.out⟩, ⟨by (with_reducible repeat (first | refine blk_drewN ?_ _ | refine blk_drew ?_ | refine blk_alloc ?_ _)); refine blk_far ?_ NB211_213.out _; (with_reducible repeat (first | refine blk_drewN ?_ _ | refine blk_drew ?_ | refine blk_alloc ?_ _)); refine blk_far ?_ NB211_213.out _; (with_reducible repeat (first | refine blk_drewN ?_ _ | refine blk_drew ?_ | refine blk_alloc ?_ _)); refine blk_far ?_ NB211_213.out _; (with_reducible repeat (first | refine blk_drewN ?_ _ | refine blk_drew ?_ | refine blk_alloc ?_ _)); refine blk_far ?_ NB211_213.out _; (with_reducible repeat (first | refine blk_drewN ?_ _ | refine blk_drew ?_ | refine blk_alloc ?_ _)); refine blk_far ?_ NB211_213.out _; (with_reducible repeat (first | refine blk_drewN ?_ _ | refine blk_drew ?_ | refine blk_alloc ?_ _)); refine blk_far ?_ NB211_213.out _; (with_reducible repeat (first | refine blk_drewN ?_ _ | refine blk_drew ?_ | refine blk_alloc ?_ _)); refine blk_far ?_ NB211_213.out _; (with_reducible repeat (first | refine blk_drewN ?_ _ | refine blk_drew ?_ | refine blk_alloc ?_ _)); exact BK211.out⟩, ⟨by (with_reducible repeat (first | refine blk_drewN ?_ _ | refine blk_drew ?_ | refine blk_alloc ?_ _)); refine blk_far ?_ NB212_213.out _; (with_reducible repeat (first | refine blk_drewN ?_ _ | refine blk_drew ?_ | refine blk_alloc ?_ _)); refine blk_far ?_ NB212_213.out _; (with_reducible repeat (first | refine blk_drewN ?_ _ | refine blk_drew ?_ | refine blk_alloc ?_ _)); refine blk_far ?_ NB212_213.out _; (with_reducible repeat (first | refine blk_drewN ?_ _ | refine blk_drew ?_ | refine blk_alloc ?_ _)); refine blk_far ?_ NB212_213.out _; (with_reducible repeat (first | refine blk_drewN ?_ _ | refine blk_drew ?_ | refine blk_alloc ?_ _)); refine blk_far ?_ NB212_213.out _; (with_reducible repeat (first | refine blk_drewN ?_ _ | refine blk_drew ?_ | refine blk_alloc ?_ _)); refine blk_far ?_ NB212_213.out _; (with_reducible repeat (first | refine blk_drewN ?_ _ | refine blk_drew ?_ | refine blk_alloc ?_ _)); refine blk_far ?_ NB212_213.out _; (with_reducible repeat (first | refine blk_drewN ?_ _ | refine blk_drew ?_ | refine blk_alloc ?_ _)); exact BK212.out⟩, ⟨by (with_reducible repeat (first | refine blk_drewN ?_ _ | refine blk_drew ?_ | refine blk_alloc ?_ _)); refine blk_put (cs := #[.int .i64 a0_0, .int .i64 a0_1, .string a0_2, .bool true, .int .i64 0, .int .i64 0, .int .i64 0]) ?_ 6 _ rfl; (with_reducible repeat (first | refine blk_drewN ?_ _ | refine blk_drew ?_ | refine blk_alloc ?_ _)); refine blk_put (cs := #[.int .i64 a0_0, .int .i64 a0_1, .string a0_2, .bool true, .int .i64 0, .int .i64 0, .int .i64 0]) ?_ 5 _ rfl; (with_reducible repeat (first | refine blk_drewN ?_ _ | refine blk_drew ?_ | refine blk_alloc ?_ _)); refine blk_put (cs := #[.int .i64 a0_0, .int .i64 a0_1, .string a0_2, .bool true, .int .i64 0, .int .i64 0, .int .i64 0]) ?_ 4 _ rfl; (with_reducible repeat (first | refine blk_drewN ?_ _ | refine blk_drew ?_ | refine blk_alloc ?_ _)); refine blk_put (cs := #[.int .i64 a0_0, .int .i64 a0_1, .string a0_2, .bool false, .int .i64 0, .int .i64 0, .int .i64 0]) ?_ 3 _ rfl; (with_reducible repeat (first | refine blk_drewN ?_ _ | refine blk_drew ?_ | refine blk_alloc ?_ _)); refine blk_put (cs := #[.int .i64 a0_0, .int .i64 a0_1, .string (⟨#[]⟩ : ByteArray), .bool false, .int .i64 0, .int .i64 0, .int .i64 0]) ?_ 2 _ rfl; (with_reducible repeat (first | refine blk_drewN ?_ _ | refine blk_drew ?_ | refine blk_alloc ?_ _)); refine blk_put (cs := #[.int .i64 a0_0, .int .i64 0, .string (⟨#[]⟩ : ByteArray), .bool false, .int .i64 0, .int .i64 0, .int .i64 0]) ?_ 1 _ rfl; (with_reducible repeat (first | refine blk_drewN ?_ _ | refine blk_drew ?_ | refine blk_alloc ?_ _)); refine blk_put (cs := #[.int .i64 0, .int .i64 0, .string (⟨#[]⟩ : ByteArray), .bool false, .int .i64 0, .int .i64 0, .int .i64 0]) ?_ 0 _ rfl; (with_reducible repeat (first | refine blk_drewN ?_ _ | refine blk_drew ?_ | refine blk_alloc ?_ _)); exact BK213.out⟩, ⟨by repeat (first | (with_reducible first | exact HB.out | apply below_alloc | apply pw_below_drewN | apply below_drew1 | refine below_set ?_ GE210.out | refine below_set ?_ GE211.out | refine below_set ?_ GE212.out | refine below_set ?_ GE213.out) | exact HB.out)⟩⟩
    · replace c16 := Bool.eq_false_iff.mpr c16
      subst c16
      have H1 : (impl_Maze_pass.j0 k (wrap64 (4 * (a0_2.size : Int))) a0_0 a0_1 a0_2 false a1_0 a1_1 a1_2 a0_0 a0_1 a0_2 false 0 0 0) = some (r1, r2, r3, r4, r5, r6, r7, r8) := by rw [if_neg (show ¬ (false = true) by decide)] at H; exact H
      clear H
      have H := H1
      clear H1
      have H' := Aside0.mk H
      clear H
      have hnb17 := NB210_211.out
      have hnc17 := NB211_210.out
      have hnb18 := NB210_212.out
      have hnc18 := NB212_210.out
      have hnb19 := NB210_213.out
      have hnc19 := NB213_210.out
      have hcz20_0 : w10.cell? ⟨gb210, 0, none⟩ = some (.int .i64 a0_0) := (blk_cell BK210.out 0).trans rfl
      have hcz20_1 : w10.cell? ⟨gb210, 1, none⟩ = some (.int .i64 a0_1) := (blk_cell BK210.out 1).trans rfl
      have hcz20_2 : w10.cell? ⟨gb210, 2, none⟩ = some (.string a0_2) := (blk_cell BK210.out 2).trans rfl
      have hcz20_3 : w10.cell? ⟨gb210, 3, none⟩ = some (.bool false) := (blk_cell BK210.out 3).trans rfl
      have hfz20_0 := blk_frozen BK210.out 0
      have hfz20_1 := blk_frozen BK210.out 1
      have hfz20_2 := blk_frozen BK210.out 2
      have hfz20_3 := blk_frozen BK210.out 3
      go_wp2
      go_meet
      case rel => exact ⟨_, (wrap64 (4 * (a0_2.size : Int))), (by first | rfl | (simp; done) | (simp [*]; done)), H', ⟨by first | omega | exact Nat.le_refl _⟩, ⟨by (with_reducible repeat (first | refine blk_drewN ?_ _ | refine blk_drew ?_ | refine blk_alloc ?_ _)); refine blk_far ?_ NB210_213.out _; (with_reducible repeat (first | refine blk_drewN ?_ _ | refine blk_drew ?_ | refine blk_alloc ?_ _)); refine blk_far ?_ NB210_213.out _; (with_reducible repeat (first | refine blk_drewN ?_ _ | refine blk_drew ?_ | refine blk_alloc ?_ _)); refine blk_far ?_ NB210_213.out _; (with_reducible repeat (first | refine blk_drewN ?_ _ | refine blk_drew ?_ | refine blk_alloc ?_ _)); refine blk_far ?_ NB210_213.out _; (with_reducible repeat (first | refine blk_drewN ?_ _ | refine blk_drew ?_ | refine blk_alloc ?_ _)); refine blk_far ?_ NB210_213.out _; (with_reducible repeat (first | refine blk_drewN ?_ _ | refine blk_drew ?_ | refine blk_alloc ?_ _)); refine blk_far ?_ NB210_213.out _; (with_reducible repeat (first | refine blk_drewN ?_ _ | refine blk_drew ?_ | refine blk_alloc ?_ _)); refine blk_far ?_ NB210_213.out _; (with_reducible repeat (first | refine blk_drewN ?_ _ | refine blk_drew ?_ | refine blk_alloc ?_ _)); exact BK210.out⟩, ⟨by (with_reducible repeat (first | refine blk_drewN ?_ _ | refine blk_drew ?_ | refine blk_alloc ?_ _)); refine blk_far ?_ NB211_213.out _; (with_reducible repeat (first | refine blk_drewN ?_ _ | refine blk_drew ?_ | refine blk_alloc ?_ _)); refine blk_far ?_ NB211_213.out _; (with_reducible repeat (first | refine blk_drewN ?_ _ | refine blk_drew ?_ | refine blk_alloc ?_ _)); refine blk_far ?_ NB211_213.out _; (with_reducible repeat (first | refine blk_drewN ?_ _ | refine blk_drew ?_ | refine blk_alloc ?_ _)); refine blk_far ?_ NB211_213.out _; (with_reducible repeat (first | refine blk_drewN ?_ _ | refine blk_drew ?_ | refine blk_alloc ?_ _)); refine blk_far ?_ NB211_213.out _; (with_reducible repeat (first | refine blk_drewN ?_ _ | refine blk_drew ?_ | refine blk_alloc ?_ _)); refine blk_far ?_ NB211_213.out _; (with_reducible repeat (first | refine blk_drewN ?_ _ | refine blk_drew ?_ | refine blk_alloc ?_ _)); refine blk_far ?_ NB211_213.out _; (with_reducible repeat (first | refine blk_drewN ?_ _ | refine blk_drew ?_ | refine blk_alloc ?_ _)); exact BK211.out⟩, ⟨by (with_reducible repeat (first | refine blk_drewN ?_ _ | refine blk_drew ?_ | refine blk_alloc ?_ _)); refine blk_far ?_ NB212_213.out _; (with_reducible repeat (first | refine blk_drewN ?_ _ | refine blk_drew ?_ | refine blk_alloc ?_ _)); refine blk_far ?_ NB212_213.out _; (with_reducible repeat (first | refine blk_drewN ?_ _ | refine blk_drew ?_ | refine blk_alloc ?_ _)); refine blk_far ?_ NB212_213.out _; (with_reducible repeat (first | refine blk_drewN ?_ _ | refine blk_drew ?_ | refine blk_alloc ?_ _)); refine blk_far ?_ NB212_213.out _; (with_reducible repeat (first | refine blk_drewN ?_ _ | refine blk_drew ?_ | refine blk_alloc ?_ _)); refine blk_far ?_ NB212_213.out _; (with_reducible repeat (first | refine blk_drewN ?_ _ | refine blk_drew ?_ | refine blk_alloc ?_ _)); refine blk_far ?_ NB212_213.out _; (with_reducible repeat (first | refine blk_drewN ?_ _ | refine blk_drew ?_ | refine blk_alloc ?_ _)); refine blk_far ?_ NB212_213.out _; (with_reducible repeat (first | refine blk_drewN ?_ _ | refine blk_drew ?_ | refine blk_alloc ?_ _)); exact BK212.out⟩, ⟨by (with_reducible repeat (first | refine blk_drewN ?_ _ | refine blk_drew ?_ | refine blk_alloc ?_ _)); refine blk_put (cs := #[.int .i64 a0_0, .int .i64 a0_1, .string a0_2, .bool false, .int .i64 0, .int .i64 0, .int .i64 0]) ?_ 6 _ rfl; (with_reducible repeat (first | refine blk_drewN ?_ _ | refine blk_drew ?_ | refine blk_alloc ?_ _)); refine blk_put (cs := #[.int .i64 a0_0, .int .i64 a0_1, .string a0_2, .bool false, .int .i64 0, .int .i64 0, .int .i64 0]) ?_ 5 _ rfl; (with_reducible repeat (first | refine blk_drewN ?_ _ | refine blk_drew ?_ | refine blk_alloc ?_ _)); refine blk_put (cs := #[.int .i64 a0_0, .int .i64 a0_1, .string a0_2, .bool false, .int .i64 0, .int .i64 0, .int .i64 0]) ?_ 4 _ rfl; (with_reducible repeat (first | refine blk_drewN ?_ _ | refine blk_drew ?_ | refine blk_alloc ?_ _)); refine blk_put (cs := #[.int .i64 a0_0, .int .i64 a0_1, .string a0_2, .bool false, .int .i64 0, .int .i64 0, .int .i64 0]) ?_ 3 _ rfl; (with_reducible repeat (first | refine blk_drewN ?_ _ | refine blk_drew ?_ | refine blk_alloc ?_ _)); refine blk_put (cs := #[.int .i64 a0_0, .int .i64 a0_1, .string (⟨#[]⟩ : ByteArray), .bool false, .int .i64 0, .int .i64 0, .int .i64 0]) ?_ 2 _ rfl; (with_reducible repeat (first | refine blk_drewN ?_ _ | refine blk_drew ?_ | refine blk_alloc ?_ _)); refine blk_put (cs := #[.int .i64 a0_0, .int .i64 0, .string (⟨#[]⟩ : ByteArray), .bool false, .int .i64 0, .int .i64 0, .int .i64 0]) ?_ 1 _ rfl; (with_reducible repeat (first | refine blk_drewN ?_ _ | refine blk_drew ?_ | refine blk_alloc ?_ _)); refine blk_put (cs := #[.int .i64 0, .int .i64 0, .string (⟨#[]⟩ : ByteArray), .bool false, .int .i64 0, .int .i64 0, .int .i64 0]) ?_ 0 _ rfl; (with_reducible repeat (first | refine blk_drewN ?_ _ | refine blk_drew ?_ | refine blk_alloc ?_ _)); exact BK213.out⟩, ⟨by repeat (first | (with_reducible first | exact HB.out | apply below_alloc | apply pw_below_drewN | apply below_drew1 | refine below_set ?_ GE210.out | refine below_set ?_ GE211.out | refine below_set ?_ GE212.out | refine below_set ?_ GE213.out) | exact HB.out)⟩⟩
  case rest =>
    clear HC3
    try clear c1
    try clear p2
    try clear c6
    try clear p6
    try clear c7
    try clear c8
    try clear c11
    try clear c12
    try clear c13
    try clear c16
    try clear c17
    try clear c18
    try clear c19
    try clear hcz14_0
    try clear hcz14_1
    try clear hcz14_2
    try clear hcz14_3
    try clear hcz14_4
    try clear hcz14_5
    try clear hcz14_6
    try clear hcz15_0
    try clear hcz15_1
    try clear hcz15_2
    try clear hcz15_3
    try clear hcz20_0
    try clear hcz20_1
    try clear hcz20_2
    try clear hcz20_3
    try clear hcz9_0
    try clear hcz9_1
    try clear hcz9_2
    try clear hcz9_3
    try clear hfz14_0
    try clear hfz14_1
    try clear hfz14_2
    try clear hfz14_3
    try clear hfz14_4
    try clear hfz14_5
    try clear hfz14_6
    try clear hfz15_0
    try clear hfz15_1
    try clear hfz15_2
    try clear hfz15_3
    try clear hfz20_0
    try clear hfz20_1
    try clear hfz20_2
    try clear hfz20_3
    try clear hfz9_0
    try clear hfz9_1
    try clear hfz9_2
    try clear hfz9_3
    obtain ⟨kq, x7_2, rfl, HA, HJ2, BK210, BK211, BK212, BK213, HB⟩ := hcut
    cases kq with
    | zero => exact absurd HA.out (by simp [impl_Maze_pass.j0])
    | succ kj2 =>
      have H := HA.out
      clear HA
      simp only [impl_Maze_pass.j0] at H
      have H' := Aside0.mk H
      clear H
      go_wp2
      go_loopg [] kj2 (fun kq w' => ∃ (x212000_2 : Int) (x212001_2 : Int) (x212002_2 : Int) (x213000_2 : Int) (x213001_2 : Int) (x213002_2 : ByteArray) (x213003_2 : Bool) (x213004_2 : Int) (x213005_2 : Int) (x213006_2 : Int) (x214000_2 : Int) (x214001_2 : Int) (x214002_2 : ByteArray) (x214003_2 : Bool) (x214004_2 : Int) (x214005_2 : Int) (x214006_2 : Int), Aside0 (impl_Maze_pass.l0 kq x7_2 a0_0 a0_1 a0_2 a0_3 x212000_2 x212001_2 x212002_2 x214000_2 x214001_2 x214002_2 x214003_2 x214004_2 x214005_2 x214006_2 = some (r1, r2, r3, r4, r5, r6, r7, r8)) ∧ Aside0 (kq ≤ kj2) ∧ Aside0 (w'.heap[gb210]? = some (.cells #[.int .i64 a0_0, .int .i64 a0_1, .string a0_2, .bool a0_3] 26 (0, 0))) ∧ Aside0 (w'.heap[gb211]? = some (.cells #[.int .i64 x212000_2, .int .i64 x212001_2, .int .i64 x212002_2] 32 (0, 0))) ∧ Aside0 (w'.heap[gb212]? = some (.cells #[.int .i64 x213000_2, .int .i64 x213001_2, .string x213002_2, .bool x213003_2, .int .i64 x213004_2, .int .i64 x213005_2, .int .i64 x213006_2] 71 (0, 0))) ∧ Aside0 (w'.heap[gb213]? = some (.cells #[.int .i64 x214000_2, .int .i64 x214001_2, .string x214002_2, .bool x214003_2, .int .i64 x214004_2, .int .i64 x214005_2, .int .i64 x214006_2] 71 (0, 0))) ∧ Aside0 (Below w.heap.size w w'))
      case atStart => exact ⟨(a1_0), (a1_1), (a1_2), (0), (0), ((⟨#[]⟩ : ByteArray)), (false), (0), (0), (0), (a0_0), (a0_1), (a0_2), (a0_3), (0), (0), (0), H', ⟨Nat.le_refl _⟩, ⟨by (with_reducible repeat (first | refine blk_drewN ?_ _ | refine blk_drew ?_ | refine blk_alloc ?_ _)); exact BK210.out⟩, ⟨by (with_reducible repeat (first | refine blk_drewN ?_ _ | refine blk_drew ?_ | refine blk_alloc ?_ _)); exact BK211.out⟩, ⟨by (with_reducible repeat (first | refine blk_drewN ?_ _ | refine blk_drew ?_ | refine blk_alloc ?_ _)); exact BK212.out⟩, ⟨by (with_reducible repeat (first | refine blk_drewN ?_ _ | refine blk_drew ?_ | refine blk_alloc ?_ _)); exact BK213.out⟩, ⟨by repeat (first | (with_reducible first | exact HB.out | apply below_alloc | apply pw_below_drewN | apply below_drew1 | refine below_set ?_ GE210.out | refine below_set ?_ GE211.out | refine below_set ?_ GE212.out | refine below_set ?_ GE213.out) | exact HB.out)⟩⟩
      case round =>
        clear H'
        try clear c1
        try clear p2
        try clear c6
        try clear p6
        try clear c7
        try clear c8
        try clear c11
        try clear c12
        try clear c13
        try clear c16
        try clear c17
        try clear c18
        try clear c19
        try clear hcz14_0
        try clear hcz14_1
        try clear hcz14_2
        try clear hcz14_3
        try clear hcz14_4
        try clear hcz14_5
        try clear hcz14_6
        try clear hcz15_0
        try clear hcz15_1
        try clear hcz15_2
        try clear hcz15_3
        try clear hcz20_0
        try clear hcz20_1
        try clear hcz20_2
        try clear hcz20_3
        try clear hcz9_0
        try clear hcz9_1
        try clear hcz9_2
        try clear hcz9_3
        try clear hfz14_0
        try clear hfz14_1
        try clear hfz14_2
        try clear hfz14_3
        try clear hfz14_4
        try clear hfz14_5
        try clear hfz14_6
        try clear hfz15_0
        try clear hfz15_1
        try clear hfz15_2
        try clear hfz15_3
        try clear hfz20_0
        try clear hfz20_1
        try clear hfz20_2
        try clear hfz20_3
        try clear hfz9_0
        try clear hfz9_1
        try clear hfz9_2
        try clear hfz9_3
        try clear p2
        try clear p6
        obtain ⟨x212000_2, x212001_2, x212002_2, x213000_2, x213001_2, x213002_2, x213003_2, x213004_2, x213005_2, x213006_2, x214000_2, x214001_2, x214002_2, x214003_2, x214004_2, x214005_2, x214006_2, HA, HK2, BK210, BK211, BK212, BK213, HB⟩ := hrel
        cases gk with
        | zero => exact absurd HA.out (by simp [impl_Maze_pass.l0])
        | succ k2 =>
          have H := HA.out
          clear HA
          simp only [impl_Maze_pass.l0] at H
          by_cases c21 : x214006_2 < x7_2
          · rw [if_pos c21] at H
            have c21b0 : decide (x214006_2 < x7_2) = true := decide_eq_true c21
            clear c21
            replace H := Option.bind_eq_some_iff.mp H
            obtain ⟨⟨t214, t215, t216, t217, t218, t219, t220, t221, t222⟩, A220, H⟩ := H
            replace H : ((impl_bit.f t221).bind fun t225 => (if t222 = true then (impl_Maze_pass.l0 k2 x7_2 a0_0 a0_1 a0_2 a0_3 t218 t219 t220 t214 t215 t216 t217 x214004_2 (wrap64 (x214005_2 + t225)) (wrap64 (x214006_2 + 1))) else ((impl_ahead.f t220).bind fun bt226 => (impl_Maze_pass.l1 k2 a0_0 a0_1 a0_2 a0_3 t214 t215 t216 t217 x214004_2 (wrap64 (x214005_2 + t225)) (wrap64 (x214006_2 + 1)) (wrap64 (t218 - bt226.1)) (wrap64 (t219 - bt226.2)) (Int.tmod (wrap64 (t220 + 2)) 4))))) = some (r1, r2, r3, r4, r5, r6, r7, r8) := H
            have A22 := Aside0.mk A220
            clear A220
            replace H := Option.bind_eq_some_iff.mp H
            obtain ⟨t225, A230, H⟩ := H
            replace H : (if t222 = true then (impl_Maze_pass.l0 k2 x7_2 a0_0 a0_1 a0_2 a0_3 t218 t219 t220 t214 t215 t216 t217 x214004_2 (wrap64 (x214005_2 + t225)) (wrap64 (x214006_2 + 1))) else ((impl_ahead.f t220).bind fun bt226 => (impl_Maze_pass.l1 k2 a0_0 a0_1 a0_2 a0_3 t214 t215 t216 t217 x214004_2 (wrap64 (x214005_2 + t225)) (wrap64 (x214006_2 + 1)) (wrap64 (t218 - bt226.1)) (wrap64 (t219 - bt226.2)) (Int.tmod (wrap64 (t220 + 2)) 4)))) = some (r1, r2, r3, r4, r5, r6, r7, r8) := H
            have A23 := Aside0.mk A230
            clear A230
            by_cases c24 : t222 = true
            · subst c24
              have H1 : (impl_Maze_pass.l0 k2 x7_2 a0_0 a0_1 a0_2 a0_3 t218 t219 t220 t214 t215 t216 t217 x214004_2 (wrap64 (x214005_2 + t225)) (wrap64 (x214006_2 + 1))) = some (r1, r2, r3, r4, r5, r6, r7, r8) := by rw [if_pos rfl] at H; exact H
              clear H
              have H := H1
              clear H1
              have H' := Aside0.mk H
              clear H
              have hnb25 := NB213_210.out
              have hnc25 := NB210_213.out
              have hnb26 := NB213_211.out
              have hnc26 := NB211_213.out
              have hnb27 := NB213_212.out
              have hnc27 := NB212_213.out
              have hcz28_0 : wr.cell? ⟨gb213, 0, none⟩ = some (.int .i64 x214000_2) := (blk_cell BK213.out 0).trans rfl
              have hcz28_1 : wr.cell? ⟨gb213, 1, none⟩ = some (.int .i64 x214001_2) := (blk_cell BK213.out 1).trans rfl
              have hcz28_2 : wr.cell? ⟨gb213, 2, none⟩ = some (.string x214002_2) := (blk_cell BK213.out 2).trans rfl
              have hcz28_3 : wr.cell? ⟨gb213, 3, none⟩ = some (.bool x214003_2) := (blk_cell BK213.out 3).trans rfl
              have hcz28_4 : wr.cell? ⟨gb213, 4, none⟩ = some (.int .i64 x214004_2) := (blk_cell BK213.out 4).trans rfl
              have hcz28_5 : wr.cell? ⟨gb213, 5, none⟩ = some (.int .i64 x214005_2) := (blk_cell BK213.out 5).trans rfl
              have hcz28_6 : wr.cell? ⟨gb213, 6, none⟩ = some (.int .i64 x214006_2) := (blk_cell BK213.out 6).trans rfl
              have hfz28_0 := blk_frozen BK213.out 0
              have hfz28_1 := blk_frozen BK213.out 1
              have hfz28_2 := blk_frozen BK213.out 2
              have hfz28_3 := blk_frozen BK213.out 3
              have hfz28_4 := blk_frozen BK213.out 4
              have hfz28_5 := blk_frozen BK213.out 5
              have hfz28_6 := blk_frozen BK213.out 6
              have hnb29 := NB211_210.out
              have hnc29 := NB210_211.out
              have hnb30 := NB211_212.out
              have hnc30 := NB212_211.out
              have hcz31_0 : wr.cell? ⟨gb211, 0, none⟩ = some (.int .i64 x212000_2) := (blk_cell BK211.out 0).trans rfl
              have hcz31_1 : wr.cell? ⟨gb211, 1, none⟩ = some (.int .i64 x212001_2) := (blk_cell BK211.out 1).trans rfl
              have hcz31_2 : wr.cell? ⟨gb211, 2, none⟩ = some (.int .i64 x212002_2) := (blk_cell BK211.out 2).trans rfl
              have hfz31_0 := blk_frozen BK211.out 0
              have hfz31_1 := blk_frozen BK211.out 1
              have hfz31_2 := blk_frozen BK211.out 2
              try go_wp2_with (first | ((with_reducible refine gate_callee (f := 57) rfl ?_); refine goesL_ (some 32) rfl rfl Tryd.func57 (by kernel_rfl) rfl #[.agg #[.int .i64 x214000_2, .int .i64 x214001_2, .string x214002_2, .bool x214003_2], .agg #[.int .i64 x212000_2, .int .i64 x212001_2, .int .i64 x212002_2]] rfl (by (try simp only [List.map_toArray, List.map_cons, List.map_nil]); first | done | rfl | (simp only [List.length_drop, List.length_take]; rfl)) ?_; (with_reducible refine (impl_Maze_hit.calls k2 x214000_2 x214001_2 x214002_2 x214003_2 x212000_2 x212001_2 x212002_2 t214 t215 t216 t217 t218 t219 t220 t221 true _ A22.out).mono ?_); rintro e w32 ⟨rfl, hb⟩; refine ⟨_, rfl, ?_⟩; have n0_ := Aside0.mk (blk_below (g := gb210) (o := .cells #[.int .i64 a0_0, .int .i64 a0_1, .string a0_2, .bool a0_3] 26 (0, 0)) (XSq.bq BK210) hb); have n1_ := Aside0.mk (blk_below (g := gb211) (o := .cells #[.int .i64 x212000_2, .int .i64 x212001_2, .int .i64 x212002_2] 32 (0, 0)) (XSq.bq BK211) hb); have n2_ := Aside0.mk (blk_below (g := gb212) (o := .cells #[.int .i64 x213000_2, .int .i64 x213001_2, .string x213002_2, .bool x213003_2, .int .i64 x213004_2, .int .i64 x213005_2, .int .i64 x213006_2] 71 (0, 0)) (XSq.bq BK212) hb); have n3_ := Aside0.mk (blk_below (g := gb213) (o := .cells #[.int .i64 x214000_2, .int .i64 x214001_2, .string x214002_2, .bool x214003_2, .int .i64 x214004_2, .int .i64 x214005_2, .int .i64 x214006_2] 71 (0, 0)) (XSq.bq BK213) hb); have n4_ := Aside0.mk (below_step (XSq.bB HB) hb); clear BK210; clear BK211; clear BK212; clear BK213; clear HB; have BK210 := n0_; have BK211 := n1_; have BK212 := n2_; have BK213 := n3_; have HB := n4_; clear n0_ n1_ n2_ n3_ n4_; (try clear hb); (try clear hb2); (try clear hk); (try clear hi)) | ((with_reducible refine gate_dst (N := 8) rfl ?_); refine box_event ?hg (N := 8) ?hd (cs := #[.int .i64 0, .int .i64 0, .string (⟨#[]⟩ : ByteArray), .bool false]) (t := 26) ?hr ?_; (case hd => rfl); (case hg => rfl); (case hr => first | (go_simp; done) | (go_simp; rfl)); intro gb223 hg w33 hbox hb; have n0_ := Aside0.mk (blk_below (g := gb210) (o := .cells #[.int .i64 a0_0, .int .i64 a0_1, .string a0_2, .bool a0_3] 26 (0, 0)) (XSq.bq BK210) hb); have n1_ := Aside0.mk (blk_below (g := gb211) (o := .cells #[.int .i64 x212000_2, .int .i64 x212001_2, .int .i64 x212002_2] 32 (0, 0)) (XSq.bq BK211) hb); have n2_ := Aside0.mk (blk_below (g := gb212) (o := .cells #[.int .i64 x213000_2, .int .i64 x213001_2, .string x213002_2, .bool x213003_2, .int .i64 x213004_2, .int .i64 x213005_2, .int .i64 x213006_2] 71 (0, 0)) (XSq.bq BK212) hb); have n3_ := Aside0.mk (blk_below (g := gb213) (o := .cells #[.int .i64 x214000_2, .int .i64 x214001_2, .string x214002_2, .bool x214003_2, .int .i64 x214004_2, .int .i64 x214005_2, .int .i64 x214006_2] 71 (0, 0)) (XSq.bq BK213) hb); have n4_ := Aside0.mk (below_step (XSq.bB HB) hb); have n5_ := Aside0.mk (hbox); have n6_ := Aside0.mk ((by rw [hg]; exact (below_size (XSq.bB HB)) : w.heap.size ≤ gb223)); have n7_ := Aside0.mk ((by rw [hg]; exact (below_size (XSq.bB HB)) : w.heap.size ≤ gb223)); have n8_ := Aside0.mk ((by rw [hg]; exact Nat.ne_of_lt (blk_lt (g := gb210) (o := .cells #[.int .i64 a0_0, .int .i64 a0_1, .string a0_2, .bool a0_3] 26 (0, 0)) (XSq.bq BK210)) : gb210 ≠ gb223)); have n9_ := Aside0.mk ((by rw [hg]; exact Nat.ne_of_gt (blk_lt (g := gb210) (o := .cells #[.int .i64 a0_0, .int .i64 a0_1, .string a0_2, .bool a0_3] 26 (0, 0)) (XSq.bq BK210)) : gb223 ≠ gb210)); have n10_ := Aside0.mk ((by rw [hg]; exact Nat.ne_of_lt (blk_lt (g := gb211) (o := .cells #[.int .i64 x212000_2, .int .i64 x212001_2, .int .i64 x212002_2] 32 (0, 0)) (XSq.bq BK211)) : gb211 ≠ gb223)); have n11_ := Aside0.mk ((by rw [hg]; exact Nat.ne_of_gt (blk_lt (g := gb211) (o := .cells #[.int .i64 x212000_2, .int .i64 x212001_2, .int .i64 x212002_2] 32 (0, 0)) (XSq.bq BK211)) : gb223 ≠ gb211)); have n12_ := Aside0.mk ((by rw [hg]; exact Nat.ne_of_lt (blk_lt (g := gb212) (o := .cells #[.int .i64 x213000_2, .int .i64 x213001_2, .string x213002_2, .bool x213003_2, .int .i64 x213004_2, .int .i64 x213005_2, .int .i64 x213006_2] 71 (0, 0)) (XSq.bq BK212)) : gb212 ≠ gb223)); have n13_ := Aside0.mk ((by rw [hg]; exact Nat.ne_of_gt (blk_lt (g := gb212) (o := .cells #[.int .i64 x213000_2, .int .i64 x213001_2, .string x213002_2, .bool x213003_2, .int .i64 x213004_2, .int .i64 x213005_2, .int .i64 x213006_2] 71 (0, 0)) (XSq.bq BK212)) : gb223 ≠ gb212)); have n14_ := Aside0.mk ((by rw [hg]; exact Nat.ne_of_lt (blk_lt (g := gb213) (o := .cells #[.int .i64 x214000_2, .int .i64 x214001_2, .string x214002_2, .bool x214003_2, .int .i64 x214004_2, .int .i64 x214005_2, .int .i64 x214006_2] 71 (0, 0)) (XSq.bq BK213)) : gb213 ≠ gb223)); have n15_ := Aside0.mk ((by rw [hg]; exact Nat.ne_of_gt (blk_lt (g := gb213) (o := .cells #[.int .i64 x214000_2, .int .i64 x214001_2, .string x214002_2, .bool x214003_2, .int .i64 x214004_2, .int .i64 x214005_2, .int .i64 x214006_2] 71 (0, 0)) (XSq.bq BK213)) : gb223 ≠ gb213)); clear BK210; clear BK211; clear BK212; clear BK213; clear HB; have BK210 := n0_; have BK211 := n1_; have BK212 := n2_; have BK213 := n3_; have HB := n4_; have BK223 := n5_; have GW223 := n6_; have GE223 := n7_; have NB210_223 := n8_; have NB223_210 := n9_; have NB211_223 := n10_; have NB223_211 := n11_; have NB212_223 := n12_; have NB223_212 := n13_; have NB213_223 := n14_; have NB223_213 := n15_; clear n0_ n1_ n2_ n3_ n4_ n5_ n6_ n7_ n8_ n9_ n10_ n11_ n12_ n13_ n14_ n15_; clear hb hbox hg) | ((with_reducible refine gate_dst (N := 9) rfl ?_); refine box_event ?hg (N := 9) ?hd (cs := #[.int .i64 0, .int .i64 0, .int .i64 0]) (t := 32) ?hr ?_; (case hd => rfl); (case hg => rfl); (case hr => first | (go_simp; done) | (go_simp; rfl)); intro gb224 hg w34 hbox hb; have n0_ := Aside0.mk (blk_below (g := gb210) (o := .cells #[.int .i64 a0_0, .int .i64 a0_1, .string a0_2, .bool a0_3] 26 (0, 0)) (XSq.bq BK210) hb); have n1_ := Aside0.mk (blk_below (g := gb211) (o := .cells #[.int .i64 x212000_2, .int .i64 x212001_2, .int .i64 x212002_2] 32 (0, 0)) (XSq.bq BK211) hb); have n2_ := Aside0.mk (blk_below (g := gb212) (o := .cells #[.int .i64 x213000_2, .int .i64 x213001_2, .string x213002_2, .bool x213003_2, .int .i64 x213004_2, .int .i64 x213005_2, .int .i64 x213006_2] 71 (0, 0)) (XSq.bq BK212) hb); have n3_ := Aside0.mk (blk_below (g := gb213) (o := .cells #[.int .i64 x214000_2, .int .i64 x214001_2, .string x214002_2, .bool x214003_2, .int .i64 x214004_2, .int .i64 x214005_2, .int .i64 x214006_2] 71 (0, 0)) (XSq.bq BK213) hb); have n4_ := Aside0.mk (blk_below (g := gb223) (o := .cells #[.int .i64 0, .int .i64 0, .string (⟨#[]⟩ : ByteArray), .bool false] 26 (0, 0)) (XSq.bq BK223) hb); have n5_ := Aside0.mk (below_step (XSq.bB HB) hb); have n6_ := Aside0.mk (hbox); have n7_ := Aside0.mk ((by rw [hg]; exact (below_size (XSq.bB HB)) : w.heap.size ≤ gb224)); have n8_ := Aside0.mk ((by rw [hg]; exact (below_size (XSq.bB HB)) : w.heap.size ≤ gb224)); have n9_ := Aside0.mk ((by rw [hg]; exact Nat.ne_of_lt (blk_lt (g := gb210) (o := .cells #[.int .i64 a0_0, .int .i64 a0_1, .string a0_2, .bool a0_3] 26 (0, 0)) (XSq.bq BK210)) : gb210 ≠ gb224)); have n10_ := Aside0.mk ((by rw [hg]; exact Nat.ne_of_gt (blk_lt (g := gb210) (o := .cells #[.int .i64 a0_0, .int .i64 a0_1, .string a0_2, .bool a0_3] 26 (0, 0)) (XSq.bq BK210)) : gb224 ≠ gb210)); have n11_ := Aside0.mk ((by rw [hg]; exact Nat.ne_of_lt (blk_lt (g := gb211) (o := .cells #[.int .i64 x212000_2, .int .i64 x212001_2, .int .i64 x212002_2] 32 (0, 0)) (XSq.bq BK211)) : gb211 ≠ gb224)); have n12_ := Aside0.mk ((by rw [hg]; exact Nat.ne_of_gt (blk_lt (g := gb211) (o := .cells #[.int .i64 x212000_2, .int .i64 x212001_2, .int .i64 x212002_2] 32 (0, 0)) (XSq.bq BK211)) : gb224 ≠ gb211)); have n13_ := Aside0.mk ((by rw [hg]; exact Nat.ne_of_lt (blk_lt (g := gb212) (o := .cells #[.int .i64 x213000_2, .int .i64 x213001_2, .string x213002_2, .bool x213003_2, .int .i64 x213004_2, .int .i64 x213005_2, .int .i64 x213006_2] 71 (0, 0)) (XSq.bq BK212)) : gb212 ≠ gb224)); have n14_ := Aside0.mk ((by rw [hg]; exact Nat.ne_of_gt (blk_lt (g := gb212) (o := .cells #[.int .i64 x213000_2, .int .i64 x213001_2, .string x213002_2, .bool x213003_2, .int .i64 x213004_2, .int .i64 x213005_2, .int .i64 x213006_2] 71 (0, 0)) (XSq.bq BK212)) : gb224 ≠ gb212)); have n15_ := Aside0.mk ((by rw [hg]; exact Nat.ne_of_lt (blk_lt (g := gb213) (o := .cells #[.int .i64 x214000_2, .int .i64 x214001_2, .string x214002_2, .bool x214003_2, .int .i64 x214004_2, .int .i64 x214005_2, .int .i64 x214006_2] 71 (0, 0)) (XSq.bq BK213)) : gb213 ≠ gb224)); have n16_ := Aside0.mk ((by rw [hg]; exact Nat.ne_of_gt (blk_lt (g := gb213) (o := .cells #[.int .i64 x214000_2, .int .i64 x214001_2, .string x214002_2, .bool x214003_2, .int .i64 x214004_2, .int .i64 x214005_2, .int .i64 x214006_2] 71 (0, 0)) (XSq.bq BK213)) : gb224 ≠ gb213)); have n17_ := Aside0.mk ((by rw [hg]; exact Nat.ne_of_lt (blk_lt (g := gb223) (o := .cells #[.int .i64 0, .int .i64 0, .string (⟨#[]⟩ : ByteArray), .bool false] 26 (0, 0)) (XSq.bq BK223)) : gb223 ≠ gb224)); have n18_ := Aside0.mk ((by rw [hg]; exact Nat.ne_of_gt (blk_lt (g := gb223) (o := .cells #[.int .i64 0, .int .i64 0, .string (⟨#[]⟩ : ByteArray), .bool false] 26 (0, 0)) (XSq.bq BK223)) : gb224 ≠ gb223)); clear BK210; clear BK211; clear BK212; clear BK213; clear BK223; clear HB; have BK210 := n0_; have BK211 := n1_; have BK212 := n2_; have BK213 := n3_; have BK223 := n4_; have HB := n5_; have BK224 := n6_; have GW224 := n7_; have GE224 := n8_; have NB210_224 := n9_; have NB224_210 := n10_; have NB211_224 := n11_; have NB224_211 := n12_; have NB212_224 := n13_; have NB224_212 := n14_; have NB213_224 := n15_; have NB224_213 := n16_; have NB223_224 := n17_; have NB224_223 := n18_; clear n0_ n1_ n2_ n3_ n4_ n5_ n6_ n7_ n8_ n9_ n10_ n11_ n12_ n13_ n14_ n15_ n16_ n17_ n18_; clear hb hbox hg; have hnb35 := NB223_210.out; have hnc35 := NB210_223.out; have hnb36 := NB223_211.out; have hnc36 := NB211_223.out; have hnb37 := NB223_212.out; have hnc37 := NB212_223.out; have hnb38 := NB223_213.out; have hnc38 := NB213_223.out; have hnb39 := NB223_224.out; have hnc39 := NB224_223.out; have hcz40_0 : w34.cell? ⟨gb223, 0, none⟩ = some (.int .i64 0) := (blk_cell BK223.out 0).trans rfl; have hcz40_1 : w34.cell? ⟨gb223, 1, none⟩ = some (.int .i64 0) := (blk_cell BK223.out 1).trans rfl; have hcz40_2 : w34.cell? ⟨gb223, 2, none⟩ = some (.string (⟨#[]⟩ : ByteArray)) := (blk_cell BK223.out 2).trans rfl; have hcz40_3 : w34.cell? ⟨gb223, 3, none⟩ = some (.bool false) := (blk_cell BK223.out 3).trans rfl; have hfz40_0 := blk_frozen BK223.out 0; have hfz40_1 := blk_frozen BK223.out 1; have hfz40_2 := blk_frozen BK223.out 2; have hfz40_3 := blk_frozen BK223.out 3; have hnb41 := NB224_210.out; have hnc41 := NB210_224.out; have hnb42 := NB224_211.out; have hnc42 := NB211_224.out; have hnb43 := NB224_212.out; have hnc43 := NB212_224.out; have hnb44 := NB224_213.out; have hnc44 := NB213_224.out; have hcz45_0 : w34.cell? ⟨gb224, 0, none⟩ = some (.int .i64 0) := (blk_cell BK224.out 0).trans rfl; have hcz45_1 : w34.cell? ⟨gb224, 1, none⟩ = some (.int .i64 0) := (blk_cell BK224.out 1).trans rfl; have hcz45_2 : w34.cell? ⟨gb224, 2, none⟩ = some (.int .i64 0) := (blk_cell BK224.out 2).trans rfl; have hfz45_0 := blk_frozen BK224.out 0; have hfz45_1 := blk_frozen BK224.out 1; have hfz45_2 := blk_frozen BK224.out 2))
              have n0_ : Aside0 ((((((((w34.setCell ⟨gb223, 0, none⟩ (.int .i64 t214)).setCell ⟨gb223, 1, none⟩ (.int .i64 t215)).setCell ⟨gb223, 2, none⟩ (.string t216)).setCell ⟨gb223, 3, none⟩ (.bool t217)).setCell ⟨gb224, 0, none⟩ (.int .i64 t218)).setCell ⟨gb224, 1, none⟩ (.int .i64 t219)).setCell ⟨gb224, 2, none⟩ (.int .i64 t220)).heap[gb210]? = some (.cells #[.int .i64 a0_0, .int .i64 a0_1, .string a0_2, .bool a0_3] 26 (0, 0))) := ⟨by (with_reducible repeat (first | refine blk_drewN ?_ _ | refine blk_drew ?_ | refine blk_alloc ?_ _)); refine blk_far ?_ NB210_224.out _; (with_reducible repeat (first | refine blk_drewN ?_ _ | refine blk_drew ?_ | refine blk_alloc ?_ _)); refine blk_far ?_ NB210_224.out _; (with_reducible repeat (first | refine blk_drewN ?_ _ | refine blk_drew ?_ | refine blk_alloc ?_ _)); refine blk_far ?_ NB210_224.out _; (with_reducible repeat (first | refine blk_drewN ?_ _ | refine blk_drew ?_ | refine blk_alloc ?_ _)); refine blk_far ?_ NB210_223.out _; (with_reducible repeat (first | refine blk_drewN ?_ _ | refine blk_drew ?_ | refine blk_alloc ?_ _)); refine blk_far ?_ NB210_223.out _; (with_reducible repeat (first | refine blk_drewN ?_ _ | refine blk_drew ?_ | refine blk_alloc ?_ _)); refine blk_far ?_ NB210_223.out _; (with_reducible repeat (first | refine blk_drewN ?_ _ | refine blk_drew ?_ | refine blk_alloc ?_ _)); refine blk_far ?_ NB210_223.out _; (with_reducible repeat (first | refine blk_drewN ?_ _ | refine blk_drew ?_ | refine blk_alloc ?_ _)); exact BK210.out⟩
              have n1_ : Aside0 ((((((((w34.setCell ⟨gb223, 0, none⟩ (.int .i64 t214)).setCell ⟨gb223, 1, none⟩ (.int .i64 t215)).setCell ⟨gb223, 2, none⟩ (.string t216)).setCell ⟨gb223, 3, none⟩ (.bool t217)).setCell ⟨gb224, 0, none⟩ (.int .i64 t218)).setCell ⟨gb224, 1, none⟩ (.int .i64 t219)).setCell ⟨gb224, 2, none⟩ (.int .i64 t220)).heap[gb211]? = some (.cells #[.int .i64 x212000_2, .int .i64 x212001_2, .int .i64 x212002_2] 32 (0, 0))) := ⟨by (with_reducible repeat (first | refine blk_drewN ?_ _ | refine blk_drew ?_ | refine blk_alloc ?_ _)); refine blk_far ?_ NB211_224.out _; (with_reducible repeat (first | refine blk_drewN ?_ _ | refine blk_drew ?_ | refine blk_alloc ?_ _)); refine blk_far ?_ NB211_224.out _; (with_reducible repeat (first | refine blk_drewN ?_ _ | refine blk_drew ?_ | refine blk_alloc ?_ _)); refine blk_far ?_ NB211_224.out _; (with_reducible repeat (first | refine blk_drewN ?_ _ | refine blk_drew ?_ | refine blk_alloc ?_ _)); refine blk_far ?_ NB211_223.out _; (with_reducible repeat (first | refine blk_drewN ?_ _ | refine blk_drew ?_ | refine blk_alloc ?_ _)); refine blk_far ?_ NB211_223.out _; (with_reducible repeat (first | refine blk_drewN ?_ _ | refine blk_drew ?_ | refine blk_alloc ?_ _)); refine blk_far ?_ NB211_223.out _; (with_reducible repeat (first | refine blk_drewN ?_ _ | refine blk_drew ?_ | refine blk_alloc ?_ _)); refine blk_far ?_ NB211_223.out _; (with_reducible repeat (first | refine blk_drewN ?_ _ | refine blk_drew ?_ | refine blk_alloc ?_ _)); exact BK211.out⟩
              have n2_ : Aside0 ((((((((w34.setCell ⟨gb223, 0, none⟩ (.int .i64 t214)).setCell ⟨gb223, 1, none⟩ (.int .i64 t215)).setCell ⟨gb223, 2, none⟩ (.string t216)).setCell ⟨gb223, 3, none⟩ (.bool t217)).setCell ⟨gb224, 0, none⟩ (.int .i64 t218)).setCell ⟨gb224, 1, none⟩ (.int .i64 t219)).setCell ⟨gb224, 2, none⟩ (.int .i64 t220)).heap[gb212]? = some (.cells #[.int .i64 x213000_2, .int .i64 x213001_2, .string x213002_2, .bool x213003_2, .int .i64 x213004_2, .int .i64 x213005_2, .int .i64 x213006_2] 71 (0, 0))) := ⟨by (with_reducible repeat (first | refine blk_drewN ?_ _ | refine blk_drew ?_ | refine blk_alloc ?_ _)); refine blk_far ?_ NB212_224.out _; (with_reducible repeat (first | refine blk_drewN ?_ _ | refine blk_drew ?_ | refine blk_alloc ?_ _)); refine blk_far ?_ NB212_224.out _; (with_reducible repeat (first | refine blk_drewN ?_ _ | refine blk_drew ?_ | refine blk_alloc ?_ _)); refine blk_far ?_ NB212_224.out _; (with_reducible repeat (first | refine blk_drewN ?_ _ | refine blk_drew ?_ | refine blk_alloc ?_ _)); refine blk_far ?_ NB212_223.out _; (with_reducible repeat (first | refine blk_drewN ?_ _ | refine blk_drew ?_ | refine blk_alloc ?_ _)); refine blk_far ?_ NB212_223.out _; (with_reducible repeat (first | refine blk_drewN ?_ _ | refine blk_drew ?_ | refine blk_alloc ?_ _)); refine blk_far ?_ NB212_223.out _; (with_reducible repeat (first | refine blk_drewN ?_ _ | refine blk_drew ?_ | refine blk_alloc ?_ _)); refine blk_far ?_ NB212_223.out _; (with_reducible repeat (first | refine blk_drewN ?_ _ | refine blk_drew ?_ | refine blk_alloc ?_ _)); exact BK212.out⟩
              have n3_ : Aside0 ((((((((w34.setCell ⟨gb223, 0, none⟩ (.int .i64 t214)).setCell ⟨gb223, 1, none⟩ (.int .i64 t215)).setCell ⟨gb223, 2, none⟩ (.string t216)).setCell ⟨gb223, 3, none⟩ (.bool t217)).setCell ⟨gb224, 0, none⟩ (.int .i64 t218)).setCell ⟨gb224, 1, none⟩ (.int .i64 t219)).setCell ⟨gb224, 2, none⟩ (.int .i64 t220)).heap[gb213]? = some (.cells #[.int .i64 x214000_2, .int .i64 x214001_2, .string x214002_2, .bool x214003_2, .int .i64 x214004_2, .int .i64 x214005_2, .int .i64 x214006_2] 71 (0, 0))) := ⟨by (with_reducible repeat (first | refine blk_drewN ?_ _ | refine blk_drew ?_ | refine blk_alloc ?_ _)); refine blk_far ?_ NB213_224.out _; (with_reducible repeat (first | refine blk_drewN ?_ _ | refine blk_drew ?_ | refine blk_alloc ?_ _)); refine blk_far ?_ NB213_224.out _; (with_reducible repeat (first | refine blk_drewN ?_ _ | refine blk_drew ?_ | refine blk_alloc ?_ _)); refine blk_far ?_ NB213_224.out _; (with_reducible repeat (first | refine blk_drewN ?_ _ | refine blk_drew ?_ | refine blk_alloc ?_ _)); refine blk_far ?_ NB213_223.out _; (with_reducible repeat (first | refine blk_drewN ?_ _ | refine blk_drew ?_ | refine blk_alloc ?_ _)); refine blk_far ?_ NB213_223.out _; (with_reducible repeat (first | refine blk_drewN ?_ _ | refine blk_drew ?_ | refine blk_alloc ?_ _)); refine blk_far ?_ NB213_223.out _; (with_reducible repeat (first | refine blk_drewN ?_ _ | refine blk_drew ?_ | refine blk_alloc ?_ _)); refine blk_far ?_ NB213_223.out _; (with_reducible repeat (first | refine blk_drewN ?_ _ | refine blk_drew ?_ | refine blk_alloc ?_ _)); exact BK213.out⟩
              have n4_ : Aside0 ((((((((w34.setCell ⟨gb223, 0, none⟩ (.int .i64 t214)).setCell ⟨gb223, 1, none⟩ (.int .i64 t215)).setCell ⟨gb223, 2, none⟩ (.string t216)).setCell ⟨gb223, 3, none⟩ (.bool t217)).setCell ⟨gb224, 0, none⟩ (.int .i64 t218)).setCell ⟨gb224, 1, none⟩ (.int .i64 t219)).setCell ⟨gb224, 2, none⟩ (.int .i64 t220)).heap[gb223]? = some (.cells #[.int .i64 t214, .int .i64 t215, .string t216, .bool t217] 26 (0, 0))) := ⟨by (with_reducible repeat (first | refine blk_drewN ?_ _ | refine blk_drew ?_ | refine blk_alloc ?_ _)); refine blk_far ?_ NB223_224.out _; (with_reducible repeat (first | refine blk_drewN ?_ _ | refine blk_drew ?_ | refine blk_alloc ?_ _)); refine blk_far ?_ NB223_224.out _; (with_reducible repeat (first | refine blk_drewN ?_ _ | refine blk_drew ?_ | refine blk_alloc ?_ _)); refine blk_far ?_ NB223_224.out _; (with_reducible repeat (first | refine blk_drewN ?_ _ | refine blk_drew ?_ | refine blk_alloc ?_ _)); refine blk_put (cs := #[.int .i64 t214, .int .i64 t215, .string t216, .bool false]) ?_ 3 _ rfl; (with_reducible repeat (first | refine blk_drewN ?_ _ | refine blk_drew ?_ | refine blk_alloc ?_ _)); refine blk_put (cs := #[.int .i64 t214, .int .i64 t215, .string (⟨#[]⟩ : ByteArray), .bool false]) ?_ 2 _ rfl; (with_reducible repeat (first | refine blk_drewN ?_ _ | refine blk_drew ?_ | refine blk_alloc ?_ _)); refine blk_put (cs := #[.int .i64 t214, .int .i64 0, .string (⟨#[]⟩ : ByteArray), .bool false]) ?_ 1 _ rfl; (with_reducible repeat (first | refine blk_drewN ?_ _ | refine blk_drew ?_ | refine blk_alloc ?_ _)); refine blk_put (cs := #[.int .i64 0, .int .i64 0, .string (⟨#[]⟩ : ByteArray), .bool false]) ?_ 0 _ rfl; (with_reducible repeat (first | refine blk_drewN ?_ _ | refine blk_drew ?_ | refine blk_alloc ?_ _)); exact BK223.out⟩
              have n5_ : Aside0 ((((((((w34.setCell ⟨gb223, 0, none⟩ (.int .i64 t214)).setCell ⟨gb223, 1, none⟩ (.int .i64 t215)).setCell ⟨gb223, 2, none⟩ (.string t216)).setCell ⟨gb223, 3, none⟩ (.bool t217)).setCell ⟨gb224, 0, none⟩ (.int .i64 t218)).setCell ⟨gb224, 1, none⟩ (.int .i64 t219)).setCell ⟨gb224, 2, none⟩ (.int .i64 t220)).heap[gb224]? = some (.cells #[.int .i64 t218, .int .i64 t219, .int .i64 t220] 32 (0, 0))) := ⟨by (with_reducible repeat (first | refine blk_drewN ?_ _ | refine blk_drew ?_ | refine blk_alloc ?_ _)); refine blk_put (cs := #[.int .i64 t218, .int .i64 t219, .int .i64 0]) ?_ 2 _ rfl; (with_reducible repeat (first | refine blk_drewN ?_ _ | refine blk_drew ?_ | refine blk_alloc ?_ _)); refine blk_put (cs := #[.int .i64 t218, .int .i64 0, .int .i64 0]) ?_ 1 _ rfl; (with_reducible repeat (first | refine blk_drewN ?_ _ | refine blk_drew ?_ | refine blk_alloc ?_ _)); refine blk_put (cs := #[.int .i64 0, .int .i64 0, .int .i64 0]) ?_ 0 _ rfl; (with_reducible repeat (first | refine blk_drewN ?_ _ | refine blk_drew ?_ | refine blk_alloc ?_ _)); refine blk_far ?_ NB224_223.out _; (with_reducible repeat (first | refine blk_drewN ?_ _ | refine blk_drew ?_ | refine blk_alloc ?_ _)); refine blk_far ?_ NB224_223.out _; (with_reducible repeat (first | refine blk_drewN ?_ _ | refine blk_drew ?_ | refine blk_alloc ?_ _)); refine blk_far ?_ NB224_223.out _; (with_reducible repeat (first | refine blk_drewN ?_ _ | refine blk_drew ?_ | refine blk_alloc ?_ _)); refine blk_far ?_ NB224_223.out _; (with_reducible repeat (first | refine blk_drewN ?_ _ | refine blk_drew ?_ | refine blk_alloc ?_ _)); exact BK224.out⟩
              have n6_ : Aside0 (Below w.heap.size w (((((((w34.setCell ⟨gb223, 0, none⟩ (.int .i64 t214)).setCell ⟨gb223, 1, none⟩ (.int .i64 t215)).setCell ⟨gb223, 2, none⟩ (.string t216)).setCell ⟨gb223, 3, none⟩ (.bool t217)).setCell ⟨gb224, 0, none⟩ (.int .i64 t218)).setCell ⟨gb224, 1, none⟩ (.int .i64 t219)).setCell ⟨gb224, 2, none⟩ (.int .i64 t220))) := ⟨by repeat (first | (with_reducible first | exact HB.out | apply below_alloc | apply pw_below_drewN | apply below_drew1 | refine below_set ?_ GE210.out | refine below_set ?_ GE211.out | refine below_set ?_ GE212.out | refine below_set ?_ GE213.out | refine below_set ?_ GE223.out | refine below_set ?_ GE224.out) | exact HB.out)⟩
              (try clear BK210)
              (try clear BK211)
              (try clear BK212)
              (try clear BK213)
              (try clear BK223)
              (try clear BK224)
              (try clear HB)
              generalize (((((((w34.setCell ⟨gb223, 0, none⟩ (.int .i64 t214)).setCell ⟨gb223, 1, none⟩ (.int .i64 t215)).setCell ⟨gb223, 2, none⟩ (.string t216)).setCell ⟨gb223, 3, none⟩ (.bool t217)).setCell ⟨gb224, 0, none⟩ (.int .i64 t218)).setCell ⟨gb224, 1, none⟩ (.int .i64 t219)).setCell ⟨gb224, 2, none⟩ (.int .i64 t220)) = w46 at n0_ n1_ n2_ n3_ n4_ n5_ n6_ ⊢
              have BK210 := n0_
              have BK211 := n1_
              have BK212 := n2_
              have BK213 := n3_
              have BK223 := n4_
              have BK224 := n5_
              have HB := n6_
              clear n0_ n1_ n2_ n3_ n4_ n5_ n6_
              have n0_ := Aside0.mk (blk_drew BK210.out)
              have n1_ := Aside0.mk (blk_drew BK211.out)
              have n2_ := Aside0.mk (blk_drew BK212.out)
              have n3_ := Aside0.mk (blk_drew BK213.out)
              have n4_ := Aside0.mk (blk_drew BK223.out)
              have n5_ := Aside0.mk (blk_drew BK224.out)
              have n6_ := Aside0.mk (below_drew1 HB.out)
              clear BK210
              clear BK211
              clear BK212
              clear BK213
              clear BK223
              clear BK224
              clear HB
              have BK210 := n0_
              have BK211 := n1_
              have BK212 := n2_
              have BK213 := n3_
              have BK223 := n4_
              have BK224 := n5_
              have HB := n6_
              clear n0_ n1_ n2_ n3_ n4_ n5_ n6_
              refine start_ (n := 15) (S := fun w' => w'.cell? ⟨gb223, 0, none⟩ = some (.int .i64 t214) ∧ w'.cell? ⟨gb223, 1, none⟩ = some (.int .i64 t215) ∧ w'.cell? ⟨gb223, 2, none⟩ = some (.string t216) ∧ w'.cell? ⟨gb223, 3, none⟩ = some (.bool t217) ∧ w'.cell? ⟨gb213, 0, none⟩ = some (.int .i64 x214000_2) ∧ w'.cell? ⟨gb213, 1, none⟩ = some (.int .i64 x214001_2) ∧ w'.cell? ⟨gb213, 2, none⟩ = some (.string x214002_2) ∧ w'.cell? ⟨gb213, 3, none⟩ = some (.bool x214003_2) ∧ w'.cell? ⟨gb213, 4, none⟩ = some (.int .i64 x214004_2) ∧ w'.cell? ⟨gb213, 5, none⟩ = some (.int .i64 x214005_2) ∧ w'.cell? ⟨gb213, 6, none⟩ = some (.int .i64 x214006_2)) (ds := [10, 12, 14]) #[false, false, false, false, false, false, false, false, false, false, false, false, false, false, false] (by kernel_rfl) rfl rfl ⟨(blk_cell BK223.out 0).trans rfl, (blk_cell BK223.out 1).trans rfl, (blk_cell BK223.out 2).trans rfl, (blk_cell BK223.out 3).trans rfl, (blk_cell BK213.out 0).trans rfl, (blk_cell BK213.out 1).trans rfl, (blk_cell BK213.out 2).trans rfl, (blk_cell BK213.out 3).trans rfl, (blk_cell BK213.out 4).trans rfl, (blk_cell BK213.out 5).trans rfl, (blk_cell BK213.out 6).trans rfl⟩ (fun hHeld => ?_); refine with_tabW impl_Maze_pass.tab6 impl_Maze_pass.bits6 (fun HT_ HW_ => ?_)
              generalize w46.drew = w47 at BK210 BK211 BK212 BK213 BK223 BK224 HB hHeld ⊢
              refine pure_ (i := 1) (N := some 38) (v := ?_) (a' := ?_) #[false, true, false, false, false, false, false, false, false, false, false, false, false, false, false] rfl rfl (any_of HT_.out (by kernel_rfl)) (fun _ _ _ h => h) (Or.inl ⟨by rfl, ?_⟩) ?_ ?_
              rotate_left
              · intro w'
                go_simp
                with_reducible rfl
              rotate_left
              · simp only [Act.put, List.setIfInBounds_toArray, List.set_cons_zero, List.set_cons_succ, i64_w, i32_w]
                rfl
              refine pure_ (i := 3) (N := some 40) (v := ?_) (a' := ?_) #[false, true, false, true, false, false, false, false, false, false, false, false, false, false, false] rfl rfl (any_of HT_.out (by kernel_rfl)) (fun _ _ _ h => h) (Or.inl ⟨by rfl, ?_⟩) ?_ ?_
              rotate_left
              · intro w'
                go_simp
                with_reducible rfl
              rotate_left
              · simp only [Act.put, List.setIfInBounds_toArray, List.set_cons_zero, List.set_cons_succ, i64_w, i32_w]
                rfl
              refine pure_ (i := 6) (N := some 43) (v := ?_) (a' := ?_) #[false, true, false, true, false, false, true, false, false, false, false, false, false, false, false] rfl rfl (any_of HT_.out (by kernel_rfl)) (fun _ _ _ h => h) (Or.inl ⟨by rfl, ?_⟩) ?_ ?_
              rotate_left
              · intro w'
                go_simp
                with_reducible rfl
              rotate_left
              · simp only [Act.put, List.setIfInBounds_toArray, List.set_cons_zero, List.set_cons_succ, i64_w, i32_w]
                rfl
              refine take_ (i := 0) (N := some 37) (v := ?_) (a' := ?_) #[true, true, false, true, false, false, true, false, false, false, false, false, false, false, false] rfl rfl (take_ofW HT_.out HW_.out (by kernel_rfl)) (fun _ _ _ h => h) (Or.inl ⟨by rfl, ?_⟩) hHeld ?_ ?_
              rotate_left
              · rintro w' ⟨s0, s1, s2, s3, s4, s5, s6, s7, s8, s9, s10⟩
                go_simp
                with_reducible rfl
              rotate_left
              · simp only [Act.put, List.setIfInBounds_toArray, List.set_cons_zero, List.set_cons_succ, i64_w, i32_w]
                rfl
              refine take_ (i := 2) (N := some 39) (v := ?_) (a' := ?_) #[true, true, true, true, false, false, true, false, false, false, false, false, false, false, false] rfl rfl (take_ofW HT_.out HW_.out (by kernel_rfl)) (fun _ _ _ h => h) (Or.inl ⟨by rfl, ?_⟩) hHeld ?_ ?_
              rotate_left
              · rintro w' ⟨s0, s1, s2, s3, s4, s5, s6, s7, s8, s9, s10⟩
                go_simp
                with_reducible rfl
              rotate_left
              · simp only [Act.put, List.setIfInBounds_toArray, List.set_cons_zero, List.set_cons_succ, i64_w, i32_w]
                rfl
              refine take_ (i := 7) (N := some 44) (v := ?_) (a' := ?_) #[true, true, true, true, false, false, true, true, false, false, false, false, false, false, false] rfl rfl (take_ofW HT_.out HW_.out (by kernel_rfl)) (fun _ _ _ h => h) (Or.inl ⟨by rfl, ?_⟩) hHeld ?_ ?_
              rotate_left
              · rintro w' ⟨s0, s1, s2, s3, s4, s5, s6, s7, s8, s9, s10⟩
                go_simp
                with_reducible rfl
              rotate_left
              · simp only [Act.put, List.setIfInBounds_toArray, List.set_cons_zero, List.set_cons_succ, i64_w, i32_w]
                rfl
              refine pure_ (i := 8) (N := some 45) (v := ?_) (a' := ?_) #[true, true, true, true, false, false, true, true, true, false, false, false, false, false, false] rfl rfl (any_of HT_.out (by kernel_rfl)) (fun _ _ _ h => h) (Or.inl ⟨by rfl, ?_⟩) ?_ ?_
              rotate_left
              · intro w'
                go_simp
                with_reducible rfl
              rotate_left
              · simp only [Act.put, List.setIfInBounds_toArray, List.set_cons_zero, List.set_cons_succ, i64_w, i32_w]
                rfl
              refine pure_ (i := 9) (N := some 46) (v := ?_) (a' := ?_) #[true, true, true, true, false, false, true, true, true, true, false, false, false, false, false] rfl rfl (any_of HT_.out (by kernel_rfl)) (fun _ _ _ h => h) (Or.inl ⟨by rfl, ?_⟩) ?_ ?_
              rotate_left
              · intro w'
                go_simp
                with_reducible rfl
              rotate_left
              · simp only [Act.put, List.setIfInBounds_toArray, List.set_cons_zero, List.set_cons_succ, i64_w, i32_w]
                rfl
              refine one_ (i := 4) (N := some 41) #[true, true, true, true, true, false, true, true, true, true, false, false, false, false, false] rfl rfl (one_of HT_.out (by kernel_rfl)) (by decide) (fun K hK => ?_)
              refine goes_ Tryd.func81 (by kernel_rfl) rfl #[.bool t221] (by rfl) rfl rfl (by (try simp only [List.map_toArray, List.map_cons, List.map_nil]); first | done | rfl | (simp only [List.length_drop, List.length_take]; rfl)) ?_
              with_reducible refine (impl_bit.calls t221 t225 _ A23.out).mono ?_
              rintro e w' ⟨rfl, ⟨nd, rfl⟩⟩
              refine ⟨_, rfl, ?_⟩
              refine hK.out _ _ ⟨(blk_cell BK223.out 0).trans rfl, (blk_cell BK223.out 1).trans rfl, (blk_cell BK223.out 2).trans rfl, (blk_cell BK223.out 3).trans rfl, (blk_cell BK213.out 0).trans rfl, (blk_cell BK213.out 1).trans rfl, (blk_cell BK213.out 2).trans rfl, (blk_cell BK213.out 3).trans rfl, (blk_cell BK213.out 4).trans rfl, (blk_cell BK213.out 5).trans rfl, (blk_cell BK213.out 6).trans rfl⟩ (fun hHeld => ?_)
              clear hK K
              refine norm_ (a' := ?_) ?_ ?_
              rotate_left
              · show Act.put _ (some 41) _ = _
                simp only [Act.put, List.setIfInBounds_toArray, List.set_cons_zero, List.set_cons_succ, i64_w, i32_w]
                rfl
              refine pure_ (i := 5) (N := some 42) (v := ?_) (a' := ?_) #[true, true, true, true, true, true, true, true, true, true, false, false, false, false, false] rfl rfl (any_of HT_.out (by kernel_rfl)) (fun _ _ _ h => h) (Or.inl ⟨by rfl, ?_⟩) ?_ ?_
              rotate_left
              · intro w'
                go_simp
                with_reducible rfl
              rotate_left
              · simp only [Act.put, List.setIfInBounds_toArray, List.set_cons_zero, List.set_cons_succ, i64_w, i32_w]
                rfl
              refine last_ (i := 10) (N := none) #[true, true, true, true, true, true, true, true, true, true, true, false, false, false, false] rfl rfl (one_of HT_.out (by kernel_rfl)) (by decide) (fun K hK => ?_)
              have hs48 : w47.cell? ⟨gb213, 0, none⟩ = some (.int .i64 x214000_2) := (blk_cell BK213.out 0).trans rfl
              have hfs48 := blk_frozen BK213.out 0
              have hns48_0 := NB210_213.out
              have hns48_1 := NB211_213.out
              have hns48_2 := NB212_213.out
              have hns48_4 := NB223_213.out
              have hns48_5 := NB224_213.out
              have hms48_0 := NB213_210.out
              have hms48_1 := NB213_211.out
              have hms48_2 := NB213_212.out
              have hms48_4 := NB213_223.out
              have hms48_5 := NB213_224.out
              have hs49 : w47.cell? ⟨gb213, 1, none⟩ = some (.int .i64 x214001_2) := (blk_cell BK213.out 1).trans rfl
              have hfs49 := blk_frozen BK213.out 1
              have hns49_0 := NB210_213.out
              have hns49_1 := NB211_213.out
              have hns49_2 := NB212_213.out
              have hns49_4 := NB223_213.out
              have hns49_5 := NB224_213.out
              have hms49_0 := NB213_210.out
              have hms49_1 := NB213_211.out
              have hms49_2 := NB213_212.out
              have hms49_4 := NB213_223.out
              have hms49_5 := NB213_224.out
              have hs50 : w47.cell? ⟨gb213, 2, none⟩ = some (.string x214002_2) := (blk_cell BK213.out 2).trans rfl
              have hfs50 := blk_frozen BK213.out 2
              have hns50_0 := NB210_213.out
              have hns50_1 := NB211_213.out
              have hns50_2 := NB212_213.out
              have hns50_4 := NB223_213.out
              have hns50_5 := NB224_213.out
              have hms50_0 := NB213_210.out
              have hms50_1 := NB213_211.out
              have hms50_2 := NB213_212.out
              have hms50_4 := NB213_223.out
              have hms50_5 := NB213_224.out
              have hs51 : w47.cell? ⟨gb213, 3, none⟩ = some (.bool x214003_2) := (blk_cell BK213.out 3).trans rfl
              have hfs51 := blk_frozen BK213.out 3
              have hns51_0 := NB210_213.out
              have hns51_1 := NB211_213.out
              have hns51_2 := NB212_213.out
              have hns51_4 := NB223_213.out
              have hns51_5 := NB224_213.out
              have hms51_0 := NB213_210.out
              have hms51_1 := NB213_211.out
              have hms51_2 := NB213_212.out
              have hms51_4 := NB213_223.out
              have hms51_5 := NB213_224.out
              refine skip_ (w1 := ?_) (by rfl) rfl ?_ ?_
              rotate_left
              · go_simp
                rfl
              refine hK.out _ _ ?_
              clear hK K
              refine pure_ (i := 11) (N := some 47) (v := ?_) (a' := ?_) #[true, true, true, true, true, true, true, true, true, true, true, true, false, false, false] rfl rfl (any_of HT_.out (by kernel_rfl)) (fun _ _ _ h => h) (Or.inl ⟨by rfl, ?_⟩) ?_ ?_
              rotate_left
              · intro w'
                go_simp
                with_reducible rfl
              rotate_left
              · simp only [Act.put, List.setIfInBounds_toArray, List.set_cons_zero, List.set_cons_succ, i64_w, i32_w]
                rfl
              refine last_ (i := 12) (N := none) #[true, true, true, true, true, true, true, true, true, true, true, true, true, false, false] rfl rfl (one_of HT_.out (by kernel_rfl)) (by decide) (fun K hK => ?_)
              have hs52 : w47.cell? ⟨gb213, 5, none⟩ = some (.int .i64 x214005_2) := (blk_cell BK213.out 5).trans rfl
              have hfs52 := blk_frozen BK213.out 5
              have hns52_0 := NB210_213.out
              have hns52_1 := NB211_213.out
              have hns52_2 := NB212_213.out
              have hns52_4 := NB223_213.out
              have hns52_5 := NB224_213.out
              have hms52_0 := NB213_210.out
              have hms52_1 := NB213_211.out
              have hms52_2 := NB213_212.out
              have hms52_4 := NB213_223.out
              have hms52_5 := NB213_224.out
              refine skip_ (w1 := ?_) (by rfl) rfl ?_ ?_
              rotate_left
              · go_simp
                rfl
              refine hK.out _ _ ?_
              clear hK K
              refine pure_ (i := 13) (N := some 48) (v := ?_) (a' := ?_) #[true, true, true, true, true, true, true, true, true, true, true, true, true, true, false] rfl rfl (any_of HT_.out (by kernel_rfl)) (fun _ _ _ h => h) (Or.inl ⟨by rfl, ?_⟩) ?_ ?_
              rotate_left
              · intro w'
                go_simp
                with_reducible rfl
              rotate_left
              · simp only [Act.put, List.setIfInBounds_toArray, List.set_cons_zero, List.set_cons_succ, i64_w, i32_w]
                rfl
              refine last_ (i := 14) (N := none) #[true, true, true, true, true, true, true, true, true, true, true, true, true, true, true] rfl rfl (one_of HT_.out (by kernel_rfl)) (by decide) (fun K hK => ?_)
              have hs53 : w47.cell? ⟨gb213, 6, none⟩ = some (.int .i64 x214006_2) := (blk_cell BK213.out 6).trans rfl
              have hfs53 := blk_frozen BK213.out 6
              have hns53_0 := NB210_213.out
              have hns53_1 := NB211_213.out
              have hns53_2 := NB212_213.out
              have hns53_4 := NB223_213.out
              have hns53_5 := NB224_213.out
              have hms53_0 := NB213_210.out
              have hms53_1 := NB213_211.out
              have hms53_2 := NB213_212.out
              have hms53_4 := NB213_223.out
              have hms53_5 := NB213_224.out
              refine skip_ (w1 := ?_) (by rfl) rfl ?_ ?_
              rotate_left
              · go_simp
                rfl
              refine hK.out _ _ ?_
              clear hK K
              refine done_ (done_of HT_.out (by kernel_rfl)) ?_
              have hcz54_0 : w47.cell? ⟨gb224, 0, none⟩ = some (.int .i64 t218) := (blk_cell BK224.out 0).trans rfl
              have hcz54_1 : w47.cell? ⟨gb224, 1, none⟩ = some (.int .i64 t219) := (blk_cell BK224.out 1).trans rfl
              have hcz54_2 : w47.cell? ⟨gb224, 2, none⟩ = some (.int .i64 t220) := (blk_cell BK224.out 2).trans rfl
              have hfz54_0 := blk_frozen BK224.out 0
              have hfz54_1 := blk_frozen BK224.out 1
              have hfz54_2 := blk_frozen BK224.out 2
              have hcz55_0 : w47.cell? ⟨gb211, 0, none⟩ = some (.int .i64 x212000_2) := (blk_cell BK211.out 0).trans rfl
              have hcz55_1 : w47.cell? ⟨gb211, 1, none⟩ = some (.int .i64 x212001_2) := (blk_cell BK211.out 1).trans rfl
              have hcz55_2 : w47.cell? ⟨gb211, 2, none⟩ = some (.int .i64 x212002_2) := (blk_cell BK211.out 2).trans rfl
              have hfz55_0 := blk_frozen BK211.out 0
              have hfz55_1 := blk_frozen BK211.out 1
              have hfz55_2 := blk_frozen BK211.out 2
              try go_wp2
              go_roundg k2
              case measure => have := HJ2.out; have := HK2.out; omega
              case rel => exact ⟨(t218), (t219), (t220), (x213000_2), (x213001_2), (x213002_2), (x213003_2), (x213004_2), (x213005_2), (x213006_2), (t214), (t215), (t216), (t217), (x214004_2), (wrap64 (x214005_2 + t225)), (wrap64 (x214006_2 + 1)), H', ⟨by have := HJ2.out; have := HK2.out; omega⟩, ⟨by (with_reducible repeat (first | refine blk_drewN ?_ _ | refine blk_drew ?_ | refine blk_alloc ?_ _)); refine blk_far ?_ NB210_211.out _; (with_reducible repeat (first | refine blk_drewN ?_ _ | refine blk_drew ?_ | refine blk_alloc ?_ _)); refine blk_far ?_ NB210_211.out _; (with_reducible repeat (first | refine blk_drewN ?_ _ | refine blk_drew ?_ | refine blk_alloc ?_ _)); refine blk_far ?_ NB210_211.out _; (with_reducible repeat (first | refine blk_drewN ?_ _ | refine blk_drew ?_ | refine blk_alloc ?_ _)); refine blk_far ?_ NB210_213.out _; (with_reducible repeat (first | refine blk_drewN ?_ _ | refine blk_drew ?_ | refine blk_alloc ?_ _)); refine blk_far ?_ NB210_213.out _; (with_reducible repeat (first | refine blk_drewN ?_ _ | refine blk_drew ?_ | refine blk_alloc ?_ _)); refine blk_far ?_ NB210_213.out _; (with_reducible repeat (first | refine blk_drewN ?_ _ | refine blk_drew ?_ | refine blk_alloc ?_ _)); refine blk_far ?_ NB210_213.out _; (with_reducible repeat (first | refine blk_drewN ?_ _ | refine blk_drew ?_ | refine blk_alloc ?_ _)); refine blk_far ?_ NB210_213.out _; (with_reducible repeat (first | refine blk_drewN ?_ _ | refine blk_drew ?_ | refine blk_alloc ?_ _)); refine blk_far ?_ NB210_213.out _; (with_reducible repeat (first | refine blk_drewN ?_ _ | refine blk_drew ?_ | refine blk_alloc ?_ _)); exact BK210.out⟩, ⟨by (with_reducible repeat (first | refine blk_drewN ?_ _ | refine blk_drew ?_ | refine blk_alloc ?_ _)); refine blk_put (cs := #[.int .i64 t218, .int .i64 t219, .int .i64 x212002_2]) ?_ 2 _ rfl; (with_reducible repeat (first | refine blk_drewN ?_ _ | refine blk_drew ?_ | refine blk_alloc ?_ _)); refine blk_put (cs := #[.int .i64 t218, .int .i64 x212001_2, .int .i64 x212002_2]) ?_ 1 _ rfl; (with_reducible repeat (first | refine blk_drewN ?_ _ | refine blk_drew ?_ | refine blk_alloc ?_ _)); refine blk_put (cs := #[.int .i64 x212000_2, .int .i64 x212001_2, .int .i64 x212002_2]) ?_ 0 _ rfl; (with_reducible repeat (first | refine blk_drewN ?_ _ | refine blk_drew ?_ | refine blk_alloc ?_ _)); refine blk_far ?_ NB211_213.out _; (with_reducible repeat (first | refine blk_drewN ?_ _ | refine blk_drew ?_ | refine blk_alloc ?_ _)); refine blk_far ?_ NB211_213.out _; (with_reducible repeat (first | refine blk_drewN ?_ _ | refine blk_drew ?_ | refine blk_alloc ?_ _)); refine blk_far ?_ NB211_213.out _; (with_reducible repeat (first | refine blk_drewN ?_ _ | refine blk_drew ?_ | refine blk_alloc ?_ _)); refine blk_far ?_ NB211_213.out _; (with_reducible repeat (first | refine blk_drewN ?_ _ | refine blk_drew ?_ | refine blk_alloc ?_ _)); refine blk_far ?_ NB211_213.out _; (with_reducible repeat (first | refine blk_drewN ?_ _ | refine blk_drew ?_ | refine blk_alloc ?_ _)); refine blk_far ?_ NB211_213.out _; (with_reducible repeat (first | refine blk_drewN ?_ _ | refine blk_drew ?_ | refine blk_alloc ?_ _)); exact BK211.out⟩, ⟨by (with_reducible repeat (first | refine blk_drewN ?_ _ | refine blk_drew ?_ | refine blk_alloc ?_ _)); refine blk_far ?_ NB212_211.out _; (with_reducible repeat (first | refine blk_drewN ?_ _ | refine blk_drew ?_ | refine blk_alloc ?_ _)); refine blk_far ?_ NB212_211.out _; (with_reducible repeat (first | refine blk_drewN ?_ _ | refine blk_drew ?_ | refine blk_alloc ?_ _)); refine blk_far ?_ NB212_211.out _; (with_reducible repeat (first | refine blk_drewN ?_ _ | refine blk_drew ?_ | refine blk_alloc ?_ _)); refine blk_far ?_ NB212_213.out _; (with_reducible repeat (first | refine blk_drewN ?_ _ | refine blk_drew ?_ | refine blk_alloc ?_ _)); refine blk_far ?_ NB212_213.out _; (with_reducible repeat (first | refine blk_drewN ?_ _ | refine blk_drew ?_ | refine blk_alloc ?_ _)); refine blk_far ?_ NB212_213.out _; (with_reducible repeat (first | refine blk_drewN ?_ _ | refine blk_drew ?_ | refine blk_alloc ?_ _)); refine blk_far ?_ NB212_213.out _; (with_reducible repeat (first | refine blk_drewN ?_ _ | refine blk_drew ?_ | refine blk_alloc ?_ _)); refine blk_far ?_ NB212_213.out _; (with_reducible repeat (first | refine blk_drewN ?_ _ | refine blk_drew ?_ | refine blk_alloc ?_ _)); refine blk_far ?_ NB212_213.out _; (with_reducible repeat (first | refine blk_drewN ?_ _ | refine blk_drew ?_ | refine blk_alloc ?_ _)); exact BK212.out⟩, ⟨by (with_reducible repeat (first | refine blk_drewN ?_ _ | refine blk_drew ?_ | refine blk_alloc ?_ _)); refine blk_far ?_ NB213_211.out _; (with_reducible repeat (first | refine blk_drewN ?_ _ | refine blk_drew ?_ | refine blk_alloc ?_ _)); refine blk_far ?_ NB213_211.out _; (with_reducible repeat (first | refine blk_drewN ?_ _ | refine blk_drew ?_ | refine blk_alloc ?_ _)); refine blk_far ?_ NB213_211.out _; (with_reducible repeat (first | refine blk_drewN ?_ _ | refine blk_drew ?_ | refine blk_alloc ?_ _)); refine blk_put (cs := #[.int .i64 t214, .int .i64 t215, .string t216, .bool t217, .int .i64 x214004_2, .int .i64 (wrap64 (x214005_2 + t225)), .int .i64 x214006_2]) ?_ 6 _ rfl; (with_reducible repeat (first | refine blk_drewN ?_ _ | refine blk_drew ?_ | refine blk_alloc ?_ _)); refine blk_put (cs := #[.int .i64 t214, .int .i64 t215, .string t216, .bool t217, .int .i64 x214004_2, .int .i64 x214005_2, .int .i64 x214006_2]) ?_ 5 _ rfl; (with_reducible repeat (first | refine blk_drewN ?_ _ | refine blk_drew ?_ | refine blk_alloc ?_ _)); refine blk_put (cs := #[.int .i64 t214, .int .i64 t215, .string t216, .bool x214003_2, .int .i64 x214004_2, .int .i64 x214005_2, .int .i64 x214006_2]) ?_ 3 _ rfl; (with_reducible repeat (first | refine blk_drewN ?_ _ | refine blk_drew ?_ | refine blk_alloc ?_ _)); refine blk_put (cs := #[.int .i64 t214, .int .i64 t215, .string x214002_2, .bool x214003_2, .int .i64 x214004_2, .int .i64 x214005_2, .int .i64 x214006_2]) ?_ 2 _ rfl; (with_reducible repeat (first | refine blk_drewN ?_ _ | refine blk_drew ?_ | refine blk_alloc ?_ _)); refine blk_put (cs := #[.int .i64 t214, .int .i64 x214001_2, .string x214002_2, .bool x214003_2, .int .i64 x214004_2, .int .i64 x214005_2, .int .i64 x214006_2]) ?_ 1 _ rfl; (with_reducible repeat (first | refine blk_drewN ?_ _ | refine blk_drew ?_ | refine blk_alloc ?_ _)); refine blk_put (cs := #[.int .i64 x214000_2, .int .i64 x214001_2, .string x214002_2, .bool x214003_2, .int .i64 x214004_2, .int .i64 x214005_2, .int .i64 x214006_2]) ?_ 0 _ rfl; (with_reducible repeat (first | refine blk_drewN ?_ _ | refine blk_drew ?_ | refine blk_alloc ?_ _)); exact BK213.out⟩, ⟨by repeat (first | (with_reducible first | exact HB.out | apply below_alloc | apply pw_below_drewN | apply below_drew1 | refine below_set ?_ GE210.out | refine below_set ?_ GE211.out | refine below_set ?_ GE212.out | refine below_set ?_ GE213.out | refine below_set ?_ GE223.out | refine below_set ?_ GE224.out) | exact HB.out)⟩⟩
            · replace c24 := Bool.eq_false_iff.mpr c24
              subst c24
              have H1 : ((impl_ahead.f t220).bind fun bt226 => (impl_Maze_pass.l1 k2 a0_0 a0_1 a0_2 a0_3 t214 t215 t216 t217 x214004_2 (wrap64 (x214005_2 + t225)) (wrap64 (x214006_2 + 1)) (wrap64 (t218 - bt226.1)) (wrap64 (t219 - bt226.2)) (Int.tmod (wrap64 (t220 + 2)) 4))) = some (r1, r2, r3, r4, r5, r6, r7, r8) := by rw [if_neg (show ¬ (false = true) by decide)] at H; exact H
              clear H
              have H := H1
              clear H1
              replace H := Option.bind_eq_some_iff.mp H
              obtain ⟨⟨t226, t227⟩, A560, H⟩ := H
              replace H : (impl_Maze_pass.l1 k2 a0_0 a0_1 a0_2 a0_3 t214 t215 t216 t217 x214004_2 (wrap64 (x214005_2 + t225)) (wrap64 (x214006_2 + 1)) (wrap64 (t218 - t226)) (wrap64 (t219 - t227)) (Int.tmod (wrap64 (t220 + 2)) 4)) = some (r1, r2, r3, r4, r5, r6, r7, r8) := H
              have A56 := Aside0.mk A560
              clear A560
              have H' := Aside0.mk H
              clear H
              have hnb57 := NB213_210.out
              have hnc57 := NB210_213.out
              have hnb58 := NB213_211.out
              have hnc58 := NB211_213.out
              have hnb59 := NB213_212.out
              have hnc59 := NB212_213.out
              have hcz60_0 : wr.cell? ⟨gb213, 0, none⟩ = some (.int .i64 x214000_2) := (blk_cell BK213.out 0).trans rfl
              have hcz60_1 : wr.cell? ⟨gb213, 1, none⟩ = some (.int .i64 x214001_2) := (blk_cell BK213.out 1).trans rfl
              have hcz60_2 : wr.cell? ⟨gb213, 2, none⟩ = some (.string x214002_2) := (blk_cell BK213.out 2).trans rfl
              have hcz60_3 : wr.cell? ⟨gb213, 3, none⟩ = some (.bool x214003_2) := (blk_cell BK213.out 3).trans rfl
              have hcz60_4 : wr.cell? ⟨gb213, 4, none⟩ = some (.int .i64 x214004_2) := (blk_cell BK213.out 4).trans rfl
              have hcz60_5 : wr.cell? ⟨gb213, 5, none⟩ = some (.int .i64 x214005_2) := (blk_cell BK213.out 5).trans rfl
              have hcz60_6 : wr.cell? ⟨gb213, 6, none⟩ = some (.int .i64 x214006_2) := (blk_cell BK213.out 6).trans rfl
              have hfz60_0 := blk_frozen BK213.out 0
              have hfz60_1 := blk_frozen BK213.out 1
              have hfz60_2 := blk_frozen BK213.out 2
              have hfz60_3 := blk_frozen BK213.out 3
              have hfz60_4 := blk_frozen BK213.out 4
              have hfz60_5 := blk_frozen BK213.out 5
              have hfz60_6 := blk_frozen BK213.out 6
              have hnb61 := NB211_210.out
              have hnc61 := NB210_211.out
              have hnb62 := NB211_212.out
              have hnc62 := NB212_211.out
              have hcz63_0 : wr.cell? ⟨gb211, 0, none⟩ = some (.int .i64 x212000_2) := (blk_cell BK211.out 0).trans rfl
              have hcz63_1 : wr.cell? ⟨gb211, 1, none⟩ = some (.int .i64 x212001_2) := (blk_cell BK211.out 1).trans rfl
              have hcz63_2 : wr.cell? ⟨gb211, 2, none⟩ = some (.int .i64 x212002_2) := (blk_cell BK211.out 2).trans rfl
              have hfz63_0 := blk_frozen BK211.out 0
              have hfz63_1 := blk_frozen BK211.out 1
              have hfz63_2 := blk_frozen BK211.out 2
              try go_wp2_with (first | ((with_reducible refine gate_callee (f := 57) rfl ?_); refine goesL_ (some 32) rfl rfl Tryd.func57 (by kernel_rfl) rfl #[.agg #[.int .i64 x214000_2, .int .i64 x214001_2, .string x214002_2, .bool x214003_2], .agg #[.int .i64 x212000_2, .int .i64 x212001_2, .int .i64 x212002_2]] rfl (by (try simp only [List.map_toArray, List.map_cons, List.map_nil]); first | done | rfl | (simp only [List.length_drop, List.length_take]; rfl)) ?_; (with_reducible refine (impl_Maze_hit.calls k2 x214000_2 x214001_2 x214002_2 x214003_2 x212000_2 x212001_2 x212002_2 t214 t215 t216 t217 t218 t219 t220 t221 false _ A22.out).mono ?_); rintro e w64 ⟨rfl, hb⟩; refine ⟨_, rfl, ?_⟩; have n0_ := Aside0.mk (blk_below (g := gb210) (o := .cells #[.int .i64 a0_0, .int .i64 a0_1, .string a0_2, .bool a0_3] 26 (0, 0)) (XSq.bq BK210) hb); have n1_ := Aside0.mk (blk_below (g := gb211) (o := .cells #[.int .i64 x212000_2, .int .i64 x212001_2, .int .i64 x212002_2] 32 (0, 0)) (XSq.bq BK211) hb); have n2_ := Aside0.mk (blk_below (g := gb212) (o := .cells #[.int .i64 x213000_2, .int .i64 x213001_2, .string x213002_2, .bool x213003_2, .int .i64 x213004_2, .int .i64 x213005_2, .int .i64 x213006_2] 71 (0, 0)) (XSq.bq BK212) hb); have n3_ := Aside0.mk (blk_below (g := gb213) (o := .cells #[.int .i64 x214000_2, .int .i64 x214001_2, .string x214002_2, .bool x214003_2, .int .i64 x214004_2, .int .i64 x214005_2, .int .i64 x214006_2] 71 (0, 0)) (XSq.bq BK213) hb); have n4_ := Aside0.mk (below_step (XSq.bB HB) hb); clear BK210; clear BK211; clear BK212; clear BK213; clear HB; have BK210 := n0_; have BK211 := n1_; have BK212 := n2_; have BK213 := n3_; have HB := n4_; clear n0_ n1_ n2_ n3_ n4_; (try clear hb); (try clear hb2); (try clear hk); (try clear hi)) | ((with_reducible refine gate_dst (N := 8) rfl ?_); refine box_event ?hg (N := 8) ?hd (cs := #[.int .i64 0, .int .i64 0, .string (⟨#[]⟩ : ByteArray), .bool false]) (t := 26) ?hr ?_; (case hd => rfl); (case hg => rfl); (case hr => first | (go_simp; done) | (go_simp; rfl)); intro gb223 hg w65 hbox hb; have n0_ := Aside0.mk (blk_below (g := gb210) (o := .cells #[.int .i64 a0_0, .int .i64 a0_1, .string a0_2, .bool a0_3] 26 (0, 0)) (XSq.bq BK210) hb); have n1_ := Aside0.mk (blk_below (g := gb211) (o := .cells #[.int .i64 x212000_2, .int .i64 x212001_2, .int .i64 x212002_2] 32 (0, 0)) (XSq.bq BK211) hb); have n2_ := Aside0.mk (blk_below (g := gb212) (o := .cells #[.int .i64 x213000_2, .int .i64 x213001_2, .string x213002_2, .bool x213003_2, .int .i64 x213004_2, .int .i64 x213005_2, .int .i64 x213006_2] 71 (0, 0)) (XSq.bq BK212) hb); have n3_ := Aside0.mk (blk_below (g := gb213) (o := .cells #[.int .i64 x214000_2, .int .i64 x214001_2, .string x214002_2, .bool x214003_2, .int .i64 x214004_2, .int .i64 x214005_2, .int .i64 x214006_2] 71 (0, 0)) (XSq.bq BK213) hb); have n4_ := Aside0.mk (below_step (XSq.bB HB) hb); have n5_ := Aside0.mk (hbox); have n6_ := Aside0.mk ((by rw [hg]; exact (below_size (XSq.bB HB)) : w.heap.size ≤ gb223)); have n7_ := Aside0.mk ((by rw [hg]; exact (below_size (XSq.bB HB)) : w.heap.size ≤ gb223)); have n8_ := Aside0.mk ((by rw [hg]; exact Nat.ne_of_lt (blk_lt (g := gb210) (o := .cells #[.int .i64 a0_0, .int .i64 a0_1, .string a0_2, .bool a0_3] 26 (0, 0)) (XSq.bq BK210)) : gb210 ≠ gb223)); have n9_ := Aside0.mk ((by rw [hg]; exact Nat.ne_of_gt (blk_lt (g := gb210) (o := .cells #[.int .i64 a0_0, .int .i64 a0_1, .string a0_2, .bool a0_3] 26 (0, 0)) (XSq.bq BK210)) : gb223 ≠ gb210)); have n10_ := Aside0.mk ((by rw [hg]; exact Nat.ne_of_lt (blk_lt (g := gb211) (o := .cells #[.int .i64 x212000_2, .int .i64 x212001_2, .int .i64 x212002_2] 32 (0, 0)) (XSq.bq BK211)) : gb211 ≠ gb223)); have n11_ := Aside0.mk ((by rw [hg]; exact Nat.ne_of_gt (blk_lt (g := gb211) (o := .cells #[.int .i64 x212000_2, .int .i64 x212001_2, .int .i64 x212002_2] 32 (0, 0)) (XSq.bq BK211)) : gb223 ≠ gb211)); have n12_ := Aside0.mk ((by rw [hg]; exact Nat.ne_of_lt (blk_lt (g := gb212) (o := .cells #[.int .i64 x213000_2, .int .i64 x213001_2, .string x213002_2, .bool x213003_2, .int .i64 x213004_2, .int .i64 x213005_2, .int .i64 x213006_2] 71 (0, 0)) (XSq.bq BK212)) : gb212 ≠ gb223)); have n13_ := Aside0.mk ((by rw [hg]; exact Nat.ne_of_gt (blk_lt (g := gb212) (o := .cells #[.int .i64 x213000_2, .int .i64 x213001_2, .string x213002_2, .bool x213003_2, .int .i64 x213004_2, .int .i64 x213005_2, .int .i64 x213006_2] 71 (0, 0)) (XSq.bq BK212)) : gb223 ≠ gb212)); have n14_ := Aside0.mk ((by rw [hg]; exact Nat.ne_of_lt (blk_lt (g := gb213) (o := .cells #[.int .i64 x214000_2, .int .i64 x214001_2, .string x214002_2, .bool x214003_2, .int .i64 x214004_2, .int .i64 x214005_2, .int .i64 x214006_2] 71 (0, 0)) (XSq.bq BK213)) : gb213 ≠ gb223)); have n15_ := Aside0.mk ((by rw [hg]; exact Nat.ne_of_gt (blk_lt (g := gb213) (o := .cells #[.int .i64 x214000_2, .int .i64 x214001_2, .string x214002_2, .bool x214003_2, .int .i64 x214004_2, .int .i64 x214005_2, .int .i64 x214006_2] 71 (0, 0)) (XSq.bq BK213)) : gb223 ≠ gb213)); clear BK210; clear BK211; clear BK212; clear BK213; clear HB; have BK210 := n0_; have BK211 := n1_; have BK212 := n2_; have BK213 := n3_; have HB := n4_; have BK223 := n5_; have GW223 := n6_; have GE223 := n7_; have NB210_223 := n8_; have NB223_210 := n9_; have NB211_223 := n10_; have NB223_211 := n11_; have NB212_223 := n12_; have NB223_212 := n13_; have NB213_223 := n14_; have NB223_213 := n15_; clear n0_ n1_ n2_ n3_ n4_ n5_ n6_ n7_ n8_ n9_ n10_ n11_ n12_ n13_ n14_ n15_; clear hb hbox hg) | ((with_reducible refine gate_dst (N := 9) rfl ?_); refine box_event ?hg (N := 9) ?hd (cs := #[.int .i64 0, .int .i64 0, .int .i64 0]) (t := 32) ?hr ?_; (case hd => rfl); (case hg => rfl); (case hr => first | (go_simp; done) | (go_simp; rfl)); intro gb224 hg w66 hbox hb; have n0_ := Aside0.mk (blk_below (g := gb210) (o := .cells #[.int .i64 a0_0, .int .i64 a0_1, .string a0_2, .bool a0_3] 26 (0, 0)) (XSq.bq BK210) hb); have n1_ := Aside0.mk (blk_below (g := gb211) (o := .cells #[.int .i64 x212000_2, .int .i64 x212001_2, .int .i64 x212002_2] 32 (0, 0)) (XSq.bq BK211) hb); have n2_ := Aside0.mk (blk_below (g := gb212) (o := .cells #[.int .i64 x213000_2, .int .i64 x213001_2, .string x213002_2, .bool x213003_2, .int .i64 x213004_2, .int .i64 x213005_2, .int .i64 x213006_2] 71 (0, 0)) (XSq.bq BK212) hb); have n3_ := Aside0.mk (blk_below (g := gb213) (o := .cells #[.int .i64 x214000_2, .int .i64 x214001_2, .string x214002_2, .bool x214003_2, .int .i64 x214004_2, .int .i64 x214005_2, .int .i64 x214006_2] 71 (0, 0)) (XSq.bq BK213) hb); have n4_ := Aside0.mk (blk_below (g := gb223) (o := .cells #[.int .i64 0, .int .i64 0, .string (⟨#[]⟩ : ByteArray), .bool false] 26 (0, 0)) (XSq.bq BK223) hb); have n5_ := Aside0.mk (below_step (XSq.bB HB) hb); have n6_ := Aside0.mk (hbox); have n7_ := Aside0.mk ((by rw [hg]; exact (below_size (XSq.bB HB)) : w.heap.size ≤ gb224)); have n8_ := Aside0.mk ((by rw [hg]; exact (below_size (XSq.bB HB)) : w.heap.size ≤ gb224)); have n9_ := Aside0.mk ((by rw [hg]; exact Nat.ne_of_lt (blk_lt (g := gb210) (o := .cells #[.int .i64 a0_0, .int .i64 a0_1, .string a0_2, .bool a0_3] 26 (0, 0)) (XSq.bq BK210)) : gb210 ≠ gb224)); have n10_ := Aside0.mk ((by rw [hg]; exact Nat.ne_of_gt (blk_lt (g := gb210) (o := .cells #[.int .i64 a0_0, .int .i64 a0_1, .string a0_2, .bool a0_3] 26 (0, 0)) (XSq.bq BK210)) : gb224 ≠ gb210)); have n11_ := Aside0.mk ((by rw [hg]; exact Nat.ne_of_lt (blk_lt (g := gb211) (o := .cells #[.int .i64 x212000_2, .int .i64 x212001_2, .int .i64 x212002_2] 32 (0, 0)) (XSq.bq BK211)) : gb211 ≠ gb224)); have n12_ := Aside0.mk ((by rw [hg]; exact Nat.ne_of_gt (blk_lt (g := gb211) (o := .cells #[.int .i64 x212000_2, .int .i64 x212001_2, .int .i64 x212002_2] 32 (0, 0)) (XSq.bq BK211)) : gb224 ≠ gb211)); have n13_ := Aside0.mk ((by rw [hg]; exact Nat.ne_of_lt (blk_lt (g := gb212) (o := .cells #[.int .i64 x213000_2, .int .i64 x213001_2, .string x213002_2, .bool x213003_2, .int .i64 x213004_2, .int .i64 x213005_2, .int .i64 x213006_2] 71 (0, 0)) (XSq.bq BK212)) : gb212 ≠ gb224)); have n14_ := Aside0.mk ((by rw [hg]; exact Nat.ne_of_gt (blk_lt (g := gb212) (o := .cells #[.int .i64 x213000_2, .int .i64 x213001_2, .string x213002_2, .bool x213003_2, .int .i64 x213004_2, .int .i64 x213005_2, .int .i64 x213006_2] 71 (0, 0)) (XSq.bq BK212)) : gb224 ≠ gb212)); have n15_ := Aside0.mk ((by rw [hg]; exact Nat.ne_of_lt (blk_lt (g := gb213) (o := .cells #[.int .i64 x214000_2, .int .i64 x214001_2, .string x214002_2, .bool x214003_2, .int .i64 x214004_2, .int .i64 x214005_2, .int .i64 x214006_2] 71 (0, 0)) (XSq.bq BK213)) : gb213 ≠ gb224)); have n16_ := Aside0.mk ((by rw [hg]; exact Nat.ne_of_gt (blk_lt (g := gb213) (o := .cells #[.int .i64 x214000_2, .int .i64 x214001_2, .string x214002_2, .bool x214003_2, .int .i64 x214004_2, .int .i64 x214005_2, .int .i64 x214006_2] 71 (0, 0)) (XSq.bq BK213)) : gb224 ≠ gb213)); have n17_ := Aside0.mk ((by rw [hg]; exact Nat.ne_of_lt (blk_lt (g := gb223) (o := .cells #[.int .i64 0, .int .i64 0, .string (⟨#[]⟩ : ByteArray), .bool false] 26 (0, 0)) (XSq.bq BK223)) : gb223 ≠ gb224)); have n18_ := Aside0.mk ((by rw [hg]; exact Nat.ne_of_gt (blk_lt (g := gb223) (o := .cells #[.int .i64 0, .int .i64 0, .string (⟨#[]⟩ : ByteArray), .bool false] 26 (0, 0)) (XSq.bq BK223)) : gb224 ≠ gb223)); clear BK210; clear BK211; clear BK212; clear BK213; clear BK223; clear HB; have BK210 := n0_; have BK211 := n1_; have BK212 := n2_; have BK213 := n3_; have BK223 := n4_; have HB := n5_; have BK224 := n6_; have GW224 := n7_; have GE224 := n8_; have NB210_224 := n9_; have NB224_210 := n10_; have NB211_224 := n11_; have NB224_211 := n12_; have NB212_224 := n13_; have NB224_212 := n14_; have NB213_224 := n15_; have NB224_213 := n16_; have NB223_224 := n17_; have NB224_223 := n18_; clear n0_ n1_ n2_ n3_ n4_ n5_ n6_ n7_ n8_ n9_ n10_ n11_ n12_ n13_ n14_ n15_ n16_ n17_ n18_; clear hb hbox hg; have hnb67 := NB223_210.out; have hnc67 := NB210_223.out; have hnb68 := NB223_211.out; have hnc68 := NB211_223.out; have hnb69 := NB223_212.out; have hnc69 := NB212_223.out; have hnb70 := NB223_213.out; have hnc70 := NB213_223.out; have hnb71 := NB223_224.out; have hnc71 := NB224_223.out; have hcz72_0 : w66.cell? ⟨gb223, 0, none⟩ = some (.int .i64 0) := (blk_cell BK223.out 0).trans rfl; have hcz72_1 : w66.cell? ⟨gb223, 1, none⟩ = some (.int .i64 0) := (blk_cell BK223.out 1).trans rfl; have hcz72_2 : w66.cell? ⟨gb223, 2, none⟩ = some (.string (⟨#[]⟩ : ByteArray)) := (blk_cell BK223.out 2).trans rfl; have hcz72_3 : w66.cell? ⟨gb223, 3, none⟩ = some (.bool false) := (blk_cell BK223.out 3).trans rfl; have hfz72_0 := blk_frozen BK223.out 0; have hfz72_1 := blk_frozen BK223.out 1; have hfz72_2 := blk_frozen BK223.out 2; have hfz72_3 := blk_frozen BK223.out 3; have hnb73 := NB224_210.out; have hnc73 := NB210_224.out; have hnb74 := NB224_211.out; have hnc74 := NB211_224.out; have hnb75 := NB224_212.out; have hnc75 := NB212_224.out; have hnb76 := NB224_213.out; have hnc76 := NB213_224.out; have hcz77_0 : w66.cell? ⟨gb224, 0, none⟩ = some (.int .i64 0) := (blk_cell BK224.out 0).trans rfl; have hcz77_1 : w66.cell? ⟨gb224, 1, none⟩ = some (.int .i64 0) := (blk_cell BK224.out 1).trans rfl; have hcz77_2 : w66.cell? ⟨gb224, 2, none⟩ = some (.int .i64 0) := (blk_cell BK224.out 2).trans rfl; have hfz77_0 := blk_frozen BK224.out 0; have hfz77_1 := blk_frozen BK224.out 1; have hfz77_2 := blk_frozen BK224.out 2))
              have n0_ : Aside0 ((((((((w66.setCell ⟨gb223, 0, none⟩ (.int .i64 t214)).setCell ⟨gb223, 1, none⟩ (.int .i64 t215)).setCell ⟨gb223, 2, none⟩ (.string t216)).setCell ⟨gb223, 3, none⟩ (.bool t217)).setCell ⟨gb224, 0, none⟩ (.int .i64 t218)).setCell ⟨gb224, 1, none⟩ (.int .i64 t219)).setCell ⟨gb224, 2, none⟩ (.int .i64 t220)).heap[gb210]? = some (.cells #[.int .i64 a0_0, .int .i64 a0_1, .string a0_2, .bool a0_3] 26 (0, 0))) := ⟨by (with_reducible repeat (first | refine blk_drewN ?_ _ | refine blk_drew ?_ | refine blk_alloc ?_ _)); refine blk_far ?_ NB210_224.out _; (with_reducible repeat (first | refine blk_drewN ?_ _ | refine blk_drew ?_ | refine blk_alloc ?_ _)); refine blk_far ?_ NB210_224.out _; (with_reducible repeat (first | refine blk_drewN ?_ _ | refine blk_drew ?_ | refine blk_alloc ?_ _)); refine blk_far ?_ NB210_224.out _; (with_reducible repeat (first | refine blk_drewN ?_ _ | refine blk_drew ?_ | refine blk_alloc ?_ _)); refine blk_far ?_ NB210_223.out _; (with_reducible repeat (first | refine blk_drewN ?_ _ | refine blk_drew ?_ | refine blk_alloc ?_ _)); refine blk_far ?_ NB210_223.out _; (with_reducible repeat (first | refine blk_drewN ?_ _ | refine blk_drew ?_ | refine blk_alloc ?_ _)); refine blk_far ?_ NB210_223.out _; (with_reducible repeat (first | refine blk_drewN ?_ _ | refine blk_drew ?_ | refine blk_alloc ?_ _)); refine blk_far ?_ NB210_223.out _; (with_reducible repeat (first | refine blk_drewN ?_ _ | refine blk_drew ?_ | refine blk_alloc ?_ _)); exact BK210.out⟩
              have n1_ : Aside0 ((((((((w66.setCell ⟨gb223, 0, none⟩ (.int .i64 t214)).setCell ⟨gb223, 1, none⟩ (.int .i64 t215)).setCell ⟨gb223, 2, none⟩ (.string t216)).setCell ⟨gb223, 3, none⟩ (.bool t217)).setCell ⟨gb224, 0, none⟩ (.int .i64 t218)).setCell ⟨gb224, 1, none⟩ (.int .i64 t219)).setCell ⟨gb224, 2, none⟩ (.int .i64 t220)).heap[gb211]? = some (.cells #[.int .i64 x212000_2, .int .i64 x212001_2, .int .i64 x212002_2] 32 (0, 0))) := ⟨by (with_reducible repeat (first | refine blk_drewN ?_ _ | refine blk_drew ?_ | refine blk_alloc ?_ _)); refine blk_far ?_ NB211_224.out _; (with_reducible repeat (first | refine blk_drewN ?_ _ | refine blk_drew ?_ | refine blk_alloc ?_ _)); refine blk_far ?_ NB211_224.out _; (with_reducible repeat (first | refine blk_drewN ?_ _ | refine blk_drew ?_ | refine blk_alloc ?_ _)); refine blk_far ?_ NB211_224.out _; (with_reducible repeat (first | refine blk_drewN ?_ _ | refine blk_drew ?_ | refine blk_alloc ?_ _)); refine blk_far ?_ NB211_223.out _; (with_reducible repeat (first | refine blk_drewN ?_ _ | refine blk_drew ?_ | refine blk_alloc ?_ _)); refine blk_far ?_ NB211_223.out _; (with_reducible repeat (first | refine blk_drewN ?_ _ | refine blk_drew ?_ | refine blk_alloc ?_ _)); refine blk_far ?_ NB211_223.out _; (with_reducible repeat (first | refine blk_drewN ?_ _ | refine blk_drew ?_ | refine blk_alloc ?_ _)); refine blk_far ?_ NB211_223.out _; (with_reducible repeat (first | refine blk_drewN ?_ _ | refine blk_drew ?_ | refine blk_alloc ?_ _)); exact BK211.out⟩
              have n2_ : Aside0 ((((((((w66.setCell ⟨gb223, 0, none⟩ (.int .i64 t214)).setCell ⟨gb223, 1, none⟩ (.int .i64 t215)).setCell ⟨gb223, 2, none⟩ (.string t216)).setCell ⟨gb223, 3, none⟩ (.bool t217)).setCell ⟨gb224, 0, none⟩ (.int .i64 t218)).setCell ⟨gb224, 1, none⟩ (.int .i64 t219)).setCell ⟨gb224, 2, none⟩ (.int .i64 t220)).heap[gb212]? = some (.cells #[.int .i64 x213000_2, .int .i64 x213001_2, .string x213002_2, .bool x213003_2, .int .i64 x213004_2, .int .i64 x213005_2, .int .i64 x213006_2] 71 (0, 0))) := ⟨by (with_reducible repeat (first | refine blk_drewN ?_ _ | refine blk_drew ?_ | refine blk_alloc ?_ _)); refine blk_far ?_ NB212_224.out _; (with_reducible repeat (first | refine blk_drewN ?_ _ | refine blk_drew ?_ | refine blk_alloc ?_ _)); refine blk_far ?_ NB212_224.out _; (with_reducible repeat (first | refine blk_drewN ?_ _ | refine blk_drew ?_ | refine blk_alloc ?_ _)); refine blk_far ?_ NB212_224.out _; (with_reducible repeat (first | refine blk_drewN ?_ _ | refine blk_drew ?_ | refine blk_alloc ?_ _)); refine blk_far ?_ NB212_223.out _; (with_reducible repeat (first | refine blk_drewN ?_ _ | refine blk_drew ?_ | refine blk_alloc ?_ _)); refine blk_far ?_ NB212_223.out _; (with_reducible repeat (first | refine blk_drewN ?_ _ | refine blk_drew ?_ | refine blk_alloc ?_ _)); refine blk_far ?_ NB212_223.out _; (with_reducible repeat (first | refine blk_drewN ?_ _ | refine blk_drew ?_ | refine blk_alloc ?_ _)); refine blk_far ?_ NB212_223.out _; (with_reducible repeat (first | refine blk_drewN ?_ _ | refine blk_drew ?_ | refine blk_alloc ?_ _)); exact BK212.out⟩
              have n3_ : Aside0 ((((((((w66.setCell ⟨gb223, 0, none⟩ (.int .i64 t214)).setCell ⟨gb223, 1, none⟩ (.int .i64 t215)).setCell ⟨gb223, 2, none⟩ (.string t216)).setCell ⟨gb223, 3, none⟩ (.bool t217)).setCell ⟨gb224, 0, none⟩ (.int .i64 t218)).setCell ⟨gb224, 1, none⟩ (.int .i64 t219)).setCell ⟨gb224, 2, none⟩ (.int .i64 t220)).heap[gb213]? = some (.cells #[.int .i64 x214000_2, .int .i64 x214001_2, .string x214002_2, .bool x214003_2, .int .i64 x214004_2, .int .i64 x214005_2, .int .i64 x214006_2] 71 (0, 0))) := ⟨by (with_reducible repeat (first | refine blk_drewN ?_ _ | refine blk_drew ?_ | refine blk_alloc ?_ _)); refine blk_far ?_ NB213_224.out _; (with_reducible repeat (first | refine blk_drewN ?_ _ | refine blk_drew ?_ | refine blk_alloc ?_ _)); refine blk_far ?_ NB213_224.out _; (with_reducible repeat (first | refine blk_drewN ?_ _ | refine blk_drew ?_ | refine blk_alloc ?_ _)); refine blk_far ?_ NB213_224.out _; (with_reducible repeat (first | refine blk_drewN ?_ _ | refine blk_drew ?_ | refine blk_alloc ?_ _)); refine blk_far ?_ NB213_223.out _; (with_reducible repeat (first | refine blk_drewN ?_ _ | refine blk_drew ?_ | refine blk_alloc ?_ _)); refine blk_far ?_ NB213_223.out _; (with_reducible repeat (first | refine blk_drewN ?_ _ | refine blk_drew ?_ | refine blk_alloc ?_ _)); refine blk_far ?_ NB213_223.out _; (with_reducible repeat (first | refine blk_drewN ?_ _ | refine blk_drew ?_ | refine blk_alloc ?_ _)); refine blk_far ?_ NB213_223.out _; (with_reducible repeat (first | refine blk_drewN ?_ _ | refine blk_drew ?_ | refine blk_alloc ?_ _)); exact BK213.out⟩
              have n4_ : Aside0 ((((((((w66.setCell ⟨gb223, 0, none⟩ (.int .i64 t214)).setCell ⟨gb223, 1, none⟩ (.int .i64 t215)).setCell ⟨gb223, 2, none⟩ (.string t216)).setCell ⟨gb223, 3, none⟩ (.bool t217)).setCell ⟨gb224, 0, none⟩ (.int .i64 t218)).setCell ⟨gb224, 1, none⟩ (.int .i64 t219)).setCell ⟨gb224, 2, none⟩ (.int .i64 t220)).heap[gb223]? = some (.cells #[.int .i64 t214, .int .i64 t215, .string t216, .bool t217] 26 (0, 0))) := ⟨by (with_reducible repeat (first | refine blk_drewN ?_ _ | refine blk_drew ?_ | refine blk_alloc ?_ _)); refine blk_far ?_ NB223_224.out _; (with_reducible repeat (first | refine blk_drewN ?_ _ | refine blk_drew ?_ | refine blk_alloc ?_ _)); refine blk_far ?_ NB223_224.out _; (with_reducible repeat (first | refine blk_drewN ?_ _ | refine blk_drew ?_ | refine blk_alloc ?_ _)); refine blk_far ?_ NB223_224.out _; (with_reducible repeat (first | refine blk_drewN ?_ _ | refine blk_drew ?_ | refine blk_alloc ?_ _)); refine blk_put (cs := #[.int .i64 t214, .int .i64 t215, .string t216, .bool false]) ?_ 3 _ rfl; (with_reducible repeat (first | refine blk_drewN ?_ _ | refine blk_drew ?_ | refine blk_alloc ?_ _)); refine blk_put (cs := #[.int .i64 t214, .int .i64 t215, .string (⟨#[]⟩ : ByteArray), .bool false]) ?_ 2 _ rfl; (with_reducible repeat (first | refine blk_drewN ?_ _ | refine blk_drew ?_ | refine blk_alloc ?_ _)); refine blk_put (cs := #[.int .i64 t214, .int .i64 0, .string (⟨#[]⟩ : ByteArray), .bool false]) ?_ 1 _ rfl; (with_reducible repeat (first | refine blk_drewN ?_ _ | refine blk_drew ?_ | refine blk_alloc ?_ _)); refine blk_put (cs := #[.int .i64 0, .int .i64 0, .string (⟨#[]⟩ : ByteArray), .bool false]) ?_ 0 _ rfl; (with_reducible repeat (first | refine blk_drewN ?_ _ | refine blk_drew ?_ | refine blk_alloc ?_ _)); exact BK223.out⟩
              have n5_ : Aside0 ((((((((w66.setCell ⟨gb223, 0, none⟩ (.int .i64 t214)).setCell ⟨gb223, 1, none⟩ (.int .i64 t215)).setCell ⟨gb223, 2, none⟩ (.string t216)).setCell ⟨gb223, 3, none⟩ (.bool t217)).setCell ⟨gb224, 0, none⟩ (.int .i64 t218)).setCell ⟨gb224, 1, none⟩ (.int .i64 t219)).setCell ⟨gb224, 2, none⟩ (.int .i64 t220)).heap[gb224]? = some (.cells #[.int .i64 t218, .int .i64 t219, .int .i64 t220] 32 (0, 0))) := ⟨by (with_reducible repeat (first | refine blk_drewN ?_ _ | refine blk_drew ?_ | refine blk_alloc ?_ _)); refine blk_put (cs := #[.int .i64 t218, .int .i64 t219, .int .i64 0]) ?_ 2 _ rfl; (with_reducible repeat (first | refine blk_drewN ?_ _ | refine blk_drew ?_ | refine blk_alloc ?_ _)); refine blk_put (cs := #[.int .i64 t218, .int .i64 0, .int .i64 0]) ?_ 1 _ rfl; (with_reducible repeat (first | refine blk_drewN ?_ _ | refine blk_drew ?_ | refine blk_alloc ?_ _)); refine blk_put (cs := #[.int .i64 0, .int .i64 0, .int .i64 0]) ?_ 0 _ rfl; (with_reducible repeat (first | refine blk_drewN ?_ _ | refine blk_drew ?_ | refine blk_alloc ?_ _)); refine blk_far ?_ NB224_223.out _; (with_reducible repeat (first | refine blk_drewN ?_ _ | refine blk_drew ?_ | refine blk_alloc ?_ _)); refine blk_far ?_ NB224_223.out _; (with_reducible repeat (first | refine blk_drewN ?_ _ | refine blk_drew ?_ | refine blk_alloc ?_ _)); refine blk_far ?_ NB224_223.out _; (with_reducible repeat (first | refine blk_drewN ?_ _ | refine blk_drew ?_ | refine blk_alloc ?_ _)); refine blk_far ?_ NB224_223.out _; (with_reducible repeat (first | refine blk_drewN ?_ _ | refine blk_drew ?_ | refine blk_alloc ?_ _)); exact BK224.out⟩
              have n6_ : Aside0 (Below w.heap.size w (((((((w66.setCell ⟨gb223, 0, none⟩ (.int .i64 t214)).setCell ⟨gb223, 1, none⟩ (.int .i64 t215)).setCell ⟨gb223, 2, none⟩ (.string t216)).setCell ⟨gb223, 3, none⟩ (.bool t217)).setCell ⟨gb224, 0, none⟩ (.int .i64 t218)).setCell ⟨gb224, 1, none⟩ (.int .i64 t219)).setCell ⟨gb224, 2, none⟩ (.int .i64 t220))) := ⟨by repeat (first | (with_reducible first | exact HB.out | apply below_alloc | apply pw_below_drewN | apply below_drew1 | refine below_set ?_ GE210.out | refine below_set ?_ GE211.out | refine below_set ?_ GE212.out | refine below_set ?_ GE213.out | refine below_set ?_ GE223.out | refine below_set ?_ GE224.out) | exact HB.out)⟩
              (try clear BK210)
              (try clear BK211)
              (try clear BK212)
              (try clear BK213)
              (try clear BK223)
              (try clear BK224)
              (try clear HB)
              generalize (((((((w66.setCell ⟨gb223, 0, none⟩ (.int .i64 t214)).setCell ⟨gb223, 1, none⟩ (.int .i64 t215)).setCell ⟨gb223, 2, none⟩ (.string t216)).setCell ⟨gb223, 3, none⟩ (.bool t217)).setCell ⟨gb224, 0, none⟩ (.int .i64 t218)).setCell ⟨gb224, 1, none⟩ (.int .i64 t219)).setCell ⟨gb224, 2, none⟩ (.int .i64 t220)) = w78 at n0_ n1_ n2_ n3_ n4_ n5_ n6_ ⊢
              have BK210 := n0_
              have BK211 := n1_
              have BK212 := n2_
              have BK213 := n3_
              have BK223 := n4_
              have BK224 := n5_
              have HB := n6_
              clear n0_ n1_ n2_ n3_ n4_ n5_ n6_
              have n0_ := Aside0.mk (blk_drew BK210.out)
              have n1_ := Aside0.mk (blk_drew BK211.out)
              have n2_ := Aside0.mk (blk_drew BK212.out)
              have n3_ := Aside0.mk (blk_drew BK213.out)
              have n4_ := Aside0.mk (blk_drew BK223.out)
              have n5_ := Aside0.mk (blk_drew BK224.out)
              have n6_ := Aside0.mk (below_drew1 HB.out)
              clear BK210
              clear BK211
              clear BK212
              clear BK213
              clear BK223
              clear BK224
              clear HB
              have BK210 := n0_
              have BK211 := n1_
              have BK212 := n2_
              have BK213 := n3_
              have BK223 := n4_
              have BK224 := n5_
              have HB := n6_
              clear n0_ n1_ n2_ n3_ n4_ n5_ n6_
              refine start_ (n := 15) (S := fun w' => w'.cell? ⟨gb223, 0, none⟩ = some (.int .i64 t214) ∧ w'.cell? ⟨gb223, 1, none⟩ = some (.int .i64 t215) ∧ w'.cell? ⟨gb223, 2, none⟩ = some (.string t216) ∧ w'.cell? ⟨gb223, 3, none⟩ = some (.bool t217) ∧ w'.cell? ⟨gb213, 0, none⟩ = some (.int .i64 x214000_2) ∧ w'.cell? ⟨gb213, 1, none⟩ = some (.int .i64 x214001_2) ∧ w'.cell? ⟨gb213, 2, none⟩ = some (.string x214002_2) ∧ w'.cell? ⟨gb213, 3, none⟩ = some (.bool x214003_2) ∧ w'.cell? ⟨gb213, 4, none⟩ = some (.int .i64 x214004_2) ∧ w'.cell? ⟨gb213, 5, none⟩ = some (.int .i64 x214005_2) ∧ w'.cell? ⟨gb213, 6, none⟩ = some (.int .i64 x214006_2)) (ds := [10, 12, 14]) #[false, false, false, false, false, false, false, false, false, false, false, false, false, false, false] (by kernel_rfl) rfl rfl ⟨(blk_cell BK223.out 0).trans rfl, (blk_cell BK223.out 1).trans rfl, (blk_cell BK223.out 2).trans rfl, (blk_cell BK223.out 3).trans rfl, (blk_cell BK213.out 0).trans rfl, (blk_cell BK213.out 1).trans rfl, (blk_cell BK213.out 2).trans rfl, (blk_cell BK213.out 3).trans rfl, (blk_cell BK213.out 4).trans rfl, (blk_cell BK213.out 5).trans rfl, (blk_cell BK213.out 6).trans rfl⟩ (fun hHeld => ?_); refine with_tabW impl_Maze_pass.tab6 impl_Maze_pass.bits6 (fun HT_ HW_ => ?_)
              generalize w78.drew = w79 at BK210 BK211 BK212 BK213 BK223 BK224 HB hHeld ⊢
              refine pure_ (i := 1) (N := some 38) (v := ?_) (a' := ?_) #[false, true, false, false, false, false, false, false, false, false, false, false, false, false, false] rfl rfl (any_of HT_.out (by kernel_rfl)) (fun _ _ _ h => h) (Or.inl ⟨by rfl, ?_⟩) ?_ ?_
              rotate_left
              · intro w'
                go_simp
                with_reducible rfl
              rotate_left
              · simp only [Act.put, List.setIfInBounds_toArray, List.set_cons_zero, List.set_cons_succ, i64_w, i32_w]
                rfl
              refine pure_ (i := 3) (N := some 40) (v := ?_) (a' := ?_) #[false, true, false, true, false, false, false, false, false, false, false, false, false, false, false] rfl rfl (any_of HT_.out (by kernel_rfl)) (fun _ _ _ h => h) (Or.inl ⟨by rfl, ?_⟩) ?_ ?_
              rotate_left
              · intro w'
                go_simp
                with_reducible rfl
              rotate_left
              · simp only [Act.put, List.setIfInBounds_toArray, List.set_cons_zero, List.set_cons_succ, i64_w, i32_w]
                rfl
              refine pure_ (i := 6) (N := some 43) (v := ?_) (a' := ?_) #[false, true, false, true, false, false, true, false, false, false, false, false, false, false, false] rfl rfl (any_of HT_.out (by kernel_rfl)) (fun _ _ _ h => h) (Or.inl ⟨by rfl, ?_⟩) ?_ ?_
              rotate_left
              · intro w'
                go_simp
                with_reducible rfl
              rotate_left
              · simp only [Act.put, List.setIfInBounds_toArray, List.set_cons_zero, List.set_cons_succ, i64_w, i32_w]
                rfl
              refine take_ (i := 0) (N := some 37) (v := ?_) (a' := ?_) #[true, true, false, true, false, false, true, false, false, false, false, false, false, false, false] rfl rfl (take_ofW HT_.out HW_.out (by kernel_rfl)) (fun _ _ _ h => h) (Or.inl ⟨by rfl, ?_⟩) hHeld ?_ ?_
              rotate_left
              · rintro w' ⟨s0, s1, s2, s3, s4, s5, s6, s7, s8, s9, s10⟩
                go_simp
                with_reducible rfl
              rotate_left
              · simp only [Act.put, List.setIfInBounds_toArray, List.set_cons_zero, List.set_cons_succ, i64_w, i32_w]
                rfl
              refine take_ (i := 2) (N := some 39) (v := ?_) (a' := ?_) #[true, true, true, true, false, false, true, false, false, false, false, false, false, false, false] rfl rfl (take_ofW HT_.out HW_.out (by kernel_rfl)) (fun _ _ _ h => h) (Or.inl ⟨by rfl, ?_⟩) hHeld ?_ ?_
              rotate_left
              · rintro w' ⟨s0, s1, s2, s3, s4, s5, s6, s7, s8, s9, s10⟩
                go_simp
                with_reducible rfl
              rotate_left
              · simp only [Act.put, List.setIfInBounds_toArray, List.set_cons_zero, List.set_cons_succ, i64_w, i32_w]
                rfl
              refine take_ (i := 7) (N := some 44) (v := ?_) (a' := ?_) #[true, true, true, true, false, false, true, true, false, false, false, false, false, false, false] rfl rfl (take_ofW HT_.out HW_.out (by kernel_rfl)) (fun _ _ _ h => h) (Or.inl ⟨by rfl, ?_⟩) hHeld ?_ ?_
              rotate_left
              · rintro w' ⟨s0, s1, s2, s3, s4, s5, s6, s7, s8, s9, s10⟩
                go_simp
                with_reducible rfl
              rotate_left
              · simp only [Act.put, List.setIfInBounds_toArray, List.set_cons_zero, List.set_cons_succ, i64_w, i32_w]
                rfl
              refine pure_ (i := 8) (N := some 45) (v := ?_) (a' := ?_) #[true, true, true, true, false, false, true, true, true, false, false, false, false, false, false] rfl rfl (any_of HT_.out (by kernel_rfl)) (fun _ _ _ h => h) (Or.inl ⟨by rfl, ?_⟩) ?_ ?_
              rotate_left
              · intro w'
                go_simp
                with_reducible rfl
              rotate_left
              · simp only [Act.put, List.setIfInBounds_toArray, List.set_cons_zero, List.set_cons_succ, i64_w, i32_w]
                rfl
              refine pure_ (i := 9) (N := some 46) (v := ?_) (a' := ?_) #[true, true, true, true, false, false, true, true, true, true, false, false, false, false, false] rfl rfl (any_of HT_.out (by kernel_rfl)) (fun _ _ _ h => h) (Or.inl ⟨by rfl, ?_⟩) ?_ ?_
              rotate_left
              · intro w'
                go_simp
                with_reducible rfl
              rotate_left
              · simp only [Act.put, List.setIfInBounds_toArray, List.set_cons_zero, List.set_cons_succ, i64_w, i32_w]
                rfl
              refine one_ (i := 4) (N := some 41) #[true, true, true, true, true, false, true, true, true, true, false, false, false, false, false] rfl rfl (one_of HT_.out (by kernel_rfl)) (by decide) (fun K hK => ?_)
              refine goes_ Tryd.func81 (by kernel_rfl) rfl #[.bool t221] (by rfl) rfl rfl (by (try simp only [List.map_toArray, List.map_cons, List.map_nil]); first | done | rfl | (simp only [List.length_drop, List.length_take]; rfl)) ?_
              with_reducible refine (impl_bit.calls t221 t225 _ A23.out).mono ?_
              rintro e w' ⟨rfl, ⟨nd, rfl⟩⟩
              refine ⟨_, rfl, ?_⟩
              refine hK.out _ _ ⟨(blk_cell BK223.out 0).trans rfl, (blk_cell BK223.out 1).trans rfl, (blk_cell BK223.out 2).trans rfl, (blk_cell BK223.out 3).trans rfl, (blk_cell BK213.out 0).trans rfl, (blk_cell BK213.out 1).trans rfl, (blk_cell BK213.out 2).trans rfl, (blk_cell BK213.out 3).trans rfl, (blk_cell BK213.out 4).trans rfl, (blk_cell BK213.out 5).trans rfl, (blk_cell BK213.out 6).trans rfl⟩ (fun hHeld => ?_)
              clear hK K
              refine norm_ (a' := ?_) ?_ ?_
              rotate_left
              · show Act.put _ (some 41) _ = _
                simp only [Act.put, List.setIfInBounds_toArray, List.set_cons_zero, List.set_cons_succ, i64_w, i32_w]
                rfl
              refine pure_ (i := 5) (N := some 42) (v := ?_) (a' := ?_) #[true, true, true, true, true, true, true, true, true, true, false, false, false, false, false] rfl rfl (any_of HT_.out (by kernel_rfl)) (fun _ _ _ h => h) (Or.inl ⟨by rfl, ?_⟩) ?_ ?_
              rotate_left
              · intro w'
                go_simp
                with_reducible rfl
              rotate_left
              · simp only [Act.put, List.setIfInBounds_toArray, List.set_cons_zero, List.set_cons_succ, i64_w, i32_w]
                rfl
              refine last_ (i := 10) (N := none) #[true, true, true, true, true, true, true, true, true, true, true, false, false, false, false] rfl rfl (one_of HT_.out (by kernel_rfl)) (by decide) (fun K hK => ?_)
              have hs80 : w79.cell? ⟨gb213, 0, none⟩ = some (.int .i64 x214000_2) := (blk_cell BK213.out 0).trans rfl
              have hfs80 := blk_frozen BK213.out 0
              have hns80_0 := NB210_213.out
              have hns80_1 := NB211_213.out
              have hns80_2 := NB212_213.out
              have hns80_4 := NB223_213.out
              have hns80_5 := NB224_213.out
              have hms80_0 := NB213_210.out
              have hms80_1 := NB213_211.out
              have hms80_2 := NB213_212.out
              have hms80_4 := NB213_223.out
              have hms80_5 := NB213_224.out
              have hs81 : w79.cell? ⟨gb213, 1, none⟩ = some (.int .i64 x214001_2) := (blk_cell BK213.out 1).trans rfl
              have hfs81 := blk_frozen BK213.out 1
              have hns81_0 := NB210_213.out
              have hns81_1 := NB211_213.out
              have hns81_2 := NB212_213.out
              have hns81_4 := NB223_213.out
              have hns81_5 := NB224_213.out
              have hms81_0 := NB213_210.out
              have hms81_1 := NB213_211.out
              have hms81_2 := NB213_212.out
              have hms81_4 := NB213_223.out
              have hms81_5 := NB213_224.out
              have hs82 : w79.cell? ⟨gb213, 2, none⟩ = some (.string x214002_2) := (blk_cell BK213.out 2).trans rfl
              have hfs82 := blk_frozen BK213.out 2
              have hns82_0 := NB210_213.out
              have hns82_1 := NB211_213.out
              have hns82_2 := NB212_213.out
              have hns82_4 := NB223_213.out
              have hns82_5 := NB224_213.out
              have hms82_0 := NB213_210.out
              have hms82_1 := NB213_211.out
              have hms82_2 := NB213_212.out
              have hms82_4 := NB213_223.out
              have hms82_5 := NB213_224.out
              have hs83 : w79.cell? ⟨gb213, 3, none⟩ = some (.bool x214003_2) := (blk_cell BK213.out 3).trans rfl
              have hfs83 := blk_frozen BK213.out 3
              have hns83_0 := NB210_213.out
              have hns83_1 := NB211_213.out
              have hns83_2 := NB212_213.out
              have hns83_4 := NB223_213.out
              have hns83_5 := NB224_213.out
              have hms83_0 := NB213_210.out
              have hms83_1 := NB213_211.out
              have hms83_2 := NB213_212.out
              have hms83_4 := NB213_223.out
              have hms83_5 := NB213_224.out
              refine skip_ (w1 := ?_) (by rfl) rfl ?_ ?_
              rotate_left
              · go_simp
                rfl
              refine hK.out _ _ ?_
              clear hK K
              refine pure_ (i := 11) (N := some 47) (v := ?_) (a' := ?_) #[true, true, true, true, true, true, true, true, true, true, true, true, false, false, false] rfl rfl (any_of HT_.out (by kernel_rfl)) (fun _ _ _ h => h) (Or.inl ⟨by rfl, ?_⟩) ?_ ?_
              rotate_left
              · intro w'
                go_simp
                with_reducible rfl
              rotate_left
              · simp only [Act.put, List.setIfInBounds_toArray, List.set_cons_zero, List.set_cons_succ, i64_w, i32_w]
                rfl
              refine last_ (i := 12) (N := none) #[true, true, true, true, true, true, true, true, true, true, true, true, true, false, false] rfl rfl (one_of HT_.out (by kernel_rfl)) (by decide) (fun K hK => ?_)
              have hs84 : w79.cell? ⟨gb213, 5, none⟩ = some (.int .i64 x214005_2) := (blk_cell BK213.out 5).trans rfl
              have hfs84 := blk_frozen BK213.out 5
              have hns84_0 := NB210_213.out
              have hns84_1 := NB211_213.out
              have hns84_2 := NB212_213.out
              have hns84_4 := NB223_213.out
              have hns84_5 := NB224_213.out
              have hms84_0 := NB213_210.out
              have hms84_1 := NB213_211.out
              have hms84_2 := NB213_212.out
              have hms84_4 := NB213_223.out
              have hms84_5 := NB213_224.out
              refine skip_ (w1 := ?_) (by rfl) rfl ?_ ?_
              rotate_left
              · go_simp
                rfl
              refine hK.out _ _ ?_
              clear hK K
              refine pure_ (i := 13) (N := some 48) (v := ?_) (a' := ?_) #[true, true, true, true, true, true, true, true, true, true, true, true, true, true, false] rfl rfl (any_of HT_.out (by kernel_rfl)) (fun _ _ _ h => h) (Or.inl ⟨by rfl, ?_⟩) ?_ ?_
              rotate_left
              · intro w'
                go_simp
                with_reducible rfl
              rotate_left
              · simp only [Act.put, List.setIfInBounds_toArray, List.set_cons_zero, List.set_cons_succ, i64_w, i32_w]
                rfl
              refine last_ (i := 14) (N := none) #[true, true, true, true, true, true, true, true, true, true, true, true, true, true, true] rfl rfl (one_of HT_.out (by kernel_rfl)) (by decide) (fun K hK => ?_)
              have hs85 : w79.cell? ⟨gb213, 6, none⟩ = some (.int .i64 x214006_2) := (blk_cell BK213.out 6).trans rfl
              have hfs85 := blk_frozen BK213.out 6
              have hns85_0 := NB210_213.out
              have hns85_1 := NB211_213.out
              have hns85_2 := NB212_213.out
              have hns85_4 := NB223_213.out
              have hns85_5 := NB224_213.out
              have hms85_0 := NB213_210.out
              have hms85_1 := NB213_211.out
              have hms85_2 := NB213_212.out
              have hms85_4 := NB213_223.out
              have hms85_5 := NB213_224.out
              refine skip_ (w1 := ?_) (by rfl) rfl ?_ ?_
              rotate_left
              · go_simp
                rfl
              refine hK.out _ _ ?_
              clear hK K
              refine done_ (done_of HT_.out (by kernel_rfl)) ?_
              have hcz86_0 : w79.cell? ⟨gb224, 0, none⟩ = some (.int .i64 t218) := (blk_cell BK224.out 0).trans rfl
              have hcz86_1 : w79.cell? ⟨gb224, 1, none⟩ = some (.int .i64 t219) := (blk_cell BK224.out 1).trans rfl
              have hcz86_2 : w79.cell? ⟨gb224, 2, none⟩ = some (.int .i64 t220) := (blk_cell BK224.out 2).trans rfl
              have hfz86_0 := blk_frozen BK224.out 0
              have hfz86_1 := blk_frozen BK224.out 1
              have hfz86_2 := blk_frozen BK224.out 2
              try go_wp2_with (first | ((with_reducible refine gate_callee (f := 75) rfl ?_); refine goesL_ (some 54) rfl rfl Tryd.func75 (by kernel_rfl) rfl #[.int .i64 t220] rfl (by (try simp only [List.map_toArray, List.map_cons, List.map_nil]); first | done | rfl | (simp only [List.length_drop, List.length_take]; rfl)) ?_; (with_reducible refine (impl_ahead.calls t220 t226 t227 _ A56.out).mono ?_); rintro e w87 ⟨rfl, hb⟩; refine ⟨_, rfl, ?_⟩; have n0_ := Aside0.mk (blk_below (g := gb210) (o := .cells #[.int .i64 a0_0, .int .i64 a0_1, .string a0_2, .bool a0_3] 26 (0, 0)) (by (with_reducible repeat (first | refine blk_drewN ?_ _ | refine blk_drew ?_ | refine blk_alloc ?_ _)); refine blk_far ?_ NB210_213.out _; (with_reducible repeat (first | refine blk_drewN ?_ _ | refine blk_drew ?_ | refine blk_alloc ?_ _)); refine blk_far ?_ NB210_213.out _; (with_reducible repeat (first | refine blk_drewN ?_ _ | refine blk_drew ?_ | refine blk_alloc ?_ _)); refine blk_far ?_ NB210_213.out _; (with_reducible repeat (first | refine blk_drewN ?_ _ | refine blk_drew ?_ | refine blk_alloc ?_ _)); refine blk_far ?_ NB210_213.out _; (with_reducible repeat (first | refine blk_drewN ?_ _ | refine blk_drew ?_ | refine blk_alloc ?_ _)); refine blk_far ?_ NB210_213.out _; (with_reducible repeat (first | refine blk_drewN ?_ _ | refine blk_drew ?_ | refine blk_alloc ?_ _)); refine blk_far ?_ NB210_213.out _; (with_reducible repeat (first | refine blk_drewN ?_ _ | refine blk_drew ?_ | refine blk_alloc ?_ _)); exact BK210.out) hb); have n1_ := Aside0.mk (blk_below (g := gb211) (o := .cells #[.int .i64 x212000_2, .int .i64 x212001_2, .int .i64 x212002_2] 32 (0, 0)) (by (with_reducible repeat (first | refine blk_drewN ?_ _ | refine blk_drew ?_ | refine blk_alloc ?_ _)); refine blk_far ?_ NB211_213.out _; (with_reducible repeat (first | refine blk_drewN ?_ _ | refine blk_drew ?_ | refine blk_alloc ?_ _)); refine blk_far ?_ NB211_213.out _; (with_reducible repeat (first | refine blk_drewN ?_ _ | refine blk_drew ?_ | refine blk_alloc ?_ _)); refine blk_far ?_ NB211_213.out _; (with_reducible repeat (first | refine blk_drewN ?_ _ | refine blk_drew ?_ | refine blk_alloc ?_ _)); refine blk_far ?_ NB211_213.out _; (with_reducible repeat (first | refine blk_drewN ?_ _ | refine blk_drew ?_ | refine blk_alloc ?_ _)); refine blk_far ?_ NB211_213.out _; (with_reducible repeat (first | refine blk_drewN ?_ _ | refine blk_drew ?_ | refine blk_alloc ?_ _)); refine blk_far ?_ NB211_213.out _; (with_reducible repeat (first | refine blk_drewN ?_ _ | refine blk_drew ?_ | refine blk_alloc ?_ _)); exact BK211.out) hb); have n2_ := Aside0.mk (blk_below (g := gb212) (o := .cells #[.int .i64 x213000_2, .int .i64 x213001_2, .string x213002_2, .bool x213003_2, .int .i64 x213004_2, .int .i64 x213005_2, .int .i64 x213006_2] 71 (0, 0)) (by (with_reducible repeat (first | refine blk_drewN ?_ _ | refine blk_drew ?_ | refine blk_alloc ?_ _)); refine blk_far ?_ NB212_213.out _; (with_reducible repeat (first | refine blk_drewN ?_ _ | refine blk_drew ?_ | refine blk_alloc ?_ _)); refine blk_far ?_ NB212_213.out _; (with_reducible repeat (first | refine blk_drewN ?_ _ | refine blk_drew ?_ | refine blk_alloc ?_ _)); refine blk_far ?_ NB212_213.out _; (with_reducible repeat (first | refine blk_drewN ?_ _ | refine blk_drew ?_ | refine blk_alloc ?_ _)); refine blk_far ?_ NB212_213.out _; (with_reducible repeat (first | refine blk_drewN ?_ _ | refine blk_drew ?_ | refine blk_alloc ?_ _)); refine blk_far ?_ NB212_213.out _; (with_reducible repeat (first | refine blk_drewN ?_ _ | refine blk_drew ?_ | refine blk_alloc ?_ _)); refine blk_far ?_ NB212_213.out _; (with_reducible repeat (first | refine blk_drewN ?_ _ | refine blk_drew ?_ | refine blk_alloc ?_ _)); exact BK212.out) hb); have n3_ := Aside0.mk (blk_below (g := gb213) (o := .cells #[.int .i64 t214, .int .i64 t215, .string t216, .bool t217, .int .i64 x214004_2, .int .i64 (wrap64 (x214005_2 + t225)), .int .i64 (wrap64 (x214006_2 + 1))] 71 (0, 0)) (by (with_reducible repeat (first | refine blk_drewN ?_ _ | refine blk_drew ?_ | refine blk_alloc ?_ _)); refine blk_put (cs := #[.int .i64 t214, .int .i64 t215, .string t216, .bool t217, .int .i64 x214004_2, .int .i64 (wrap64 (x214005_2 + t225)), .int .i64 x214006_2]) ?_ 6 _ rfl; (with_reducible repeat (first | refine blk_drewN ?_ _ | refine blk_drew ?_ | refine blk_alloc ?_ _)); refine blk_put (cs := #[.int .i64 t214, .int .i64 t215, .string t216, .bool t217, .int .i64 x214004_2, .int .i64 x214005_2, .int .i64 x214006_2]) ?_ 5 _ rfl; (with_reducible repeat (first | refine blk_drewN ?_ _ | refine blk_drew ?_ | refine blk_alloc ?_ _)); refine blk_put (cs := #[.int .i64 t214, .int .i64 t215, .string t216, .bool x214003_2, .int .i64 x214004_2, .int .i64 x214005_2, .int .i64 x214006_2]) ?_ 3 _ rfl; (with_reducible repeat (first | refine blk_drewN ?_ _ | refine blk_drew ?_ | refine blk_alloc ?_ _)); refine blk_put (cs := #[.int .i64 t214, .int .i64 t215, .string x214002_2, .bool x214003_2, .int .i64 x214004_2, .int .i64 x214005_2, .int .i64 x214006_2]) ?_ 2 _ rfl; (with_reducible repeat (first | refine blk_drewN ?_ _ | refine blk_drew ?_ | refine blk_alloc ?_ _)); refine blk_put (cs := #[.int .i64 t214, .int .i64 x214001_2, .string x214002_2, .bool x214003_2, .int .i64 x214004_2, .int .i64 x214005_2, .int .i64 x214006_2]) ?_ 1 _ rfl; (with_reducible repeat (first | refine blk_drewN ?_ _ | refine blk_drew ?_ | refine blk_alloc ?_ _)); refine blk_put (cs := #[.int .i64 x214000_2, .int .i64 x214001_2, .string x214002_2, .bool x214003_2, .int .i64 x214004_2, .int .i64 x214005_2, .int .i64 x214006_2]) ?_ 0 _ rfl; (with_reducible repeat (first | refine blk_drewN ?_ _ | refine blk_drew ?_ | refine blk_alloc ?_ _)); exact BK213.out) hb); have n4_ := Aside0.mk (blk_below (g := gb223) (o := .cells #[.int .i64 t214, .int .i64 t215, .string t216, .bool t217] 26 (0, 0)) (by (with_reducible repeat (first | refine blk_drewN ?_ _ | refine blk_drew ?_ | refine blk_alloc ?_ _)); refine blk_far ?_ NB223_213.out _; (with_reducible repeat (first | refine blk_drewN ?_ _ | refine blk_drew ?_ | refine blk_alloc ?_ _)); refine blk_far ?_ NB223_213.out _; (with_reducible repeat (first | refine blk_drewN ?_ _ | refine blk_drew ?_ | refine blk_alloc ?_ _)); refine blk_far ?_ NB223_213.out _; (with_reducible repeat (first | refine blk_drewN ?_ _ | refine blk_drew ?_ | refine blk_alloc ?_ _)); refine blk_far ?_ NB223_213.out _; (with_reducible repeat (first | refine blk_drewN ?_ _ | refine blk_drew ?_ | refine blk_alloc ?_ _)); refine blk_far ?_ NB223_213.out _; (with_reducible repeat (first | refine blk_drewN ?_ _ | refine blk_drew ?_ | refine blk_alloc ?_ _)); refine blk_far ?_ NB223_213.out _; (with_reducible repeat (first | refine blk_drewN ?_ _ | refine blk_drew ?_ | refine blk_alloc ?_ _)); exact BK223.out) hb); have n5_ := Aside0.mk (blk_below (g := gb224) (o := .cells #[.int .i64 t218, .int .i64 t219, .int .i64 t220] 32 (0, 0)) (by (with_reducible repeat (first | refine blk_drewN ?_ _ | refine blk_drew ?_ | refine blk_alloc ?_ _)); refine blk_far ?_ NB224_213.out _; (with_reducible repeat (first | refine blk_drewN ?_ _ | refine blk_drew ?_ | refine blk_alloc ?_ _)); refine blk_far ?_ NB224_213.out _; (with_reducible repeat (first | refine blk_drewN ?_ _ | refine blk_drew ?_ | refine blk_alloc ?_ _)); refine blk_far ?_ NB224_213.out _; (with_reducible repeat (first | refine blk_drewN ?_ _ | refine blk_drew ?_ | refine blk_alloc ?_ _)); refine blk_far ?_ NB224_213.out _; (with_reducible repeat (first | refine blk_drewN ?_ _ | refine blk_drew ?_ | refine blk_alloc ?_ _)); refine blk_far ?_ NB224_213.out _; (with_reducible repeat (first | refine blk_drewN ?_ _ | refine blk_drew ?_ | refine blk_alloc ?_ _)); refine blk_far ?_ NB224_213.out _; (with_reducible repeat (first | refine blk_drewN ?_ _ | refine blk_drew ?_ | refine blk_alloc ?_ _)); exact BK224.out) hb); have n6_ := Aside0.mk (below_step (XSq.bB HB) hb); clear BK210; clear BK211; clear BK212; clear BK213; clear BK223; clear BK224; clear HB; have BK210 := n0_; have BK211 := n1_; have BK212 := n2_; have BK213 := n3_; have BK223 := n4_; have BK224 := n5_; have HB := n6_; clear n0_ n1_ n2_ n3_ n4_ n5_ n6_; (try clear hb); (try clear hb2); (try clear hk); (try clear hi); have hcz88_0 : w87.cell? ⟨gb224, 0, none⟩ = some (.int .i64 t218) := (blk_cell BK224.out 0).trans rfl; have hcz88_1 : w87.cell? ⟨gb224, 1, none⟩ = some (.int .i64 t219) := (blk_cell BK224.out 1).trans rfl; have hcz88_2 : w87.cell? ⟨gb224, 2, none⟩ = some (.int .i64 t220) := (blk_cell BK224.out 2).trans rfl; have hfz88_0 := blk_frozen BK224.out 0; have hfz88_1 := blk_frozen BK224.out 1; have hfz88_2 := blk_frozen BK224.out 2) | ((with_reducible refine gate_dst (N := 14) rfl ?_); refine box_event ?hg (N := 14) ?hd (cs := #[.int .i64 0, .int .i64 0, .int .i64 0]) (t := 32) ?hr ?_; (case hd => rfl); (case hg => rfl); (case hr => first | (go_simp; done) | (go_simp; rfl)); intro gb228 hg w89 hbox hb; have n0_ := Aside0.mk (blk_below (g := gb210) (o := .cells #[.int .i64 a0_0, .int .i64 a0_1, .string a0_2, .bool a0_3] 26 (0, 0)) (XSq.bq BK210) hb); have n1_ := Aside0.mk (blk_below (g := gb211) (o := .cells #[.int .i64 x212000_2, .int .i64 x212001_2, .int .i64 x212002_2] 32 (0, 0)) (XSq.bq BK211) hb); have n2_ := Aside0.mk (blk_below (g := gb212) (o := .cells #[.int .i64 x213000_2, .int .i64 x213001_2, .string x213002_2, .bool x213003_2, .int .i64 x213004_2, .int .i64 x213005_2, .int .i64 x213006_2] 71 (0, 0)) (XSq.bq BK212) hb); have n3_ := Aside0.mk (blk_below (g := gb213) (o := .cells #[.int .i64 t214, .int .i64 t215, .string t216, .bool t217, .int .i64 x214004_2, .int .i64 (wrap64 (x214005_2 + t225)), .int .i64 (wrap64 (x214006_2 + 1))] 71 (0, 0)) (XSq.bq BK213) hb); have n4_ := Aside0.mk (blk_below (g := gb223) (o := .cells #[.int .i64 t214, .int .i64 t215, .string t216, .bool t217] 26 (0, 0)) (XSq.bq BK223) hb); have n5_ := Aside0.mk (blk_below (g := gb224) (o := .cells #[.int .i64 t218, .int .i64 t219, .int .i64 t220] 32 (0, 0)) (XSq.bq BK224) hb); have n6_ := Aside0.mk (below_step (XSq.bB HB) hb); have n7_ := Aside0.mk (hbox); have n8_ := Aside0.mk ((by rw [hg]; exact (below_size (XSq.bB HB)) : w.heap.size ≤ gb228)); have n9_ := Aside0.mk ((by rw [hg]; exact (below_size (XSq.bB HB)) : w.heap.size ≤ gb228)); have n10_ := Aside0.mk ((by rw [hg]; exact Nat.ne_of_lt (blk_lt (g := gb210) (o := .cells #[.int .i64 a0_0, .int .i64 a0_1, .string a0_2, .bool a0_3] 26 (0, 0)) (XSq.bq BK210)) : gb210 ≠ gb228)); have n11_ := Aside0.mk ((by rw [hg]; exact Nat.ne_of_gt (blk_lt (g := gb210) (o := .cells #[.int .i64 a0_0, .int .i64 a0_1, .string a0_2, .bool a0_3] 26 (0, 0)) (XSq.bq BK210)) : gb228 ≠ gb210)); have n12_ := Aside0.mk ((by rw [hg]; exact Nat.ne_of_lt (blk_lt (g := gb211) (o := .cells #[.int .i64 x212000_2, .int .i64 x212001_2, .int .i64 x212002_2] 32 (0, 0)) (XSq.bq BK211)) : gb211 ≠ gb228)); have n13_ := Aside0.mk ((by rw [hg]; exact Nat.ne_of_gt (blk_lt (g := gb211) (o := .cells #[.int .i64 x212000_2, .int .i64 x212001_2, .int .i64 x212002_2] 32 (0, 0)) (XSq.bq BK211)) : gb228 ≠ gb211)); have n14_ := Aside0.mk ((by rw [hg]; exact Nat.ne_of_lt (blk_lt (g := gb212) (o := .cells #[.int .i64 x213000_2, .int .i64 x213001_2, .string x213002_2, .bool x213003_2, .int .i64 x213004_2, .int .i64 x213005_2, .int .i64 x213006_2] 71 (0, 0)) (XSq.bq BK212)) : gb212 ≠ gb228)); have n15_ := Aside0.mk ((by rw [hg]; exact Nat.ne_of_gt (blk_lt (g := gb212) (o := .cells #[.int .i64 x213000_2, .int .i64 x213001_2, .string x213002_2, .bool x213003_2, .int .i64 x213004_2, .int .i64 x213005_2, .int .i64 x213006_2] 71 (0, 0)) (XSq.bq BK212)) : gb228 ≠ gb212)); have n16_ := Aside0.mk ((by rw [hg]; exact Nat.ne_of_lt (blk_lt (g := gb213) (o := .cells #[.int .i64 t214, .int .i64 t215, .string t216, .bool t217, .int .i64 x214004_2, .int .i64 (wrap64 (x214005_2 + t225)), .int .i64 (wrap64 (x214006_2 + 1))] 71 (0, 0)) (XSq.bq BK213)) : gb213 ≠ gb228)); have n17_ := Aside0.mk ((by rw [hg]; exact Nat.ne_of_gt (blk_lt (g := gb213) (o := .cells #[.int .i64 t214, .int .i64 t215, .string t216, .bool t217, .int .i64 x214004_2, .int .i64 (wrap64 (x214005_2 + t225)), .int .i64 (wrap64 (x214006_2 + 1))] 71 (0, 0)) (XSq.bq BK213)) : gb228 ≠ gb213)); have n18_ := Aside0.mk ((by rw [hg]; exact Nat.ne_of_lt (blk_lt (g := gb223) (o := .cells #[.int .i64 t214, .int .i64 t215, .string t216, .bool t217] 26 (0, 0)) (XSq.bq BK223)) : gb223 ≠ gb228)); have n19_ := Aside0.mk ((by rw [hg]; exact Nat.ne_of_gt (blk_lt (g := gb223) (o := .cells #[.int .i64 t214, .int .i64 t215, .string t216, .bool t217] 26 (0, 0)) (XSq.bq BK223)) : gb228 ≠ gb223)); have n20_ := Aside0.mk ((by rw [hg]; exact Nat.ne_of_lt (blk_lt (g := gb224) (o := .cells #[.int .i64 t218, .int .i64 t219, .int .i64 t220] 32 (0, 0)) (XSq.bq BK224)) : gb224 ≠ gb228)); have n21_ := Aside0.mk ((by rw [hg]; exact Nat.ne_of_gt (blk_lt (g := gb224) (o := .cells #[.int .i64 t218, .int .i64 t219, .int .i64 t220] 32 (0, 0)) (XSq.bq BK224)) : gb228 ≠ gb224)); clear BK210; clear BK211; clear BK212; clear BK213; clear BK223; clear BK224; clear HB; have BK210 := n0_; have BK211 := n1_; have BK212 := n2_; have BK213 := n3_; have BK223 := n4_; have BK224 := n5_; have HB := n6_; have BK228 := n7_; have GW228 := n8_; have GE228 := n9_; have NB210_228 := n10_; have NB228_210 := n11_; have NB211_228 := n12_; have NB228_211 := n13_; have NB212_228 := n14_; have NB228_212 := n15_; have NB213_228 := n16_; have NB228_213 := n17_; have NB223_228 := n18_; have NB228_223 := n19_; have NB224_228 := n20_; have NB228_224 := n21_; clear n0_ n1_ n2_ n3_ n4_ n5_ n6_ n7_ n8_ n9_ n10_ n11_ n12_ n13_ n14_ n15_ n16_ n17_ n18_ n19_ n20_ n21_; clear hb hbox hg; have hnb90 := NB228_210.out; have hnc90 := NB210_228.out; have hnb91 := NB228_211.out; have hnc91 := NB211_228.out; have hnb92 := NB228_212.out; have hnc92 := NB212_228.out; have hnb93 := NB228_213.out; have hnc93 := NB213_228.out; have hnb94 := NB228_223.out; have hnc94 := NB223_228.out; have hnb95 := NB228_224.out; have hnc95 := NB224_228.out; have hcz96_0 : w89.cell? ⟨gb228, 0, none⟩ = some (.int .i64 0) := (blk_cell BK228.out 0).trans rfl; have hcz96_1 : w89.cell? ⟨gb228, 1, none⟩ = some (.int .i64 0) := (blk_cell BK228.out 1).trans rfl; have hcz96_2 : w89.cell? ⟨gb228, 2, none⟩ = some (.int .i64 0) := (blk_cell BK228.out 2).trans rfl; have hfz96_0 := blk_frozen BK228.out 0; have hfz96_1 := blk_frozen BK228.out 1; have hfz96_2 := blk_frozen BK228.out 2))
              go_loopg [] k2 (fun kq w' => ∃ (x214004_3 : Int), Aside0 (impl_Maze_pass.l1 kq a0_0 a0_1 a0_2 a0_3 t214 t215 t216 t217 x214004_3 (wrap64 (x214005_2 + t225)) (wrap64 (x214006_2 + 1)) (wrap64 (t218 - t226)) (wrap64 (t219 - t227)) (Int.tmod (wrap64 (t220 + 2)) 4) = some (r1, r2, r3, r4, r5, r6, r7, r8)) ∧ Aside0 (kq ≤ k2) ∧ Aside0 (w'.heap[gb210]? = some (.cells #[.int .i64 a0_0, .int .i64 a0_1, .string a0_2, .bool a0_3] 26 (0, 0))) ∧ Aside0 (w'.heap[gb211]? = some (.cells #[.int .i64 x212000_2, .int .i64 x212001_2, .int .i64 x212002_2] 32 (0, 0))) ∧ Aside0 (w'.heap[gb212]? = some (.cells #[.int .i64 x213000_2, .int .i64 x213001_2, .string x213002_2, .bool x213003_2, .int .i64 x213004_2, .int .i64 x213005_2, .int .i64 x213006_2] 71 (0, 0))) ∧ Aside0 (w'.heap[gb213]? = some (.cells #[.int .i64 t214, .int .i64 t215, .string t216, .bool t217, .int .i64 x214004_3, .int .i64 (wrap64 (x214005_2 + t225)), .int .i64 (wrap64 (x214006_2 + 1))] 71 (0, 0))) ∧ Aside0 (w'.heap[gb223]? = some (.cells #[.int .i64 t214, .int .i64 t215, .string t216, .bool t217] 26 (0, 0))) ∧ Aside0 (w'.heap[gb224]? = some (.cells #[.int .i64 t218, .int .i64 t219, .int .i64 t220] 32 (0, 0))) ∧ Aside0 (w'.heap[gb228]? = some (.cells #[.int .i64 (wrap64 (t218 - t226)), .int .i64 (wrap64 (t219 - t227)), .int .i64 (Int.tmod (wrap64 (t220 + 2)) 4)] 32 (0, 0))) ∧ Aside0 (Below w.heap.size w w'))
              case atStart => exact ⟨(x214004_2), H', ⟨Nat.le_refl _⟩, ⟨by (with_reducible repeat (first | refine blk_drewN ?_ _ | refine blk_drew ?_ | refine blk_alloc ?_ _)); refine blk_far ?_ NB210_228.out _; (with_reducible repeat (first | refine blk_drewN ?_ _ | refine blk_drew ?_ | refine blk_alloc ?_ _)); refine blk_far ?_ NB210_228.out _; (with_reducible repeat (first | refine blk_drewN ?_ _ | refine blk_drew ?_ | refine blk_alloc ?_ _)); refine blk_far ?_ NB210_228.out _; (with_reducible repeat (first | refine blk_drewN ?_ _ | refine blk_drew ?_ | refine blk_alloc ?_ _)); exact BK210.out⟩, ⟨by (with_reducible repeat (first | refine blk_drewN ?_ _ | refine blk_drew ?_ | refine blk_alloc ?_ _)); refine blk_far ?_ NB211_228.out _; (with_reducible repeat (first | refine blk_drewN ?_ _ | refine blk_drew ?_ | refine blk_alloc ?_ _)); refine blk_far ?_ NB211_228.out _; (with_reducible repeat (first | refine blk_drewN ?_ _ | refine blk_drew ?_ | refine blk_alloc ?_ _)); refine blk_far ?_ NB211_228.out _; (with_reducible repeat (first | refine blk_drewN ?_ _ | refine blk_drew ?_ | refine blk_alloc ?_ _)); exact BK211.out⟩, ⟨by (with_reducible repeat (first | refine blk_drewN ?_ _ | refine blk_drew ?_ | refine blk_alloc ?_ _)); refine blk_far ?_ NB212_228.out _; (with_reducible repeat (first | refine blk_drewN ?_ _ | refine blk_drew ?_ | refine blk_alloc ?_ _)); refine blk_far ?_ NB212_228.out _; (with_reducible repeat (first | refine blk_drewN ?_ _ | refine blk_drew ?_ | refine blk_alloc ?_ _)); refine blk_far ?_ NB212_228.out _; (with_reducible repeat (first | refine blk_drewN ?_ _ | refine blk_drew ?_ | refine blk_alloc ?_ _)); exact BK212.out⟩, ⟨by (with_reducible repeat (first | refine blk_drewN ?_ _ | refine blk_drew ?_ | refine blk_alloc ?_ _)); refine blk_far ?_ NB213_228.out _; (with_reducible repeat (first | refine blk_drewN ?_ _ | refine blk_drew ?_ | refine blk_alloc ?_ _)); refine blk_far ?_ NB213_228.out _; (with_reducible repeat (first | refine blk_drewN ?_ _ | refine blk_drew ?_ | refine blk_alloc ?_ _)); refine blk_far ?_ NB213_228.out _; (with_reducible repeat (first | refine blk_drewN ?_ _ | refine blk_drew ?_ | refine blk_alloc ?_ _)); exact BK213.out⟩, ⟨by (with_reducible repeat (first | refine blk_drewN ?_ _ | refine blk_drew ?_ | refine blk_alloc ?_ _)); refine blk_far ?_ NB223_228.out _; (with_reducible repeat (first | refine blk_drewN ?_ _ | refine blk_drew ?_ | refine blk_alloc ?_ _)); refine blk_far ?_ NB223_228.out _; (with_reducible repeat (first | refine blk_drewN ?_ _ | refine blk_drew ?_ | refine blk_alloc ?_ _)); refine blk_far ?_ NB223_228.out _; (with_reducible repeat (first | refine blk_drewN ?_ _ | refine blk_drew ?_ | refine blk_alloc ?_ _)); exact BK223.out⟩, ⟨by (with_reducible repeat (first | refine blk_drewN ?_ _ | refine blk_drew ?_ | refine blk_alloc ?_ _)); refine blk_far ?_ NB224_228.out _; (with_reducible repeat (first | refine blk_drewN ?_ _ | refine blk_drew ?_ | refine blk_alloc ?_ _)); refine blk_far ?_ NB224_228.out _; (with_reducible repeat (first | refine blk_drewN ?_ _ | refine blk_drew ?_ | refine blk_alloc ?_ _)); refine blk_far ?_ NB224_228.out _; (with_reducible repeat (first | refine blk_drewN ?_ _ | refine blk_drew ?_ | refine blk_alloc ?_ _)); exact BK224.out⟩, ⟨by (with_reducible repeat (first | refine blk_drewN ?_ _ | refine blk_drew ?_ | refine blk_alloc ?_ _)); refine blk_put (cs := #[.int .i64 (wrap64 (t218 - t226)), .int .i64 (wrap64 (t219 - t227)), .int .i64 0]) ?_ 2 _ rfl; (with_reducible repeat (first | refine blk_drewN ?_ _ | refine blk_drew ?_ | refine blk_alloc ?_ _)); refine blk_put (cs := #[.int .i64 (wrap64 (t218 - t226)), .int .i64 0, .int .i64 0]) ?_ 1 _ rfl; (with_reducible repeat (first | refine blk_drewN ?_ _ | refine blk_drew ?_ | refine blk_alloc ?_ _)); refine blk_put (cs := #[.int .i64 0, .int .i64 0, .int .i64 0]) ?_ 0 _ rfl; (with_reducible repeat (first | refine blk_drewN ?_ _ | refine blk_drew ?_ | refine blk_alloc ?_ _)); exact BK228.out⟩, ⟨by repeat (first | (with_reducible first | exact HB.out | apply below_alloc | apply pw_below_drewN | apply below_drew1 | refine below_set ?_ GE210.out | refine below_set ?_ GE211.out | refine below_set ?_ GE212.out | refine below_set ?_ GE213.out | refine below_set ?_ GE223.out | refine below_set ?_ GE224.out | refine below_set ?_ GE228.out) | exact HB.out)⟩⟩
              case round =>
                clear H'
                try clear c2
                try clear p2
                try clear c3
                try clear c4
                try clear c5
                try clear c6
                try clear p6
                try clear c7
                try clear c8
                try clear c9
                try clear c24
                try clear c25
                try clear c26
                try clear c27
                try clear c29
                try clear c30
                try clear c35
                try clear c36
                try clear c37
                try clear c38
                try clear c39
                try clear c41
                try clear c42
                try clear c43
                try clear c44
                try clear c57
                try clear c58
                try clear c59
                try clear c61
                try clear c62
                try clear p64
                try clear c67
                try clear c68
                try clear c69
                try clear c70
                try clear c71
                try clear c73
                try clear c74
                try clear c75
                try clear c76
                try clear c81
                try clear c90
                try clear c91
                try clear c92
                try clear c93
                try clear c94
                try clear c95
                try clear hcz28_0
                try clear hcz28_1
                try clear hcz28_2
                try clear hcz28_3
                try clear hcz28_4
                try clear hcz28_5
                try clear hcz28_6
                try clear hcz31_0
                try clear hcz31_1
                try clear hcz31_2
                try clear hcz40_0
                try clear hcz40_1
                try clear hcz40_2
                try clear hcz40_3
                try clear hcz45_0
                try clear hcz45_1
                try clear hcz45_2
                try clear hcz54_0
                try clear hcz54_1
                try clear hcz54_2
                try clear hcz55_0
                try clear hcz55_1
                try clear hcz55_2
                try clear hcz60_0
                try clear hcz60_1
                try clear hcz60_2
                try clear hcz60_3
                try clear hcz60_4
                try clear hcz60_5
                try clear hcz60_6
                try clear hcz63_0
                try clear hcz63_1
                try clear hcz63_2
                try clear hcz72_0
                try clear hcz72_1
                try clear hcz72_2
                try clear hcz72_3
                try clear hcz77_0
                try clear hcz77_1
                try clear hcz77_2
                try clear hcz86_0
                try clear hcz86_1
                try clear hcz86_2
                try clear hcz88_0
                try clear hcz88_1
                try clear hcz88_2
                try clear hcz96_0
                try clear hcz96_1
                try clear hcz96_2
                try clear hfz28_0
                try clear hfz28_1
                try clear hfz28_2
                try clear hfz28_3
                try clear hfz28_4
                try clear hfz28_5
                try clear hfz28_6
                try clear hfz31_0
                try clear hfz31_1
                try clear hfz31_2
                try clear hfz40_0
                try clear hfz40_1
                try clear hfz40_2
                try clear hfz40_3
                try clear hfz45_0
                try clear hfz45_1
                try clear hfz45_2
                try clear hfz54_0
                try clear hfz54_1
                try clear hfz54_2
                try clear hfz55_0
                try clear hfz55_1
                try clear hfz55_2
                try clear hfz60_0
                try clear hfz60_1
                try clear hfz60_2
                try clear hfz60_3
                try clear hfz60_4
                try clear hfz60_5
                try clear hfz60_6
                try clear hfz63_0
                try clear hfz63_1
                try clear hfz63_2
                try clear hfz72_0
                try clear hfz72_1
                try clear hfz72_2
                try clear hfz72_3
                try clear hfz77_0
                try clear hfz77_1
                try clear hfz77_2
                try clear hfz86_0
                try clear hfz86_1
                try clear hfz86_2
                try clear hfz88_0
                try clear hfz88_1
                try clear hfz88_2
                try clear hfz96_0
                try clear hfz96_1
                try clear hfz96_2
                obtain ⟨x214004_3, HA, HK3, BK210, BK211, BK212, BK213, BK223, BK224, BK228, HB⟩ := hrel
                cases gk with
                | zero => exact absurd HA.out (by simp [impl_Maze_pass.l1])
                | succ k3 =>
                  have H := HA.out
                  clear HA
                  simp only [impl_Maze_pass.l1] at H
                  replace H := Option.bind_eq_some_iff.mp H
                  obtain ⟨⟨t229, t230, t231⟩, A970, H⟩ := H
                  replace H : (if (!(t229 == (wrap64 (t218 - t226))) || (!(t230 == (wrap64 (t219 - t227))) || (!(t231 == (Int.tmod (wrap64 (t220 + 2)) 4))))) = true then (impl_Maze_pass.l1 k3 a0_0 a0_1 a0_2 a0_3 t214 t215 t216 t217 (wrap64 (x214004_3 + 1)) (wrap64 (x214005_2 + t225)) (wrap64 (x214006_2 + 1)) (wrap64 (t218 - t226)) (wrap64 (t219 - t227)) (Int.tmod (wrap64 (t220 + 2)) 4)) else (some (t214, t215, t216, t217, x214004_3, (wrap64 (x214005_2 + t225)), (wrap64 (x214006_2 + 1)), true))) = some (r1, r2, r3, r4, r5, r6, r7, r8) := H
                  have A97 := Aside0.mk A970
                  clear A970
                  by_cases c98 : (!(t229 == (wrap64 (t218 - t226))) || (!(t230 == (wrap64 (t219 - t227))) || (!(t231 == (Int.tmod (wrap64 (t220 + 2)) 4))))) = true
                  · rw [if_pos c98] at H
                    have c98b0 : (!(t229 == (wrap64 (t218 - t226))) || (!(t230 == (wrap64 (t219 - t227))) || (!(t231 == (Int.tmod (wrap64 (t220 + 2)) 4))))) = true := c98
                    clear c98
                    have H' := Aside0.mk H
                    clear H
                    try go_wp2
                    have n0_ := Aside0.mk (blk_drew BK210.out)
                    have n1_ := Aside0.mk (blk_drew BK211.out)
                    have n2_ := Aside0.mk (blk_drew BK212.out)
                    have n3_ := Aside0.mk (blk_drew BK213.out)
                    have n4_ := Aside0.mk (blk_drew BK223.out)
                    have n5_ := Aside0.mk (blk_drew BK224.out)
                    have n6_ := Aside0.mk (blk_drew BK228.out)
                    have n7_ := Aside0.mk (below_drew1 HB.out)
                    clear BK210
                    clear BK211
                    clear BK212
                    clear BK213
                    clear BK223
                    clear BK224
                    clear BK228
                    clear HB
                    have BK210 := n0_
                    have BK211 := n1_
                    have BK212 := n2_
                    have BK213 := n3_
                    have BK223 := n4_
                    have BK224 := n5_
                    have BK228 := n6_
                    have HB := n7_
                    clear n0_ n1_ n2_ n3_ n4_ n5_ n6_ n7_
                    refine start_ (n := 6) (S := fun w' => w'.cell? ⟨gb210, 0, none⟩ = some (.int .i64 a0_0) ∧ w'.cell? ⟨gb210, 1, none⟩ = some (.int .i64 a0_1) ∧ w'.cell? ⟨gb210, 2, none⟩ = some (.string a0_2) ∧ w'.cell? ⟨gb210, 3, none⟩ = some (.bool a0_3) ∧ w'.cell? ⟨gb213, 0, none⟩ = some (.int .i64 t214) ∧ w'.cell? ⟨gb213, 1, none⟩ = some (.int .i64 t215) ∧ w'.cell? ⟨gb213, 2, none⟩ = some (.string t216) ∧ w'.cell? ⟨gb213, 3, none⟩ = some (.bool t217) ∧ w'.cell? ⟨gb213, 4, none⟩ = some (.int .i64 x214004_3) ∧ w'.cell? ⟨gb213, 5, none⟩ = some (.int .i64 (wrap64 (x214005_2 + t225))) ∧ w'.cell? ⟨gb213, 6, none⟩ = some (.int .i64 (wrap64 (x214006_2 + 1))) ∧ w'.cell? ⟨gb228, 0, none⟩ = some (.int .i64 (wrap64 (t218 - t226))) ∧ w'.cell? ⟨gb228, 1, none⟩ = some (.int .i64 (wrap64 (t219 - t227))) ∧ w'.cell? ⟨gb228, 2, none⟩ = some (.int .i64 (Int.tmod (wrap64 (t220 + 2)) 4))) (ds := []) #[false, false, false, false, false, false] (by kernel_rfl) rfl rfl ⟨(blk_cell BK210.out 0).trans rfl, (blk_cell BK210.out 1).trans rfl, (blk_cell BK210.out 2).trans rfl, (blk_cell BK210.out 3).trans rfl, (blk_cell BK213.out 0).trans rfl, (blk_cell BK213.out 1).trans rfl, (blk_cell BK213.out 2).trans rfl, (blk_cell BK213.out 3).trans rfl, (blk_cell BK213.out 4).trans rfl, (blk_cell BK213.out 5).trans rfl, (blk_cell BK213.out 6).trans rfl, (blk_cell BK228.out 0).trans rfl, (blk_cell BK228.out 1).trans rfl, (blk_cell BK228.out 2).trans rfl⟩ (fun hHeld => ?_)
                    generalize wr.drew = w99 at BK210 BK211 BK212 BK213 BK223 BK224 BK228 HB hHeld ⊢
                    refine pure_ (i := 1) (N := some 71) (v := ?_) (a' := ?_) #[false, true, false, false, false, false] rfl rfl (by kernel_rfl) (fun _ _ _ h => h) (Or.inl ⟨by rfl, ?_⟩) ?_ ?_
                    rotate_left
                    · intro w'
                      go_simp
                      with_reducible rfl
                    rotate_left
                    · simp only [Act.put, List.setIfInBounds_toArray, List.set_cons_zero, List.set_cons_succ, i64_w, i32_w]
                      rfl
                    refine take_ (i := 0) (N := some 70) (v := ?_) (a' := ?_) #[true, true, false, false, false, false] rfl rfl (by kernel_rfl) (fun _ _ _ h => h) (Or.inl ⟨by rfl, ?_⟩) hHeld ?_ ?_
                    rotate_left
                    · rintro w' ⟨s0, s1, s2, s3, s4, s5, s6, s7, s8, s9, s10, s11, s12, s13⟩
                      go_simp
                      with_reducible rfl
                    rotate_left
                    · simp only [Act.put, List.setIfInBounds_toArray, List.set_cons_zero, List.set_cons_succ, i64_w, i32_w]
                      rfl
                    refine take_ (i := 2) (N := some 72) (v := ?_) (a' := ?_) #[true, true, true, false, false, false] rfl rfl (by kernel_rfl) (fun _ _ _ h => h) (Or.inl ⟨by rfl, ?_⟩) hHeld ?_ ?_
                    rotate_left
                    · rintro w' ⟨s0, s1, s2, s3, s4, s5, s6, s7, s8, s9, s10, s11, s12, s13⟩
                      go_simp
                      with_reducible rfl
                    rotate_left
                    · simp only [Act.put, List.setIfInBounds_toArray, List.set_cons_zero, List.set_cons_succ, i64_w, i32_w]
                      rfl
                    refine take_ (i := 4) (N := some 74) (v := ?_) (a' := ?_) #[true, true, true, false, true, false] rfl rfl (by kernel_rfl) (fun _ _ _ h => h) (Or.inl ⟨by rfl, ?_⟩) hHeld ?_ ?_
                    rotate_left
                    · rintro w' ⟨s0, s1, s2, s3, s4, s5, s6, s7, s8, s9, s10, s11, s12, s13⟩
                      go_simp
                      with_reducible rfl
                    rotate_left
                    · simp only [Act.put, List.setIfInBounds_toArray, List.set_cons_zero, List.set_cons_succ, i64_w, i32_w]
                      rfl
                    refine one_ (i := 3) (N := some 73) #[true, true, true, true, true, false] rfl rfl (by kernel_rfl) (by decide) (fun K hK => ?_)
                    refine goes_ Tryd.func55 (by kernel_rfl) rfl #[.agg #[.int .i64 a0_0, .int .i64 a0_1, .string a0_2, .bool a0_3], .int .i64 x214004_3] (by rfl) rfl rfl (by (try simp only [List.map_toArray, List.map_cons, List.map_nil]); first | done | rfl | (simp only [List.length_drop, List.length_take]; rfl)) ?_
                    with_reducible refine (impl_Maze_entry.calls a0_0 a0_1 a0_2 a0_3 x214004_3 t229 t230 t231 _ A97.out).mono ?_
                    rintro e w100 ⟨rfl, hb⟩
                    refine ⟨_, rfl, ?_⟩
                    have n0_ := Aside0.mk (blk_below (g := gb210) (o := .cells #[.int .i64 a0_0, .int .i64 a0_1, .string a0_2, .bool a0_3] 26 (0, 0)) (XSq.bq BK210) hb)
                    have n1_ := Aside0.mk (blk_below (g := gb211) (o := .cells #[.int .i64 x212000_2, .int .i64 x212001_2, .int .i64 x212002_2] 32 (0, 0)) (XSq.bq BK211) hb)
                    have n2_ := Aside0.mk (blk_below (g := gb212) (o := .cells #[.int .i64 x213000_2, .int .i64 x213001_2, .string x213002_2, .bool x213003_2, .int .i64 x213004_2, .int .i64 x213005_2, .int .i64 x213006_2] 71 (0, 0)) (XSq.bq BK212) hb)
                    have n3_ := Aside0.mk (blk_below (g := gb213) (o := .cells #[.int .i64 t214, .int .i64 t215, .string t216, .bool t217, .int .i64 x214004_3, .int .i64 (wrap64 (x214005_2 + t225)), .int .i64 (wrap64 (x214006_2 + 1))] 71 (0, 0)) (XSq.bq BK213) hb)
                    have n4_ := Aside0.mk (blk_below (g := gb223) (o := .cells #[.int .i64 t214, .int .i64 t215, .string t216, .bool t217] 26 (0, 0)) (XSq.bq BK223) hb)
                    have n5_ := Aside0.mk (blk_below (g := gb224) (o := .cells #[.int .i64 t218, .int .i64 t219, .int .i64 t220] 32 (0, 0)) (XSq.bq BK224) hb)
                    have n6_ := Aside0.mk (blk_below (g := gb228) (o := .cells #[.int .i64 (wrap64 (t218 - t226)), .int .i64 (wrap64 (t219 - t227)), .int .i64 (Int.tmod (wrap64 (t220 + 2)) 4)] 32 (0, 0)) (XSq.bq BK228) hb)
                    have n7_ := Aside0.mk (below_step (XSq.bB HB) hb)
                    clear BK210
                    clear BK211
                    clear BK212
                    clear BK213
                    clear BK223
                    clear BK224
                    clear BK228
                    clear HB
                    have BK210 := n0_
                    have BK211 := n1_
                    have BK212 := n2_
                    have BK213 := n3_
                    have BK223 := n4_
                    have BK224 := n5_
                    have BK228 := n6_
                    have HB := n7_
                    clear n0_ n1_ n2_ n3_ n4_ n5_ n6_ n7_
                    (try clear hb)
                    (try clear hb2)
                    (try clear hk)
                    (try clear hi)
                    refine hK.out _ _ ⟨(blk_cell BK210.out 0).trans rfl, (blk_cell BK210.out 1).trans rfl, (blk_cell BK210.out 2).trans rfl, (blk_cell BK210.out 3).trans rfl, (blk_cell BK213.out 0).trans rfl, (blk_cell BK213.out 1).trans rfl, (blk_cell BK213.out 2).trans rfl, (blk_cell BK213.out 3).trans rfl, (blk_cell BK213.out 4).trans rfl, (blk_cell BK213.out 5).trans rfl, (blk_cell BK213.out 6).trans rfl, (blk_cell BK228.out 0).trans rfl, (blk_cell BK228.out 1).trans rfl, (blk_cell BK228.out 2).trans rfl⟩ (fun hHeld => ?_)
                    clear hK K
                    refine norm_ (a' := ?_) ?_ ?_
                    rotate_left
                    · show Act.put _ (some 73) _ = _
                      simp only [Act.put, List.setIfInBounds_toArray, List.set_cons_zero, List.set_cons_succ, i64_w, i32_w]
                      rfl
                    refine pure_ (i := 5) (N := some 75) (v := ?_) (a' := ?_) #[true, true, true, true, true, true] rfl rfl (by kernel_rfl) (fun _ _ _ h => h) (Or.inl ⟨by rfl, ?_⟩) ?_ ?_
                    rotate_left
                    · intro w'
                      go_simp
                      with_reducible rfl
                    rotate_left
                    · simp only [Act.put, List.setIfInBounds_toArray, List.set_cons_zero, List.set_cons_succ, i64_w, i32_w]
                      rfl
                    refine done_ (by kernel_rfl) ?_
                    have hnb101 := NB213_210.out
                    have hnc101 := NB210_213.out
                    have hnb102 := NB213_211.out
                    have hnc102 := NB211_213.out
                    have hnb103 := NB213_212.out
                    have hnc103 := NB212_213.out
                    have hnb104 := NB213_223.out
                    have hnc104 := NB223_213.out
                    have hnb105 := NB213_224.out
                    have hnc105 := NB224_213.out
                    have hnb106 := NB213_228.out
                    have hnc106 := NB228_213.out
                    have hcz107_0 : w100.cell? ⟨gb213, 0, none⟩ = some (.int .i64 t214) := (blk_cell BK213.out 0).trans rfl
                    have hcz107_1 : w100.cell? ⟨gb213, 1, none⟩ = some (.int .i64 t215) := (blk_cell BK213.out 1).trans rfl
                    have hcz107_2 : w100.cell? ⟨gb213, 2, none⟩ = some (.string t216) := (blk_cell BK213.out 2).trans rfl
                    have hcz107_3 : w100.cell? ⟨gb213, 3, none⟩ = some (.bool t217) := (blk_cell BK213.out 3).trans rfl
                    have hcz107_4 : w100.cell? ⟨gb213, 4, none⟩ = some (.int .i64 x214004_3) := (blk_cell BK213.out 4).trans rfl
                    have hcz107_5 : w100.cell? ⟨gb213, 5, none⟩ = some (.int .i64 (wrap64 (x214005_2 + t225))) := (blk_cell BK213.out 5).trans rfl
                    have hcz107_6 : w100.cell? ⟨gb213, 6, none⟩ = some (.int .i64 (wrap64 (x214006_2 + 1))) := (blk_cell BK213.out 6).trans rfl
                    have hfz107_0 := blk_frozen BK213.out 0
                    have hfz107_1 := blk_frozen BK213.out 1
                    have hfz107_2 := blk_frozen BK213.out 2
                    have hfz107_3 := blk_frozen BK213.out 3
                    have hfz107_4 := blk_frozen BK213.out 4
                    have hfz107_5 := blk_frozen BK213.out 5
                    have hfz107_6 := blk_frozen BK213.out 6
                    try go_wp2
                    go_roundg k3
                    case measure => have := HJ2.out; have := HK2.out; have := HK3.out; omega
                    case rel => exact ⟨(wrap64 (x214004_3 + 1)), H', ⟨by have := HJ2.out; have := HK2.out; have := HK3.out; omega⟩, ⟨by (with_reducible repeat (first | refine blk_drewN ?_ _ | refine blk_drew ?_ | refine blk_alloc ?_ _)); refine blk_far ?_ NB210_213.out _; (with_reducible repeat (first | refine blk_drewN ?_ _ | refine blk_drew ?_ | refine blk_alloc ?_ _)); exact BK210.out⟩, ⟨by (with_reducible repeat (first | refine blk_drewN ?_ _ | refine blk_drew ?_ | refine blk_alloc ?_ _)); refine blk_far ?_ NB211_213.out _; (with_reducible repeat (first | refine blk_drewN ?_ _ | refine blk_drew ?_ | refine blk_alloc ?_ _)); exact BK211.out⟩, ⟨by (with_reducible repeat (first | refine blk_drewN ?_ _ | refine blk_drew ?_ | refine blk_alloc ?_ _)); refine blk_far ?_ NB212_213.out _; (with_reducible repeat (first | refine blk_drewN ?_ _ | refine blk_drew ?_ | refine blk_alloc ?_ _)); exact BK212.out⟩, ⟨by (with_reducible repeat (first | refine blk_drewN ?_ _ | refine blk_drew ?_ | refine blk_alloc ?_ _)); refine blk_put (cs := #[.int .i64 t214, .int .i64 t215, .string t216, .bool t217, .int .i64 x214004_3, .int .i64 (wrap64 (x214005_2 + t225)), .int .i64 (wrap64 (x214006_2 + 1))]) ?_ 4 _ rfl; (with_reducible repeat (first | refine blk_drewN ?_ _ | refine blk_drew ?_ | refine blk_alloc ?_ _)); exact BK213.out⟩, ⟨by (with_reducible repeat (first | refine blk_drewN ?_ _ | refine blk_drew ?_ | refine blk_alloc ?_ _)); refine blk_far ?_ NB223_213.out _; (with_reducible repeat (first | refine blk_drewN ?_ _ | refine blk_drew ?_ | refine blk_alloc ?_ _)); exact BK223.out⟩, ⟨by (with_reducible repeat (first | refine blk_drewN ?_ _ | refine blk_drew ?_ | refine blk_alloc ?_ _)); refine blk_far ?_ NB224_213.out _; (with_reducible repeat (first | refine blk_drewN ?_ _ | refine blk_drew ?_ | refine blk_alloc ?_ _)); exact BK224.out⟩, ⟨by (with_reducible repeat (first | refine blk_drewN ?_ _ | refine blk_drew ?_ | refine blk_alloc ?_ _)); refine blk_far ?_ NB228_213.out _; (with_reducible repeat (first | refine blk_drewN ?_ _ | refine blk_drew ?_ | refine blk_alloc ?_ _)); exact BK228.out⟩, ⟨by repeat (first | (with_reducible first | exact HB.out | apply below_alloc | apply pw_below_drewN | apply below_drew1 | refine below_set ?_ GE210.out | refine below_set ?_ GE211.out | refine below_set ?_ GE212.out | refine below_set ?_ GE213.out | refine below_set ?_ GE223.out | refine below_set ?_ GE224.out | refine below_set ?_ GE228.out) | exact HB.out)⟩⟩
                  · rw [if_neg c98] at H
                    have c98b0 : (!(t229 == (wrap64 (t218 - t226))) || (!(t230 == (wrap64 (t219 - t227))) || (!(t231 == (Int.tmod (wrap64 (t220 + 2)) 4))))) = false := by simpa using c98
                    clear c98
                    simp only [Option.some.injEq, Prod.mk.injEq] at H
                    obtain ⟨rfl, rfl, rfl, rfl, rfl, rfl, rfl, rfl⟩ := H
                    try go_wp2
                    have n0_ := Aside0.mk (blk_drew BK210.out)
                    have n1_ := Aside0.mk (blk_drew BK211.out)
                    have n2_ := Aside0.mk (blk_drew BK212.out)
                    have n3_ := Aside0.mk (blk_drew BK213.out)
                    have n4_ := Aside0.mk (blk_drew BK223.out)
                    have n5_ := Aside0.mk (blk_drew BK224.out)
                    have n6_ := Aside0.mk (blk_drew BK228.out)
                    have n7_ := Aside0.mk (below_drew1 HB.out)
                    clear BK210
                    clear BK211
                    clear BK212
                    clear BK213
                    clear BK223
                    clear BK224
                    clear BK228
                    clear HB
                    have BK210 := n0_
                    have BK211 := n1_
                    have BK212 := n2_
                    have BK213 := n3_
                    have BK223 := n4_
                    have BK224 := n5_
                    have BK228 := n6_
                    have HB := n7_
                    clear n0_ n1_ n2_ n3_ n4_ n5_ n6_ n7_
                    refine start_ (n := 6) (S := fun w' => w'.cell? ⟨gb210, 0, none⟩ = some (.int .i64 a0_0) ∧ w'.cell? ⟨gb210, 1, none⟩ = some (.int .i64 a0_1) ∧ w'.cell? ⟨gb210, 2, none⟩ = some (.string a0_2) ∧ w'.cell? ⟨gb210, 3, none⟩ = some (.bool a0_3) ∧ w'.cell? ⟨gb213, 0, none⟩ = some (.int .i64 t214) ∧ w'.cell? ⟨gb213, 1, none⟩ = some (.int .i64 t215) ∧ w'.cell? ⟨gb213, 2, none⟩ = some (.string t216) ∧ w'.cell? ⟨gb213, 3, none⟩ = some (.bool t217) ∧ w'.cell? ⟨gb213, 4, none⟩ = some (.int .i64 x214004_3) ∧ w'.cell? ⟨gb213, 5, none⟩ = some (.int .i64 (wrap64 (x214005_2 + t225))) ∧ w'.cell? ⟨gb213, 6, none⟩ = some (.int .i64 (wrap64 (x214006_2 + 1))) ∧ w'.cell? ⟨gb228, 0, none⟩ = some (.int .i64 (wrap64 (t218 - t226))) ∧ w'.cell? ⟨gb228, 1, none⟩ = some (.int .i64 (wrap64 (t219 - t227))) ∧ w'.cell? ⟨gb228, 2, none⟩ = some (.int .i64 (Int.tmod (wrap64 (t220 + 2)) 4))) (ds := []) #[false, false, false, false, false, false] (by kernel_rfl) rfl rfl ⟨(blk_cell BK210.out 0).trans rfl, (blk_cell BK210.out 1).trans rfl, (blk_cell BK210.out 2).trans rfl, (blk_cell BK210.out 3).trans rfl, (blk_cell BK213.out 0).trans rfl, (blk_cell BK213.out 1).trans rfl, (blk_cell BK213.out 2).trans rfl, (blk_cell BK213.out 3).trans rfl, (blk_cell BK213.out 4).trans rfl, (blk_cell BK213.out 5).trans rfl, (blk_cell BK213.out 6).trans rfl, (blk_cell BK228.out 0).trans rfl, (blk_cell BK228.out 1).trans rfl, (blk_cell BK228.out 2).trans rfl⟩ (fun hHeld => ?_)
                    generalize wr.drew = w108 at BK210 BK211 BK212 BK213 BK223 BK224 BK228 HB hHeld ⊢
                    refine pure_ (i := 1) (N := some 71) (v := ?_) (a' := ?_) #[false, true, false, false, false, false] rfl rfl (by kernel_rfl) (fun _ _ _ h => h) (Or.inl ⟨by rfl, ?_⟩) ?_ ?_
                    rotate_left
                    · intro w'
                      go_simp
                      with_reducible rfl
                    rotate_left
                    · simp only [Act.put, List.setIfInBounds_toArray, List.set_cons_zero, List.set_cons_succ, i64_w, i32_w]
                      rfl
                    refine take_ (i := 0) (N := some 70) (v := ?_) (a' := ?_) #[true, true, false, false, false, false] rfl rfl (by kernel_rfl) (fun _ _ _ h => h) (Or.inl ⟨by rfl, ?_⟩) hHeld ?_ ?_
                    rotate_left
                    · rintro w' ⟨s0, s1, s2, s3, s4, s5, s6, s7, s8, s9, s10, s11, s12, s13⟩
                      go_simp
                      with_reducible rfl
                    rotate_left
                    · simp only [Act.put, List.setIfInBounds_toArray, List.set_cons_zero, List.set_cons_succ, i64_w, i32_w]
                      rfl
                    refine take_ (i := 2) (N := some 72) (v := ?_) (a' := ?_) #[true, true, true, false, false, false] rfl rfl (by kernel_rfl) (fun _ _ _ h => h) (Or.inl ⟨by rfl, ?_⟩) hHeld ?_ ?_
                    rotate_left
                    · rintro w' ⟨s0, s1, s2, s3, s4, s5, s6, s7, s8, s9, s10, s11, s12, s13⟩
                      go_simp
                      with_reducible rfl
                    rotate_left
                    · simp only [Act.put, List.setIfInBounds_toArray, List.set_cons_zero, List.set_cons_succ, i64_w, i32_w]
                      rfl
                    refine take_ (i := 4) (N := some 74) (v := ?_) (a' := ?_) #[true, true, true, false, true, false] rfl rfl (by kernel_rfl) (fun _ _ _ h => h) (Or.inl ⟨by rfl, ?_⟩) hHeld ?_ ?_
                    rotate_left
                    · rintro w' ⟨s0, s1, s2, s3, s4, s5, s6, s7, s8, s9, s10, s11, s12, s13⟩
                      go_simp
                      with_reducible rfl
                    rotate_left
                    · simp only [Act.put, List.setIfInBounds_toArray, List.set_cons_zero, List.set_cons_succ, i64_w, i32_w]
                      rfl
                    refine one_ (i := 3) (N := some 73) #[true, true, true, true, true, false] rfl rfl (by kernel_rfl) (by decide) (fun K hK => ?_)
                    refine goes_ Tryd.func55 (by kernel_rfl) rfl #[.agg #[.int .i64 a0_0, .int .i64 a0_1, .string a0_2, .bool a0_3], .int .i64 x214004_3] (by rfl) rfl rfl (by (try simp only [List.map_toArray, List.map_cons, List.map_nil]); first | done | rfl | (simp only [List.length_drop, List.length_take]; rfl)) ?_
                    with_reducible refine (impl_Maze_entry.calls a0_0 a0_1 a0_2 a0_3 x214004_3 t229 t230 t231 _ A97.out).mono ?_
                    rintro e w109 ⟨rfl, hb⟩
                    refine ⟨_, rfl, ?_⟩
                    have n0_ := Aside0.mk (blk_below (g := gb210) (o := .cells #[.int .i64 a0_0, .int .i64 a0_1, .string a0_2, .bool a0_3] 26 (0, 0)) (XSq.bq BK210) hb)
                    have n1_ := Aside0.mk (blk_below (g := gb211) (o := .cells #[.int .i64 x212000_2, .int .i64 x212001_2, .int .i64 x212002_2] 32 (0, 0)) (XSq.bq BK211) hb)
                    have n2_ := Aside0.mk (blk_below (g := gb212) (o := .cells #[.int .i64 x213000_2, .int .i64 x213001_2, .string x213002_2, .bool x213003_2, .int .i64 x213004_2, .int .i64 x213005_2, .int .i64 x213006_2] 71 (0, 0)) (XSq.bq BK212) hb)
                    have n3_ := Aside0.mk (blk_below (g := gb213) (o := .cells #[.int .i64 t214, .int .i64 t215, .string t216, .bool t217, .int .i64 x214004_3, .int .i64 (wrap64 (x214005_2 + t225)), .int .i64 (wrap64 (x214006_2 + 1))] 71 (0, 0)) (XSq.bq BK213) hb)
                    have n4_ := Aside0.mk (blk_below (g := gb223) (o := .cells #[.int .i64 t214, .int .i64 t215, .string t216, .bool t217] 26 (0, 0)) (XSq.bq BK223) hb)
                    have n5_ := Aside0.mk (blk_below (g := gb224) (o := .cells #[.int .i64 t218, .int .i64 t219, .int .i64 t220] 32 (0, 0)) (XSq.bq BK224) hb)
                    have n6_ := Aside0.mk (blk_below (g := gb228) (o := .cells #[.int .i64 (wrap64 (t218 - t226)), .int .i64 (wrap64 (t219 - t227)), .int .i64 (Int.tmod (wrap64 (t220 + 2)) 4)] 32 (0, 0)) (XSq.bq BK228) hb)
                    have n7_ := Aside0.mk (below_step (XSq.bB HB) hb)
                    clear BK210
                    clear BK211
                    clear BK212
                    clear BK213
                    clear BK223
                    clear BK224
                    clear BK228
                    clear HB
                    have BK210 := n0_
                    have BK211 := n1_
                    have BK212 := n2_
                    have BK213 := n3_
                    have BK223 := n4_
                    have BK224 := n5_
                    have BK228 := n6_
                    have HB := n7_
                    clear n0_ n1_ n2_ n3_ n4_ n5_ n6_ n7_
                    (try clear hb)
                    (try clear hb2)
                    (try clear hk)
                    (try clear hi)
                    refine hK.out _ _ ⟨(blk_cell BK210.out 0).trans rfl, (blk_cell BK210.out 1).trans rfl, (blk_cell BK210.out 2).trans rfl, (blk_cell BK210.out 3).trans rfl, (blk_cell BK213.out 0).trans rfl, (blk_cell BK213.out 1).trans rfl, (blk_cell BK213.out 2).trans rfl, (blk_cell BK213.out 3).trans rfl, (blk_cell BK213.out 4).trans rfl, (blk_cell BK213.out 5).trans rfl, (blk_cell BK213.out 6).trans rfl, (blk_cell BK228.out 0).trans rfl, (blk_cell BK228.out 1).trans rfl, (blk_cell BK228.out 2).trans rfl⟩ (fun hHeld => ?_)
                    clear hK K
                    refine norm_ (a' := ?_) ?_ ?_
                    rotate_left
                    · show Act.put _ (some 73) _ = _
                      simp only [Act.put, List.setIfInBounds_toArray, List.set_cons_zero, List.set_cons_succ, i64_w, i32_w]
                      rfl
                    refine pure_ (i := 5) (N := some 75) (v := ?_) (a' := ?_) #[true, true, true, true, true, true] rfl rfl (by kernel_rfl) (fun _ _ _ h => h) (Or.inl ⟨by rfl, ?_⟩) ?_ ?_
                    rotate_left
                    · intro w'
                      go_simp
                      with_reducible rfl
                    rotate_left
                    · simp only [Act.put, List.setIfInBounds_toArray, List.set_cons_zero, List.set_cons_succ, i64_w, i32_w]
                      rfl
                    refine done_ (by kernel_rfl) ?_
                    have hnb110 := NB213_210.out
                    have hnc110 := NB210_213.out
                    have hnb111 := NB213_211.out
                    have hnc111 := NB211_213.out
                    have hnb112 := NB213_212.out
                    have hnc112 := NB212_213.out
                    have hnb113 := NB213_223.out
                    have hnc113 := NB223_213.out
                    have hnb114 := NB213_224.out
                    have hnc114 := NB224_213.out
                    have hnb115 := NB213_228.out
                    have hnc115 := NB228_213.out
                    have hcz116_0 : w109.cell? ⟨gb213, 0, none⟩ = some (.int .i64 t214) := (blk_cell BK213.out 0).trans rfl
                    have hcz116_1 : w109.cell? ⟨gb213, 1, none⟩ = some (.int .i64 t215) := (blk_cell BK213.out 1).trans rfl
                    have hcz116_2 : w109.cell? ⟨gb213, 2, none⟩ = some (.string t216) := (blk_cell BK213.out 2).trans rfl
                    have hcz116_3 : w109.cell? ⟨gb213, 3, none⟩ = some (.bool t217) := (blk_cell BK213.out 3).trans rfl
                    have hcz116_4 : w109.cell? ⟨gb213, 4, none⟩ = some (.int .i64 x214004_3) := (blk_cell BK213.out 4).trans rfl
                    have hcz116_5 : w109.cell? ⟨gb213, 5, none⟩ = some (.int .i64 (wrap64 (x214005_2 + t225))) := (blk_cell BK213.out 5).trans rfl
                    have hcz116_6 : w109.cell? ⟨gb213, 6, none⟩ = some (.int .i64 (wrap64 (x214006_2 + 1))) := (blk_cell BK213.out 6).trans rfl
                    have hfz116_0 := blk_frozen BK213.out 0
                    have hfz116_1 := blk_frozen BK213.out 1
                    have hfz116_2 := blk_frozen BK213.out 2
                    have hfz116_3 := blk_frozen BK213.out 3
                    have hfz116_4 := blk_frozen BK213.out 4
                    have hfz116_5 := blk_frozen BK213.out 5
                    have hfz116_6 := blk_frozen BK213.out 6
                    have hnb117 := NB212_210.out
                    have hnc117 := NB210_212.out
                    have hnb118 := NB212_211.out
                    have hnc118 := NB211_212.out
                    have hnb119 := NB212_223.out
                    have hnc119 := NB223_212.out
                    have hnb120 := NB212_224.out
                    have hnc120 := NB224_212.out
                    have hnb121 := NB212_228.out
                    have hnc121 := NB228_212.out
                    have hcz122_0 : w109.cell? ⟨gb212, 0, none⟩ = some (.int .i64 x213000_2) := (blk_cell BK212.out 0).trans rfl
                    have hcz122_1 : w109.cell? ⟨gb212, 1, none⟩ = some (.int .i64 x213001_2) := (blk_cell BK212.out 1).trans rfl
                    have hcz122_2 : w109.cell? ⟨gb212, 2, none⟩ = some (.string x213002_2) := (blk_cell BK212.out 2).trans rfl
                    have hcz122_3 : w109.cell? ⟨gb212, 3, none⟩ = some (.bool x213003_2) := (blk_cell BK212.out 3).trans rfl
                    have hcz122_4 : w109.cell? ⟨gb212, 4, none⟩ = some (.int .i64 x213004_2) := (blk_cell BK212.out 4).trans rfl
                    have hcz122_5 : w109.cell? ⟨gb212, 5, none⟩ = some (.int .i64 x213005_2) := (blk_cell BK212.out 5).trans rfl
                    have hcz122_6 : w109.cell? ⟨gb212, 6, none⟩ = some (.int .i64 x213006_2) := (blk_cell BK212.out 6).trans rfl
                    have hfz122_0 := blk_frozen BK212.out 0
                    have hfz122_1 := blk_frozen BK212.out 1
                    have hfz122_2 := blk_frozen BK212.out 2
                    have hfz122_3 := blk_frozen BK212.out 3
                    have hfz122_4 := blk_frozen BK212.out 4
                    have hfz122_5 := blk_frozen BK212.out 5
                    have hfz122_6 := blk_frozen BK212.out 6
                    try go_wp2
                    refine bodyPost_ret (results_ct rfl _ _ gb212 71 #[.int .i64 t214, .int .i64 t215, .string t216, .bool t217, .int .i64 x214004_3, .int .i64 (wrap64 (x214005_2 + t225)), .int .i64 (wrap64 (x214006_2 + 1))] (0, 0) _ rfl (by (with_reducible repeat (first | refine blk_drewN ?_ _ | refine blk_drew ?_ | refine blk_alloc ?_ _)); refine blk_put (cs := #[.int .i64 t214, .int .i64 t215, .string t216, .bool t217, .int .i64 x214004_3, .int .i64 (wrap64 (x214005_2 + t225)), .int .i64 x213006_2]) ?_ 6 _ rfl; (with_reducible repeat (first | refine blk_drewN ?_ _ | refine blk_drew ?_ | refine blk_alloc ?_ _)); refine blk_put (cs := #[.int .i64 t214, .int .i64 t215, .string t216, .bool t217, .int .i64 x214004_3, .int .i64 x213005_2, .int .i64 x213006_2]) ?_ 5 _ rfl; (with_reducible repeat (first | refine blk_drewN ?_ _ | refine blk_drew ?_ | refine blk_alloc ?_ _)); refine blk_put (cs := #[.int .i64 t214, .int .i64 t215, .string t216, .bool t217, .int .i64 x213004_2, .int .i64 x213005_2, .int .i64 x213006_2]) ?_ 4 _ rfl; (with_reducible repeat (first | refine blk_drewN ?_ _ | refine blk_drew ?_ | refine blk_alloc ?_ _)); refine blk_put (cs := #[.int .i64 t214, .int .i64 t215, .string t216, .bool x213003_2, .int .i64 x213004_2, .int .i64 x213005_2, .int .i64 x213006_2]) ?_ 3 _ rfl; (with_reducible repeat (first | refine blk_drewN ?_ _ | refine blk_drew ?_ | refine blk_alloc ?_ _)); refine blk_put (cs := #[.int .i64 t214, .int .i64 t215, .string x213002_2, .bool x213003_2, .int .i64 x213004_2, .int .i64 x213005_2, .int .i64 x213006_2]) ?_ 2 _ rfl; (with_reducible repeat (first | refine blk_drewN ?_ _ | refine blk_drew ?_ | refine blk_alloc ?_ _)); refine blk_put (cs := #[.int .i64 t214, .int .i64 x213001_2, .string x213002_2, .bool x213003_2, .int .i64 x213004_2, .int .i64 x213005_2, .int .i64 x213006_2]) ?_ 1 _ rfl; (with_reducible repeat (first | refine blk_drewN ?_ _ | refine blk_drew ?_ | refine blk_alloc ?_ _)); refine blk_put (cs := #[.int .i64 x213000_2, .int .i64 x213001_2, .string x213002_2, .bool x213003_2, .int .i64 x213004_2, .int .i64 x213005_2, .int .i64 x213006_2]) ?_ 0 _ rfl; (with_reducible repeat (first | refine blk_drewN ?_ _ | refine blk_drew ?_ | refine blk_alloc ?_ _)); exact BK212.out) Tryd.underlying71 rfl (by kernel_rfl)) rfl ?_
                    exact ⟨by first | rfl | (simp [errW_none, errW_some] <;> rfl) | (simp [*, errW_none, errW_some] <;> rfl), by repeat (first | (with_reducible first | exact HB.out | apply below_alloc | apply pw_below_drewN | apply below_drew1 | refine below_set ?_ GE210.out | refine below_set ?_ GE211.out | refine below_set ?_ GE212.out | refine below_set ?_ GE213.out | refine below_set ?_ GE223.out | refine below_set ?_ GE224.out | refine below_set ?_ GE228.out) | exact HB.out)⟩
          · rw [if_neg c21] at H
            have c21b0 : decide (x214006_2 < x7_2) = false := decide_eq_false c21
            clear c21
            simp only [Option.some.injEq, Prod.mk.injEq] at H
            obtain ⟨rfl, rfl, rfl, rfl, rfl, rfl, rfl, rfl⟩ := H
            have hnb123 := NB213_210.out
            have hnc123 := NB210_213.out
            have hnb124 := NB213_211.out
            have hnc124 := NB211_213.out
            have hnb125 := NB213_212.out
            have hnc125 := NB212_213.out
            have hcz126_0 : wr.cell? ⟨gb213, 0, none⟩ = some (.int .i64 x214000_2) := (blk_cell BK213.out 0).trans rfl
            have hcz126_1 : wr.cell? ⟨gb213, 1, none⟩ = some (.int .i64 x214001_2) := (blk_cell BK213.out 1).trans rfl
            have hcz126_2 : wr.cell? ⟨gb213, 2, none⟩ = some (.string x214002_2) := (blk_cell BK213.out 2).trans rfl
            have hcz126_3 : wr.cell? ⟨gb213, 3, none⟩ = some (.bool x214003_2) := (blk_cell BK213.out 3).trans rfl
            have hcz126_4 : wr.cell? ⟨gb213, 4, none⟩ = some (.int .i64 x214004_2) := (blk_cell BK213.out 4).trans rfl
            have hcz126_5 : wr.cell? ⟨gb213, 5, none⟩ = some (.int .i64 x214005_2) := (blk_cell BK213.out 5).trans rfl
            have hcz126_6 : wr.cell? ⟨gb213, 6, none⟩ = some (.int .i64 x214006_2) := (blk_cell BK213.out 6).trans rfl
            have hfz126_0 := blk_frozen BK213.out 0
            have hfz126_1 := blk_frozen BK213.out 1
            have hfz126_2 := blk_frozen BK213.out 2
            have hfz126_3 := blk_frozen BK213.out 3
            have hfz126_4 := blk_frozen BK213.out 4
            have hfz126_5 := blk_frozen BK213.out 5
            have hfz126_6 := blk_frozen BK213.out 6
            have hnb127 := NB212_210.out
            have hnc127 := NB210_212.out
            have hnb128 := NB212_211.out
            have hnc128 := NB211_212.out
            have hcz129_0 : wr.cell? ⟨gb212, 0, none⟩ = some (.int .i64 x213000_2) := (blk_cell BK212.out 0).trans rfl
            have hcz129_1 : wr.cell? ⟨gb212, 1, none⟩ = some (.int .i64 x213001_2) := (blk_cell BK212.out 1).trans rfl
            have hcz129_2 : wr.cell? ⟨gb212, 2, none⟩ = some (.string x213002_2) := (blk_cell BK212.out 2).trans rfl
            have hcz129_3 : wr.cell? ⟨gb212, 3, none⟩ = some (.bool x213003_2) := (blk_cell BK212.out 3).trans rfl
            have hcz129_4 : wr.cell? ⟨gb212, 4, none⟩ = some (.int .i64 x213004_2) := (blk_cell BK212.out 4).trans rfl
            have hcz129_5 : wr.cell? ⟨gb212, 5, none⟩ = some (.int .i64 x213005_2) := (blk_cell BK212.out 5).trans rfl
            have hcz129_6 : wr.cell? ⟨gb212, 6, none⟩ = some (.int .i64 x213006_2) := (blk_cell BK212.out 6).trans rfl
            have hfz129_0 := blk_frozen BK212.out 0
            have hfz129_1 := blk_frozen BK212.out 1
            have hfz129_2 := blk_frozen BK212.out 2
            have hfz129_3 := blk_frozen BK212.out 3
            have hfz129_4 := blk_frozen BK212.out 4
            have hfz129_5 := blk_frozen BK212.out 5
            have hfz129_6 := blk_frozen BK212.out 6
            go_wp2
            refine bodyPost_ret (results_ct rfl _ _ gb212 71 #[.int .i64 0, .int .i64 0, .string (⟨#[]⟩ : ByteArray), .bool false, .int .i64 0, .int .i64 0, .int .i64 0] (0, 0) _ rfl (by (with_reducible repeat (first | refine blk_drewN ?_ _ | refine blk_drew ?_ | refine blk_alloc ?_ _)); refine blk_put (cs := #[.int .i64 0, .int .i64 0, .string (⟨#[]⟩ : ByteArray), .bool false, .int .i64 0, .int .i64 0, .int .i64 x213006_2]) ?_ 6 _ rfl; (with_reducible repeat (first | refine blk_drewN ?_ _ | refine blk_drew ?_ | refine blk_alloc ?_ _)); refine blk_put (cs := #[.int .i64 0, .int .i64 0, .string (⟨#[]⟩ : ByteArray), .bool false, .int .i64 0, .int .i64 x213005_2, .int .i64 x213006_2]) ?_ 5 _ rfl; (with_reducible repeat (first | refine blk_drewN ?_ _ | refine blk_drew ?_ | refine blk_alloc ?_ _)); refine blk_put (cs := #[.int .i64 0, .int .i64 0, .string (⟨#[]⟩ : ByteArray), .bool false, .int .i64 x213004_2, .int .i64 x213005_2, .int .i64 x213006_2]) ?_ 4 _ rfl; (with_reducible repeat (first | refine blk_drewN ?_ _ | refine blk_drew ?_ | refine blk_alloc ?_ _)); refine blk_put (cs := #[.int .i64 0, .int .i64 0, .string (⟨#[]⟩ : ByteArray), .bool x213003_2, .int .i64 x213004_2, .int .i64 x213005_2, .int .i64 x213006_2]) ?_ 3 _ rfl; (with_reducible repeat (first | refine blk_drewN ?_ _ | refine blk_drew ?_ | refine blk_alloc ?_ _)); refine blk_put (cs := #[.int .i64 0, .int .i64 0, .string x213002_2, .bool x213003_2, .int .i64 x213004_2, .int .i64 x213005_2, .int .i64 x213006_2]) ?_ 2 _ rfl; (with_reducible repeat (first | refine blk_drewN ?_ _ | refine blk_drew ?_ | refine blk_alloc ?_ _)); refine blk_put (cs := #[.int .i64 0, .int .i64 x213001_2, .string x213002_2, .bool x213003_2, .int .i64 x213004_2, .int .i64 x213005_2, .int .i64 x213006_2]) ?_ 1 _ rfl; (with_reducible repeat (first | refine blk_drewN ?_ _ | refine blk_drew ?_ | refine blk_alloc ?_ _)); refine blk_put (cs := #[.int .i64 x213000_2, .int .i64 x213001_2, .string x213002_2, .bool x213003_2, .int .i64 x213004_2, .int .i64 x213005_2, .int .i64 x213006_2]) ?_ 0 _ rfl; (with_reducible repeat (first | refine blk_drewN ?_ _ | refine blk_drew ?_ | refine blk_alloc ?_ _)); exact BK212.out) Tryd.underlying71 rfl (by kernel_rfl)) rfl ?_
            exact ⟨by first | rfl | (simp [errW_none, errW_some] <;> rfl) | (simp [*, errW_none, errW_some] <;> rfl), by repeat (first | (with_reducible first | exact HB.out | apply below_alloc | apply pw_below_drewN | apply below_drew1 | refine below_set ?_ GE210.out | refine below_set ?_ GE211.out | refine below_set ?_ GE212.out | refine below_set ?_ GE213.out) | exact HB.out)⟩

end Go.Proofs.YthmokfnejjiplaaDoor.PFnExactExitsInTurn
