-- Made by wip/tools/xkit.py (a program of this session's) with the kit's printer.
import Derived.Test.YthmokfnejjiplaaDoorPFnExactBallsUntilSamex0
import Derived.Test.YthmokfnejjiplaaDoorPFnExactBallsUntilSamex1
import Derived.Test.YthmokfnejjiplaaDoorPFnExactBallsUntilSamex7
import Derived.Test.YthmokfnejjiplaaDoorPFnExactBallsUntilSamex8
import Derived.Test.YthmokfnejjiplaaDoorPFnExactBallsUntilSamex11
namespace Go.Proofs.YthmokfnejjiplaaDoor.PFnExactBallsUntilSame
open Go.RowKit Go.Proofs.YthmokfnejjiplaaDoorW.PrintWords Go.Proofs.YthmokfnejjiplaaDoorW.PrintLast Go.Proofs.YthmokfnejjiplaaDoorW.PrintMore
attribute [local go_sem] max2_int min2_int max_two min_two max_three min_three max_four min_four   -- for this text's walks alone
set_option linter.unusedVariables false
set_option linter.unusedSimpArgs false

attribute [local go_sem high] eqA26
/-! ### impl_BallsUntilSame: function 37 -/
mutual
def impl_BallsUntilSame.j0 : Nat → Int → Bool → Int → Int → ByteArray → Bool → Option (Int × Bool)
  | 0, _, _, _, _, _, _ => none
  | k + 1, x1, x18, x225000, x225001, x225002, x225003 => if x18 = true then (some (0, false)) else (impl_BallsUntilSame.l0 k x1 1 x225000 x225001 x225002 x225003 x225000 x225001 x225002 x225003)
def impl_BallsUntilSame.l0 : Nat → Int → Int → Int → Int → ByteArray → Bool → Int → Int → ByteArray → Bool → Option (Int × Bool)
  | 0, _, _, _, _, _, _, _, _, _, _ => none
  | k + 1, x1, x7, x225000, x225001, x225002, x225003, x227000, x227001, x227002, x227003 => if x7 ≤ 600 then ((impl_Maze_entry.f x227000 x227001 x227002 x227003 x1).bind fun bt227 => ((impl_Maze_pass.f k x227000 x227001 x227002 x227003 bt227.1 bt227.2.1 bt227.2.2).bind fun bt230 => (if (bt230.1 == x225000 && (bt230.2.1 == x225001 && (bt230.2.2.1.toList == x225002.toList && (bt230.2.2.2.1 == x225003)))) = true then (some (x7, true)) else (impl_BallsUntilSame.l0 k x1 (wrap64 (x7 + 1)) x225000 x225001 x225002 x225003 bt230.1 bt230.2.1 bt230.2.2.1 bt230.2.2.2.1)))) else (some (0, false))
end
def impl_BallsUntilSame.f (k : Nat) (a0_0 : Int) (a0_1 : Int) (a0_2 : ByteArray) (a0_3 : Bool) (a1 : Int) : Option (Int × Bool) := (impl_isEnd.f a0_0 a0_1 a0_2 a0_3 a1).bind fun t225 => (if t225 = true then (impl_BallsUntilSame.j0 k a1 (!a0_3) a0_0 a0_1 a0_2 a0_3) else (impl_BallsUntilSame.j0 k a1 true a0_0 a0_1 a0_2 a0_3))
theorem impl_BallsUntilSame.mono_l : ∀ k, (∀ y0 y1 y2 y3 y4 y5, LeO (impl_BallsUntilSame.j0 k y0 y1 y2 y3 y4 y5) (impl_BallsUntilSame.j0 (k + 1) y0 y1 y2 y3 y4 y5)) ∧ (∀ y0 y1 y2 y3 y4 y5 y6 y7 y8 y9, LeO (impl_BallsUntilSame.l0 k y0 y1 y2 y3 y4 y5 y6 y7 y8 y9) (impl_BallsUntilSame.l0 (k + 1) y0 y1 y2 y3 y4 y5 y6 y7 y8 y9))
  | 0 => ⟨fun _ _ _ _ _ _ r h => by simp [impl_BallsUntilSame.j0] at h, fun _ _ _ _ _ _ _ _ _ _ r h => by simp [impl_BallsUntilSame.l0] at h⟩
  | k + 1 => by
    obtain ⟨ih0, ih1⟩ := impl_BallsUntilSame.mono_l k
    refine ⟨?_, ?_⟩
    · intro y0 y1 y2 y3 y4 y5
      unfold impl_BallsUntilSame.j0
      repeat' first
      | (with_reducible exact ih0 _ _ _ _ _ _)
      | (with_reducible exact ih1 _ _ _ _ _ _ _ _ _ _)
      | (with_reducible exact impl_Maze_pass.mono _ _ _ _ _ _ _ _)
      | (with_reducible exact LeO.refl _)
      | (with_reducible exact LeO.none _)
      | (with_reducible refine LeO.ite ?_ ?_)
      | (with_reducible refine LeO.bind ?_ (fun _ => ?_))
      | exact ih0 _ _ _ _ _ _
      | exact ih1 _ _ _ _ _ _ _ _ _ _
      | exact impl_Maze_pass.mono _ _ _ _ _ _ _ _
      | exact LeO.none _
      | refine LeO.ite ?_ ?_
      | refine LeO.bind ?_ (fun _ => ?_)
    · intro y0 y1 y2 y3 y4 y5 y6 y7 y8 y9
      unfold impl_BallsUntilSame.l0
      repeat' first
      | (with_reducible exact ih0 _ _ _ _ _ _)
      | (with_reducible exact ih1 _ _ _ _ _ _ _ _ _ _)
      | (with_reducible exact impl_Maze_pass.mono _ _ _ _ _ _ _ _)
      | (with_reducible exact LeO.refl _)
      | (with_reducible exact LeO.none _)
      | (with_reducible refine LeO.ite ?_ ?_)
      | (with_reducible refine LeO.bind ?_ (fun _ => ?_))
      | exact ih0 _ _ _ _ _ _
      | exact ih1 _ _ _ _ _ _ _ _ _ _
      | exact impl_Maze_pass.mono _ _ _ _ _ _ _ _
      | exact LeO.none _
      | refine LeO.ite ?_ ?_
      | refine LeO.bind ?_ (fun _ => ?_)
theorem impl_BallsUntilSame.mono : ∀ a0 a1 a2 a3 a4 k, LeO (impl_BallsUntilSame.f k a0 a1 a2 a3 a4) (impl_BallsUntilSame.f (k + 1) a0 a1 a2 a3 a4) := by
  intro a0 a1 a2 a3 a4 k
  obtain ⟨ih0, ih1⟩ := impl_BallsUntilSame.mono_l k
  unfold impl_BallsUntilSame.f
  repeat' first
      | (with_reducible exact ih0 _ _ _ _ _ _)
      | (with_reducible exact ih1 _ _ _ _ _ _ _ _ _ _)
      | (with_reducible exact impl_Maze_pass.mono _ _ _ _ _ _ _ _)
      | (with_reducible exact LeO.refl _)
      | (with_reducible exact LeO.none _)
      | (with_reducible refine LeO.ite ?_ ?_)
      | (with_reducible refine LeO.bind ?_ (fun _ => ?_))
      | exact ih0 _ _ _ _ _ _
      | exact ih1 _ _ _ _ _ _ _ _ _ _
      | exact impl_Maze_pass.mono _ _ _ _ _ _ _ _
      | exact LeO.none _
      | refine LeO.ite ?_ ?_
      | refine LeO.bind ?_ (fun _ => ?_)
def impl_BallsUntilSame.T7 : Bool × List (List Nat × List Nat) := (true, [([], []), ([], []), ([], []), ([1, 2], [1, 2]), ([0, 3, 3], [0, 3]), ([4], [4]), ([5], [5]), ([5], [5]), ([], []), ([8, 6, 4, 0, 1, 2, 3, 4, 5, 6, 8], [6, 8]), ([7, 9, 0, 1, 2, 3, 4, 5, 6, 7, 8, 9], [7])])
def impl_BallsUntilSame.B7 : List Nat := [0, 0, 0, 6, 15, 31, 63, 63, 0, 383, 1023]
theorem impl_BallsUntilSame.tab7 : rtab .any (opsOf Tryd.f37 7) = impl_BallsUntilSame.T7 := by kernel_rfl
theorem impl_BallsUntilSame.bits7 : waitsOk impl_BallsUntilSame.T7.2 impl_BallsUntilSame.B7 = true := by kernel_rfl
set_option maxHeartbeats 8000000 in
set_option maxRecDepth 100000 in
theorem impl_BallsUntilSame.calls (k : Nat) (a0_0 : Int) (a0_1 : Int) (a0_2 : ByteArray) (a0_3 : Bool) (a1 : Int) (r1 : Int) (r2 : Bool) (w : World) (h : impl_BallsUntilSame.f k a0_0 a0_1 a0_2 a0_3 a1 = some (r1, r2)) :
    Calls Tryd.prog 37 #[.agg #[.int .i64 a0_0, .int .i64 a0_1, .string a0_2, .bool a0_3], .int .i64 a1] w fun e w' => e = .returned (.tuple #[.int .i64 r1, .bool r2]) ∧ Below w.heap.size w w' := by
  have hu26 := Tryd.underlying26
  have hu71 := Tryd.underlying71
  have HB := Aside0.mk (Below.refl w.heap.size w)
  have H : ((impl_isEnd.f a0_0 a0_1 a0_2 a0_3 a1).bind fun t225 => (if t225 = true then (impl_BallsUntilSame.j0 k a1 (!a0_3) a0_0 a0_1 a0_2 a0_3) else (impl_BallsUntilSame.j0 k a1 true a0_0 a0_1 a0_2 a0_3))) = some (r1, r2) := h
  clear h
  have HC3 := Aside0.mk H
  clear H
  go_enter Tryd.func37, Tryd.ntmps37
  go_upto_region 1 with (first | ((with_reducible refine gate_dst (N := 2) rfl ?_); refine box_event ?hg (N := 2) ?hd (cs := #[.int .i64 a0_0, .int .i64 a0_1, .string a0_2, .bool a0_3]) (t := 26) ?hr ?_; (case hd => rfl); (case hg => rfl); (case hr => first | (go_simp; done) | (go_simp; rfl)); intro gb224 hg w4 hbox hb; have n0_ := Aside0.mk (below_step (XSq.bB HB) hb); have n1_ := Aside0.mk (hbox); have n2_ := Aside0.mk ((by rw [hg]; exact (below_size (XSq.bB HB)) : w.heap.size ≤ gb224)); have n3_ := Aside0.mk ((by rw [hg]; exact (below_size (XSq.bB HB)) : w.heap.size ≤ gb224)); clear HB; have HB := n0_; have BK224 := n1_; have GW224 := n2_; have GE224 := n3_; clear n0_ n1_ n2_ n3_; clear hb hbox hg))
  (try simp only [Act.put, List.setIfInBounds_toArray, List.set_cons_zero, List.set_cons_succ])
  go_cut [18] (fun v18 wc => ∃ (kq : Nat) (x18_2 : Bool), v18 = .bool x18_2 ∧ Aside0 (impl_BallsUntilSame.j0 kq a1 x18_2 a0_0 a0_1 a0_2 a0_3 = some (r1, r2)) ∧ Aside0 (kq ≤ k) ∧ Aside0 (wc.heap[gb224]? = some (.cells #[.int .i64 a0_0, .int .i64 a0_1, .string a0_2, .bool a0_3] 26 (0, 0))) ∧ Aside0 (Below w.heap.size w wc))
  case first =>
    have H := HC3.out
    clear HC3
    replace H := Option.bind_eq_some_iff.mp H
    obtain ⟨t225, A50, H⟩ := H
    replace H : (if t225 = true then (impl_BallsUntilSame.j0 k a1 (!a0_3) a0_0 a0_1 a0_2 a0_3) else (impl_BallsUntilSame.j0 k a1 true a0_0 a0_1 a0_2 a0_3)) = some (r1, r2) := H
    have A5 := Aside0.mk A50
    clear A50
    by_cases c6 : t225 = true
    · subst c6
      have H1 : (impl_BallsUntilSame.j0 k a1 (!a0_3) a0_0 a0_1 a0_2 a0_3) = some (r1, r2) := by rw [if_pos rfl] at H; exact H
      clear H
      have H := H1
      clear H1
      have H' := Aside0.mk H
      clear H
      have hcz7_0 : w4.cell? ⟨gb224, 0, none⟩ = some (.int .i64 a0_0) := (blk_cell BK224.out 0).trans rfl
      have hcz7_1 : w4.cell? ⟨gb224, 1, none⟩ = some (.int .i64 a0_1) := (blk_cell BK224.out 1).trans rfl
      have hcz7_2 : w4.cell? ⟨gb224, 2, none⟩ = some (.string a0_2) := (blk_cell BK224.out 2).trans rfl
      have hcz7_3 : w4.cell? ⟨gb224, 3, none⟩ = some (.bool a0_3) := (blk_cell BK224.out 3).trans rfl
      have hfz7_0 := blk_frozen BK224.out 0
      have hfz7_1 := blk_frozen BK224.out 1
      have hfz7_2 := blk_frozen BK224.out 2
      have hfz7_3 := blk_frozen BK224.out 3
      go_wp2_with (first | ((with_reducible refine gate_callee (f := 54) rfl ?_); refine goesL_ (some 12) rfl rfl Tryd.func54 (by kernel_rfl) rfl #[.agg #[.int .i64 a0_0, .int .i64 a0_1, .string a0_2, .bool a0_3], .int .i64 a1] rfl (by (try simp only [List.map_toArray, List.map_cons, List.map_nil]); first | done | rfl | (simp only [List.length_drop, List.length_take]; rfl)) ?_; (with_reducible refine (impl_isEnd.calls a0_0 a0_1 a0_2 a0_3 a1 true _ A5.out).mono ?_); rintro e w8 ⟨rfl, hb⟩; refine ⟨_, rfl, ?_⟩; have n0_ := Aside0.mk (blk_below (g := gb224) (o := .cells #[.int .i64 a0_0, .int .i64 a0_1, .string a0_2, .bool a0_3] 26 (0, 0)) (XSq.bq BK224) hb); have n1_ := Aside0.mk (below_step (XSq.bB HB) hb); clear BK224; clear HB; have BK224 := n0_; have HB := n1_; clear n0_ n1_; (try clear hb); (try clear hb2); (try clear hk); (try clear hi); have hcz9_0 : w8.cell? ⟨gb224, 0, none⟩ = some (.int .i64 a0_0) := (blk_cell BK224.out 0).trans rfl; have hcz9_1 : w8.cell? ⟨gb224, 1, none⟩ = some (.int .i64 a0_1) := (blk_cell BK224.out 1).trans rfl; have hcz9_2 : w8.cell? ⟨gb224, 2, none⟩ = some (.string a0_2) := (blk_cell BK224.out 2).trans rfl; have hcz9_3 : w8.cell? ⟨gb224, 3, none⟩ = some (.bool a0_3) := (blk_cell BK224.out 3).trans rfl; have hfz9_0 := blk_frozen BK224.out 0; have hfz9_1 := blk_frozen BK224.out 1; have hfz9_2 := blk_frozen BK224.out 2; have hfz9_3 := blk_frozen BK224.out 3))
      go_meet
      case rel => exact ⟨_, (!a0_3), (by first | rfl | (simp; done) | (simp [*]; done)), H', ⟨by first | omega | exact Nat.le_refl _⟩, ⟨by (with_reducible repeat (first | refine blk_drewN ?_ _ | refine blk_drew ?_ | refine blk_alloc ?_ _)); exact BK224.out⟩, ⟨by repeat (first | (with_reducible first | exact HB.out | apply below_alloc | apply pw_below_drewN | apply below_drew1 | refine below_set ?_ GE224.out) | exact HB.out)⟩⟩
    · replace c6 := Bool.eq_false_iff.mpr c6
      subst c6
      have H1 : (impl_BallsUntilSame.j0 k a1 true a0_0 a0_1 a0_2 a0_3) = some (r1, r2) := by rw [if_neg (show ¬ (false = true) by decide)] at H; exact H
      clear H
      have H := H1
      clear H1
      have H' := Aside0.mk H
      clear H
      have hcz10_0 : w4.cell? ⟨gb224, 0, none⟩ = some (.int .i64 a0_0) := (blk_cell BK224.out 0).trans rfl
      have hcz10_1 : w4.cell? ⟨gb224, 1, none⟩ = some (.int .i64 a0_1) := (blk_cell BK224.out 1).trans rfl
      have hcz10_2 : w4.cell? ⟨gb224, 2, none⟩ = some (.string a0_2) := (blk_cell BK224.out 2).trans rfl
      have hcz10_3 : w4.cell? ⟨gb224, 3, none⟩ = some (.bool a0_3) := (blk_cell BK224.out 3).trans rfl
      have hfz10_0 := blk_frozen BK224.out 0
      have hfz10_1 := blk_frozen BK224.out 1
      have hfz10_2 := blk_frozen BK224.out 2
      have hfz10_3 := blk_frozen BK224.out 3
      go_wp2_with (first | ((with_reducible refine gate_callee (f := 54) rfl ?_); refine goesL_ (some 12) rfl rfl Tryd.func54 (by kernel_rfl) rfl #[.agg #[.int .i64 a0_0, .int .i64 a0_1, .string a0_2, .bool a0_3], .int .i64 a1] rfl (by (try simp only [List.map_toArray, List.map_cons, List.map_nil]); first | done | rfl | (simp only [List.length_drop, List.length_take]; rfl)) ?_; (with_reducible refine (impl_isEnd.calls a0_0 a0_1 a0_2 a0_3 a1 false _ A5.out).mono ?_); rintro e w11 ⟨rfl, hb⟩; refine ⟨_, rfl, ?_⟩; have n0_ := Aside0.mk (blk_below (g := gb224) (o := .cells #[.int .i64 a0_0, .int .i64 a0_1, .string a0_2, .bool a0_3] 26 (0, 0)) (XSq.bq BK224) hb); have n1_ := Aside0.mk (below_step (XSq.bB HB) hb); clear BK224; clear HB; have BK224 := n0_; have HB := n1_; clear n0_ n1_; (try clear hb); (try clear hb2); (try clear hk); (try clear hi)))
      go_meet
      case rel => exact ⟨_, (true), (by first | rfl | (simp; done) | (simp [*]; done)), H', ⟨by first | omega | exact Nat.le_refl _⟩, ⟨by (with_reducible repeat (first | refine blk_drewN ?_ _ | refine blk_drew ?_ | refine blk_alloc ?_ _)); exact BK224.out⟩, ⟨by repeat (first | (with_reducible first | exact HB.out | apply below_alloc | apply pw_below_drewN | apply below_drew1 | refine below_set ?_ GE224.out) | exact HB.out)⟩⟩
  case rest =>
    clear HC3
    try clear p2
    try clear c3
    try clear c5
    try clear c6
    try clear hcz10_0
    try clear hcz10_1
    try clear hcz10_2
    try clear hcz10_3
    try clear hcz7_0
    try clear hcz7_1
    try clear hcz7_2
    try clear hcz7_3
    try clear hcz9_0
    try clear hcz9_1
    try clear hcz9_2
    try clear hcz9_3
    try clear hfz10_0
    try clear hfz10_1
    try clear hfz10_2
    try clear hfz10_3
    try clear hfz7_0
    try clear hfz7_1
    try clear hfz7_2
    try clear hfz7_3
    try clear hfz9_0
    try clear hfz9_1
    try clear hfz9_2
    try clear hfz9_3
    obtain ⟨kq, x18_2, rfl, HA, HJ2, BK224, HB⟩ := hcut
    cases kq with
    | zero => exact absurd HA.out (by simp [impl_BallsUntilSame.j0])
    | succ kj2 =>
      have H := HA.out
      clear HA
      simp only [impl_BallsUntilSame.j0] at H
      by_cases c12 : x18_2 = true
      · subst c12
        have H1 : (some (0, false)) = some (r1, r2) := by rw [if_pos rfl] at H; exact H
        clear H
        have H := H1
        clear H1
        simp only [Option.some.injEq, Prod.mk.injEq] at H
        obtain ⟨rfl, rfl⟩ := H
        go_wp2
        go_ret2
        exact ⟨by first | rfl | (simp [errW_none, errW_some] <;> rfl) | (simp [*, errW_none, errW_some] <;> rfl), by repeat (first | (with_reducible first | exact HB.out | apply below_alloc | apply pw_below_drewN | apply below_drew1 | refine below_set ?_ GE224.out) | exact HB.out)⟩
      · replace c12 := Bool.eq_false_iff.mpr c12
        subst c12
        have H1 : (impl_BallsUntilSame.l0 kj2 a1 1 a0_0 a0_1 a0_2 a0_3 a0_0 a0_1 a0_2 a0_3) = some (r1, r2) := by rw [if_neg (show ¬ (false = true) by decide)] at H; exact H
        clear H
        have H := H1
        clear H1
        have H' := Aside0.mk H
        clear H
        have hcz13_0 : wc.cell? ⟨gb224, 0, none⟩ = some (.int .i64 a0_0) := (blk_cell BK224.out 0).trans rfl
        have hcz13_1 : wc.cell? ⟨gb224, 1, none⟩ = some (.int .i64 a0_1) := (blk_cell BK224.out 1).trans rfl
        have hcz13_2 : wc.cell? ⟨gb224, 2, none⟩ = some (.string a0_2) := (blk_cell BK224.out 2).trans rfl
        have hcz13_3 : wc.cell? ⟨gb224, 3, none⟩ = some (.bool a0_3) := (blk_cell BK224.out 3).trans rfl
        have hfz13_0 := blk_frozen BK224.out 0
        have hfz13_1 := blk_frozen BK224.out 1
        have hfz13_2 := blk_frozen BK224.out 2
        have hfz13_3 := blk_frozen BK224.out 3
        go_wp2_with (first | ((with_reducible refine gate_dst (N := 6) rfl ?_); refine box_event ?hg (N := 6) ?hd (cs := #[.int .i64 0, .int .i64 0, .string (⟨#[]⟩ : ByteArray), .bool false]) (t := 26) ?hr ?_; (case hd => rfl); (case hg => rfl); (case hr => first | (go_simp; done) | (go_simp; rfl)); intro gb226 hg w14 hbox hb; have n0_ := Aside0.mk (blk_below (g := gb224) (o := .cells #[.int .i64 a0_0, .int .i64 a0_1, .string a0_2, .bool a0_3] 26 (0, 0)) (XSq.bq BK224) hb); have n1_ := Aside0.mk (below_step (XSq.bB HB) hb); have n2_ := Aside0.mk (hbox); have n3_ := Aside0.mk ((by rw [hg]; exact (below_size (XSq.bB HB)) : w.heap.size ≤ gb226)); have n4_ := Aside0.mk ((by rw [hg]; exact (below_size (XSq.bB HB)) : w.heap.size ≤ gb226)); have n5_ := Aside0.mk ((by rw [hg]; exact Nat.ne_of_lt (blk_lt (g := gb224) (o := .cells #[.int .i64 a0_0, .int .i64 a0_1, .string a0_2, .bool a0_3] 26 (0, 0)) (XSq.bq BK224)) : gb224 ≠ gb226)); have n6_ := Aside0.mk ((by rw [hg]; exact Nat.ne_of_gt (blk_lt (g := gb224) (o := .cells #[.int .i64 a0_0, .int .i64 a0_1, .string a0_2, .bool a0_3] 26 (0, 0)) (XSq.bq BK224)) : gb226 ≠ gb224)); clear BK224; clear HB; have BK224 := n0_; have HB := n1_; have BK226 := n2_; have GW226 := n3_; have GE226 := n4_; have NB224_226 := n5_; have NB226_224 := n6_; clear n0_ n1_ n2_ n3_ n4_ n5_ n6_; clear hb hbox hg; have hnb15 := NB226_224.out; have hnc15 := NB224_226.out; have hcz16_0 : w14.cell? ⟨gb226, 0, none⟩ = some (.int .i64 0) := (blk_cell BK226.out 0).trans rfl; have hcz16_1 : w14.cell? ⟨gb226, 1, none⟩ = some (.int .i64 0) := (blk_cell BK226.out 1).trans rfl; have hcz16_2 : w14.cell? ⟨gb226, 2, none⟩ = some (.string (⟨#[]⟩ : ByteArray)) := (blk_cell BK226.out 2).trans rfl; have hcz16_3 : w14.cell? ⟨gb226, 3, none⟩ = some (.bool false) := (blk_cell BK226.out 3).trans rfl; have hfz16_0 := blk_frozen BK226.out 0; have hfz16_1 := blk_frozen BK226.out 1; have hfz16_2 := blk_frozen BK226.out 2; have hfz16_3 := blk_frozen BK226.out 3))
        go_loopg [7] kj2 (fun kq v7 w' => ∃ (x7_2 : Int) (x227000_2 : Int) (x227001_2 : Int) (x227002_2 : ByteArray) (x227003_2 : Bool), v7 = .int .i64 x7_2 ∧ Aside0 (impl_BallsUntilSame.l0 kq a1 x7_2 a0_0 a0_1 a0_2 a0_3 x227000_2 x227001_2 x227002_2 x227003_2 = some (r1, r2)) ∧ Aside0 (kq ≤ kj2) ∧ Aside0 (w'.heap[gb224]? = some (.cells #[.int .i64 a0_0, .int .i64 a0_1, .string a0_2, .bool a0_3] 26 (0, 0))) ∧ Aside0 (w'.heap[gb226]? = some (.cells #[.int .i64 x227000_2, .int .i64 x227001_2, .string x227002_2, .bool x227003_2] 26 (0, 0))) ∧ Aside0 (Below w.heap.size w w'))
        case atStart => exact ⟨(1), (a0_0), (a0_1), (a0_2), (a0_3), (by first | rfl | (simp; done) | (simp [*]; done)), H', ⟨Nat.le_refl _⟩, ⟨by (with_reducible repeat (first | refine blk_drewN ?_ _ | refine blk_drew ?_ | refine blk_alloc ?_ _)); refine blk_far ?_ NB224_226.out _; (with_reducible repeat (first | refine blk_drewN ?_ _ | refine blk_drew ?_ | refine blk_alloc ?_ _)); refine blk_far ?_ NB224_226.out _; (with_reducible repeat (first | refine blk_drewN ?_ _ | refine blk_drew ?_ | refine blk_alloc ?_ _)); refine blk_far ?_ NB224_226.out _; (with_reducible repeat (first | refine blk_drewN ?_ _ | refine blk_drew ?_ | refine blk_alloc ?_ _)); refine blk_far ?_ NB224_226.out _; (with_reducible repeat (first | refine blk_drewN ?_ _ | refine blk_drew ?_ | refine blk_alloc ?_ _)); exact BK224.out⟩, ⟨by (with_reducible repeat (first | refine blk_drewN ?_ _ | refine blk_drew ?_ | refine blk_alloc ?_ _)); refine blk_put (cs := #[.int .i64 a0_0, .int .i64 a0_1, .string a0_2, .bool false]) ?_ 3 _ rfl; (with_reducible repeat (first | refine blk_drewN ?_ _ | refine blk_drew ?_ | refine blk_alloc ?_ _)); refine blk_put (cs := #[.int .i64 a0_0, .int .i64 a0_1, .string (⟨#[]⟩ : ByteArray), .bool false]) ?_ 2 _ rfl; (with_reducible repeat (first | refine blk_drewN ?_ _ | refine blk_drew ?_ | refine blk_alloc ?_ _)); refine blk_put (cs := #[.int .i64 a0_0, .int .i64 0, .string (⟨#[]⟩ : ByteArray), .bool false]) ?_ 1 _ rfl; (with_reducible repeat (first | refine blk_drewN ?_ _ | refine blk_drew ?_ | refine blk_alloc ?_ _)); refine blk_put (cs := #[.int .i64 0, .int .i64 0, .string (⟨#[]⟩ : ByteArray), .bool false]) ?_ 0 _ rfl; (with_reducible repeat (first | refine blk_drewN ?_ _ | refine blk_drew ?_ | refine blk_alloc ?_ _)); exact BK226.out⟩, ⟨by repeat (first | (with_reducible first | exact HB.out | apply below_alloc | apply pw_below_drewN | apply below_drew1 | refine below_set ?_ GE224.out | refine below_set ?_ GE226.out) | exact HB.out)⟩⟩
        case round =>
          clear H'
          try clear c1
          try clear p2
          try clear c3
          try clear c5
          try clear c6
          try clear c12
          try clear c15
          try clear hcz10_0
          try clear hcz10_1
          try clear hcz10_2
          try clear hcz10_3
          try clear hcz13_0
          try clear hcz13_1
          try clear hcz13_2
          try clear hcz13_3
          try clear hcz16_0
          try clear hcz16_1
          try clear hcz16_2
          try clear hcz16_3
          try clear hcz7_0
          try clear hcz7_1
          try clear hcz7_2
          try clear hcz7_3
          try clear hcz9_0
          try clear hcz9_1
          try clear hcz9_2
          try clear hcz9_3
          try clear hfz10_0
          try clear hfz10_1
          try clear hfz10_2
          try clear hfz10_3
          try clear hfz13_0
          try clear hfz13_1
          try clear hfz13_2
          try clear hfz13_3
          try clear hfz16_0
          try clear hfz16_1
          try clear hfz16_2
          try clear hfz16_3
          try clear hfz7_0
          try clear hfz7_1
          try clear hfz7_2
          try clear hfz7_3
          try clear hfz9_0
          try clear hfz9_1
          try clear hfz9_2
          try clear hfz9_3
          try clear p2
          obtain ⟨x7_2, x227000_2, x227001_2, x227002_2, x227003_2, rfl, HA, HK2, BK224, BK226, HB⟩ := hrel
          cases gk with
          | zero => exact absurd HA.out (by simp [impl_BallsUntilSame.l0])
          | succ k2 =>
            have H := HA.out
            clear HA
            simp only [impl_BallsUntilSame.l0] at H
            by_cases c17 : x7_2 ≤ 600
            · rw [if_pos c17] at H
              have c17b0 : decide (x7_2 ≤ 600) = true := decide_eq_true c17
              clear c17
              replace H := Option.bind_eq_some_iff.mp H
              obtain ⟨⟨t227, t228, t229⟩, A180, H⟩ := H
              replace H : ((impl_Maze_pass.f k2 x227000_2 x227001_2 x227002_2 x227003_2 t227 t228 t229).bind fun bt230 => (if (bt230.1 == a0_0 && (bt230.2.1 == a0_1 && (bt230.2.2.1.toList == a0_2.toList && (bt230.2.2.2.1 == a0_3)))) = true then (some (x7_2, true)) else (impl_BallsUntilSame.l0 k2 a1 (wrap64 (x7_2 + 1)) a0_0 a0_1 a0_2 a0_3 bt230.1 bt230.2.1 bt230.2.2.1 bt230.2.2.2.1))) = some (r1, r2) := H
              have A18 := Aside0.mk A180
              clear A180
              replace H := Option.bind_eq_some_iff.mp H
              obtain ⟨⟨t230, t231, t232, t233, t234, t235, t236, t237⟩, A190, H⟩ := H
              replace H : (if (t230 == a0_0 && (t231 == a0_1 && (t232.toList == a0_2.toList && (t233 == a0_3)))) = true then (some (x7_2, true)) else (impl_BallsUntilSame.l0 k2 a1 (wrap64 (x7_2 + 1)) a0_0 a0_1 a0_2 a0_3 t230 t231 t232 t233)) = some (r1, r2) := H
              have A19 := Aside0.mk A190
              clear A190
              by_cases c20 : (t230 == a0_0 && (t231 == a0_1 && (t232.toList == a0_2.toList && (t233 == a0_3)))) = true
              · rw [if_pos c20] at H
                have c20b0 : (t230 == a0_0 && (t231 == a0_1 && (t232.toList == a0_2.toList && (t233 == a0_3)))) = true := c20
                (try (have c20b1 : decide (t230 = a0_0 && (t231 == a0_1 && (t232.toList == a0_2.toList && (t233 == a0_3)))) = true := by simpa using c20))
                (try (have c20b2 : (t230 == a0_0 && (t231 == a0_1 && (t232.toList == a0_2.toList && (t233 == a0_3)))) = true := by simpa using c20))
                clear c20
                simp only [Option.some.injEq, Prod.mk.injEq] at H
                obtain ⟨rfl, rfl⟩ := H
                try go_wp2
                have n0_ := Aside0.mk (blk_drew BK224.out)
                have n1_ := Aside0.mk (blk_drew BK226.out)
                have n2_ := Aside0.mk (below_drew1 HB.out)
                clear BK224
                clear BK226
                clear HB
                have BK224 := n0_
                have BK226 := n1_
                have HB := n2_
                clear n0_ n1_ n2_
                refine start_ (n := 11) (S := fun w' => w'.cell? ⟨gb226, 0, none⟩ = some (.int .i64 x227000_2) ∧ w'.cell? ⟨gb226, 1, none⟩ = some (.int .i64 x227001_2) ∧ w'.cell? ⟨gb226, 2, none⟩ = some (.string x227002_2) ∧ w'.cell? ⟨gb226, 3, none⟩ = some (.bool x227003_2)) (ds := []) #[false, false, false, false, false, false, false, false, false, false, false] (by kernel_rfl) rfl rfl ⟨(blk_cell BK226.out 0).trans rfl, (blk_cell BK226.out 1).trans rfl, (blk_cell BK226.out 2).trans rfl, (blk_cell BK226.out 3).trans rfl⟩ (fun hHeld => ?_); refine with_tabW impl_BallsUntilSame.tab7 impl_BallsUntilSame.bits7 (fun HT_ HW_ => ?_)
                generalize wr.drew = w21 at BK224 BK226 HB hHeld ⊢
                refine pure_ (i := 2) (N := some 27) (v := ?_) (a' := ?_) #[false, false, true, false, false, false, false, false, false, false, false] rfl rfl (any_of HT_.out (by kernel_rfl)) (fun _ _ _ h => h) (Or.inl ⟨by rfl, ?_⟩) ?_ ?_
                rotate_left
                · intro w'
                  go_simp
                  with_reducible rfl
                rotate_left
                · simp only [Act.put, List.setIfInBounds_toArray, List.set_cons_zero, List.set_cons_succ, i64_w, i32_w]
                  rfl
                refine take_ (i := 0) (N := some 25) (v := ?_) (a' := ?_) #[true, false, true, false, false, false, false, false, false, false, false] rfl rfl (take_ofW HT_.out HW_.out (by kernel_rfl)) (fun _ _ _ h => h) (Or.inl ⟨by rfl, ?_⟩) hHeld ?_ ?_
                rotate_left
                · rintro w' ⟨s0, s1, s2, s3⟩
                  go_simp
                  with_reducible rfl
                rotate_left
                · simp only [Act.put, List.setIfInBounds_toArray, List.set_cons_zero, List.set_cons_succ, i64_w, i32_w]
                  rfl
                refine take_ (i := 1) (N := some 26) (v := ?_) (a' := ?_) #[true, true, true, false, false, false, false, false, false, false, false] rfl rfl (take_ofW HT_.out HW_.out (by kernel_rfl)) (fun _ _ _ h => h) (Or.inl ⟨by rfl, ?_⟩) hHeld ?_ ?_
                rotate_left
                · rintro w' ⟨s0, s1, s2, s3⟩
                  go_simp
                  with_reducible rfl
                rotate_left
                · simp only [Act.put, List.setIfInBounds_toArray, List.set_cons_zero, List.set_cons_succ, i64_w, i32_w]
                  rfl
                refine join_ (σ := Nat) 2 #[true, true, true, true, true, true, true, true, true, false, false] (fun s_ => [(28, .agg #[.int .i64 t227, .int .i64 t228, .int .i64 t229]), (29, .tuple #[.agg #[.int .i64 t230, .int .i64 t231, .string t232, .bool t233, .int .i64 t234, .int .i64 t235, .int .i64 t236], .bool t237]), (8, .pointer (some ⟨s_, 0, none⟩)), (24, .tuple #[.agg #[.int .i64 t230, .int .i64 t231, .string t232, .bool t233, .int .i64 t234, .int .i64 t235, .int .i64 t236], .bool t237]), (30, .agg #[.int .i64 t230, .int .i64 t231, .string t232, .bool t233, .int .i64 t234, .int .i64 t235, .int .i64 t236]), (31, .bool t237)]) (fun s_ w' => (w'.cell? ⟨gb226, 0, none⟩ = some (.int .i64 x227000_2) ∧ w'.cell? ⟨gb226, 1, none⟩ = some (.int .i64 x227001_2) ∧ w'.cell? ⟨gb226, 2, none⟩ = some (.string x227002_2) ∧ w'.cell? ⟨gb226, 3, none⟩ = some (.bool x227003_2)) ∧ (w'.heap[gb224]? = some (.cells #[.int .i64 a0_0, .int .i64 a0_1, .string a0_2, .bool a0_3] 26 (0, 0))) ∧ (w'.heap[gb226]? = some (.cells #[.int .i64 x227000_2, .int .i64 x227001_2, .string x227002_2, .bool x227003_2] 26 (0, 0))) ∧ (w'.heap[s_]? = some (.cells #[.int .i64 0, .int .i64 0, .string (⟨#[]⟩ : ByteArray), .bool false, .int .i64 0, .int .i64 0, .int .i64 0] 71 (0, 0))) ∧ (w.heap.size ≤ s_) ∧ (w.heap.size ≤ s_) ∧ (gb224 ≠ s_) ∧ (s_ ≠ gb224) ∧ (gb226 ≠ s_) ∧ (s_ ≠ gb226) ∧ (Below w.heap.size w w')) ?_ ?_
                rotate_left
                · intro hCont
                  refine two_ (i := 3) (j := 8) (Ni := some 28) (Nj := some 8) #[true, true, true, true, false, false, false, false, false, false, false] #[true, true, true, false, false, false, false, false, true, false, false] rfl rfl rfl rfl (two_of HT_.out (by kernel_rfl)) (by decide) (by decide) (fun K hK => ?_) (fun K hK => ?_)
                  · skip
                    refine goes_ Tryd.func55 (by kernel_rfl) rfl #[.agg #[.int .i64 x227000_2, .int .i64 x227001_2, .string x227002_2, .bool x227003_2], .int .i64 a1] (by rfl) rfl rfl (by (try simp only [List.map_toArray, List.map_cons, List.map_nil]); first | done | rfl | (simp only [List.length_drop, List.length_take]; rfl)) ?_
                    with_reducible refine (impl_Maze_entry.calls x227000_2 x227001_2 x227002_2 x227003_2 a1 t227 t228 t229 _ A18.out).mono ?_
                    rintro e w22 ⟨rfl, hb⟩
                    refine ⟨_, rfl, ?_⟩
                    have n0_ := Aside0.mk (blk_below (g := gb224) (o := .cells #[.int .i64 a0_0, .int .i64 a0_1, .string a0_2, .bool a0_3] 26 (0, 0)) (XSq.bq BK224) hb)
                    have n1_ := Aside0.mk (blk_below (g := gb226) (o := .cells #[.int .i64 x227000_2, .int .i64 x227001_2, .string x227002_2, .bool x227003_2] 26 (0, 0)) (XSq.bq BK226) hb)
                    have n2_ := Aside0.mk (below_step (XSq.bB HB) hb)
                    clear BK224
                    clear BK226
                    clear HB
                    have BK224 := n0_
                    have BK226 := n1_
                    have HB := n2_
                    clear n0_ n1_ n2_
                    (try clear hb)
                    (try clear hb2)
                    (try clear hk)
                    (try clear hi)
                    refine hK.out _ _ ⟨(blk_cell BK226.out 0).trans rfl, (blk_cell BK226.out 1).trans rfl, (blk_cell BK226.out 2).trans rfl, (blk_cell BK226.out 3).trans rfl⟩ (fun hHeld => ?_)
                    clear hK K
                    refine norm_ (a' := ?_) ?_ ?_
                    rotate_left
                    · show Act.put _ (some 28) _ = _
                      simp only [Act.put, List.setIfInBounds_toArray, List.set_cons_zero, List.set_cons_succ, i64_w, i32_w]
                      rfl
                    refine two_ (i := 4) (j := 8) (Ni := some 29) (Nj := some 8) #[true, true, true, true, true, false, false, false, false, false, false] #[true, true, true, true, false, false, false, false, true, false, false] rfl rfl rfl rfl (two_of HT_.out (by kernel_rfl)) (by decide) (by decide) (fun K hK => ?_) (fun K hK => ?_)
                    · skip
                      refine goes_ Tryd.func64 (by kernel_rfl) rfl #[.agg #[.int .i64 x227000_2, .int .i64 x227001_2, .string x227002_2, .bool x227003_2], .agg #[.int .i64 t227, .int .i64 t228, .int .i64 t229]] (by rfl) rfl rfl (by (try simp only [List.map_toArray, List.map_cons, List.map_nil]); first | done | rfl | (simp only [List.length_drop, List.length_take]; rfl)) ?_
                      with_reducible refine (impl_Maze_pass.calls k2 x227000_2 x227001_2 x227002_2 x227003_2 t227 t228 t229 t230 t231 t232 t233 t234 t235 t236 t237 _ A19.out).mono ?_
                      rintro e w23 ⟨rfl, hb⟩
                      refine ⟨_, rfl, ?_⟩
                      have n0_ := Aside0.mk (blk_below (g := gb224) (o := .cells #[.int .i64 a0_0, .int .i64 a0_1, .string a0_2, .bool a0_3] 26 (0, 0)) (XSq.bq BK224) hb)
                      have n1_ := Aside0.mk (blk_below (g := gb226) (o := .cells #[.int .i64 x227000_2, .int .i64 x227001_2, .string x227002_2, .bool x227003_2] 26 (0, 0)) (XSq.bq BK226) hb)
                      have n2_ := Aside0.mk (below_step (XSq.bB HB) hb)
                      clear BK224
                      clear BK226
                      clear HB
                      have BK224 := n0_
                      have BK226 := n1_
                      have HB := n2_
                      clear n0_ n1_ n2_
                      (try clear hb)
                      (try clear hb2)
                      (try clear hk)
                      (try clear hi)
                      refine hK.out _ _ ⟨(blk_cell BK226.out 0).trans rfl, (blk_cell BK226.out 1).trans rfl, (blk_cell BK226.out 2).trans rfl, (blk_cell BK226.out 3).trans rfl⟩ (fun hHeld => ?_)
                      clear hK K
                      refine norm_ (a' := ?_) ?_ ?_
                      rotate_left
                      · show Act.put _ (some 29) _ = _
                        simp only [Act.put, List.setIfInBounds_toArray, List.set_cons_zero, List.set_cons_succ, i64_w, i32_w]
                        rfl
                      refine pure_ (i := 5) (N := some 24) (v := ?_) (a' := ?_) #[true, true, true, true, true, true, false, false, false, false, false] rfl rfl (any_of HT_.out (by kernel_rfl)) (fun _ _ _ h => h) (Or.inl ⟨by rfl, ?_⟩) ?_ ?_
                      rotate_left
                      · intro w'
                        go_simp
                        with_reducible rfl
                      rotate_left
                      · simp only [Act.put, List.setIfInBounds_toArray, List.set_cons_zero, List.set_cons_succ, i64_w, i32_w]
                        rfl
                      refine pure_ (i := 6) (N := some 30) (v := ?_) (a' := ?_) #[true, true, true, true, true, true, true, false, false, false, false] rfl rfl (any_of HT_.out (by kernel_rfl)) (fun _ _ _ h => h) (Or.inl ⟨by rfl, ?_⟩) ?_ ?_
                      rotate_left
                      · intro w'
                        go_simp
                        with_reducible rfl
                      rotate_left
                      · simp only [Act.put, List.setIfInBounds_toArray, List.set_cons_zero, List.set_cons_succ, i64_w, i32_w]
                        rfl
                      refine pure_ (i := 7) (N := some 31) (v := ?_) (a' := ?_) #[true, true, true, true, true, true, true, true, false, false, false] rfl rfl (any_of HT_.out (by kernel_rfl)) (fun _ _ _ h => h) (Or.inl ⟨by rfl, ?_⟩) ?_ ?_
                      rotate_left
                      · intro w'
                        go_simp
                        with_reducible rfl
                      rotate_left
                      · simp only [Act.put, List.setIfInBounds_toArray, List.set_cons_zero, List.set_cons_succ, i64_w, i32_w]
                        rfl
                      refine one_ (i := 8) (N := some 8) #[true, true, true, true, true, true, true, true, true, false, false] rfl rfl (one_of HT_.out (by kernel_rfl)) (by decide) (fun K hK => ?_)
                      refine box_step ?hg (N := 8) ?hd (cs := #[.int .i64 0, .int .i64 0, .string (⟨#[]⟩ : ByteArray), .bool false, .int .i64 0, .int .i64 0, .int .i64 0]) (t := 71) ?hr ?_; (case hd => rfl); (case hg => rfl); (case hr => first | (go_simp; done) | (go_simp; rfl))
                      intro gb238 hg w24 hbox hb
                      have n0_ := Aside0.mk (blk_below (g := gb224) (o := .cells #[.int .i64 a0_0, .int .i64 a0_1, .string a0_2, .bool a0_3] 26 (0, 0)) (XSq.bq BK224) hb)
                      have n1_ := Aside0.mk (blk_below (g := gb226) (o := .cells #[.int .i64 x227000_2, .int .i64 x227001_2, .string x227002_2, .bool x227003_2] 26 (0, 0)) (XSq.bq BK226) hb)
                      have n2_ := Aside0.mk (below_step (XSq.bB HB) hb)
                      have n3_ := Aside0.mk (hbox)
                      have n4_ := Aside0.mk ((by rw [hg]; exact (below_size (XSq.bB HB)) : w.heap.size ≤ gb238))
                      have n5_ := Aside0.mk ((by rw [hg]; exact (below_size (XSq.bB HB)) : w.heap.size ≤ gb238))
                      have n6_ := Aside0.mk ((by rw [hg]; exact Nat.ne_of_lt (blk_lt (g := gb224) (o := .cells #[.int .i64 a0_0, .int .i64 a0_1, .string a0_2, .bool a0_3] 26 (0, 0)) (XSq.bq BK224)) : gb224 ≠ gb238))
                      have n7_ := Aside0.mk ((by rw [hg]; exact Nat.ne_of_gt (blk_lt (g := gb224) (o := .cells #[.int .i64 a0_0, .int .i64 a0_1, .string a0_2, .bool a0_3] 26 (0, 0)) (XSq.bq BK224)) : gb238 ≠ gb224))
                      have n8_ := Aside0.mk ((by rw [hg]; exact Nat.ne_of_lt (blk_lt (g := gb226) (o := .cells #[.int .i64 x227000_2, .int .i64 x227001_2, .string x227002_2, .bool x227003_2] 26 (0, 0)) (XSq.bq BK226)) : gb226 ≠ gb238))
                      have n9_ := Aside0.mk ((by rw [hg]; exact Nat.ne_of_gt (blk_lt (g := gb226) (o := .cells #[.int .i64 x227000_2, .int .i64 x227001_2, .string x227002_2, .bool x227003_2] 26 (0, 0)) (XSq.bq BK226)) : gb238 ≠ gb226))
                      clear BK224
                      clear BK226
                      clear HB
                      have BK224 := n0_
                      have BK226 := n1_
                      have HB := n2_
                      have BK238 := n3_
                      have GW238 := n4_
                      have GE238 := n5_
                      have NB224_238 := n6_
                      have NB238_224 := n7_
                      have NB226_238 := n8_
                      have NB238_226 := n9_
                      clear n0_ n1_ n2_ n3_ n4_ n5_ n6_ n7_ n8_ n9_
                      clear hb hbox hg
                      refine hK.out _ _ ⟨(blk_cell BK226.out 0).trans rfl, (blk_cell BK226.out 1).trans rfl, (blk_cell BK226.out 2).trans rfl, (blk_cell BK226.out 3).trans rfl⟩ (fun hHeld => ?_)
                      clear hK K
                      refine norm_ (a' := ?_) ?_ ?_
                      rotate_left
                      · show Act.put _ (some 8) _ = _
                        simp only [Act.put, List.setIfInBounds_toArray, List.set_cons_zero, List.set_cons_succ, i64_w, i32_w]
                        rfl
                      exact norm_ (by simp only [putAll, Act.put, List.setIfInBounds_toArray, List.set_cons_zero, List.set_cons_succ]) (hCont (gb238) _ ⟨hHeld, (XSq.bq BK224), (XSq.bq BK226), (XSq.bq BK238), GW238.out, GE238.out, NB224_238.out, NB238_224.out, NB226_238.out, NB238_226.out, (XSq.bB HB)⟩)
                    · skip
                      refine box_step ?hg (N := 8) ?hd (cs := #[.int .i64 0, .int .i64 0, .string (⟨#[]⟩ : ByteArray), .bool false, .int .i64 0, .int .i64 0, .int .i64 0]) (t := 71) ?hr ?_; (case hd => rfl); (case hg => rfl); (case hr => first | (go_simp; done) | (go_simp; rfl))
                      intro gb238 hg w23 hbox hb
                      have n0_ := Aside0.mk (blk_below (g := gb224) (o := .cells #[.int .i64 a0_0, .int .i64 a0_1, .string a0_2, .bool a0_3] 26 (0, 0)) (XSq.bq BK224) hb)
                      have n1_ := Aside0.mk (blk_below (g := gb226) (o := .cells #[.int .i64 x227000_2, .int .i64 x227001_2, .string x227002_2, .bool x227003_2] 26 (0, 0)) (XSq.bq BK226) hb)
                      have n2_ := Aside0.mk (below_step (XSq.bB HB) hb)
                      have n3_ := Aside0.mk (hbox)
                      have n4_ := Aside0.mk ((by rw [hg]; exact (below_size (XSq.bB HB)) : w.heap.size ≤ gb238))
                      have n5_ := Aside0.mk ((by rw [hg]; exact (below_size (XSq.bB HB)) : w.heap.size ≤ gb238))
                      have n6_ := Aside0.mk ((by rw [hg]; exact Nat.ne_of_lt (blk_lt (g := gb224) (o := .cells #[.int .i64 a0_0, .int .i64 a0_1, .string a0_2, .bool a0_3] 26 (0, 0)) (XSq.bq BK224)) : gb224 ≠ gb238))
                      have n7_ := Aside0.mk ((by rw [hg]; exact Nat.ne_of_gt (blk_lt (g := gb224) (o := .cells #[.int .i64 a0_0, .int .i64 a0_1, .string a0_2, .bool a0_3] 26 (0, 0)) (XSq.bq BK224)) : gb238 ≠ gb224))
                      have n8_ := Aside0.mk ((by rw [hg]; exact Nat.ne_of_lt (blk_lt (g := gb226) (o := .cells #[.int .i64 x227000_2, .int .i64 x227001_2, .string x227002_2, .bool x227003_2] 26 (0, 0)) (XSq.bq BK226)) : gb226 ≠ gb238))
                      have n9_ := Aside0.mk ((by rw [hg]; exact Nat.ne_of_gt (blk_lt (g := gb226) (o := .cells #[.int .i64 x227000_2, .int .i64 x227001_2, .string x227002_2, .bool x227003_2] 26 (0, 0)) (XSq.bq BK226)) : gb238 ≠ gb226))
                      clear BK224
                      clear BK226
                      clear HB
                      have BK224 := n0_
                      have BK226 := n1_
                      have HB := n2_
                      have BK238 := n3_
                      have GW238 := n4_
                      have GE238 := n5_
                      have NB224_238 := n6_
                      have NB238_224 := n7_
                      have NB226_238 := n8_
                      have NB238_226 := n9_
                      clear n0_ n1_ n2_ n3_ n4_ n5_ n6_ n7_ n8_ n9_
                      clear hb hbox hg
                      refine hK.out _ _ ⟨(blk_cell BK226.out 0).trans rfl, (blk_cell BK226.out 1).trans rfl, (blk_cell BK226.out 2).trans rfl, (blk_cell BK226.out 3).trans rfl⟩ (fun hHeld => ?_)
                      clear hK K
                      refine norm_ (a' := ?_) ?_ ?_
                      rotate_left
                      · show Act.put _ (some 8) _ = _
                        simp only [Act.put, List.setIfInBounds_toArray, List.set_cons_zero, List.set_cons_succ, i64_w, i32_w]
                        rfl
                      refine one_ (i := 4) (N := some 29) #[true, true, true, true, true, false, false, false, true, false, false] rfl rfl (one_of HT_.out (by kernel_rfl)) (by decide) (fun K hK => ?_)
                      refine goes_ Tryd.func64 (by kernel_rfl) rfl #[.agg #[.int .i64 x227000_2, .int .i64 x227001_2, .string x227002_2, .bool x227003_2], .agg #[.int .i64 t227, .int .i64 t228, .int .i64 t229]] (by rfl) rfl rfl (by (try simp only [List.map_toArray, List.map_cons, List.map_nil]); first | done | rfl | (simp only [List.length_drop, List.length_take]; rfl)) ?_
                      with_reducible refine (impl_Maze_pass.calls k2 x227000_2 x227001_2 x227002_2 x227003_2 t227 t228 t229 t230 t231 t232 t233 t234 t235 t236 t237 _ A19.out).mono ?_
                      rintro e w24 ⟨rfl, hb⟩
                      refine ⟨_, rfl, ?_⟩
                      have n0_ := Aside0.mk (blk_below (g := gb224) (o := .cells #[.int .i64 a0_0, .int .i64 a0_1, .string a0_2, .bool a0_3] 26 (0, 0)) (XSq.bq BK224) hb)
                      have n1_ := Aside0.mk (blk_below (g := gb226) (o := .cells #[.int .i64 x227000_2, .int .i64 x227001_2, .string x227002_2, .bool x227003_2] 26 (0, 0)) (XSq.bq BK226) hb)
                      have n2_ := Aside0.mk (blk_below (g := gb238) (o := .cells #[.int .i64 0, .int .i64 0, .string (⟨#[]⟩ : ByteArray), .bool false, .int .i64 0, .int .i64 0, .int .i64 0] 71 (0, 0)) (XSq.bq BK238) hb)
                      have n3_ := Aside0.mk (below_step (XSq.bB HB) hb)
                      clear BK224
                      clear BK226
                      clear BK238
                      clear HB
                      have BK224 := n0_
                      have BK226 := n1_
                      have BK238 := n2_
                      have HB := n3_
                      clear n0_ n1_ n2_ n3_
                      (try clear hb)
                      (try clear hb2)
                      (try clear hk)
                      (try clear hi)
                      refine hK.out _ _ ⟨(blk_cell BK226.out 0).trans rfl, (blk_cell BK226.out 1).trans rfl, (blk_cell BK226.out 2).trans rfl, (blk_cell BK226.out 3).trans rfl⟩ (fun hHeld => ?_)
                      clear hK K
                      refine norm_ (a' := ?_) ?_ ?_
                      rotate_left
                      · show Act.put _ (some 29) _ = _
                        simp only [Act.put, List.setIfInBounds_toArray, List.set_cons_zero, List.set_cons_succ, i64_w, i32_w]
                        rfl
                      refine pure_ (i := 5) (N := some 24) (v := ?_) (a' := ?_) #[true, true, true, true, true, true, false, false, true, false, false] rfl rfl (any_of HT_.out (by kernel_rfl)) (fun _ _ _ h => h) (Or.inl ⟨by rfl, ?_⟩) ?_ ?_
                      rotate_left
                      · intro w'
                        go_simp
                        with_reducible rfl
                      rotate_left
                      · simp only [Act.put, List.setIfInBounds_toArray, List.set_cons_zero, List.set_cons_succ, i64_w, i32_w]
                        rfl
                      refine pure_ (i := 6) (N := some 30) (v := ?_) (a' := ?_) #[true, true, true, true, true, true, true, false, true, false, false] rfl rfl (any_of HT_.out (by kernel_rfl)) (fun _ _ _ h => h) (Or.inl ⟨by rfl, ?_⟩) ?_ ?_
                      rotate_left
                      · intro w'
                        go_simp
                        with_reducible rfl
                      rotate_left
                      · simp only [Act.put, List.setIfInBounds_toArray, List.set_cons_zero, List.set_cons_succ, i64_w, i32_w]
                        rfl
                      refine pure_ (i := 7) (N := some 31) (v := ?_) (a' := ?_) #[true, true, true, true, true, true, true, true, true, false, false] rfl rfl (any_of HT_.out (by kernel_rfl)) (fun _ _ _ h => h) (Or.inl ⟨by rfl, ?_⟩) ?_ ?_
                      rotate_left
                      · intro w'
                        go_simp
                        with_reducible rfl
                      rotate_left
                      · simp only [Act.put, List.setIfInBounds_toArray, List.set_cons_zero, List.set_cons_succ, i64_w, i32_w]
                        rfl
                      exact norm_ (by simp only [putAll, Act.put, List.setIfInBounds_toArray, List.set_cons_zero, List.set_cons_succ]) (hCont (gb238) _ ⟨hHeld, (XSq.bq BK224), (XSq.bq BK226), (XSq.bq BK238), GW238.out, GE238.out, NB224_238.out, NB238_224.out, NB226_238.out, NB238_226.out, (XSq.bB HB)⟩)
                  · skip
                    refine box_step ?hg (N := 8) ?hd (cs := #[.int .i64 0, .int .i64 0, .string (⟨#[]⟩ : ByteArray), .bool false, .int .i64 0, .int .i64 0, .int .i64 0]) (t := 71) ?hr ?_; (case hd => rfl); (case hg => rfl); (case hr => first | (go_simp; done) | (go_simp; rfl))
                    intro gb238 hg w22 hbox hb
                    have n0_ := Aside0.mk (blk_below (g := gb224) (o := .cells #[.int .i64 a0_0, .int .i64 a0_1, .string a0_2, .bool a0_3] 26 (0, 0)) (XSq.bq BK224) hb)
                    have n1_ := Aside0.mk (blk_below (g := gb226) (o := .cells #[.int .i64 x227000_2, .int .i64 x227001_2, .string x227002_2, .bool x227003_2] 26 (0, 0)) (XSq.bq BK226) hb)
                    have n2_ := Aside0.mk (below_step (XSq.bB HB) hb)
                    have n3_ := Aside0.mk (hbox)
                    have n4_ := Aside0.mk ((by rw [hg]; exact (below_size (XSq.bB HB)) : w.heap.size ≤ gb238))
                    have n5_ := Aside0.mk ((by rw [hg]; exact (below_size (XSq.bB HB)) : w.heap.size ≤ gb238))
                    have n6_ := Aside0.mk ((by rw [hg]; exact Nat.ne_of_lt (blk_lt (g := gb224) (o := .cells #[.int .i64 a0_0, .int .i64 a0_1, .string a0_2, .bool a0_3] 26 (0, 0)) (XSq.bq BK224)) : gb224 ≠ gb238))
                    have n7_ := Aside0.mk ((by rw [hg]; exact Nat.ne_of_gt (blk_lt (g := gb224) (o := .cells #[.int .i64 a0_0, .int .i64 a0_1, .string a0_2, .bool a0_3] 26 (0, 0)) (XSq.bq BK224)) : gb238 ≠ gb224))
                    have n8_ := Aside0.mk ((by rw [hg]; exact Nat.ne_of_lt (blk_lt (g := gb226) (o := .cells #[.int .i64 x227000_2, .int .i64 x227001_2, .string x227002_2, .bool x227003_2] 26 (0, 0)) (XSq.bq BK226)) : gb226 ≠ gb238))
                    have n9_ := Aside0.mk ((by rw [hg]; exact Nat.ne_of_gt (blk_lt (g := gb226) (o := .cells #[.int .i64 x227000_2, .int .i64 x227001_2, .string x227002_2, .bool x227003_2] 26 (0, 0)) (XSq.bq BK226)) : gb238 ≠ gb226))
                    clear BK224
                    clear BK226
                    clear HB
                    have BK224 := n0_
                    have BK226 := n1_
                    have HB := n2_
                    have BK238 := n3_
                    have GW238 := n4_
                    have GE238 := n5_
                    have NB224_238 := n6_
                    have NB238_224 := n7_
                    have NB226_238 := n8_
                    have NB238_226 := n9_
                    clear n0_ n1_ n2_ n3_ n4_ n5_ n6_ n7_ n8_ n9_
                    clear hb hbox hg
                    refine hK.out _ _ ⟨(blk_cell BK226.out 0).trans rfl, (blk_cell BK226.out 1).trans rfl, (blk_cell BK226.out 2).trans rfl, (blk_cell BK226.out 3).trans rfl⟩ (fun hHeld => ?_)
                    clear hK K
                    refine norm_ (a' := ?_) ?_ ?_
                    rotate_left
                    · show Act.put _ (some 8) _ = _
                      simp only [Act.put, List.setIfInBounds_toArray, List.set_cons_zero, List.set_cons_succ, i64_w, i32_w]
                      rfl
                    refine one_ (i := 3) (N := some 28) #[true, true, true, true, false, false, false, false, true, false, false] rfl rfl (one_of HT_.out (by kernel_rfl)) (by decide) (fun K hK => ?_)
                    refine goes_ Tryd.func55 (by kernel_rfl) rfl #[.agg #[.int .i64 x227000_2, .int .i64 x227001_2, .string x227002_2, .bool x227003_2], .int .i64 a1] (by rfl) rfl rfl (by (try simp only [List.map_toArray, List.map_cons, List.map_nil]); first | done | rfl | (simp only [List.length_drop, List.length_take]; rfl)) ?_
                    with_reducible refine (impl_Maze_entry.calls x227000_2 x227001_2 x227002_2 x227003_2 a1 t227 t228 t229 _ A18.out).mono ?_
                    rintro e w23 ⟨rfl, hb⟩
                    refine ⟨_, rfl, ?_⟩
                    have n0_ := Aside0.mk (blk_below (g := gb224) (o := .cells #[.int .i64 a0_0, .int .i64 a0_1, .string a0_2, .bool a0_3] 26 (0, 0)) (XSq.bq BK224) hb)
                    have n1_ := Aside0.mk (blk_below (g := gb226) (o := .cells #[.int .i64 x227000_2, .int .i64 x227001_2, .string x227002_2, .bool x227003_2] 26 (0, 0)) (XSq.bq BK226) hb)
                    have n2_ := Aside0.mk (blk_below (g := gb238) (o := .cells #[.int .i64 0, .int .i64 0, .string (⟨#[]⟩ : ByteArray), .bool false, .int .i64 0, .int .i64 0, .int .i64 0] 71 (0, 0)) (XSq.bq BK238) hb)
                    have n3_ := Aside0.mk (below_step (XSq.bB HB) hb)
                    clear BK224
                    clear BK226
                    clear BK238
                    clear HB
                    have BK224 := n0_
                    have BK226 := n1_
                    have BK238 := n2_
                    have HB := n3_
                    clear n0_ n1_ n2_ n3_
                    (try clear hb)
                    (try clear hb2)
                    (try clear hk)
                    (try clear hi)
                    refine hK.out _ _ ⟨(blk_cell BK226.out 0).trans rfl, (blk_cell BK226.out 1).trans rfl, (blk_cell BK226.out 2).trans rfl, (blk_cell BK226.out 3).trans rfl⟩ (fun hHeld => ?_)
                    clear hK K
                    refine norm_ (a' := ?_) ?_ ?_
                    rotate_left
                    · show Act.put _ (some 28) _ = _
                      simp only [Act.put, List.setIfInBounds_toArray, List.set_cons_zero, List.set_cons_succ, i64_w, i32_w]
                      rfl
                    refine one_ (i := 4) (N := some 29) #[true, true, true, true, true, false, false, false, true, false, false] rfl rfl (one_of HT_.out (by kernel_rfl)) (by decide) (fun K hK => ?_)
                    refine goes_ Tryd.func64 (by kernel_rfl) rfl #[.agg #[.int .i64 x227000_2, .int .i64 x227001_2, .string x227002_2, .bool x227003_2], .agg #[.int .i64 t227, .int .i64 t228, .int .i64 t229]] (by rfl) rfl rfl (by (try simp only [List.map_toArray, List.map_cons, List.map_nil]); first | done | rfl | (simp only [List.length_drop, List.length_take]; rfl)) ?_
                    with_reducible refine (impl_Maze_pass.calls k2 x227000_2 x227001_2 x227002_2 x227003_2 t227 t228 t229 t230 t231 t232 t233 t234 t235 t236 t237 _ A19.out).mono ?_
                    rintro e w24 ⟨rfl, hb⟩
                    refine ⟨_, rfl, ?_⟩
                    have n0_ := Aside0.mk (blk_below (g := gb224) (o := .cells #[.int .i64 a0_0, .int .i64 a0_1, .string a0_2, .bool a0_3] 26 (0, 0)) (XSq.bq BK224) hb)
                    have n1_ := Aside0.mk (blk_below (g := gb226) (o := .cells #[.int .i64 x227000_2, .int .i64 x227001_2, .string x227002_2, .bool x227003_2] 26 (0, 0)) (XSq.bq BK226) hb)
                    have n2_ := Aside0.mk (blk_below (g := gb238) (o := .cells #[.int .i64 0, .int .i64 0, .string (⟨#[]⟩ : ByteArray), .bool false, .int .i64 0, .int .i64 0, .int .i64 0] 71 (0, 0)) (XSq.bq BK238) hb)
                    have n3_ := Aside0.mk (below_step (XSq.bB HB) hb)
                    clear BK224
                    clear BK226
                    clear BK238
                    clear HB
                    have BK224 := n0_
                    have BK226 := n1_
                    have BK238 := n2_
                    have HB := n3_
                    clear n0_ n1_ n2_ n3_
                    (try clear hb)
                    (try clear hb2)
                    (try clear hk)
                    (try clear hi)
                    refine hK.out _ _ ⟨(blk_cell BK226.out 0).trans rfl, (blk_cell BK226.out 1).trans rfl, (blk_cell BK226.out 2).trans rfl, (blk_cell BK226.out 3).trans rfl⟩ (fun hHeld => ?_)
                    clear hK K
                    refine norm_ (a' := ?_) ?_ ?_
                    rotate_left
                    · show Act.put _ (some 29) _ = _
                      simp only [Act.put, List.setIfInBounds_toArray, List.set_cons_zero, List.set_cons_succ, i64_w, i32_w]
                      rfl
                    refine pure_ (i := 5) (N := some 24) (v := ?_) (a' := ?_) #[true, true, true, true, true, true, false, false, true, false, false] rfl rfl (any_of HT_.out (by kernel_rfl)) (fun _ _ _ h => h) (Or.inl ⟨by rfl, ?_⟩) ?_ ?_
                    rotate_left
                    · intro w'
                      go_simp
                      with_reducible rfl
                    rotate_left
                    · simp only [Act.put, List.setIfInBounds_toArray, List.set_cons_zero, List.set_cons_succ, i64_w, i32_w]
                      rfl
                    refine pure_ (i := 6) (N := some 30) (v := ?_) (a' := ?_) #[true, true, true, true, true, true, true, false, true, false, false] rfl rfl (any_of HT_.out (by kernel_rfl)) (fun _ _ _ h => h) (Or.inl ⟨by rfl, ?_⟩) ?_ ?_
                    rotate_left
                    · intro w'
                      go_simp
                      with_reducible rfl
                    rotate_left
                    · simp only [Act.put, List.setIfInBounds_toArray, List.set_cons_zero, List.set_cons_succ, i64_w, i32_w]
                      rfl
                    refine pure_ (i := 7) (N := some 31) (v := ?_) (a' := ?_) #[true, true, true, true, true, true, true, true, true, false, false] rfl rfl (any_of HT_.out (by kernel_rfl)) (fun _ _ _ h => h) (Or.inl ⟨by rfl, ?_⟩) ?_ ?_
                    rotate_left
                    · intro w'
                      go_simp
                      with_reducible rfl
                    rotate_left
                    · simp only [Act.put, List.setIfInBounds_toArray, List.set_cons_zero, List.set_cons_succ, i64_w, i32_w]
                      rfl
                    exact norm_ (by simp only [putAll, Act.put, List.setIfInBounds_toArray, List.set_cons_zero, List.set_cons_succ]) (hCont (gb238) _ ⟨hHeld, (XSq.bq BK224), (XSq.bq BK226), (XSq.bq BK238), GW238.out, GE238.out, NB224_238.out, NB238_224.out, NB226_238.out, NB238_226.out, (XSq.bB HB)⟩)
                rintro gb238 w25 ⟨hS_, h0_, h1_, h2_, h3_, h4_, h5_, h6_, h7_, h8_, h9_⟩
                have n0_ : Aside0 (w25.heap[gb224]? = some (.cells #[.int .i64 a0_0, .int .i64 a0_1, .string a0_2, .bool a0_3] 26 (0, 0))) := ⟨h0_⟩
                have n1_ : Aside0 (w25.heap[gb226]? = some (.cells #[.int .i64 x227000_2, .int .i64 x227001_2, .string x227002_2, .bool x227003_2] 26 (0, 0))) := ⟨h1_⟩
                have n2_ : Aside0 (w25.heap[gb238]? = some (.cells #[.int .i64 0, .int .i64 0, .string (⟨#[]⟩ : ByteArray), .bool false, .int .i64 0, .int .i64 0, .int .i64 0] 71 (0, 0))) := ⟨h2_⟩
                have n3_ : Aside0 (w.heap.size ≤ gb238) := ⟨h3_⟩
                have n4_ : Aside0 (w.heap.size ≤ gb238) := ⟨h4_⟩
                have n5_ : Aside0 (gb224 ≠ gb238) := ⟨h5_⟩
                have n6_ : Aside0 (gb238 ≠ gb224) := ⟨h6_⟩
                have n7_ : Aside0 (gb226 ≠ gb238) := ⟨h7_⟩
                have n8_ : Aside0 (gb238 ≠ gb226) := ⟨h8_⟩
                have n9_ : Aside0 (Below w.heap.size w w25) := ⟨h9_⟩
                clear BK224
                clear BK226
                clear HB
                clear h0_ h1_ h2_ h3_ h4_ h5_ h6_ h7_ h8_ h9_
                have BK224 := n0_
                have BK226 := n1_
                have BK238 := n2_
                have GW238 := n3_
                have GE238 := n4_
                have NB224_238 := n5_
                have NB238_224 := n6_
                have NB226_238 := n7_
                have NB238_226 := n8_
                have HB := n9_
                clear n0_ n1_ n2_ n3_ n4_ n5_ n6_ n7_ n8_ n9_
                have hHeld : w25.cell? ⟨gb226, 0, none⟩ = some (.int .i64 x227000_2) ∧ w25.cell? ⟨gb226, 1, none⟩ = some (.int .i64 x227001_2) ∧ w25.cell? ⟨gb226, 2, none⟩ = some (.string x227002_2) ∧ w25.cell? ⟨gb226, 3, none⟩ = some (.bool x227003_2) := hS_
                refine norm_ (a' := ?_) ?_ ?_
                rotate_left
                · simp only [putAll, Act.put, List.setIfInBounds_toArray, List.set_cons_zero, List.set_cons_succ]
                  rfl
                refine one_ (i := 9) (N := none) #[true, true, true, true, true, true, true, true, true, true, false] rfl rfl (one_of HT_.out (by kernel_rfl)) (by decide) (fun K hK => ?_)
                have hs26 : w25.cell? ⟨gb238, 0, none⟩ = some (.int .i64 0) := (blk_cell BK238.out 0).trans rfl
                have hfs26 := blk_frozen BK238.out 0
                have hns26_0 := NB224_238.out
                have hns26_1 := NB226_238.out
                have hms26_0 := NB238_224.out
                have hms26_1 := NB238_226.out
                have hs27 : w25.cell? ⟨gb238, 1, none⟩ = some (.int .i64 0) := (blk_cell BK238.out 1).trans rfl
                have hfs27 := blk_frozen BK238.out 1
                have hns27_0 := NB224_238.out
                have hns27_1 := NB226_238.out
                have hms27_0 := NB238_224.out
                have hms27_1 := NB238_226.out
                have hs28 : w25.cell? ⟨gb238, 2, none⟩ = some (.string (⟨#[]⟩ : ByteArray)) := (blk_cell BK238.out 2).trans rfl
                have hfs28 := blk_frozen BK238.out 2
                have hns28_0 := NB224_238.out
                have hns28_1 := NB226_238.out
                have hms28_0 := NB238_224.out
                have hms28_1 := NB238_226.out
                have hs29 : w25.cell? ⟨gb238, 3, none⟩ = some (.bool false) := (blk_cell BK238.out 3).trans rfl
                have hfs29 := blk_frozen BK238.out 3
                have hns29_0 := NB224_238.out
                have hns29_1 := NB226_238.out
                have hms29_0 := NB238_224.out
                have hms29_1 := NB238_226.out
                have hs30 : w25.cell? ⟨gb238, 4, none⟩ = some (.int .i64 0) := (blk_cell BK238.out 4).trans rfl
                have hfs30 := blk_frozen BK238.out 4
                have hns30_0 := NB224_238.out
                have hns30_1 := NB226_238.out
                have hms30_0 := NB238_224.out
                have hms30_1 := NB238_226.out
                have hs31 : w25.cell? ⟨gb238, 5, none⟩ = some (.int .i64 0) := (blk_cell BK238.out 5).trans rfl
                have hfs31 := blk_frozen BK238.out 5
                have hns31_0 := NB224_238.out
                have hns31_1 := NB226_238.out
                have hms31_0 := NB238_224.out
                have hms31_1 := NB238_226.out
                have hs32 : w25.cell? ⟨gb238, 6, none⟩ = some (.int .i64 0) := (blk_cell BK238.out 6).trans rfl
                have hfs32 := blk_frozen BK238.out 6
                have hns32_0 := NB224_238.out
                have hns32_1 := NB226_238.out
                have hms32_0 := NB238_224.out
                have hms32_1 := NB238_226.out
                refine skip_ (w1 := ?_) (by rfl) rfl ?_ ?_
                rotate_left
                · go_simp
                  rfl
                refine hK.out _ _ ⟨((cell_far (p := ⟨gb238, _, none⟩) NB226_238.out _).trans (((cell_far (p := ⟨gb238, _, none⟩) NB226_238.out _).trans (((cell_far (p := ⟨gb238, _, none⟩) NB226_238.out _).trans (((cell_far (p := ⟨gb238, _, none⟩) NB226_238.out _).trans (((cell_far (p := ⟨gb238, _, none⟩) NB226_238.out _).trans (((cell_far (p := ⟨gb238, _, none⟩) NB226_238.out _).trans (((cell_far (p := ⟨gb238, _, none⟩) NB226_238.out _).trans (hHeld.1)))))))))))))), ((cell_far (p := ⟨gb238, _, none⟩) NB226_238.out _).trans (((cell_far (p := ⟨gb238, _, none⟩) NB226_238.out _).trans (((cell_far (p := ⟨gb238, _, none⟩) NB226_238.out _).trans (((cell_far (p := ⟨gb238, _, none⟩) NB226_238.out _).trans (((cell_far (p := ⟨gb238, _, none⟩) NB226_238.out _).trans (((cell_far (p := ⟨gb238, _, none⟩) NB226_238.out _).trans (((cell_far (p := ⟨gb238, _, none⟩) NB226_238.out _).trans (hHeld.2.1)))))))))))))), ((cell_far (p := ⟨gb238, _, none⟩) NB226_238.out _).trans (((cell_far (p := ⟨gb238, _, none⟩) NB226_238.out _).trans (((cell_far (p := ⟨gb238, _, none⟩) NB226_238.out _).trans (((cell_far (p := ⟨gb238, _, none⟩) NB226_238.out _).trans (((cell_far (p := ⟨gb238, _, none⟩) NB226_238.out _).trans (((cell_far (p := ⟨gb238, _, none⟩) NB226_238.out _).trans (((cell_far (p := ⟨gb238, _, none⟩) NB226_238.out _).trans (hHeld.2.2.1)))))))))))))), ((cell_far (p := ⟨gb238, _, none⟩) NB226_238.out _).trans (((cell_far (p := ⟨gb238, _, none⟩) NB226_238.out _).trans (((cell_far (p := ⟨gb238, _, none⟩) NB226_238.out _).trans (((cell_far (p := ⟨gb238, _, none⟩) NB226_238.out _).trans (((cell_far (p := ⟨gb238, _, none⟩) NB226_238.out _).trans (((cell_far (p := ⟨gb238, _, none⟩) NB226_238.out _).trans (((cell_far (p := ⟨gb238, _, none⟩) NB226_238.out _).trans (hHeld.2.2.2))))))))))))))⟩ (fun hHeld => ?_)
                clear hK K
                refine pure_ (i := 10) (N := some 9) (v := ?_) (a' := ?_) #[true, true, true, true, true, true, true, true, true, true, true] rfl rfl (any_of HT_.out (by kernel_rfl)) (fun _ _ _ h => h) (Or.inl ⟨by rfl, ?_⟩) ?_ ?_
                rotate_left
                · intro w'
                  go_simp
                  with_reducible rfl
                rotate_left
                · simp only [Act.put, List.setIfInBounds_toArray, List.set_cons_zero, List.set_cons_succ, i64_w, i32_w]
                  rfl
                refine done_ (done_of HT_.out (by kernel_rfl)) ?_
                have hnb33 := NB238_224.out
                have hnc33 := NB224_238.out
                have hnb34 := NB238_226.out
                have hnc34 := NB226_238.out
                have hcz35_0 : w25.cell? ⟨gb238, 0, none⟩ = some (.int .i64 0) := (blk_cell BK238.out 0).trans rfl
                have hcz35_1 : w25.cell? ⟨gb238, 1, none⟩ = some (.int .i64 0) := (blk_cell BK238.out 1).trans rfl
                have hcz35_2 : w25.cell? ⟨gb238, 2, none⟩ = some (.string (⟨#[]⟩ : ByteArray)) := (blk_cell BK238.out 2).trans rfl
                have hcz35_3 : w25.cell? ⟨gb238, 3, none⟩ = some (.bool false) := (blk_cell BK238.out 3).trans rfl
                have hcz35_4 : w25.cell? ⟨gb238, 4, none⟩ = some (.int .i64 0) := (blk_cell BK238.out 4).trans rfl
                have hcz35_5 : w25.cell? ⟨gb238, 5, none⟩ = some (.int .i64 0) := (blk_cell BK238.out 5).trans rfl
                have hcz35_6 : w25.cell? ⟨gb238, 6, none⟩ = some (.int .i64 0) := (blk_cell BK238.out 6).trans rfl
                have hfz35_0 := blk_frozen BK238.out 0
                have hfz35_1 := blk_frozen BK238.out 1
                have hfz35_2 := blk_frozen BK238.out 2
                have hfz35_3 := blk_frozen BK238.out 3
                have hfz35_4 := blk_frozen BK238.out 4
                have hfz35_5 := blk_frozen BK238.out 5
                have hfz35_6 := blk_frozen BK238.out 6
                have hnb36 := NB226_224.out
                have hnc36 := NB224_226.out
                have hcz37_0 : w25.cell? ⟨gb226, 0, none⟩ = some (.int .i64 x227000_2) := (blk_cell BK226.out 0).trans rfl
                have hcz37_1 : w25.cell? ⟨gb226, 1, none⟩ = some (.int .i64 x227001_2) := (blk_cell BK226.out 1).trans rfl
                have hcz37_2 : w25.cell? ⟨gb226, 2, none⟩ = some (.string x227002_2) := (blk_cell BK226.out 2).trans rfl
                have hcz37_3 : w25.cell? ⟨gb226, 3, none⟩ = some (.bool x227003_2) := (blk_cell BK226.out 3).trans rfl
                have hfz37_0 := blk_frozen BK226.out 0
                have hfz37_1 := blk_frozen BK226.out 1
                have hfz37_2 := blk_frozen BK226.out 2
                have hfz37_3 := blk_frozen BK226.out 3
                have hcz38_0 : w25.cell? ⟨gb224, 0, none⟩ = some (.int .i64 a0_0) := (blk_cell BK224.out 0).trans rfl
                have hcz38_1 : w25.cell? ⟨gb224, 1, none⟩ = some (.int .i64 a0_1) := (blk_cell BK224.out 1).trans rfl
                have hcz38_2 : w25.cell? ⟨gb224, 2, none⟩ = some (.string a0_2) := (blk_cell BK224.out 2).trans rfl
                have hcz38_3 : w25.cell? ⟨gb224, 3, none⟩ = some (.bool a0_3) := (blk_cell BK224.out 3).trans rfl
                have hfz38_0 := blk_frozen BK224.out 0
                have hfz38_1 := blk_frozen BK224.out 1
                have hfz38_2 := blk_frozen BK224.out 2
                have hfz38_3 := blk_frozen BK224.out 3
                try go_wp2
                go_ret2
                exact ⟨by first | rfl | (simp [errW_none, errW_some] <;> rfl) | (simp [*, errW_none, errW_some] <;> rfl), by repeat (first | (with_reducible first | exact HB.out | apply below_alloc | apply pw_below_drewN | apply below_drew1 | refine below_set ?_ GE224.out | refine below_set ?_ GE226.out | refine below_set ?_ GE238.out) | exact HB.out)⟩
              · rw [if_neg c20] at H
                have c20b0 : (t230 == a0_0 && (t231 == a0_1 && (t232.toList == a0_2.toList && (t233 == a0_3)))) = false := by simpa using c20
                (try (have c20b1 : decide (t230 = a0_0 && (t231 == a0_1 && (t232.toList == a0_2.toList && (t233 == a0_3)))) = false := by simpa using c20))
                (try (have c20b2 : (t230 == a0_0 && (t231 == a0_1 && (t232.toList == a0_2.toList && (t233 == a0_3)))) = false := by simpa using c20))
                (try (have c20b3 : ¬ (t230 = a0_0 && (t231 == a0_1 && (t232.toList == a0_2.toList && (t233 == a0_3)))) := by simpa using c20))
                clear c20
                have H' := Aside0.mk H
                clear H
                try go_wp2
                have n0_ := Aside0.mk (blk_drew BK224.out)
                have n1_ := Aside0.mk (blk_drew BK226.out)
                have n2_ := Aside0.mk (below_drew1 HB.out)
                clear BK224
                clear BK226
                clear HB
                have BK224 := n0_
                have BK226 := n1_
                have HB := n2_
                clear n0_ n1_ n2_
                refine start_ (n := 11) (S := fun w' => w'.cell? ⟨gb226, 0, none⟩ = some (.int .i64 x227000_2) ∧ w'.cell? ⟨gb226, 1, none⟩ = some (.int .i64 x227001_2) ∧ w'.cell? ⟨gb226, 2, none⟩ = some (.string x227002_2) ∧ w'.cell? ⟨gb226, 3, none⟩ = some (.bool x227003_2)) (ds := []) #[false, false, false, false, false, false, false, false, false, false, false] (by kernel_rfl) rfl rfl ⟨(blk_cell BK226.out 0).trans rfl, (blk_cell BK226.out 1).trans rfl, (blk_cell BK226.out 2).trans rfl, (blk_cell BK226.out 3).trans rfl⟩ (fun hHeld => ?_); refine with_tabW impl_BallsUntilSame.tab7 impl_BallsUntilSame.bits7 (fun HT_ HW_ => ?_)
                generalize wr.drew = w39 at BK224 BK226 HB hHeld ⊢
                refine pure_ (i := 2) (N := some 27) (v := ?_) (a' := ?_) #[false, false, true, false, false, false, false, false, false, false, false] rfl rfl (any_of HT_.out (by kernel_rfl)) (fun _ _ _ h => h) (Or.inl ⟨by rfl, ?_⟩) ?_ ?_
                rotate_left
                · intro w'
                  go_simp
                  with_reducible rfl
                rotate_left
                · simp only [Act.put, List.setIfInBounds_toArray, List.set_cons_zero, List.set_cons_succ, i64_w, i32_w]
                  rfl
                refine take_ (i := 0) (N := some 25) (v := ?_) (a' := ?_) #[true, false, true, false, false, false, false, false, false, false, false] rfl rfl (take_ofW HT_.out HW_.out (by kernel_rfl)) (fun _ _ _ h => h) (Or.inl ⟨by rfl, ?_⟩) hHeld ?_ ?_
                rotate_left
                · rintro w' ⟨s0, s1, s2, s3⟩
                  go_simp
                  with_reducible rfl
                rotate_left
                · simp only [Act.put, List.setIfInBounds_toArray, List.set_cons_zero, List.set_cons_succ, i64_w, i32_w]
                  rfl
                refine take_ (i := 1) (N := some 26) (v := ?_) (a' := ?_) #[true, true, true, false, false, false, false, false, false, false, false] rfl rfl (take_ofW HT_.out HW_.out (by kernel_rfl)) (fun _ _ _ h => h) (Or.inl ⟨by rfl, ?_⟩) hHeld ?_ ?_
                rotate_left
                · rintro w' ⟨s0, s1, s2, s3⟩
                  go_simp
                  with_reducible rfl
                rotate_left
                · simp only [Act.put, List.setIfInBounds_toArray, List.set_cons_zero, List.set_cons_succ, i64_w, i32_w]
                  rfl
                refine join_ (σ := Nat) 2 #[true, true, true, true, true, true, true, true, true, false, false] (fun s_ => [(28, .agg #[.int .i64 t227, .int .i64 t228, .int .i64 t229]), (29, .tuple #[.agg #[.int .i64 t230, .int .i64 t231, .string t232, .bool t233, .int .i64 t234, .int .i64 t235, .int .i64 t236], .bool t237]), (8, .pointer (some ⟨s_, 0, none⟩)), (24, .tuple #[.agg #[.int .i64 t230, .int .i64 t231, .string t232, .bool t233, .int .i64 t234, .int .i64 t235, .int .i64 t236], .bool t237]), (30, .agg #[.int .i64 t230, .int .i64 t231, .string t232, .bool t233, .int .i64 t234, .int .i64 t235, .int .i64 t236]), (31, .bool t237)]) (fun s_ w' => (w'.cell? ⟨gb226, 0, none⟩ = some (.int .i64 x227000_2) ∧ w'.cell? ⟨gb226, 1, none⟩ = some (.int .i64 x227001_2) ∧ w'.cell? ⟨gb226, 2, none⟩ = some (.string x227002_2) ∧ w'.cell? ⟨gb226, 3, none⟩ = some (.bool x227003_2)) ∧ (w'.heap[gb224]? = some (.cells #[.int .i64 a0_0, .int .i64 a0_1, .string a0_2, .bool a0_3] 26 (0, 0))) ∧ (w'.heap[gb226]? = some (.cells #[.int .i64 x227000_2, .int .i64 x227001_2, .string x227002_2, .bool x227003_2] 26 (0, 0))) ∧ (w'.heap[s_]? = some (.cells #[.int .i64 0, .int .i64 0, .string (⟨#[]⟩ : ByteArray), .bool false, .int .i64 0, .int .i64 0, .int .i64 0] 71 (0, 0))) ∧ (w.heap.size ≤ s_) ∧ (w.heap.size ≤ s_) ∧ (gb224 ≠ s_) ∧ (s_ ≠ gb224) ∧ (gb226 ≠ s_) ∧ (s_ ≠ gb226) ∧ (Below w.heap.size w w')) ?_ ?_
                rotate_left
                · intro hCont
                  refine two_ (i := 3) (j := 8) (Ni := some 28) (Nj := some 8) #[true, true, true, true, false, false, false, false, false, false, false] #[true, true, true, false, false, false, false, false, true, false, false] rfl rfl rfl rfl (two_of HT_.out (by kernel_rfl)) (by decide) (by decide) (fun K hK => ?_) (fun K hK => ?_)
                  · skip
                    refine goes_ Tryd.func55 (by kernel_rfl) rfl #[.agg #[.int .i64 x227000_2, .int .i64 x227001_2, .string x227002_2, .bool x227003_2], .int .i64 a1] (by rfl) rfl rfl (by (try simp only [List.map_toArray, List.map_cons, List.map_nil]); first | done | rfl | (simp only [List.length_drop, List.length_take]; rfl)) ?_
                    with_reducible refine (impl_Maze_entry.calls x227000_2 x227001_2 x227002_2 x227003_2 a1 t227 t228 t229 _ A18.out).mono ?_
                    rintro e w40 ⟨rfl, hb⟩
                    refine ⟨_, rfl, ?_⟩
                    have n0_ := Aside0.mk (blk_below (g := gb224) (o := .cells #[.int .i64 a0_0, .int .i64 a0_1, .string a0_2, .bool a0_3] 26 (0, 0)) (XSq.bq BK224) hb)
                    have n1_ := Aside0.mk (blk_below (g := gb226) (o := .cells #[.int .i64 x227000_2, .int .i64 x227001_2, .string x227002_2, .bool x227003_2] 26 (0, 0)) (XSq.bq BK226) hb)
                    have n2_ := Aside0.mk (below_step (XSq.bB HB) hb)
                    clear BK224
                    clear BK226
                    clear HB
                    have BK224 := n0_
                    have BK226 := n1_
                    have HB := n2_
                    clear n0_ n1_ n2_
                    (try clear hb)
                    (try clear hb2)
                    (try clear hk)
                    (try clear hi)
                    refine hK.out _ _ ⟨(blk_cell BK226.out 0).trans rfl, (blk_cell BK226.out 1).trans rfl, (blk_cell BK226.out 2).trans rfl, (blk_cell BK226.out 3).trans rfl⟩ (fun hHeld => ?_)
                    clear hK K
                    refine norm_ (a' := ?_) ?_ ?_
                    rotate_left
                    · show Act.put _ (some 28) _ = _
                      simp only [Act.put, List.setIfInBounds_toArray, List.set_cons_zero, List.set_cons_succ, i64_w, i32_w]
                      rfl
                    refine two_ (i := 4) (j := 8) (Ni := some 29) (Nj := some 8) #[true, true, true, true, true, false, false, false, false, false, false] #[true, true, true, true, false, false, false, false, true, false, false] rfl rfl rfl rfl (two_of HT_.out (by kernel_rfl)) (by decide) (by decide) (fun K hK => ?_) (fun K hK => ?_)
                    · skip
                      refine goes_ Tryd.func64 (by kernel_rfl) rfl #[.agg #[.int .i64 x227000_2, .int .i64 x227001_2, .string x227002_2, .bool x227003_2], .agg #[.int .i64 t227, .int .i64 t228, .int .i64 t229]] (by rfl) rfl rfl (by (try simp only [List.map_toArray, List.map_cons, List.map_nil]); first | done | rfl | (simp only [List.length_drop, List.length_take]; rfl)) ?_
                      with_reducible refine (impl_Maze_pass.calls k2 x227000_2 x227001_2 x227002_2 x227003_2 t227 t228 t229 t230 t231 t232 t233 t234 t235 t236 t237 _ A19.out).mono ?_
                      rintro e w41 ⟨rfl, hb⟩
                      refine ⟨_, rfl, ?_⟩
                      have n0_ := Aside0.mk (blk_below (g := gb224) (o := .cells #[.int .i64 a0_0, .int .i64 a0_1, .string a0_2, .bool a0_3] 26 (0, 0)) (XSq.bq BK224) hb)
                      have n1_ := Aside0.mk (blk_below (g := gb226) (o := .cells #[.int .i64 x227000_2, .int .i64 x227001_2, .string x227002_2, .bool x227003_2] 26 (0, 0)) (XSq.bq BK226) hb)
                      have n2_ := Aside0.mk (below_step (XSq.bB HB) hb)
                      clear BK224
                      clear BK226
                      clear HB
                      have BK224 := n0_
                      have BK226 := n1_
                      have HB := n2_
                      clear n0_ n1_ n2_
                      (try clear hb)
                      (try clear hb2)
                      (try clear hk)
                      (try clear hi)
                      refine hK.out _ _ ⟨(blk_cell BK226.out 0).trans rfl, (blk_cell BK226.out 1).trans rfl, (blk_cell BK226.out 2).trans rfl, (blk_cell BK226.out 3).trans rfl⟩ (fun hHeld => ?_)
                      clear hK K
                      refine norm_ (a' := ?_) ?_ ?_
                      rotate_left
                      · show Act.put _ (some 29) _ = _
                        simp only [Act.put, List.setIfInBounds_toArray, List.set_cons_zero, List.set_cons_succ, i64_w, i32_w]
                        rfl
                      refine pure_ (i := 5) (N := some 24) (v := ?_) (a' := ?_) #[true, true, true, true, true, true, false, false, false, false, false] rfl rfl (any_of HT_.out (by kernel_rfl)) (fun _ _ _ h => h) (Or.inl ⟨by rfl, ?_⟩) ?_ ?_
                      rotate_left
                      · intro w'
                        go_simp
                        with_reducible rfl
                      rotate_left
                      · simp only [Act.put, List.setIfInBounds_toArray, List.set_cons_zero, List.set_cons_succ, i64_w, i32_w]
                        rfl
                      refine pure_ (i := 6) (N := some 30) (v := ?_) (a' := ?_) #[true, true, true, true, true, true, true, false, false, false, false] rfl rfl (any_of HT_.out (by kernel_rfl)) (fun _ _ _ h => h) (Or.inl ⟨by rfl, ?_⟩) ?_ ?_
                      rotate_left
                      · intro w'
                        go_simp
                        with_reducible rfl
                      rotate_left
                      · simp only [Act.put, List.setIfInBounds_toArray, List.set_cons_zero, List.set_cons_succ, i64_w, i32_w]
                        rfl
                      refine pure_ (i := 7) (N := some 31) (v := ?_) (a' := ?_) #[true, true, true, true, true, true, true, true, false, false, false] rfl rfl (any_of HT_.out (by kernel_rfl)) (fun _ _ _ h => h) (Or.inl ⟨by rfl, ?_⟩) ?_ ?_
                      rotate_left
                      · intro w'
                        go_simp
                        with_reducible rfl
                      rotate_left
                      · simp only [Act.put, List.setIfInBounds_toArray, List.set_cons_zero, List.set_cons_succ, i64_w, i32_w]
                        rfl
                      refine one_ (i := 8) (N := some 8) #[true, true, true, true, true, true, true, true, true, false, false] rfl rfl (one_of HT_.out (by kernel_rfl)) (by decide) (fun K hK => ?_)
                      refine box_step ?hg (N := 8) ?hd (cs := #[.int .i64 0, .int .i64 0, .string (⟨#[]⟩ : ByteArray), .bool false, .int .i64 0, .int .i64 0, .int .i64 0]) (t := 71) ?hr ?_; (case hd => rfl); (case hg => rfl); (case hr => first | (go_simp; done) | (go_simp; rfl))
                      intro gb238 hg w42 hbox hb
                      have n0_ := Aside0.mk (blk_below (g := gb224) (o := .cells #[.int .i64 a0_0, .int .i64 a0_1, .string a0_2, .bool a0_3] 26 (0, 0)) (XSq.bq BK224) hb)
                      have n1_ := Aside0.mk (blk_below (g := gb226) (o := .cells #[.int .i64 x227000_2, .int .i64 x227001_2, .string x227002_2, .bool x227003_2] 26 (0, 0)) (XSq.bq BK226) hb)
                      have n2_ := Aside0.mk (below_step (XSq.bB HB) hb)
                      have n3_ := Aside0.mk (hbox)
                      have n4_ := Aside0.mk ((by rw [hg]; exact (below_size (XSq.bB HB)) : w.heap.size ≤ gb238))
                      have n5_ := Aside0.mk ((by rw [hg]; exact (below_size (XSq.bB HB)) : w.heap.size ≤ gb238))
                      have n6_ := Aside0.mk ((by rw [hg]; exact Nat.ne_of_lt (blk_lt (g := gb224) (o := .cells #[.int .i64 a0_0, .int .i64 a0_1, .string a0_2, .bool a0_3] 26 (0, 0)) (XSq.bq BK224)) : gb224 ≠ gb238))
                      have n7_ := Aside0.mk ((by rw [hg]; exact Nat.ne_of_gt (blk_lt (g := gb224) (o := .cells #[.int .i64 a0_0, .int .i64 a0_1, .string a0_2, .bool a0_3] 26 (0, 0)) (XSq.bq BK224)) : gb238 ≠ gb224))
                      have n8_ := Aside0.mk ((by rw [hg]; exact Nat.ne_of_lt (blk_lt (g := gb226) (o := .cells #[.int .i64 x227000_2, .int .i64 x227001_2, .string x227002_2, .bool x227003_2] 26 (0, 0)) (XSq.bq BK226)) : gb226 ≠ gb238))
                      have n9_ := Aside0.mk ((by rw [hg]; exact Nat.ne_of_gt (blk_lt (g := gb226) (o := .cells #[.int .i64 x227000_2, .int .i64 x227001_2, .string x227002_2, .bool x227003_2] 26 (0, 0)) (XSq.bq BK226)) : gb238 ≠ gb226))
                      clear BK224
                      clear BK226
                      clear HB
                      have BK224 := n0_
                      have BK226 := n1_
                      have HB := n2_
                      have BK238 := n3_
                      have GW238 := n4_
                      have GE238 := n5_
                      have NB224_238 := n6_
                      have NB238_224 := n7_
                      have NB226_238 := n8_
                      have NB238_226 := n9_
                      clear n0_ n1_ n2_ n3_ n4_ n5_ n6_ n7_ n8_ n9_
                      clear hb hbox hg
                      refine hK.out _ _ ⟨(blk_cell BK226.out 0).trans rfl, (blk_cell BK226.out 1).trans rfl, (blk_cell BK226.out 2).trans rfl, (blk_cell BK226.out 3).trans rfl⟩ (fun hHeld => ?_)
                      clear hK K
                      refine norm_ (a' := ?_) ?_ ?_
                      rotate_left
                      · show Act.put _ (some 8) _ = _
                        simp only [Act.put, List.setIfInBounds_toArray, List.set_cons_zero, List.set_cons_succ, i64_w, i32_w]
                        rfl
                      exact norm_ (by simp only [putAll, Act.put, List.setIfInBounds_toArray, List.set_cons_zero, List.set_cons_succ]) (hCont (gb238) _ ⟨hHeld, (XSq.bq BK224), (XSq.bq BK226), (XSq.bq BK238), GW238.out, GE238.out, NB224_238.out, NB238_224.out, NB226_238.out, NB238_226.out, (XSq.bB HB)⟩)
                    · skip
                      refine box_step ?hg (N := 8) ?hd (cs := #[.int .i64 0, .int .i64 0, .string (⟨#[]⟩ : ByteArray), .bool false, .int .i64 0, .int .i64 0, .int .i64 0]) (t := 71) ?hr ?_; (case hd => rfl); (case hg => rfl); (case hr => first | (go_simp; done) | (go_simp; rfl))
                      intro gb238 hg w41 hbox hb
                      have n0_ := Aside0.mk (blk_below (g := gb224) (o := .cells #[.int .i64 a0_0, .int .i64 a0_1, .string a0_2, .bool a0_3] 26 (0, 0)) (XSq.bq BK224) hb)
                      have n1_ := Aside0.mk (blk_below (g := gb226) (o := .cells #[.int .i64 x227000_2, .int .i64 x227001_2, .string x227002_2, .bool x227003_2] 26 (0, 0)) (XSq.bq BK226) hb)
                      have n2_ := Aside0.mk (below_step (XSq.bB HB) hb)
                      have n3_ := Aside0.mk (hbox)
                      have n4_ := Aside0.mk ((by rw [hg]; exact (below_size (XSq.bB HB)) : w.heap.size ≤ gb238))
                      have n5_ := Aside0.mk ((by rw [hg]; exact (below_size (XSq.bB HB)) : w.heap.size ≤ gb238))
                      have n6_ := Aside0.mk ((by rw [hg]; exact Nat.ne_of_lt (blk_lt (g := gb224) (o := .cells #[.int .i64 a0_0, .int .i64 a0_1, .string a0_2, .bool a0_3] 26 (0, 0)) (XSq.bq BK224)) : gb224 ≠ gb238))
                      have n7_ := Aside0.mk ((by rw [hg]; exact Nat.ne_of_gt (blk_lt (g := gb224) (o := .cells #[.int .i64 a0_0, .int .i64 a0_1, .string a0_2, .bool a0_3] 26 (0, 0)) (XSq.bq BK224)) : gb238 ≠ gb224))
                      have n8_ := Aside0.mk ((by rw [hg]; exact Nat.ne_of_lt (blk_lt (g := gb226) (o := .cells #[.int .i64 x227000_2, .int .i64 x227001_2, .string x227002_2, .bool x227003_2] 26 (0, 0)) (XSq.bq BK226)) : gb226 ≠ gb238))
                      have n9_ := Aside0.mk ((by rw [hg]; exact Nat.ne_of_gt (blk_lt (g := gb226) (o := .cells #[.int .i64 x227000_2, .int .i64 x227001_2, .string x227002_2, .bool x227003_2] 26 (0, 0)) (XSq.bq BK226)) : gb238 ≠ gb226))
                      clear BK224
                      clear BK226
                      clear HB
                      have BK224 := n0_
                      have BK226 := n1_
                      have HB := n2_
                      have BK238 := n3_
                      have GW238 := n4_
                      have GE238 := n5_
                      have NB224_238 := n6_
                      have NB238_224 := n7_
                      have NB226_238 := n8_
                      have NB238_226 := n9_
                      clear n0_ n1_ n2_ n3_ n4_ n5_ n6_ n7_ n8_ n9_
                      clear hb hbox hg
                      refine hK.out _ _ ⟨(blk_cell BK226.out 0).trans rfl, (blk_cell BK226.out 1).trans rfl, (blk_cell BK226.out 2).trans rfl, (blk_cell BK226.out 3).trans rfl⟩ (fun hHeld => ?_)
                      clear hK K
                      refine norm_ (a' := ?_) ?_ ?_
                      rotate_left
                      · show Act.put _ (some 8) _ = _
                        simp only [Act.put, List.setIfInBounds_toArray, List.set_cons_zero, List.set_cons_succ, i64_w, i32_w]
                        rfl
                      refine one_ (i := 4) (N := some 29) #[true, true, true, true, true, false, false, false, true, false, false] rfl rfl (one_of HT_.out (by kernel_rfl)) (by decide) (fun K hK => ?_)
                      refine goes_ Tryd.func64 (by kernel_rfl) rfl #[.agg #[.int .i64 x227000_2, .int .i64 x227001_2, .string x227002_2, .bool x227003_2], .agg #[.int .i64 t227, .int .i64 t228, .int .i64 t229]] (by rfl) rfl rfl (by (try simp only [List.map_toArray, List.map_cons, List.map_nil]); first | done | rfl | (simp only [List.length_drop, List.length_take]; rfl)) ?_
                      with_reducible refine (impl_Maze_pass.calls k2 x227000_2 x227001_2 x227002_2 x227003_2 t227 t228 t229 t230 t231 t232 t233 t234 t235 t236 t237 _ A19.out).mono ?_
                      rintro e w42 ⟨rfl, hb⟩
                      refine ⟨_, rfl, ?_⟩
                      have n0_ := Aside0.mk (blk_below (g := gb224) (o := .cells #[.int .i64 a0_0, .int .i64 a0_1, .string a0_2, .bool a0_3] 26 (0, 0)) (XSq.bq BK224) hb)
                      have n1_ := Aside0.mk (blk_below (g := gb226) (o := .cells #[.int .i64 x227000_2, .int .i64 x227001_2, .string x227002_2, .bool x227003_2] 26 (0, 0)) (XSq.bq BK226) hb)
                      have n2_ := Aside0.mk (blk_below (g := gb238) (o := .cells #[.int .i64 0, .int .i64 0, .string (⟨#[]⟩ : ByteArray), .bool false, .int .i64 0, .int .i64 0, .int .i64 0] 71 (0, 0)) (XSq.bq BK238) hb)
                      have n3_ := Aside0.mk (below_step (XSq.bB HB) hb)
                      clear BK224
                      clear BK226
                      clear BK238
                      clear HB
                      have BK224 := n0_
                      have BK226 := n1_
                      have BK238 := n2_
                      have HB := n3_
                      clear n0_ n1_ n2_ n3_
                      (try clear hb)
                      (try clear hb2)
                      (try clear hk)
                      (try clear hi)
                      refine hK.out _ _ ⟨(blk_cell BK226.out 0).trans rfl, (blk_cell BK226.out 1).trans rfl, (blk_cell BK226.out 2).trans rfl, (blk_cell BK226.out 3).trans rfl⟩ (fun hHeld => ?_)
                      clear hK K
                      refine norm_ (a' := ?_) ?_ ?_
                      rotate_left
                      · show Act.put _ (some 29) _ = _
                        simp only [Act.put, List.setIfInBounds_toArray, List.set_cons_zero, List.set_cons_succ, i64_w, i32_w]
                        rfl
                      refine pure_ (i := 5) (N := some 24) (v := ?_) (a' := ?_) #[true, true, true, true, true, true, false, false, true, false, false] rfl rfl (any_of HT_.out (by kernel_rfl)) (fun _ _ _ h => h) (Or.inl ⟨by rfl, ?_⟩) ?_ ?_
                      rotate_left
                      · intro w'
                        go_simp
                        with_reducible rfl
                      rotate_left
                      · simp only [Act.put, List.setIfInBounds_toArray, List.set_cons_zero, List.set_cons_succ, i64_w, i32_w]
                        rfl
                      refine pure_ (i := 6) (N := some 30) (v := ?_) (a' := ?_) #[true, true, true, true, true, true, true, false, true, false, false] rfl rfl (any_of HT_.out (by kernel_rfl)) (fun _ _ _ h => h) (Or.inl ⟨by rfl, ?_⟩) ?_ ?_
                      rotate_left
                      · intro w'
                        go_simp
                        with_reducible rfl
                      rotate_left
                      · simp only [Act.put, List.setIfInBounds_toArray, List.set_cons_zero, List.set_cons_succ, i64_w, i32_w]
                        rfl
                      refine pure_ (i := 7) (N := some 31) (v := ?_) (a' := ?_) #[true, true, true, true, true, true, true, true, true, false, false] rfl rfl (any_of HT_.out (by kernel_rfl)) (fun _ _ _ h => h) (Or.inl ⟨by rfl, ?_⟩) ?_ ?_
                      rotate_left
                      · intro w'
                        go_simp
                        with_reducible rfl
                      rotate_left
                      · simp only [Act.put, List.setIfInBounds_toArray, List.set_cons_zero, List.set_cons_succ, i64_w, i32_w]
                        rfl
                      exact norm_ (by simp only [putAll, Act.put, List.setIfInBounds_toArray, List.set_cons_zero, List.set_cons_succ]) (hCont (gb238) _ ⟨hHeld, (XSq.bq BK224), (XSq.bq BK226), (XSq.bq BK238), GW238.out, GE238.out, NB224_238.out, NB238_224.out, NB226_238.out, NB238_226.out, (XSq.bB HB)⟩)
                  · skip
                    refine box_step ?hg (N := 8) ?hd (cs := #[.int .i64 0, .int .i64 0, .string (⟨#[]⟩ : ByteArray), .bool false, .int .i64 0, .int .i64 0, .int .i64 0]) (t := 71) ?hr ?_; (case hd => rfl); (case hg => rfl); (case hr => first | (go_simp; done) | (go_simp; rfl))
                    intro gb238 hg w40 hbox hb
                    have n0_ := Aside0.mk (blk_below (g := gb224) (o := .cells #[.int .i64 a0_0, .int .i64 a0_1, .string a0_2, .bool a0_3] 26 (0, 0)) (XSq.bq BK224) hb)
                    have n1_ := Aside0.mk (blk_below (g := gb226) (o := .cells #[.int .i64 x227000_2, .int .i64 x227001_2, .string x227002_2, .bool x227003_2] 26 (0, 0)) (XSq.bq BK226) hb)
                    have n2_ := Aside0.mk (below_step (XSq.bB HB) hb)
                    have n3_ := Aside0.mk (hbox)
                    have n4_ := Aside0.mk ((by rw [hg]; exact (below_size (XSq.bB HB)) : w.heap.size ≤ gb238))
                    have n5_ := Aside0.mk ((by rw [hg]; exact (below_size (XSq.bB HB)) : w.heap.size ≤ gb238))
                    have n6_ := Aside0.mk ((by rw [hg]; exact Nat.ne_of_lt (blk_lt (g := gb224) (o := .cells #[.int .i64 a0_0, .int .i64 a0_1, .string a0_2, .bool a0_3] 26 (0, 0)) (XSq.bq BK224)) : gb224 ≠ gb238))
                    have n7_ := Aside0.mk ((by rw [hg]; exact Nat.ne_of_gt (blk_lt (g := gb224) (o := .cells #[.int .i64 a0_0, .int .i64 a0_1, .string a0_2, .bool a0_3] 26 (0, 0)) (XSq.bq BK224)) : gb238 ≠ gb224))
                    have n8_ := Aside0.mk ((by rw [hg]; exact Nat.ne_of_lt (blk_lt (g := gb226) (o := .cells #[.int .i64 x227000_2, .int .i64 x227001_2, .string x227002_2, .bool x227003_2] 26 (0, 0)) (XSq.bq BK226)) : gb226 ≠ gb238))
                    have n9_ := Aside0.mk ((by rw [hg]; exact Nat.ne_of_gt (blk_lt (g := gb226) (o := .cells #[.int .i64 x227000_2, .int .i64 x227001_2, .string x227002_2, .bool x227003_2] 26 (0, 0)) (XSq.bq BK226)) : gb238 ≠ gb226))
                    clear BK224
                    clear BK226
                    clear HB
                    have BK224 := n0_
                    have BK226 := n1_
                    have HB := n2_
                    have BK238 := n3_
                    have GW238 := n4_
                    have GE238 := n5_
                    have NB224_238 := n6_
                    have NB238_224 := n7_
                    have NB226_238 := n8_
                    have NB238_226 := n9_
                    clear n0_ n1_ n2_ n3_ n4_ n5_ n6_ n7_ n8_ n9_
                    clear hb hbox hg
                    refine hK.out _ _ ⟨(blk_cell BK226.out 0).trans rfl, (blk_cell BK226.out 1).trans rfl, (blk_cell BK226.out 2).trans rfl, (blk_cell BK226.out 3).trans rfl⟩ (fun hHeld => ?_)
                    clear hK K
                    refine norm_ (a' := ?_) ?_ ?_
                    rotate_left
                    · show Act.put _ (some 8) _ = _
                      simp only [Act.put, List.setIfInBounds_toArray, List.set_cons_zero, List.set_cons_succ, i64_w, i32_w]
                      rfl
                    refine one_ (i := 3) (N := some 28) #[true, true, true, true, false, false, false, false, true, false, false] rfl rfl (one_of HT_.out (by kernel_rfl)) (by decide) (fun K hK => ?_)
                    refine goes_ Tryd.func55 (by kernel_rfl) rfl #[.agg #[.int .i64 x227000_2, .int .i64 x227001_2, .string x227002_2, .bool x227003_2], .int .i64 a1] (by rfl) rfl rfl (by (try simp only [List.map_toArray, List.map_cons, List.map_nil]); first | done | rfl | (simp only [List.length_drop, List.length_take]; rfl)) ?_
                    with_reducible refine (impl_Maze_entry.calls x227000_2 x227001_2 x227002_2 x227003_2 a1 t227 t228 t229 _ A18.out).mono ?_
                    rintro e w41 ⟨rfl, hb⟩
                    refine ⟨_, rfl, ?_⟩
                    have n0_ := Aside0.mk (blk_below (g := gb224) (o := .cells #[.int .i64 a0_0, .int .i64 a0_1, .string a0_2, .bool a0_3] 26 (0, 0)) (XSq.bq BK224) hb)
                    have n1_ := Aside0.mk (blk_below (g := gb226) (o := .cells #[.int .i64 x227000_2, .int .i64 x227001_2, .string x227002_2, .bool x227003_2] 26 (0, 0)) (XSq.bq BK226) hb)
                    have n2_ := Aside0.mk (blk_below (g := gb238) (o := .cells #[.int .i64 0, .int .i64 0, .string (⟨#[]⟩ : ByteArray), .bool false, .int .i64 0, .int .i64 0, .int .i64 0] 71 (0, 0)) (XSq.bq BK238) hb)
                    have n3_ := Aside0.mk (below_step (XSq.bB HB) hb)
                    clear BK224
                    clear BK226
                    clear BK238
                    clear HB
                    have BK224 := n0_
                    have BK226 := n1_
                    have BK238 := n2_
                    have HB := n3_
                    clear n0_ n1_ n2_ n3_
                    (try clear hb)
                    (try clear hb2)
                    (try clear hk)
                    (try clear hi)
                    refine hK.out _ _ ⟨(blk_cell BK226.out 0).trans rfl, (blk_cell BK226.out 1).trans rfl, (blk_cell BK226.out 2).trans rfl, (blk_cell BK226.out 3).trans rfl⟩ (fun hHeld => ?_)
                    clear hK K
                    refine norm_ (a' := ?_) ?_ ?_
                    rotate_left
                    · show Act.put _ (some 28) _ = _
                      simp only [Act.put, List.setIfInBounds_toArray, List.set_cons_zero, List.set_cons_succ, i64_w, i32_w]
                      rfl
                    refine one_ (i := 4) (N := some 29) #[true, true, true, true, true, false, false, false, true, false, false] rfl rfl (one_of HT_.out (by kernel_rfl)) (by decide) (fun K hK => ?_)
                    refine goes_ Tryd.func64 (by kernel_rfl) rfl #[.agg #[.int .i64 x227000_2, .int .i64 x227001_2, .string x227002_2, .bool x227003_2], .agg #[.int .i64 t227, .int .i64 t228, .int .i64 t229]] (by rfl) rfl rfl (by (try simp only [List.map_toArray, List.map_cons, List.map_nil]); first | done | rfl | (simp only [List.length_drop, List.length_take]; rfl)) ?_
                    with_reducible refine (impl_Maze_pass.calls k2 x227000_2 x227001_2 x227002_2 x227003_2 t227 t228 t229 t230 t231 t232 t233 t234 t235 t236 t237 _ A19.out).mono ?_
                    rintro e w42 ⟨rfl, hb⟩
                    refine ⟨_, rfl, ?_⟩
                    have n0_ := Aside0.mk (blk_below (g := gb224) (o := .cells #[.int .i64 a0_0, .int .i64 a0_1, .string a0_2, .bool a0_3] 26 (0, 0)) (XSq.bq BK224) hb)
                    have n1_ := Aside0.mk (blk_below (g := gb226) (o := .cells #[.int .i64 x227000_2, .int .i64 x227001_2, .string x227002_2, .bool x227003_2] 26 (0, 0)) (XSq.bq BK226) hb)
                    have n2_ := Aside0.mk (blk_below (g := gb238) (o := .cells #[.int .i64 0, .int .i64 0, .string (⟨#[]⟩ : ByteArray), .bool false, .int .i64 0, .int .i64 0, .int .i64 0] 71 (0, 0)) (XSq.bq BK238) hb)
                    have n3_ := Aside0.mk (below_step (XSq.bB HB) hb)
                    clear BK224
                    clear BK226
                    clear BK238
                    clear HB
                    have BK224 := n0_
                    have BK226 := n1_
                    have BK238 := n2_
                    have HB := n3_
                    clear n0_ n1_ n2_ n3_
                    (try clear hb)
                    (try clear hb2)
                    (try clear hk)
                    (try clear hi)
                    refine hK.out _ _ ⟨(blk_cell BK226.out 0).trans rfl, (blk_cell BK226.out 1).trans rfl, (blk_cell BK226.out 2).trans rfl, (blk_cell BK226.out 3).trans rfl⟩ (fun hHeld => ?_)
                    clear hK K
                    refine norm_ (a' := ?_) ?_ ?_
                    rotate_left
                    · show Act.put _ (some 29) _ = _
                      simp only [Act.put, List.setIfInBounds_toArray, List.set_cons_zero, List.set_cons_succ, i64_w, i32_w]
                      rfl
                    refine pure_ (i := 5) (N := some 24) (v := ?_) (a' := ?_) #[true, true, true, true, true, true, false, false, true, false, false] rfl rfl (any_of HT_.out (by kernel_rfl)) (fun _ _ _ h => h) (Or.inl ⟨by rfl, ?_⟩) ?_ ?_
                    rotate_left
                    · intro w'
                      go_simp
                      with_reducible rfl
                    rotate_left
                    · simp only [Act.put, List.setIfInBounds_toArray, List.set_cons_zero, List.set_cons_succ, i64_w, i32_w]
                      rfl
                    refine pure_ (i := 6) (N := some 30) (v := ?_) (a' := ?_) #[true, true, true, true, true, true, true, false, true, false, false] rfl rfl (any_of HT_.out (by kernel_rfl)) (fun _ _ _ h => h) (Or.inl ⟨by rfl, ?_⟩) ?_ ?_
                    rotate_left
                    · intro w'
                      go_simp
                      with_reducible rfl
                    rotate_left
                    · simp only [Act.put, List.setIfInBounds_toArray, List.set_cons_zero, List.set_cons_succ, i64_w, i32_w]
                      rfl
                    refine pure_ (i := 7) (N := some 31) (v := ?_) (a' := ?_) #[true, true, true, true, true, true, true, true, true, false, false] rfl rfl (any_of HT_.out (by kernel_rfl)) (fun _ _ _ h => h) (Or.inl ⟨by rfl, ?_⟩) ?_ ?_
                    rotate_left
                    · intro w'
                      go_simp
                      with_reducible rfl
                    rotate_left
                    · simp only [Act.put, List.setIfInBounds_toArray, List.set_cons_zero, List.set_cons_succ, i64_w, i32_w]
                      rfl
                    exact norm_ (by simp only [putAll, Act.put, List.setIfInBounds_toArray, List.set_cons_zero, List.set_cons_succ]) (hCont (gb238) _ ⟨hHeld, (XSq.bq BK224), (XSq.bq BK226), (XSq.bq BK238), GW238.out, GE238.out, NB224_238.out, NB238_224.out, NB226_238.out, NB238_226.out, (XSq.bB HB)⟩)
                rintro gb238 w43 ⟨hS_, h0_, h1_, h2_, h3_, h4_, h5_, h6_, h7_, h8_, h9_⟩
                have n0_ : Aside0 (w43.heap[gb224]? = some (.cells #[.int .i64 a0_0, .int .i64 a0_1, .string a0_2, .bool a0_3] 26 (0, 0))) := ⟨h0_⟩
                have n1_ : Aside0 (w43.heap[gb226]? = some (.cells #[.int .i64 x227000_2, .int .i64 x227001_2, .string x227002_2, .bool x227003_2] 26 (0, 0))) := ⟨h1_⟩
                have n2_ : Aside0 (w43.heap[gb238]? = some (.cells #[.int .i64 0, .int .i64 0, .string (⟨#[]⟩ : ByteArray), .bool false, .int .i64 0, .int .i64 0, .int .i64 0] 71 (0, 0))) := ⟨h2_⟩
                have n3_ : Aside0 (w.heap.size ≤ gb238) := ⟨h3_⟩
                have n4_ : Aside0 (w.heap.size ≤ gb238) := ⟨h4_⟩
                have n5_ : Aside0 (gb224 ≠ gb238) := ⟨h5_⟩
                have n6_ : Aside0 (gb238 ≠ gb224) := ⟨h6_⟩
                have n7_ : Aside0 (gb226 ≠ gb238) := ⟨h7_⟩
                have n8_ : Aside0 (gb238 ≠ gb226) := ⟨h8_⟩
                have n9_ : Aside0 (Below w.heap.size w w43) := ⟨h9_⟩
                clear BK224
                clear BK226
                clear HB
                clear h0_ h1_ h2_ h3_ h4_ h5_ h6_ h7_ h8_ h9_
                have BK224 := n0_
                have BK226 := n1_
                have BK238 := n2_
                have GW238 := n3_
                have GE238 := n4_
                have NB224_238 := n5_
                have NB238_224 := n6_
                have NB226_238 := n7_
                have NB238_226 := n8_
                have HB := n9_
                clear n0_ n1_ n2_ n3_ n4_ n5_ n6_ n7_ n8_ n9_
                have hHeld : w43.cell? ⟨gb226, 0, none⟩ = some (.int .i64 x227000_2) ∧ w43.cell? ⟨gb226, 1, none⟩ = some (.int .i64 x227001_2) ∧ w43.cell? ⟨gb226, 2, none⟩ = some (.string x227002_2) ∧ w43.cell? ⟨gb226, 3, none⟩ = some (.bool x227003_2) := hS_
                refine norm_ (a' := ?_) ?_ ?_
                rotate_left
                · simp only [putAll, Act.put, List.setIfInBounds_toArray, List.set_cons_zero, List.set_cons_succ]
                  rfl
                refine one_ (i := 9) (N := none) #[true, true, true, true, true, true, true, true, true, true, false] rfl rfl (one_of HT_.out (by kernel_rfl)) (by decide) (fun K hK => ?_)
                have hs44 : w43.cell? ⟨gb238, 0, none⟩ = some (.int .i64 0) := (blk_cell BK238.out 0).trans rfl
                have hfs44 := blk_frozen BK238.out 0
                have hns44_0 := NB224_238.out
                have hns44_1 := NB226_238.out
                have hms44_0 := NB238_224.out
                have hms44_1 := NB238_226.out
                have hs45 : w43.cell? ⟨gb238, 1, none⟩ = some (.int .i64 0) := (blk_cell BK238.out 1).trans rfl
                have hfs45 := blk_frozen BK238.out 1
                have hns45_0 := NB224_238.out
                have hns45_1 := NB226_238.out
                have hms45_0 := NB238_224.out
                have hms45_1 := NB238_226.out
                have hs46 : w43.cell? ⟨gb238, 2, none⟩ = some (.string (⟨#[]⟩ : ByteArray)) := (blk_cell BK238.out 2).trans rfl
                have hfs46 := blk_frozen BK238.out 2
                have hns46_0 := NB224_238.out
                have hns46_1 := NB226_238.out
                have hms46_0 := NB238_224.out
                have hms46_1 := NB238_226.out
                have hs47 : w43.cell? ⟨gb238, 3, none⟩ = some (.bool false) := (blk_cell BK238.out 3).trans rfl
                have hfs47 := blk_frozen BK238.out 3
                have hns47_0 := NB224_238.out
                have hns47_1 := NB226_238.out
                have hms47_0 := NB238_224.out
                have hms47_1 := NB238_226.out
                have hs48 : w43.cell? ⟨gb238, 4, none⟩ = some (.int .i64 0) := (blk_cell BK238.out 4).trans rfl
                have hfs48 := blk_frozen BK238.out 4
                have hns48_0 := NB224_238.out
                have hns48_1 := NB226_238.out
                have hms48_0 := NB238_224.out
                have hms48_1 := NB238_226.out
                have hs49 : w43.cell? ⟨gb238, 5, none⟩ = some (.int .i64 0) := (blk_cell BK238.out 5).trans rfl
                have hfs49 := blk_frozen BK238.out 5
                have hns49_0 := NB224_238.out
                have hns49_1 := NB226_238.out
                have hms49_0 := NB238_224.out
                have hms49_1 := NB238_226.out
                have hs50 : w43.cell? ⟨gb238, 6, none⟩ = some (.int .i64 0) := (blk_cell BK238.out 6).trans rfl
                have hfs50 := blk_frozen BK238.out 6
                have hns50_0 := NB224_238.out
                have hns50_1 := NB226_238.out
                have hms50_0 := NB238_224.out
                have hms50_1 := NB238_226.out
                refine skip_ (w1 := ?_) (by rfl) rfl ?_ ?_
                rotate_left
                · go_simp
                  rfl
                refine hK.out _ _ ⟨((cell_far (p := ⟨gb238, _, none⟩) NB226_238.out _).trans (((cell_far (p := ⟨gb238, _, none⟩) NB226_238.out _).trans (((cell_far (p := ⟨gb238, _, none⟩) NB226_238.out _).trans (((cell_far (p := ⟨gb238, _, none⟩) NB226_238.out _).trans (((cell_far (p := ⟨gb238, _, none⟩) NB226_238.out _).trans (((cell_far (p := ⟨gb238, _, none⟩) NB226_238.out _).trans (((cell_far (p := ⟨gb238, _, none⟩) NB226_238.out _).trans (hHeld.1)))))))))))))), ((cell_far (p := ⟨gb238, _, none⟩) NB226_238.out _).trans (((cell_far (p := ⟨gb238, _, none⟩) NB226_238.out _).trans (((cell_far (p := ⟨gb238, _, none⟩) NB226_238.out _).trans (((cell_far (p := ⟨gb238, _, none⟩) NB226_238.out _).trans (((cell_far (p := ⟨gb238, _, none⟩) NB226_238.out _).trans (((cell_far (p := ⟨gb238, _, none⟩) NB226_238.out _).trans (((cell_far (p := ⟨gb238, _, none⟩) NB226_238.out _).trans (hHeld.2.1)))))))))))))), ((cell_far (p := ⟨gb238, _, none⟩) NB226_238.out _).trans (((cell_far (p := ⟨gb238, _, none⟩) NB226_238.out _).trans (((cell_far (p := ⟨gb238, _, none⟩) NB226_238.out _).trans (((cell_far (p := ⟨gb238, _, none⟩) NB226_238.out _).trans (((cell_far (p := ⟨gb238, _, none⟩) NB226_238.out _).trans (((cell_far (p := ⟨gb238, _, none⟩) NB226_238.out _).trans (((cell_far (p := ⟨gb238, _, none⟩) NB226_238.out _).trans (hHeld.2.2.1)))))))))))))), ((cell_far (p := ⟨gb238, _, none⟩) NB226_238.out _).trans (((cell_far (p := ⟨gb238, _, none⟩) NB226_238.out _).trans (((cell_far (p := ⟨gb238, _, none⟩) NB226_238.out _).trans (((cell_far (p := ⟨gb238, _, none⟩) NB226_238.out _).trans (((cell_far (p := ⟨gb238, _, none⟩) NB226_238.out _).trans (((cell_far (p := ⟨gb238, _, none⟩) NB226_238.out _).trans (((cell_far (p := ⟨gb238, _, none⟩) NB226_238.out _).trans (hHeld.2.2.2))))))))))))))⟩ (fun hHeld => ?_)
                clear hK K
                refine pure_ (i := 10) (N := some 9) (v := ?_) (a' := ?_) #[true, true, true, true, true, true, true, true, true, true, true] rfl rfl (any_of HT_.out (by kernel_rfl)) (fun _ _ _ h => h) (Or.inl ⟨by rfl, ?_⟩) ?_ ?_
                rotate_left
                · intro w'
                  go_simp
                  with_reducible rfl
                rotate_left
                · simp only [Act.put, List.setIfInBounds_toArray, List.set_cons_zero, List.set_cons_succ, i64_w, i32_w]
                  rfl
                refine done_ (done_of HT_.out (by kernel_rfl)) ?_
                have hnb51 := NB238_224.out
                have hnc51 := NB224_238.out
                have hnb52 := NB238_226.out
                have hnc52 := NB226_238.out
                have hcz53_0 : w43.cell? ⟨gb238, 0, none⟩ = some (.int .i64 0) := (blk_cell BK238.out 0).trans rfl
                have hcz53_1 : w43.cell? ⟨gb238, 1, none⟩ = some (.int .i64 0) := (blk_cell BK238.out 1).trans rfl
                have hcz53_2 : w43.cell? ⟨gb238, 2, none⟩ = some (.string (⟨#[]⟩ : ByteArray)) := (blk_cell BK238.out 2).trans rfl
                have hcz53_3 : w43.cell? ⟨gb238, 3, none⟩ = some (.bool false) := (blk_cell BK238.out 3).trans rfl
                have hcz53_4 : w43.cell? ⟨gb238, 4, none⟩ = some (.int .i64 0) := (blk_cell BK238.out 4).trans rfl
                have hcz53_5 : w43.cell? ⟨gb238, 5, none⟩ = some (.int .i64 0) := (blk_cell BK238.out 5).trans rfl
                have hcz53_6 : w43.cell? ⟨gb238, 6, none⟩ = some (.int .i64 0) := (blk_cell BK238.out 6).trans rfl
                have hfz53_0 := blk_frozen BK238.out 0
                have hfz53_1 := blk_frozen BK238.out 1
                have hfz53_2 := blk_frozen BK238.out 2
                have hfz53_3 := blk_frozen BK238.out 3
                have hfz53_4 := blk_frozen BK238.out 4
                have hfz53_5 := blk_frozen BK238.out 5
                have hfz53_6 := blk_frozen BK238.out 6
                have hnb54 := NB226_224.out
                have hnc54 := NB224_226.out
                have hcz55_0 : w43.cell? ⟨gb226, 0, none⟩ = some (.int .i64 x227000_2) := (blk_cell BK226.out 0).trans rfl
                have hcz55_1 : w43.cell? ⟨gb226, 1, none⟩ = some (.int .i64 x227001_2) := (blk_cell BK226.out 1).trans rfl
                have hcz55_2 : w43.cell? ⟨gb226, 2, none⟩ = some (.string x227002_2) := (blk_cell BK226.out 2).trans rfl
                have hcz55_3 : w43.cell? ⟨gb226, 3, none⟩ = some (.bool x227003_2) := (blk_cell BK226.out 3).trans rfl
                have hfz55_0 := blk_frozen BK226.out 0
                have hfz55_1 := blk_frozen BK226.out 1
                have hfz55_2 := blk_frozen BK226.out 2
                have hfz55_3 := blk_frozen BK226.out 3
                have hcz56_0 : w43.cell? ⟨gb224, 0, none⟩ = some (.int .i64 a0_0) := (blk_cell BK224.out 0).trans rfl
                have hcz56_1 : w43.cell? ⟨gb224, 1, none⟩ = some (.int .i64 a0_1) := (blk_cell BK224.out 1).trans rfl
                have hcz56_2 : w43.cell? ⟨gb224, 2, none⟩ = some (.string a0_2) := (blk_cell BK224.out 2).trans rfl
                have hcz56_3 : w43.cell? ⟨gb224, 3, none⟩ = some (.bool a0_3) := (blk_cell BK224.out 3).trans rfl
                have hfz56_0 := blk_frozen BK224.out 0
                have hfz56_1 := blk_frozen BK224.out 1
                have hfz56_2 := blk_frozen BK224.out 2
                have hfz56_3 := blk_frozen BK224.out 3
                try go_wp2
                go_roundg k2
                case measure => have := HJ2.out; have := HK2.out; omega
                case rel => exact ⟨(wrap64 (x7_2 + 1)), (t230), (t231), (t232), (t233), (by first | rfl | (simp; done) | (simp [*]; done)), H', ⟨by have := HJ2.out; have := HK2.out; omega⟩, ⟨by (with_reducible repeat (first | refine blk_drewN ?_ _ | refine blk_drew ?_ | refine blk_alloc ?_ _)); refine blk_far ?_ NB224_226.out _; (with_reducible repeat (first | refine blk_drewN ?_ _ | refine blk_drew ?_ | refine blk_alloc ?_ _)); refine blk_far ?_ NB224_226.out _; (with_reducible repeat (first | refine blk_drewN ?_ _ | refine blk_drew ?_ | refine blk_alloc ?_ _)); refine blk_far ?_ NB224_226.out _; (with_reducible repeat (first | refine blk_drewN ?_ _ | refine blk_drew ?_ | refine blk_alloc ?_ _)); refine blk_far ?_ NB224_226.out _; (with_reducible repeat (first | refine blk_drewN ?_ _ | refine blk_drew ?_ | refine blk_alloc ?_ _)); refine blk_far ?_ NB224_238.out _; (with_reducible repeat (first | refine blk_drewN ?_ _ | refine blk_drew ?_ | refine blk_alloc ?_ _)); refine blk_far ?_ NB224_238.out _; (with_reducible repeat (first | refine blk_drewN ?_ _ | refine blk_drew ?_ | refine blk_alloc ?_ _)); refine blk_far ?_ NB224_238.out _; (with_reducible repeat (first | refine blk_drewN ?_ _ | refine blk_drew ?_ | refine blk_alloc ?_ _)); refine blk_far ?_ NB224_238.out _; (with_reducible repeat (first | refine blk_drewN ?_ _ | refine blk_drew ?_ | refine blk_alloc ?_ _)); refine blk_far ?_ NB224_238.out _; (with_reducible repeat (first | refine blk_drewN ?_ _ | refine blk_drew ?_ | refine blk_alloc ?_ _)); refine blk_far ?_ NB224_238.out _; (with_reducible repeat (first | refine blk_drewN ?_ _ | refine blk_drew ?_ | refine blk_alloc ?_ _)); refine blk_far ?_ NB224_238.out _; (with_reducible repeat (first | refine blk_drewN ?_ _ | refine blk_drew ?_ | refine blk_alloc ?_ _)); exact BK224.out⟩, ⟨by (with_reducible repeat (first | refine blk_drewN ?_ _ | refine blk_drew ?_ | refine blk_alloc ?_ _)); refine blk_put (cs := #[.int .i64 t230, .int .i64 t231, .string t232, .bool x227003_2]) ?_ 3 _ rfl; (with_reducible repeat (first | refine blk_drewN ?_ _ | refine blk_drew ?_ | refine blk_alloc ?_ _)); refine blk_put (cs := #[.int .i64 t230, .int .i64 t231, .string x227002_2, .bool x227003_2]) ?_ 2 _ rfl; (with_reducible repeat (first | refine blk_drewN ?_ _ | refine blk_drew ?_ | refine blk_alloc ?_ _)); refine blk_put (cs := #[.int .i64 t230, .int .i64 x227001_2, .string x227002_2, .bool x227003_2]) ?_ 1 _ rfl; (with_reducible repeat (first | refine blk_drewN ?_ _ | refine blk_drew ?_ | refine blk_alloc ?_ _)); refine blk_put (cs := #[.int .i64 x227000_2, .int .i64 x227001_2, .string x227002_2, .bool x227003_2]) ?_ 0 _ rfl; (with_reducible repeat (first | refine blk_drewN ?_ _ | refine blk_drew ?_ | refine blk_alloc ?_ _)); refine blk_far ?_ NB226_238.out _; (with_reducible repeat (first | refine blk_drewN ?_ _ | refine blk_drew ?_ | refine blk_alloc ?_ _)); refine blk_far ?_ NB226_238.out _; (with_reducible repeat (first | refine blk_drewN ?_ _ | refine blk_drew ?_ | refine blk_alloc ?_ _)); refine blk_far ?_ NB226_238.out _; (with_reducible repeat (first | refine blk_drewN ?_ _ | refine blk_drew ?_ | refine blk_alloc ?_ _)); refine blk_far ?_ NB226_238.out _; (with_reducible repeat (first | refine blk_drewN ?_ _ | refine blk_drew ?_ | refine blk_alloc ?_ _)); refine blk_far ?_ NB226_238.out _; (with_reducible repeat (first | refine blk_drewN ?_ _ | refine blk_drew ?_ | refine blk_alloc ?_ _)); refine blk_far ?_ NB226_238.out _; (with_reducible repeat (first | refine blk_drewN ?_ _ | refine blk_drew ?_ | refine blk_alloc ?_ _)); refine blk_far ?_ NB226_238.out _; (with_reducible repeat (first | refine blk_drewN ?_ _ | refine blk_drew ?_ | refine blk_alloc ?_ _)); exact BK226.out⟩, ⟨by repeat (first | (with_reducible first | exact HB.out | apply below_alloc | apply pw_below_drewN | apply below_drew1 | refine below_set ?_ GE224.out | refine below_set ?_ GE226.out | refine below_set ?_ GE238.out) | exact HB.out)⟩⟩
            · rw [if_neg c17] at H
              have c17b0 : decide (x7_2 ≤ 600) = false := decide_eq_false c17
              clear c17
              simp only [Option.some.injEq, Prod.mk.injEq] at H
              obtain ⟨rfl, rfl⟩ := H
              go_wp2
              go_ret2
              exact ⟨by first | rfl | (simp [errW_none, errW_some] <;> rfl) | (simp [*, errW_none, errW_some] <;> rfl), by repeat (first | (with_reducible first | exact HB.out | apply below_alloc | apply pw_below_drewN | apply below_drew1 | refine below_set ?_ GE224.out | refine below_set ?_ GE226.out) | exact HB.out)⟩

end Go.Proofs.YthmokfnejjiplaaDoor.PFnExactBallsUntilSame
