-- Made by wip/tools/xkit.py (a program of this session's) with the kit's printer.
import Derived.Test.YthmokfnejjiplaaDoorPFnExactExitsInTurnx0
import Derived.Test.YthmokfnejjiplaaDoorPFnExactExitsInTurnx7
import Derived.Test.YthmokfnejjiplaaDoorPFnExactExitsInTurnx8
import Derived.Test.YthmokfnejjiplaaDoorPFnExactExitsInTurnx11
namespace Go.Proofs.YthmokfnejjiplaaDoor.PFnExactExitsInTurn
open Go.RowKit Go.Proofs.YthmokfnejjiplaaDoorW.PrintWords Go.Proofs.YthmokfnejjiplaaDoorW.PrintLast Go.Proofs.YthmokfnejjiplaaDoorW.PrintMore
attribute [local go_sem] max2_int min2_int max_two min_two max_three min_three max_four min_four   -- for this text's walks alone
set_option linter.unusedVariables false
set_option linter.unusedSimpArgs false

/-! ### impl_ExitsInTurn: function 46 -/
mutual
def impl_ExitsInTurn.j0 : Nat → Int → Int → Bool → Int → Int → ByteArray → Bool → Option (List Int × Bool)
  | 0, _, _, _, _, _, _, _ => none
  | k + 1, x1, x2, x19, x233000, x233001, x233002, x233003 => if x19 = true then (some (([] : List Int), false)) else (impl_ExitsInTurn.l0 k x1 (([] : List Int)) x2 0 x233000 x233001 x233002 x233003)
def impl_ExitsInTurn.l0 : Nat → Int → List Int → Int → Int → Int → Int → ByteArray → Bool → Option (List Int × Bool)
  | 0, _, _, _, _, _, _, _, _ => none
  | k + 1, x1, x8, x21, x22, x233000, x233001, x233002, x233003 => if x22 < x21 then ((impl_Maze_entry.f x233000 x233001 x233002 x233003 x1).bind fun bt238 => ((impl_Maze_pass.f k x233000 x233001 x233002 x233003 bt238.1 bt238.2.1 bt238.2.2).bind fun bt241 => (if x8.length < 17592186044416 then (impl_ExitsInTurn.l0 k x1 (x8 ++ [bt241.2.2.2.2.1]) x21 (wrap64 (x22 + 1)) bt241.1 bt241.2.1 bt241.2.2.1 bt241.2.2.2.1) else (none)))) else (some (x8, true))
end
def impl_ExitsInTurn.f (k : Nat) (a0_0 : Int) (a0_1 : Int) (a0_2 : ByteArray) (a0_3 : Bool) (a1 : Int) (a2 : Int) : Option (List Int × Bool) := (impl_isEnd.f a0_0 a0_1 a0_2 a0_3 a1).bind fun t233 => (if t233 = true then ((impl_within.f a2 0 600).bind fun t234 => (impl_ExitsInTurn.j0 k a1 a2 (!t234) a0_0 a0_1 a0_2 a0_3)) else (impl_ExitsInTurn.j0 k a1 a2 true a0_0 a0_1 a0_2 a0_3))
theorem impl_ExitsInTurn.mono_l : ∀ k, (∀ y0 y1 y2 y3 y4 y5 y6, LeO (impl_ExitsInTurn.j0 k y0 y1 y2 y3 y4 y5 y6) (impl_ExitsInTurn.j0 (k + 1) y0 y1 y2 y3 y4 y5 y6)) ∧ (∀ y0 y1 y2 y3 y4 y5 y6 y7, LeO (impl_ExitsInTurn.l0 k y0 y1 y2 y3 y4 y5 y6 y7) (impl_ExitsInTurn.l0 (k + 1) y0 y1 y2 y3 y4 y5 y6 y7))
  | 0 => ⟨fun _ _ _ _ _ _ _ r h => by simp [impl_ExitsInTurn.j0] at h, fun _ _ _ _ _ _ _ _ r h => by simp [impl_ExitsInTurn.l0] at h⟩
  | k + 1 => by
    obtain ⟨ih0, ih1⟩ := impl_ExitsInTurn.mono_l k
    refine ⟨?_, ?_⟩
    · intro y0 y1 y2 y3 y4 y5 y6
      unfold impl_ExitsInTurn.j0
      repeat' first
      | (with_reducible exact ih0 _ _ _ _ _ _ _)
      | (with_reducible exact ih1 _ _ _ _ _ _ _ _)
      | (with_reducible exact impl_Maze_pass.mono _ _ _ _ _ _ _ _)
      | (with_reducible exact LeO.refl _)
      | (with_reducible exact LeO.none _)
      | (with_reducible refine LeO.ite ?_ ?_)
      | (with_reducible refine LeO.bind ?_ (fun _ => ?_))
      | exact ih0 _ _ _ _ _ _ _
      | exact ih1 _ _ _ _ _ _ _ _
      | exact impl_Maze_pass.mono _ _ _ _ _ _ _ _
      | exact LeO.none _
      | refine LeO.ite ?_ ?_
      | refine LeO.bind ?_ (fun _ => ?_)
    · intro y0 y1 y2 y3 y4 y5 y6 y7
      unfold impl_ExitsInTurn.l0
      repeat' first
      | (with_reducible exact ih0 _ _ _ _ _ _ _)
      | (with_reducible exact ih1 _ _ _ _ _ _ _ _)
      | (with_reducible exact impl_Maze_pass.mono _ _ _ _ _ _ _ _)
      | (with_reducible exact LeO.refl _)
      | (with_reducible exact LeO.none _)
      | (with_reducible refine LeO.ite ?_ ?_)
      | (with_reducible refine LeO.bind ?_ (fun _ => ?_))
      | exact ih0 _ _ _ _ _ _ _
      | exact ih1 _ _ _ _ _ _ _ _
      | exact impl_Maze_pass.mono _ _ _ _ _ _ _ _
      | exact LeO.none _
      | refine LeO.ite ?_ ?_
      | refine LeO.bind ?_ (fun _ => ?_)
theorem impl_ExitsInTurn.mono : ∀ a0 a1 a2 a3 a4 a5 k, LeO (impl_ExitsInTurn.f k a0 a1 a2 a3 a4 a5) (impl_ExitsInTurn.f (k + 1) a0 a1 a2 a3 a4 a5) := by
  intro a0 a1 a2 a3 a4 a5 k
  obtain ⟨ih0, ih1⟩ := impl_ExitsInTurn.mono_l k
  unfold impl_ExitsInTurn.f
  repeat' first
      | (with_reducible exact ih0 _ _ _ _ _ _ _)
      | (with_reducible exact ih1 _ _ _ _ _ _ _ _)
      | (with_reducible exact impl_Maze_pass.mono _ _ _ _ _ _ _ _)
      | (with_reducible exact LeO.refl _)
      | (with_reducible exact LeO.none _)
      | (with_reducible refine LeO.ite ?_ ?_)
      | (with_reducible refine LeO.bind ?_ (fun _ => ?_))
      | exact ih0 _ _ _ _ _ _ _
      | exact ih1 _ _ _ _ _ _ _ _
      | exact impl_Maze_pass.mono _ _ _ _ _ _ _ _
      | exact LeO.none _
      | refine LeO.ite ?_ ?_
      | refine LeO.bind ?_ (fun _ => ?_)
def impl_ExitsInTurn.T6 : Bool × List (List Nat × List Nat) := (true, [([], []), ([], []), ([], []), ([1, 2], [1, 2]), ([0, 3, 3], [0, 3]), ([4], [4]), ([5], [5]), ([5], [5]), ([], []), ([8, 6, 4, 0, 1, 2, 3, 4, 5, 6, 8], [6, 8]), ([7, 9, 0, 1, 2, 3, 4, 5, 6, 7, 8, 9], [7])])
def impl_ExitsInTurn.B6 : List Nat := [0, 0, 0, 6, 15, 31, 63, 63, 0, 383, 1023]
theorem impl_ExitsInTurn.tab6 : rtab .any (opsOf Tryd.f46 6) = impl_ExitsInTurn.T6 := by kernel_rfl
theorem impl_ExitsInTurn.bits6 : waitsOk impl_ExitsInTurn.T6.2 impl_ExitsInTurn.B6 = true := by kernel_rfl
def impl_ExitsInTurn.T7 : Bool × List (List Nat × List Nat) := (true, [([], []), ([], []), ([1], [1]), ([2], [2]), ([0, 3], [0, 3]), ([], []), ([5], [5]), ([4, 4, 0, 1, 2, 3, 4], [0, 4]), ([6, 7, 0, 1, 2, 3, 4, 5, 6, 7], [6])])
def impl_ExitsInTurn.B7 : List Nat := [0, 0, 2, 6, 15, 0, 32, 31, 255]
theorem impl_ExitsInTurn.tab7 : rtab .any (opsOf Tryd.f46 7) = impl_ExitsInTurn.T7 := by kernel_rfl
theorem impl_ExitsInTurn.bits7 : waitsOk impl_ExitsInTurn.T7.2 impl_ExitsInTurn.B7 = true := by kernel_rfl
set_option maxHeartbeats 8000000 in
set_option maxRecDepth 100000 in
theorem impl_ExitsInTurn.calls (k : Nat) (a0_0 : Int) (a0_1 : Int) (a0_2 : ByteArray) (a0_3 : Bool) (a1 : Int) (a2 : Int) (r1 : List Int) (r2 : Bool) (w : World) (h : impl_ExitsInTurn.f k a0_0 a0_1 a0_2 a0_3 a1 a2 = some (r1, r2)) :
    Calls Tryd.prog 46 #[.agg #[.int .i64 a0_0, .int .i64 a0_1, .string a0_2, .bool a0_3], .int .i64 a1, .int .i64 a2] w fun e w' => ∃ v0_ : Value, e = .returned (.tuple #[v0_, .bool r2]) ∧ Kd.R (Kd.int .i64) 3 w' w.heap.size (fun _ => True) v0_ r1 ∧ Below w.heap.size w w' := by
  have hu26 := Tryd.underlying26
  have hu71 := Tryd.underlying71
  have HB := Aside0.mk (Below.refl w.heap.size w)
  have H : ((impl_isEnd.f a0_0 a0_1 a0_2 a0_3 a1).bind fun t233 => (if t233 = true then ((impl_within.f a2 0 600).bind fun t234 => (impl_ExitsInTurn.j0 k a1 a2 (!t234) a0_0 a0_1 a0_2 a0_3)) else (impl_ExitsInTurn.j0 k a1 a2 true a0_0 a0_1 a0_2 a0_3))) = some (r1, r2) := h
  clear h
  have HC4 := Aside0.mk H
  clear H
  go_enter Tryd.func46, Tryd.ntmps46
  go_upto_region 1 with (first | ((with_reducible refine gate_dst (N := 3) rfl ?_); refine box_event ?hg (N := 3) ?hd (cs := #[.int .i64 a0_0, .int .i64 a0_1, .string a0_2, .bool a0_3]) (t := 26) ?hr ?_; (case hd => rfl); (case hg => rfl); (case hr => first | (go_simp; done) | (go_simp; rfl)); intro gb232 hg w5 hbox hb; have n0_ := Aside0.mk (below_step (XSq.bB HB) hb); have n1_ := Aside0.mk (hbox); have n2_ := Aside0.mk ((by rw [hg]; exact (below_size (XSq.bB HB)) : w.heap.size ≤ gb232)); have n3_ := Aside0.mk ((by rw [hg]; exact (below_size (XSq.bB HB)) : w.heap.size ≤ gb232)); clear HB; have HB := n0_; have BK232 := n1_; have GW232 := n2_; have GE232 := n3_; clear n0_ n1_ n2_ n3_; clear hb hbox hg))
  (try simp only [Act.put, List.setIfInBounds_toArray, List.set_cons_zero, List.set_cons_succ])
  go_cut [19] (fun v19 wc => ∃ (kq : Nat) (x19_3 : Bool), v19 = .bool x19_3 ∧ Aside0 (impl_ExitsInTurn.j0 kq a1 a2 x19_3 a0_0 a0_1 a0_2 a0_3 = some (r1, r2)) ∧ Aside0 (kq ≤ k) ∧ Aside0 (wc.heap[gb232]? = some (.cells #[.int .i64 a0_0, .int .i64 a0_1, .string a0_2, .bool a0_3] 26 (0, 0))) ∧ Aside0 (Below w.heap.size w wc))
  case first =>
    have H := HC4.out
    clear HC4
    replace H := Option.bind_eq_some_iff.mp H
    obtain ⟨t233, A60, H⟩ := H
    replace H : (if t233 = true then ((impl_within.f a2 0 600).bind fun t234 => (impl_ExitsInTurn.j0 k a1 a2 (!t234) a0_0 a0_1 a0_2 a0_3)) else (impl_ExitsInTurn.j0 k a1 a2 true a0_0 a0_1 a0_2 a0_3)) = some (r1, r2) := H
    have A6 := Aside0.mk A60
    clear A60
    by_cases c7 : t233 = true
    · subst c7
      have H1 : ((impl_within.f a2 0 600).bind fun t234 => (impl_ExitsInTurn.j0 k a1 a2 (!t234) a0_0 a0_1 a0_2 a0_3)) = some (r1, r2) := by rw [if_pos rfl] at H; exact H
      clear H
      have H := H1
      clear H1
      replace H := Option.bind_eq_some_iff.mp H
      obtain ⟨t234, A80, H⟩ := H
      replace H : (impl_ExitsInTurn.j0 k a1 a2 (!t234) a0_0 a0_1 a0_2 a0_3) = some (r1, r2) := H
      have A8 := Aside0.mk A80
      clear A80
      have H' := Aside0.mk H
      clear H
      have hcz9_0 : w5.cell? ⟨gb232, 0, none⟩ = some (.int .i64 a0_0) := (blk_cell BK232.out 0).trans rfl
      have hcz9_1 : w5.cell? ⟨gb232, 1, none⟩ = some (.int .i64 a0_1) := (blk_cell BK232.out 1).trans rfl
      have hcz9_2 : w5.cell? ⟨gb232, 2, none⟩ = some (.string a0_2) := (blk_cell BK232.out 2).trans rfl
      have hcz9_3 : w5.cell? ⟨gb232, 3, none⟩ = some (.bool a0_3) := (blk_cell BK232.out 3).trans rfl
      have hfz9_0 := blk_frozen BK232.out 0
      have hfz9_1 := blk_frozen BK232.out 1
      have hfz9_2 := blk_frozen BK232.out 2
      have hfz9_3 := blk_frozen BK232.out 3
      go_wp2_with (first | ((with_reducible refine gate_callee (f := 54) rfl ?_); refine goesL_ (some 13) rfl rfl Tryd.func54 (by kernel_rfl) rfl #[.agg #[.int .i64 a0_0, .int .i64 a0_1, .string a0_2, .bool a0_3], .int .i64 a1] rfl (by (try simp only [List.map_toArray, List.map_cons, List.map_nil]); first | done | rfl | (simp only [List.length_drop, List.length_take]; rfl)) ?_; (with_reducible refine (impl_isEnd.calls a0_0 a0_1 a0_2 a0_3 a1 true _ A6.out).mono ?_); rintro e w10 ⟨rfl, hb⟩; refine ⟨_, rfl, ?_⟩; have n0_ := Aside0.mk (blk_below (g := gb232) (o := .cells #[.int .i64 a0_0, .int .i64 a0_1, .string a0_2, .bool a0_3] 26 (0, 0)) (XSq.bq BK232) hb); have n1_ := Aside0.mk (below_step (XSq.bB HB) hb); clear BK232; clear HB; have BK232 := n0_; have HB := n1_; clear n0_ n1_; (try clear hb); (try clear hb2); (try clear hk); (try clear hi)) | (go_at_call 66; (with_reducible refine (impl_within.calls a2 0 600 t234 _ A8.out).mono ?_); rintro e w' ⟨rfl, ⟨nd, rfl⟩⟩))
      go_meet
      case rel => exact ⟨_, (!t234), (by first | rfl | (simp; done) | (simp [*]; done)), H', ⟨by first | omega | exact Nat.le_refl _⟩, ⟨by (with_reducible repeat (first | refine blk_drewN ?_ _ | refine blk_drew ?_ | refine blk_alloc ?_ _)); exact BK232.out⟩, ⟨by repeat (first | (with_reducible first | exact HB.out | apply below_alloc | apply pw_below_drewN | apply below_drew1 | refine below_set ?_ GE232.out) | exact HB.out)⟩⟩
    · replace c7 := Bool.eq_false_iff.mpr c7
      subst c7
      have H1 : (impl_ExitsInTurn.j0 k a1 a2 true a0_0 a0_1 a0_2 a0_3) = some (r1, r2) := by rw [if_neg (show ¬ (false = true) by decide)] at H; exact H
      clear H
      have H := H1
      clear H1
      have H' := Aside0.mk H
      clear H
      have hcz11_0 : w5.cell? ⟨gb232, 0, none⟩ = some (.int .i64 a0_0) := (blk_cell BK232.out 0).trans rfl
      have hcz11_1 : w5.cell? ⟨gb232, 1, none⟩ = some (.int .i64 a0_1) := (blk_cell BK232.out 1).trans rfl
      have hcz11_2 : w5.cell? ⟨gb232, 2, none⟩ = some (.string a0_2) := (blk_cell BK232.out 2).trans rfl
      have hcz11_3 : w5.cell? ⟨gb232, 3, none⟩ = some (.bool a0_3) := (blk_cell BK232.out 3).trans rfl
      have hfz11_0 := blk_frozen BK232.out 0
      have hfz11_1 := blk_frozen BK232.out 1
      have hfz11_2 := blk_frozen BK232.out 2
      have hfz11_3 := blk_frozen BK232.out 3
      go_wp2_with (first | ((with_reducible refine gate_callee (f := 54) rfl ?_); refine goesL_ (some 13) rfl rfl Tryd.func54 (by kernel_rfl) rfl #[.agg #[.int .i64 a0_0, .int .i64 a0_1, .string a0_2, .bool a0_3], .int .i64 a1] rfl (by (try simp only [List.map_toArray, List.map_cons, List.map_nil]); first | done | rfl | (simp only [List.length_drop, List.length_take]; rfl)) ?_; (with_reducible refine (impl_isEnd.calls a0_0 a0_1 a0_2 a0_3 a1 false _ A6.out).mono ?_); rintro e w12 ⟨rfl, hb⟩; refine ⟨_, rfl, ?_⟩; have n0_ := Aside0.mk (blk_below (g := gb232) (o := .cells #[.int .i64 a0_0, .int .i64 a0_1, .string a0_2, .bool a0_3] 26 (0, 0)) (XSq.bq BK232) hb); have n1_ := Aside0.mk (below_step (XSq.bB HB) hb); clear BK232; clear HB; have BK232 := n0_; have HB := n1_; clear n0_ n1_; (try clear hb); (try clear hb2); (try clear hk); (try clear hi)))
      go_meet
      case rel => exact ⟨_, (true), (by first | rfl | (simp; done) | (simp [*]; done)), H', ⟨by first | omega | exact Nat.le_refl _⟩, ⟨by (with_reducible repeat (first | refine blk_drewN ?_ _ | refine blk_drew ?_ | refine blk_alloc ?_ _)); exact BK232.out⟩, ⟨by repeat (first | (with_reducible first | exact HB.out | apply below_alloc | apply pw_below_drewN | apply below_drew1 | refine below_set ?_ GE232.out) | exact HB.out)⟩⟩
  case rest =>
    clear HC4
    try clear p2
    try clear c4
    try clear c5
    try clear c7
    try clear hcz11_0
    try clear hcz11_1
    try clear hcz11_2
    try clear hcz11_3
    try clear hcz9_0
    try clear hcz9_1
    try clear hcz9_2
    try clear hcz9_3
    try clear hfz11_0
    try clear hfz11_1
    try clear hfz11_2
    try clear hfz11_3
    try clear hfz9_0
    try clear hfz9_1
    try clear hfz9_2
    try clear hfz9_3
    obtain ⟨kq, x19_3, rfl, HA, HJ3, BK232, HB⟩ := hcut
    cases kq with
    | zero => exact absurd HA.out (by simp [impl_ExitsInTurn.j0])
    | succ kj3 =>
      have H := HA.out
      clear HA
      simp only [impl_ExitsInTurn.j0] at H
      by_cases c13 : x19_3 = true
      · subst c13
        have H1 : (some (([] : List Int), false)) = some (r1, r2) := by rw [if_pos rfl] at H; exact H
        clear H
        have H := H1
        clear H1
        simp only [Option.some.injEq, Prod.mk.injEq] at H
        obtain ⟨rfl, rfl⟩ := H
        go_wp2
        go_ret2
        exact ⟨_, by first | rfl | (simp [errW_none, errW_some] <;> rfl) | (simp [*, errW_none, errW_some] <;> rfl), by first | exact Kd.R_nil _ _ _ _ _ | exact Kd.N_nil _ _ _ _ _ | exact Kd.V_nil _ _ _ _ _ | exact Kd.Q_nil _ _ _ _ _ | exact Kd.S_nil _ _ _ _ _, by repeat (first | (with_reducible first | exact HB.out | apply below_alloc | apply pw_below_drewN | apply below_drew1 | refine below_set ?_ GE232.out) | exact HB.out)⟩
      · replace c13 := Bool.eq_false_iff.mpr c13
        subst c13
        have H1 : (impl_ExitsInTurn.l0 kj3 a1 (([] : List Int)) a2 0 a0_0 a0_1 a0_2 a0_3) = some (r1, r2) := by rw [if_neg (show ¬ (false = true) by decide)] at H; exact H
        clear H
        have H := H1
        clear H1
        obtain ⟨y235, hy235⟩ : ∃ y_ : List Int, y_ = (([] : List Int)) := ⟨_, rfl⟩
        replace H : (impl_ExitsInTurn.l0 kj3 a1 y235 a2 0 a0_0 a0_1 a0_2 a0_3) = some (r1, r2) := by first | (rw [hy235]; with_reducible exact H) | (have H2_ := (Option.bind_some _ _).symm.trans H; rw [hy235]; with_reducible exact H2_) | (have H2_ := (Option.bind_some _ _).symm.trans H; with_reducible exact H2_) | with_reducible exact H | (rw [hy235]; exact H) | exact H
        have Ny235 := Aside0.mk hy235
        clear hy235
        have H' := Aside0.mk H
        clear H
        go_wp2_with (first | ((with_reducible refine gate_dst (N := 20) rfl ?_); refine Kd.R_lit (Kd.int .i64) _ 3 ?hg (N := 20) ?hd (xs := ([] : List Int)) (inner := []) (ok := fun _ => True) (okp := fun _ => True) ?hr ?hp (fun _ hk => hk) trivial (Below.refl _ _) (Nat.le_refl _) (by simp) ?_; (case hd => rfl); (case hg => rfl); (case hr => first | (go_simp; done) | (go_simp; rfl)); (case hp => exact (Reps.none _ _)); intro v236 w14 ho15 hb hg_ hnew_; clear hg_ hnew_; (first | rw [← Ny235.out] at ho15 | (simp only [Int.reduceToNat] at ho15; rw [← Ny235.out] at ho15)); have n0_ := Aside0.mk (Kd.R_lower ho15 (below_size (XSq.bB HB))); have n1_ := Aside0.mk (blk_below (g := gb232) (o := .cells #[.int .i64 a0_0, .int .i64 a0_1, .string a0_2, .bool a0_3] 26 (0, 0)) (XSq.bq BK232) hb); have n2_ := Aside0.mk (below_step (XSq.bB HB) hb); clear BK232; clear HB; have HO237 := n0_; have BK232 := n1_; have HB := n2_; clear n0_ n1_ n2_; clear hb ho15))
        go_loopg [8, 22] kj3 (fun kq v8 v22 w' => ∃ (x8_2 : List Int) (x22_2 : Int) (x233000_2 : Int) (x233001_2 : Int) (x233002_2 : ByteArray) (x233003_2 : Bool), v22 = .int .i64 x22_2 ∧ Aside0 (impl_ExitsInTurn.l0 kq a1 x8_2 a2 x22_2 x233000_2 x233001_2 x233002_2 x233003_2 = some (r1, r2)) ∧ Aside0 (kq ≤ kj3) ∧ Aside0 (Kd.R (Kd.int .i64) 3 w' w.heap.size (fun _ => True) v8 x8_2) ∧ Aside0 (w'.heap[gb232]? = some (.cells #[.int .i64 x233000_2, .int .i64 x233001_2, .string x233002_2, .bool x233003_2] 26 (0, 0))) ∧ Aside0 (Below w.heap.size w w'))
        case atStart => exact ⟨(y235), (0), (a0_0), (a0_1), (a0_2), (a0_3), (by first | rfl | (simp; done) | (simp [*]; done)), H', ⟨Nat.le_refl _⟩, ⟨by (with_reducible repeat (first | apply Kd.R_alloc | apply Kd.R_drewN | apply Kd.R_drew)); exact HO237.out⟩, ⟨by (with_reducible repeat (first | refine blk_drewN ?_ _ | refine blk_drew ?_ | refine blk_alloc ?_ _)); exact BK232.out⟩, ⟨by repeat (first | (with_reducible first | exact HB.out | apply below_alloc | apply pw_below_drewN | apply below_drew1 | refine below_set ?_ GE232.out) | exact HB.out)⟩⟩
        case round =>
          clear H'
          try clear c1
          try clear p2
          try clear c4
          try clear c5
          try clear c7
          try clear c13
          try clear hcz11_0
          try clear hcz11_1
          try clear hcz11_2
          try clear hcz11_3
          try clear hcz9_0
          try clear hcz9_1
          try clear hcz9_2
          try clear hcz9_3
          try clear hfz11_0
          try clear hfz11_1
          try clear hfz11_2
          try clear hfz11_3
          try clear hfz9_0
          try clear hfz9_1
          try clear hfz9_2
          try clear hfz9_3
          try clear p2
          obtain ⟨x8_2, x22_2, x233000_2, x233001_2, x233002_2, x233003_2, rfl, HA, HK2, HO_8, BK232, HB⟩ := hrel
          cases gk with
          | zero => exact absurd HA.out (by simp [impl_ExitsInTurn.l0])
          | succ k2 =>
            have H := HA.out
            clear HA
            simp only [impl_ExitsInTurn.l0] at H
            by_cases c16 : x22_2 < a2
            · rw [if_pos c16] at H
              have c16b0 : decide (x22_2 < a2) = true := decide_eq_true c16
              clear c16
              replace H := Option.bind_eq_some_iff.mp H
              obtain ⟨⟨t238, t239, t240⟩, A170, H⟩ := H
              replace H : ((impl_Maze_pass.f k2 x233000_2 x233001_2 x233002_2 x233003_2 t238 t239 t240).bind fun bt241 => (if x8_2.length < 17592186044416 then (impl_ExitsInTurn.l0 k2 a1 (x8_2 ++ [bt241.2.2.2.2.1]) a2 (wrap64 (x22_2 + 1)) bt241.1 bt241.2.1 bt241.2.2.1 bt241.2.2.2.1) else (none))) = some (r1, r2) := H
              have A17 := Aside0.mk A170
              clear A170
              replace H := Option.bind_eq_some_iff.mp H
              obtain ⟨⟨t241, t242, t243, t244, t245, t246, t247, t248⟩, A180, H⟩ := H
              replace H : (if x8_2.length < 17592186044416 then (impl_ExitsInTurn.l0 k2 a1 (x8_2 ++ [t245]) a2 (wrap64 (x22_2 + 1)) t241 t242 t243 t244) else (none)) = some (r1, r2) := H
              have A18 := Aside0.mk A180
              clear A180
              by_cases c19 : x8_2.length < 17592186044416
              · rw [if_pos c19] at H
                have LMc19 := Aside0.mk c19
                clear c19
                obtain ⟨y250, hy250⟩ : ∃ y_ : List Int, y_ = (x8_2 ++ [t245]) := ⟨_, rfl⟩
                replace H : (impl_ExitsInTurn.l0 k2 a1 y250 a2 (wrap64 (x22_2 + 1)) t241 t242 t243 t244) = some (r1, r2) := by first | (rw [hy250]; with_reducible exact H) | (have H2_ := (Option.bind_some _ _).symm.trans H; rw [hy250]; with_reducible exact H2_) | (have H2_ := (Option.bind_some _ _).symm.trans H; with_reducible exact H2_) | with_reducible exact H | (rw [hy250]; exact H) | exact H
                have Ny250 := Aside0.mk hy250
                clear hy250
                have H' := Aside0.mk H
                clear H
                try go_wp2
                have n0_ := Aside0.mk (Kd.R_drew HO_8.out)
                have n1_ := Aside0.mk (blk_drew BK232.out)
                have n2_ := Aside0.mk (below_drew1 HB.out)
                clear HO_8
                clear BK232
                clear HB
                have HO_8 := n0_
                have BK232 := n1_
                have HB := n2_
                clear n0_ n1_ n2_
                refine start_ (n := 11) (S := fun w' => w'.cell? ⟨gb232, 0, none⟩ = some (.int .i64 x233000_2) ∧ w'.cell? ⟨gb232, 1, none⟩ = some (.int .i64 x233001_2) ∧ w'.cell? ⟨gb232, 2, none⟩ = some (.string x233002_2) ∧ w'.cell? ⟨gb232, 3, none⟩ = some (.bool x233003_2)) (ds := []) #[false, false, false, false, false, false, false, false, false, false, false] (by kernel_rfl) rfl rfl ⟨(blk_cell BK232.out 0).trans rfl, (blk_cell BK232.out 1).trans rfl, (blk_cell BK232.out 2).trans rfl, (blk_cell BK232.out 3).trans rfl⟩ (fun hHeld => ?_); refine with_tabW impl_ExitsInTurn.tab6 impl_ExitsInTurn.bits6 (fun HT_ HW_ => ?_)
                generalize wr.drew = w20 at HO_8 BK232 HB hHeld ⊢
                refine pure_ (i := 2) (N := some 27) (v := ?_) (a' := ?_) #[false, false, true, false, false, false, false, false, false, false, false] rfl rfl (any_of HT_.out (by kernel_rfl)) (fun _ _ _ h => h) (Or.inl ⟨by rfl, ?_⟩) ?_ ?_
                rotate_left
                · intro w'
                  go_simp
                  with_reducible rfl
                rotate_left
                · simp only [Act.put, List.setIfInBounds_toArray, List.set_cons_zero, List.set_cons_succ, i64_w, i32_w]
                  rfl
                refine take_ (i := 0) (N := some 25) (v := ?_) (a' := ?_) #[true, false, true, false, false, false, false, false, false, false, false] rfl rfl (take_ofW HT_.out HW_.out (by kernel_rfl)) (fun _ _ _ h => h) (Or.inl ⟨by rfl, ?_⟩) hHeld ?_ ?_
                rotate_left
                · rintro w' ⟨s0, s1, s2, s3⟩
                  go_simp
                  with_reducible rfl
                rotate_left
                · simp only [Act.put, List.setIfInBounds_toArray, List.set_cons_zero, List.set_cons_succ, i64_w, i32_w]
                  rfl
                refine take_ (i := 1) (N := some 26) (v := ?_) (a' := ?_) #[true, true, true, false, false, false, false, false, false, false, false] rfl rfl (take_ofW HT_.out HW_.out (by kernel_rfl)) (fun _ _ _ h => h) (Or.inl ⟨by rfl, ?_⟩) hHeld ?_ ?_
                rotate_left
                · rintro w' ⟨s0, s1, s2, s3⟩
                  go_simp
                  with_reducible rfl
                rotate_left
                · simp only [Act.put, List.setIfInBounds_toArray, List.set_cons_zero, List.set_cons_succ, i64_w, i32_w]
                  rfl
                refine join_ (σ := Nat) 2 #[true, true, true, true, true, true, true, true, true, false, false] (fun s_ => [(28, .agg #[.int .i64 t238, .int .i64 t239, .int .i64 t240]), (29, .tuple #[.agg #[.int .i64 t241, .int .i64 t242, .string t243, .bool t244, .int .i64 t245, .int .i64 t246, .int .i64 t247], .bool t248]), (9, .pointer (some ⟨s_, 0, none⟩)), (24, .tuple #[.agg #[.int .i64 t241, .int .i64 t242, .string t243, .bool t244, .int .i64 t245, .int .i64 t246, .int .i64 t247], .bool t248]), (30, .agg #[.int .i64 t241, .int .i64 t242, .string t243, .bool t244, .int .i64 t245, .int .i64 t246, .int .i64 t247]), (31, .bool t248)]) (fun s_ w' => (w'.cell? ⟨gb232, 0, none⟩ = some (.int .i64 x233000_2) ∧ w'.cell? ⟨gb232, 1, none⟩ = some (.int .i64 x233001_2) ∧ w'.cell? ⟨gb232, 2, none⟩ = some (.string x233002_2) ∧ w'.cell? ⟨gb232, 3, none⟩ = some (.bool x233003_2)) ∧ (Kd.R (Kd.int .i64) 3 w' w.heap.size (fun _ => True) u8 x8_2) ∧ (w'.heap[gb232]? = some (.cells #[.int .i64 x233000_2, .int .i64 x233001_2, .string x233002_2, .bool x233003_2] 26 (0, 0))) ∧ (w'.heap[s_]? = some (.cells #[.int .i64 0, .int .i64 0, .string (⟨#[]⟩ : ByteArray), .bool false, .int .i64 0, .int .i64 0, .int .i64 0] 71 (0, 0))) ∧ (w.heap.size ≤ s_) ∧ (w.heap.size ≤ s_) ∧ (gb232 ≠ s_) ∧ (s_ ≠ gb232) ∧ (Below w.heap.size w w')) ?_ ?_
                rotate_left
                · intro hCont
                  refine two_ (i := 3) (j := 8) (Ni := some 28) (Nj := some 9) #[true, true, true, true, false, false, false, false, false, false, false] #[true, true, true, false, false, false, false, false, true, false, false] rfl rfl rfl rfl (two_of HT_.out (by kernel_rfl)) (by decide) (by decide) (fun K hK => ?_) (fun K hK => ?_)
                  · skip
                    refine goes_ Tryd.func55 (by kernel_rfl) rfl #[.agg #[.int .i64 x233000_2, .int .i64 x233001_2, .string x233002_2, .bool x233003_2], .int .i64 a1] (by rfl) rfl rfl (by (try simp only [List.map_toArray, List.map_cons, List.map_nil]); first | done | rfl | (simp only [List.length_drop, List.length_take]; rfl)) ?_
                    with_reducible refine (impl_Maze_entry.calls x233000_2 x233001_2 x233002_2 x233003_2 a1 t238 t239 t240 _ A17.out).mono ?_
                    rintro e w21 ⟨rfl, hb⟩
                    refine ⟨_, rfl, ?_⟩
                    have n0_ := Aside0.mk (Kd.R_below (by (with_reducible repeat (first | apply Kd.R_alloc | apply Kd.R_drewN | apply Kd.R_drew)); exact HO_8.out) hb)
                    have n1_ := Aside0.mk (blk_below (g := gb232) (o := .cells #[.int .i64 x233000_2, .int .i64 x233001_2, .string x233002_2, .bool x233003_2] 26 (0, 0)) (XSq.bq BK232) hb)
                    have n2_ := Aside0.mk (below_step (XSq.bB HB) hb)
                    clear HO_8
                    clear BK232
                    clear HB
                    have HO_8 := n0_
                    have BK232 := n1_
                    have HB := n2_
                    clear n0_ n1_ n2_
                    (try clear hb)
                    (try clear hb2)
                    (try clear hk)
                    (try clear hi)
                    refine hK.out _ _ ⟨(blk_cell BK232.out 0).trans rfl, (blk_cell BK232.out 1).trans rfl, (blk_cell BK232.out 2).trans rfl, (blk_cell BK232.out 3).trans rfl⟩ (fun hHeld => ?_)
                    clear hK K
                    refine norm_ (a' := ?_) ?_ ?_
                    rotate_left
                    · show Act.put _ (some 28) _ = _
                      simp only [Act.put, List.setIfInBounds_toArray, List.set_cons_zero, List.set_cons_succ, i64_w, i32_w]
                      rfl
                    refine two_ (i := 4) (j := 8) (Ni := some 29) (Nj := some 9) #[true, true, true, true, true, false, false, false, false, false, false] #[true, true, true, true, false, false, false, false, true, false, false] rfl rfl rfl rfl (two_of HT_.out (by kernel_rfl)) (by decide) (by decide) (fun K hK => ?_) (fun K hK => ?_)
                    · skip
                      refine goes_ Tryd.func64 (by kernel_rfl) rfl #[.agg #[.int .i64 x233000_2, .int .i64 x233001_2, .string x233002_2, .bool x233003_2], .agg #[.int .i64 t238, .int .i64 t239, .int .i64 t240]] (by rfl) rfl rfl (by (try simp only [List.map_toArray, List.map_cons, List.map_nil]); first | done | rfl | (simp only [List.length_drop, List.length_take]; rfl)) ?_
                      with_reducible refine (impl_Maze_pass.calls k2 x233000_2 x233001_2 x233002_2 x233003_2 t238 t239 t240 t241 t242 t243 t244 t245 t246 t247 t248 _ A18.out).mono ?_
                      rintro e w22 ⟨rfl, hb⟩
                      refine ⟨_, rfl, ?_⟩
                      have n0_ := Aside0.mk (Kd.R_below (by (with_reducible repeat (first | apply Kd.R_alloc | apply Kd.R_drewN | apply Kd.R_drew)); exact HO_8.out) hb)
                      have n1_ := Aside0.mk (blk_below (g := gb232) (o := .cells #[.int .i64 x233000_2, .int .i64 x233001_2, .string x233002_2, .bool x233003_2] 26 (0, 0)) (XSq.bq BK232) hb)
                      have n2_ := Aside0.mk (below_step (XSq.bB HB) hb)
                      clear HO_8
                      clear BK232
                      clear HB
                      have HO_8 := n0_
                      have BK232 := n1_
                      have HB := n2_
                      clear n0_ n1_ n2_
                      (try clear hb)
                      (try clear hb2)
                      (try clear hk)
                      (try clear hi)
                      refine hK.out _ _ ⟨(blk_cell BK232.out 0).trans rfl, (blk_cell BK232.out 1).trans rfl, (blk_cell BK232.out 2).trans rfl, (blk_cell BK232.out 3).trans rfl⟩ (fun hHeld => ?_)
                      clear hK K
                      refine norm_ (a' := ?_) ?_ ?_
                      rotate_left
                      · show Act.put _ (some 29) _ = _
                        simp only [Act.put, List.setIfInBounds_toArray, List.set_cons_zero, List.set_cons_succ, i64_w, i32_w]
                        rfl
                      refine pure_ (i := 5) (N := some 24) (v := ?_) (a' := ?_) #[true, true, true, true, true, true, false, false, false, false, false] rfl rfl (any_of HT_.out (by kernel_rfl)) (fun _ _ _ h => h) (Or.inl ⟨by rfl, ?_⟩) ?_ ?_
                      rotate_left
                      · intro w'
                        go_simp
                        with_reducible rfl
                      rotate_left
                      · simp only [Act.put, List.setIfInBounds_toArray, List.set_cons_zero, List.set_cons_succ, i64_w, i32_w]
                        rfl
                      refine pure_ (i := 6) (N := some 30) (v := ?_) (a' := ?_) #[true, true, true, true, true, true, true, false, false, false, false] rfl rfl (any_of HT_.out (by kernel_rfl)) (fun _ _ _ h => h) (Or.inl ⟨by rfl, ?_⟩) ?_ ?_
                      rotate_left
                      · intro w'
                        go_simp
                        with_reducible rfl
                      rotate_left
                      · simp only [Act.put, List.setIfInBounds_toArray, List.set_cons_zero, List.set_cons_succ, i64_w, i32_w]
                        rfl
                      refine pure_ (i := 7) (N := some 31) (v := ?_) (a' := ?_) #[true, true, true, true, true, true, true, true, false, false, false] rfl rfl (any_of HT_.out (by kernel_rfl)) (fun _ _ _ h => h) (Or.inl ⟨by rfl, ?_⟩) ?_ ?_
                      rotate_left
                      · intro w'
                        go_simp
                        with_reducible rfl
                      rotate_left
                      · simp only [Act.put, List.setIfInBounds_toArray, List.set_cons_zero, List.set_cons_succ, i64_w, i32_w]
                        rfl
                      refine one_ (i := 8) (N := some 9) #[true, true, true, true, true, true, true, true, true, false, false] rfl rfl (one_of HT_.out (by kernel_rfl)) (by decide) (fun K hK => ?_)
                      refine box_step ?hg (N := 9) ?hd (cs := #[.int .i64 0, .int .i64 0, .string (⟨#[]⟩ : ByteArray), .bool false, .int .i64 0, .int .i64 0, .int .i64 0]) (t := 71) ?hr ?_; (case hd => rfl); (case hg => rfl); (case hr => first | (go_simp; done) | (go_simp; rfl))
                      intro gb249 hg w23 hbox hb
                      have n0_ := Aside0.mk (Kd.R_below (by (with_reducible repeat (first | apply Kd.R_alloc | apply Kd.R_drewN | apply Kd.R_drew)); exact HO_8.out) hb)
                      have n1_ := Aside0.mk (blk_below (g := gb232) (o := .cells #[.int .i64 x233000_2, .int .i64 x233001_2, .string x233002_2, .bool x233003_2] 26 (0, 0)) (XSq.bq BK232) hb)
                      have n2_ := Aside0.mk (below_step (XSq.bB HB) hb)
                      have n3_ := Aside0.mk (hbox)
                      have n4_ := Aside0.mk ((by rw [hg]; exact (below_size (XSq.bB HB)) : w.heap.size ≤ gb249))
                      have n5_ := Aside0.mk ((by rw [hg]; exact (below_size (XSq.bB HB)) : w.heap.size ≤ gb249))
                      have n6_ := Aside0.mk ((by rw [hg]; exact Nat.ne_of_lt (blk_lt (g := gb232) (o := .cells #[.int .i64 x233000_2, .int .i64 x233001_2, .string x233002_2, .bool x233003_2] 26 (0, 0)) (XSq.bq BK232)) : gb232 ≠ gb249))
                      have n7_ := Aside0.mk ((by rw [hg]; exact Nat.ne_of_gt (blk_lt (g := gb232) (o := .cells #[.int .i64 x233000_2, .int .i64 x233001_2, .string x233002_2, .bool x233003_2] 26 (0, 0)) (XSq.bq BK232)) : gb249 ≠ gb232))
                      clear HO_8
                      clear BK232
                      clear HB
                      have HO_8 := n0_
                      have BK232 := n1_
                      have HB := n2_
                      have BK249 := n3_
                      have GW249 := n4_
                      have GE249 := n5_
                      have NB232_249 := n6_
                      have NB249_232 := n7_
                      clear n0_ n1_ n2_ n3_ n4_ n5_ n6_ n7_
                      clear hb hbox hg
                      refine hK.out _ _ ⟨(blk_cell BK232.out 0).trans rfl, (blk_cell BK232.out 1).trans rfl, (blk_cell BK232.out 2).trans rfl, (blk_cell BK232.out 3).trans rfl⟩ (fun hHeld => ?_)
                      clear hK K
                      refine norm_ (a' := ?_) ?_ ?_
                      rotate_left
                      · show Act.put _ (some 9) _ = _
                        simp only [Act.put, List.setIfInBounds_toArray, List.set_cons_zero, List.set_cons_succ, i64_w, i32_w]
                        rfl
                      exact norm_ (by simp only [putAll, Act.put, List.setIfInBounds_toArray, List.set_cons_zero, List.set_cons_succ]) (hCont (gb249) _ ⟨hHeld, (by (with_reducible repeat (first | apply Kd.R_alloc | apply Kd.R_drewN | apply Kd.R_drew)); exact HO_8.out), (XSq.bq BK232), (XSq.bq BK249), GW249.out, GE249.out, NB232_249.out, NB249_232.out, (XSq.bB HB)⟩)
                    · skip
                      refine box_step ?hg (N := 9) ?hd (cs := #[.int .i64 0, .int .i64 0, .string (⟨#[]⟩ : ByteArray), .bool false, .int .i64 0, .int .i64 0, .int .i64 0]) (t := 71) ?hr ?_; (case hd => rfl); (case hg => rfl); (case hr => first | (go_simp; done) | (go_simp; rfl))
                      intro gb249 hg w22 hbox hb
                      have n0_ := Aside0.mk (Kd.R_below (by (with_reducible repeat (first | apply Kd.R_alloc | apply Kd.R_drewN | apply Kd.R_drew)); exact HO_8.out) hb)
                      have n1_ := Aside0.mk (blk_below (g := gb232) (o := .cells #[.int .i64 x233000_2, .int .i64 x233001_2, .string x233002_2, .bool x233003_2] 26 (0, 0)) (XSq.bq BK232) hb)
                      have n2_ := Aside0.mk (below_step (XSq.bB HB) hb)
                      have n3_ := Aside0.mk (hbox)
                      have n4_ := Aside0.mk ((by rw [hg]; exact (below_size (XSq.bB HB)) : w.heap.size ≤ gb249))
                      have n5_ := Aside0.mk ((by rw [hg]; exact (below_size (XSq.bB HB)) : w.heap.size ≤ gb249))
                      have n6_ := Aside0.mk ((by rw [hg]; exact Nat.ne_of_lt (blk_lt (g := gb232) (o := .cells #[.int .i64 x233000_2, .int .i64 x233001_2, .string x233002_2, .bool x233003_2] 26 (0, 0)) (XSq.bq BK232)) : gb232 ≠ gb249))
                      have n7_ := Aside0.mk ((by rw [hg]; exact Nat.ne_of_gt (blk_lt (g := gb232) (o := .cells #[.int .i64 x233000_2, .int .i64 x233001_2, .string x233002_2, .bool x233003_2] 26 (0, 0)) (XSq.bq BK232)) : gb249 ≠ gb232))
                      clear HO_8
                      clear BK232
                      clear HB
                      have HO_8 := n0_
                      have BK232 := n1_
                      have HB := n2_
                      have BK249 := n3_
                      have GW249 := n4_
                      have GE249 := n5_
                      have NB232_249 := n6_
                      have NB249_232 := n7_
                      clear n0_ n1_ n2_ n3_ n4_ n5_ n6_ n7_
                      clear hb hbox hg
                      refine hK.out _ _ ⟨(blk_cell BK232.out 0).trans rfl, (blk_cell BK232.out 1).trans rfl, (blk_cell BK232.out 2).trans rfl, (blk_cell BK232.out 3).trans rfl⟩ (fun hHeld => ?_)
                      clear hK K
                      refine norm_ (a' := ?_) ?_ ?_
                      rotate_left
                      · show Act.put _ (some 9) _ = _
                        simp only [Act.put, List.setIfInBounds_toArray, List.set_cons_zero, List.set_cons_succ, i64_w, i32_w]
                        rfl
                      refine one_ (i := 4) (N := some 29) #[true, true, true, true, true, false, false, false, true, false, false] rfl rfl (one_of HT_.out (by kernel_rfl)) (by decide) (fun K hK => ?_)
                      refine goes_ Tryd.func64 (by kernel_rfl) rfl #[.agg #[.int .i64 x233000_2, .int .i64 x233001_2, .string x233002_2, .bool x233003_2], .agg #[.int .i64 t238, .int .i64 t239, .int .i64 t240]] (by rfl) rfl rfl (by (try simp only [List.map_toArray, List.map_cons, List.map_nil]); first | done | rfl | (simp only [List.length_drop, List.length_take]; rfl)) ?_
                      with_reducible refine (impl_Maze_pass.calls k2 x233000_2 x233001_2 x233002_2 x233003_2 t238 t239 t240 t241 t242 t243 t244 t245 t246 t247 t248 _ A18.out).mono ?_
                      rintro e w23 ⟨rfl, hb⟩
                      refine ⟨_, rfl, ?_⟩
                      have n0_ := Aside0.mk (Kd.R_below (by (with_reducible repeat (first | apply Kd.R_alloc | apply Kd.R_drewN | apply Kd.R_drew)); exact HO_8.out) hb)
                      have n1_ := Aside0.mk (blk_below (g := gb232) (o := .cells #[.int .i64 x233000_2, .int .i64 x233001_2, .string x233002_2, .bool x233003_2] 26 (0, 0)) (XSq.bq BK232) hb)
                      have n2_ := Aside0.mk (blk_below (g := gb249) (o := .cells #[.int .i64 0, .int .i64 0, .string (⟨#[]⟩ : ByteArray), .bool false, .int .i64 0, .int .i64 0, .int .i64 0] 71 (0, 0)) (XSq.bq BK249) hb)
                      have n3_ := Aside0.mk (below_step (XSq.bB HB) hb)
                      clear HO_8
                      clear BK232
                      clear BK249
                      clear HB
                      have HO_8 := n0_
                      have BK232 := n1_
                      have BK249 := n2_
                      have HB := n3_
                      clear n0_ n1_ n2_ n3_
                      (try clear hb)
                      (try clear hb2)
                      (try clear hk)
                      (try clear hi)
                      refine hK.out _ _ ⟨(blk_cell BK232.out 0).trans rfl, (blk_cell BK232.out 1).trans rfl, (blk_cell BK232.out 2).trans rfl, (blk_cell BK232.out 3).trans rfl⟩ (fun hHeld => ?_)
                      clear hK K
                      refine norm_ (a' := ?_) ?_ ?_
                      rotate_left
                      · show Act.put _ (some 29) _ = _
                        simp only [Act.put, List.setIfInBounds_toArray, List.set_cons_zero, List.set_cons_succ, i64_w, i32_w]
                        rfl
                      refine pure_ (i := 5) (N := some 24) (v := ?_) (a' := ?_) #[true, true, true, true, true, true, false, false, true, false, false] rfl rfl (any_of HT_.out (by kernel_rfl)) (fun _ _ _ h => h) (Or.inl ⟨by rfl, ?_⟩) ?_ ?_
                      rotate_left
                      · intro w'
                        go_simp
                        with_reducible rfl
                      rotate_left
                      · simp only [Act.put, List.setIfInBounds_toArray, List.set_cons_zero, List.set_cons_succ, i64_w, i32_w]
                        rfl
                      refine pure_ (i := 6) (N := some 30) (v := ?_) (a' := ?_) #[true, true, true, true, true, true, true, false, true, false, false] rfl rfl (any_of HT_.out (by kernel_rfl)) (fun _ _ _ h => h) (Or.inl ⟨by rfl, ?_⟩) ?_ ?_
                      rotate_left
                      · intro w'
                        go_simp
                        with_reducible rfl
                      rotate_left
                      · simp only [Act.put, List.setIfInBounds_toArray, List.set_cons_zero, List.set_cons_succ, i64_w, i32_w]
                        rfl
                      refine pure_ (i := 7) (N := some 31) (v := ?_) (a' := ?_) #[true, true, true, true, true, true, true, true, true, false, false] rfl rfl (any_of HT_.out (by kernel_rfl)) (fun _ _ _ h => h) (Or.inl ⟨by rfl, ?_⟩) ?_ ?_
                      rotate_left
                      · intro w'
                        go_simp
                        with_reducible rfl
                      rotate_left
                      · simp only [Act.put, List.setIfInBounds_toArray, List.set_cons_zero, List.set_cons_succ, i64_w, i32_w]
                        rfl
                      exact norm_ (by simp only [putAll, Act.put, List.setIfInBounds_toArray, List.set_cons_zero, List.set_cons_succ]) (hCont (gb249) _ ⟨hHeld, (by (with_reducible repeat (first | apply Kd.R_alloc | apply Kd.R_drewN | apply Kd.R_drew)); exact HO_8.out), (XSq.bq BK232), (XSq.bq BK249), GW249.out, GE249.out, NB232_249.out, NB249_232.out, (XSq.bB HB)⟩)
                  · skip
                    refine box_step ?hg (N := 9) ?hd (cs := #[.int .i64 0, .int .i64 0, .string (⟨#[]⟩ : ByteArray), .bool false, .int .i64 0, .int .i64 0, .int .i64 0]) (t := 71) ?hr ?_; (case hd => rfl); (case hg => rfl); (case hr => first | (go_simp; done) | (go_simp; rfl))
                    intro gb249 hg w21 hbox hb
                    have n0_ := Aside0.mk (Kd.R_below (by (with_reducible repeat (first | apply Kd.R_alloc | apply Kd.R_drewN | apply Kd.R_drew)); exact HO_8.out) hb)
                    have n1_ := Aside0.mk (blk_below (g := gb232) (o := .cells #[.int .i64 x233000_2, .int .i64 x233001_2, .string x233002_2, .bool x233003_2] 26 (0, 0)) (XSq.bq BK232) hb)
                    have n2_ := Aside0.mk (below_step (XSq.bB HB) hb)
                    have n3_ := Aside0.mk (hbox)
                    have n4_ := Aside0.mk ((by rw [hg]; exact (below_size (XSq.bB HB)) : w.heap.size ≤ gb249))
                    have n5_ := Aside0.mk ((by rw [hg]; exact (below_size (XSq.bB HB)) : w.heap.size ≤ gb249))
                    have n6_ := Aside0.mk ((by rw [hg]; exact Nat.ne_of_lt (blk_lt (g := gb232) (o := .cells #[.int .i64 x233000_2, .int .i64 x233001_2, .string x233002_2, .bool x233003_2] 26 (0, 0)) (XSq.bq BK232)) : gb232 ≠ gb249))
                    have n7_ := Aside0.mk ((by rw [hg]; exact Nat.ne_of_gt (blk_lt (g := gb232) (o := .cells #[.int .i64 x233000_2, .int .i64 x233001_2, .string x233002_2, .bool x233003_2] 26 (0, 0)) (XSq.bq BK232)) : gb249 ≠ gb232))
                    clear HO_8
                    clear BK232
                    clear HB
                    have HO_8 := n0_
                    have BK232 := n1_
                    have HB := n2_
                    have BK249 := n3_
                    have GW249 := n4_
                    have GE249 := n5_
                    have NB232_249 := n6_
                    have NB249_232 := n7_
                    clear n0_ n1_ n2_ n3_ n4_ n5_ n6_ n7_
                    clear hb hbox hg
                    refine hK.out _ _ ⟨(blk_cell BK232.out 0).trans rfl, (blk_cell BK232.out 1).trans rfl, (blk_cell BK232.out 2).trans rfl, (blk_cell BK232.out 3).trans rfl⟩ (fun hHeld => ?_)
                    clear hK K
                    refine norm_ (a' := ?_) ?_ ?_
                    rotate_left
                    · show Act.put _ (some 9) _ = _
                      simp only [Act.put, List.setIfInBounds_toArray, List.set_cons_zero, List.set_cons_succ, i64_w, i32_w]
                      rfl
                    refine one_ (i := 3) (N := some 28) #[true, true, true, true, false, false, false, false, true, false, false] rfl rfl (one_of HT_.out (by kernel_rfl)) (by decide) (fun K hK => ?_)
                    refine goes_ Tryd.func55 (by kernel_rfl) rfl #[.agg #[.int .i64 x233000_2, .int .i64 x233001_2, .string x233002_2, .bool x233003_2], .int .i64 a1] (by rfl) rfl rfl (by (try simp only [List.map_toArray, List.map_cons, List.map_nil]); first | done | rfl | (simp only [List.length_drop, List.length_take]; rfl)) ?_
                    with_reducible refine (impl_Maze_entry.calls x233000_2 x233001_2 x233002_2 x233003_2 a1 t238 t239 t240 _ A17.out).mono ?_
                    rintro e w22 ⟨rfl, hb⟩
                    refine ⟨_, rfl, ?_⟩
                    have n0_ := Aside0.mk (Kd.R_below (by (with_reducible repeat (first | apply Kd.R_alloc | apply Kd.R_drewN | apply Kd.R_drew)); exact HO_8.out) hb)
                    have n1_ := Aside0.mk (blk_below (g := gb232) (o := .cells #[.int .i64 x233000_2, .int .i64 x233001_2, .string x233002_2, .bool x233003_2] 26 (0, 0)) (XSq.bq BK232) hb)
                    have n2_ := Aside0.mk (blk_below (g := gb249) (o := .cells #[.int .i64 0, .int .i64 0, .string (⟨#[]⟩ : ByteArray), .bool false, .int .i64 0, .int .i64 0, .int .i64 0] 71 (0, 0)) (XSq.bq BK249) hb)
                    have n3_ := Aside0.mk (below_step (XSq.bB HB) hb)
                    clear HO_8
                    clear BK232
                    clear BK249
                    clear HB
                    have HO_8 := n0_
                    have BK232 := n1_
                    have BK249 := n2_
                    have HB := n3_
                    clear n0_ n1_ n2_ n3_
                    (try clear hb)
                    (try clear hb2)
                    (try clear hk)
                    (try clear hi)
                    refine hK.out _ _ ⟨(blk_cell BK232.out 0).trans rfl, (blk_cell BK232.out 1).trans rfl, (blk_cell BK232.out 2).trans rfl, (blk_cell BK232.out 3).trans rfl⟩ (fun hHeld => ?_)
                    clear hK K
                    refine norm_ (a' := ?_) ?_ ?_
                    rotate_left
                    · show Act.put _ (some 28) _ = _
                      simp only [Act.put, List.setIfInBounds_toArray, List.set_cons_zero, List.set_cons_succ, i64_w, i32_w]
                      rfl
                    refine one_ (i := 4) (N := some 29) #[true, true, true, true, true, false, false, false, true, false, false] rfl rfl (one_of HT_.out (by kernel_rfl)) (by decide) (fun K hK => ?_)
                    refine goes_ Tryd.func64 (by kernel_rfl) rfl #[.agg #[.int .i64 x233000_2, .int .i64 x233001_2, .string x233002_2, .bool x233003_2], .agg #[.int .i64 t238, .int .i64 t239, .int .i64 t240]] (by rfl) rfl rfl (by (try simp only [List.map_toArray, List.map_cons, List.map_nil]); first | done | rfl | (simp only [List.length_drop, List.length_take]; rfl)) ?_
                    with_reducible refine (impl_Maze_pass.calls k2 x233000_2 x233001_2 x233002_2 x233003_2 t238 t239 t240 t241 t242 t243 t244 t245 t246 t247 t248 _ A18.out).mono ?_
                    rintro e w23 ⟨rfl, hb⟩
                    refine ⟨_, rfl, ?_⟩
                    have n0_ := Aside0.mk (Kd.R_below (by (with_reducible repeat (first | apply Kd.R_alloc | apply Kd.R_drewN | apply Kd.R_drew)); exact HO_8.out) hb)
                    have n1_ := Aside0.mk (blk_below (g := gb232) (o := .cells #[.int .i64 x233000_2, .int .i64 x233001_2, .string x233002_2, .bool x233003_2] 26 (0, 0)) (XSq.bq BK232) hb)
                    have n2_ := Aside0.mk (blk_below (g := gb249) (o := .cells #[.int .i64 0, .int .i64 0, .string (⟨#[]⟩ : ByteArray), .bool false, .int .i64 0, .int .i64 0, .int .i64 0] 71 (0, 0)) (XSq.bq BK249) hb)
                    have n3_ := Aside0.mk (below_step (XSq.bB HB) hb)
                    clear HO_8
                    clear BK232
                    clear BK249
                    clear HB
                    have HO_8 := n0_
                    have BK232 := n1_
                    have BK249 := n2_
                    have HB := n3_
                    clear n0_ n1_ n2_ n3_
                    (try clear hb)
                    (try clear hb2)
                    (try clear hk)
                    (try clear hi)
                    refine hK.out _ _ ⟨(blk_cell BK232.out 0).trans rfl, (blk_cell BK232.out 1).trans rfl, (blk_cell BK232.out 2).trans rfl, (blk_cell BK232.out 3).trans rfl⟩ (fun hHeld => ?_)
                    clear hK K
                    refine norm_ (a' := ?_) ?_ ?_
                    rotate_left
                    · show Act.put _ (some 29) _ = _
                      simp only [Act.put, List.setIfInBounds_toArray, List.set_cons_zero, List.set_cons_succ, i64_w, i32_w]
                      rfl
                    refine pure_ (i := 5) (N := some 24) (v := ?_) (a' := ?_) #[true, true, true, true, true, true, false, false, true, false, false] rfl rfl (any_of HT_.out (by kernel_rfl)) (fun _ _ _ h => h) (Or.inl ⟨by rfl, ?_⟩) ?_ ?_
                    rotate_left
                    · intro w'
                      go_simp
                      with_reducible rfl
                    rotate_left
                    · simp only [Act.put, List.setIfInBounds_toArray, List.set_cons_zero, List.set_cons_succ, i64_w, i32_w]
                      rfl
                    refine pure_ (i := 6) (N := some 30) (v := ?_) (a' := ?_) #[true, true, true, true, true, true, true, false, true, false, false] rfl rfl (any_of HT_.out (by kernel_rfl)) (fun _ _ _ h => h) (Or.inl ⟨by rfl, ?_⟩) ?_ ?_
                    rotate_left
                    · intro w'
                      go_simp
                      with_reducible rfl
                    rotate_left
                    · simp only [Act.put, List.setIfInBounds_toArray, List.set_cons_zero, List.set_cons_succ, i64_w, i32_w]
                      rfl
                    refine pure_ (i := 7) (N := some 31) (v := ?_) (a' := ?_) #[true, true, true, true, true, true, true, true, true, false, false] rfl rfl (any_of HT_.out (by kernel_rfl)) (fun _ _ _ h => h) (Or.inl ⟨by rfl, ?_⟩) ?_ ?_
                    rotate_left
                    · intro w'
                      go_simp
                      with_reducible rfl
                    rotate_left
                    · simp only [Act.put, List.setIfInBounds_toArray, List.set_cons_zero, List.set_cons_succ, i64_w, i32_w]
                      rfl
                    exact norm_ (by simp only [putAll, Act.put, List.setIfInBounds_toArray, List.set_cons_zero, List.set_cons_succ]) (hCont (gb249) _ ⟨hHeld, (by (with_reducible repeat (first | apply Kd.R_alloc | apply Kd.R_drewN | apply Kd.R_drew)); exact HO_8.out), (XSq.bq BK232), (XSq.bq BK249), GW249.out, GE249.out, NB232_249.out, NB249_232.out, (XSq.bB HB)⟩)
                rintro gb249 w24 ⟨hS_, h0_, h1_, h2_, h3_, h4_, h5_, h6_, h7_⟩
                have n0_ : Aside0 (Kd.R (Kd.int .i64) 3 w24 w.heap.size (fun _ => True) u8 x8_2) := ⟨h0_⟩
                have n1_ : Aside0 (w24.heap[gb232]? = some (.cells #[.int .i64 x233000_2, .int .i64 x233001_2, .string x233002_2, .bool x233003_2] 26 (0, 0))) := ⟨h1_⟩
                have n2_ : Aside0 (w24.heap[gb249]? = some (.cells #[.int .i64 0, .int .i64 0, .string (⟨#[]⟩ : ByteArray), .bool false, .int .i64 0, .int .i64 0, .int .i64 0] 71 (0, 0))) := ⟨h2_⟩
                have n3_ : Aside0 (w.heap.size ≤ gb249) := ⟨h3_⟩
                have n4_ : Aside0 (w.heap.size ≤ gb249) := ⟨h4_⟩
                have n5_ : Aside0 (gb232 ≠ gb249) := ⟨h5_⟩
                have n6_ : Aside0 (gb249 ≠ gb232) := ⟨h6_⟩
                have n7_ : Aside0 (Below w.heap.size w w24) := ⟨h7_⟩
                clear HO_8
                clear BK232
                clear HB
                clear h0_ h1_ h2_ h3_ h4_ h5_ h6_ h7_
                have HO_8 := n0_
                have BK232 := n1_
                have BK249 := n2_
                have GW249 := n3_
                have GE249 := n4_
                have NB232_249 := n5_
                have NB249_232 := n6_
                have HB := n7_
                clear n0_ n1_ n2_ n3_ n4_ n5_ n6_ n7_
                have hHeld : w24.cell? ⟨gb232, 0, none⟩ = some (.int .i64 x233000_2) ∧ w24.cell? ⟨gb232, 1, none⟩ = some (.int .i64 x233001_2) ∧ w24.cell? ⟨gb232, 2, none⟩ = some (.string x233002_2) ∧ w24.cell? ⟨gb232, 3, none⟩ = some (.bool x233003_2) := hS_
                refine norm_ (a' := ?_) ?_ ?_
                rotate_left
                · simp only [putAll, Act.put, List.setIfInBounds_toArray, List.set_cons_zero, List.set_cons_succ]
                  rfl
                refine one_ (i := 9) (N := none) #[true, true, true, true, true, true, true, true, true, true, false] rfl rfl (one_of HT_.out (by kernel_rfl)) (by decide) (fun K hK => ?_)
                have hs25 : w24.cell? ⟨gb249, 0, none⟩ = some (.int .i64 0) := (blk_cell BK249.out 0).trans rfl
                have hfs25 := blk_frozen BK249.out 0
                have hns25_0 := NB232_249.out
                have hms25_0 := NB249_232.out
                have hs26 : w24.cell? ⟨gb249, 1, none⟩ = some (.int .i64 0) := (blk_cell BK249.out 1).trans rfl
                have hfs26 := blk_frozen BK249.out 1
                have hns26_0 := NB232_249.out
                have hms26_0 := NB249_232.out
                have hs27 : w24.cell? ⟨gb249, 2, none⟩ = some (.string (⟨#[]⟩ : ByteArray)) := (blk_cell BK249.out 2).trans rfl
                have hfs27 := blk_frozen BK249.out 2
                have hns27_0 := NB232_249.out
                have hms27_0 := NB249_232.out
                have hs28 : w24.cell? ⟨gb249, 3, none⟩ = some (.bool false) := (blk_cell BK249.out 3).trans rfl
                have hfs28 := blk_frozen BK249.out 3
                have hns28_0 := NB232_249.out
                have hms28_0 := NB249_232.out
                have hs29 : w24.cell? ⟨gb249, 4, none⟩ = some (.int .i64 0) := (blk_cell BK249.out 4).trans rfl
                have hfs29 := blk_frozen BK249.out 4
                have hns29_0 := NB232_249.out
                have hms29_0 := NB249_232.out
                have hs30 : w24.cell? ⟨gb249, 5, none⟩ = some (.int .i64 0) := (blk_cell BK249.out 5).trans rfl
                have hfs30 := blk_frozen BK249.out 5
                have hns30_0 := NB232_249.out
                have hms30_0 := NB249_232.out
                have hs31 : w24.cell? ⟨gb249, 6, none⟩ = some (.int .i64 0) := (blk_cell BK249.out 6).trans rfl
                have hfs31 := blk_frozen BK249.out 6
                have hns31_0 := NB232_249.out
                have hms31_0 := NB249_232.out
                refine skip_ (w1 := ?_) (by rfl) rfl ?_ ?_
                rotate_left
                · go_simp
                  rfl
                refine hK.out _ _ ⟨((cell_far (p := ⟨gb249, _, none⟩) NB232_249.out _).trans (((cell_far (p := ⟨gb249, _, none⟩) NB232_249.out _).trans (((cell_far (p := ⟨gb249, _, none⟩) NB232_249.out _).trans (((cell_far (p := ⟨gb249, _, none⟩) NB232_249.out _).trans (((cell_far (p := ⟨gb249, _, none⟩) NB232_249.out _).trans (((cell_far (p := ⟨gb249, _, none⟩) NB232_249.out _).trans (((cell_far (p := ⟨gb249, _, none⟩) NB232_249.out _).trans (hHeld.1)))))))))))))), ((cell_far (p := ⟨gb249, _, none⟩) NB232_249.out _).trans (((cell_far (p := ⟨gb249, _, none⟩) NB232_249.out _).trans (((cell_far (p := ⟨gb249, _, none⟩) NB232_249.out _).trans (((cell_far (p := ⟨gb249, _, none⟩) NB232_249.out _).trans (((cell_far (p := ⟨gb249, _, none⟩) NB232_249.out _).trans (((cell_far (p := ⟨gb249, _, none⟩) NB232_249.out _).trans (((cell_far (p := ⟨gb249, _, none⟩) NB232_249.out _).trans (hHeld.2.1)))))))))))))), ((cell_far (p := ⟨gb249, _, none⟩) NB232_249.out _).trans (((cell_far (p := ⟨gb249, _, none⟩) NB232_249.out _).trans (((cell_far (p := ⟨gb249, _, none⟩) NB232_249.out _).trans (((cell_far (p := ⟨gb249, _, none⟩) NB232_249.out _).trans (((cell_far (p := ⟨gb249, _, none⟩) NB232_249.out _).trans (((cell_far (p := ⟨gb249, _, none⟩) NB232_249.out _).trans (((cell_far (p := ⟨gb249, _, none⟩) NB232_249.out _).trans (hHeld.2.2.1)))))))))))))), ((cell_far (p := ⟨gb249, _, none⟩) NB232_249.out _).trans (((cell_far (p := ⟨gb249, _, none⟩) NB232_249.out _).trans (((cell_far (p := ⟨gb249, _, none⟩) NB232_249.out _).trans (((cell_far (p := ⟨gb249, _, none⟩) NB232_249.out _).trans (((cell_far (p := ⟨gb249, _, none⟩) NB232_249.out _).trans (((cell_far (p := ⟨gb249, _, none⟩) NB232_249.out _).trans (((cell_far (p := ⟨gb249, _, none⟩) NB232_249.out _).trans (hHeld.2.2.2))))))))))))))⟩ (fun hHeld => ?_)
                clear hK K
                refine pure_ (i := 10) (N := some 10) (v := ?_) (a' := ?_) #[true, true, true, true, true, true, true, true, true, true, true] rfl rfl (any_of HT_.out (by kernel_rfl)) (fun _ _ _ h => h) (Or.inl ⟨by rfl, ?_⟩) ?_ ?_
                rotate_left
                · intro w'
                  go_simp
                  with_reducible rfl
                rotate_left
                · simp only [Act.put, List.setIfInBounds_toArray, List.set_cons_zero, List.set_cons_succ, i64_w, i32_w]
                  rfl
                refine done_ (done_of HT_.out (by kernel_rfl)) ?_
                try go_wp2
                have n0_ : Aside0 (Kd.R (Kd.int .i64) 3 (((((((w24.setCell ⟨gb249, 0, none⟩ (.int .i64 t241)).setCell ⟨gb249, 1, none⟩ (.int .i64 t242)).setCell ⟨gb249, 2, none⟩ (.string t243)).setCell ⟨gb249, 3, none⟩ (.bool t244)).setCell ⟨gb249, 4, none⟩ (.int .i64 t245)).setCell ⟨gb249, 5, none⟩ (.int .i64 t246)).setCell ⟨gb249, 6, none⟩ (.int .i64 t247)) w.heap.size (fun _ => True) u8 x8_2) := ⟨by (with_reducible repeat (first | apply Kd.R_alloc | apply Kd.R_drewN | apply Kd.R_drew)); exact Kd.R_mono (Kd.R_far (p := ⟨gb249, 6, none⟩) (Kd.R_far (p := ⟨gb249, 5, none⟩) (Kd.R_far (p := ⟨gb249, 4, none⟩) (Kd.R_far (p := ⟨gb249, 3, none⟩) (Kd.R_far (p := ⟨gb249, 2, none⟩) (Kd.R_far (p := ⟨gb249, 1, none⟩) (Kd.R_far (p := ⟨gb249, 0, none⟩) (Kd.R_types HO_8.out BK249.out (by decide)) (fun _ hk => hk.2) (.int .i64 t241)) (fun _ hk => hk.2) (.int .i64 t242)) (fun _ hk => hk.2) (.string t243)) (fun _ hk => hk.2) (.bool t244)) (fun _ hk => hk.2) (.int .i64 t245)) (fun _ hk => hk.2) (.int .i64 t246)) (fun _ hk => hk.2) (.int .i64 t247)) (fun _ hk => trivial)⟩
                have n1_ : Aside0 ((((((((w24.setCell ⟨gb249, 0, none⟩ (.int .i64 t241)).setCell ⟨gb249, 1, none⟩ (.int .i64 t242)).setCell ⟨gb249, 2, none⟩ (.string t243)).setCell ⟨gb249, 3, none⟩ (.bool t244)).setCell ⟨gb249, 4, none⟩ (.int .i64 t245)).setCell ⟨gb249, 5, none⟩ (.int .i64 t246)).setCell ⟨gb249, 6, none⟩ (.int .i64 t247)).heap[gb232]? = some (.cells #[.int .i64 x233000_2, .int .i64 x233001_2, .string x233002_2, .bool x233003_2] 26 (0, 0))) := ⟨by (with_reducible repeat (first | refine blk_drewN ?_ _ | refine blk_drew ?_ | refine blk_alloc ?_ _)); refine blk_far ?_ NB232_249.out _; (with_reducible repeat (first | refine blk_drewN ?_ _ | refine blk_drew ?_ | refine blk_alloc ?_ _)); refine blk_far ?_ NB232_249.out _; (with_reducible repeat (first | refine blk_drewN ?_ _ | refine blk_drew ?_ | refine blk_alloc ?_ _)); refine blk_far ?_ NB232_249.out _; (with_reducible repeat (first | refine blk_drewN ?_ _ | refine blk_drew ?_ | refine blk_alloc ?_ _)); refine blk_far ?_ NB232_249.out _; (with_reducible repeat (first | refine blk_drewN ?_ _ | refine blk_drew ?_ | refine blk_alloc ?_ _)); refine blk_far ?_ NB232_249.out _; (with_reducible repeat (first | refine blk_drewN ?_ _ | refine blk_drew ?_ | refine blk_alloc ?_ _)); refine blk_far ?_ NB232_249.out _; (with_reducible repeat (first | refine blk_drewN ?_ _ | refine blk_drew ?_ | refine blk_alloc ?_ _)); refine blk_far ?_ NB232_249.out _; (with_reducible repeat (first | refine blk_drewN ?_ _ | refine blk_drew ?_ | refine blk_alloc ?_ _)); exact BK232.out⟩
                have n2_ : Aside0 ((((((((w24.setCell ⟨gb249, 0, none⟩ (.int .i64 t241)).setCell ⟨gb249, 1, none⟩ (.int .i64 t242)).setCell ⟨gb249, 2, none⟩ (.string t243)).setCell ⟨gb249, 3, none⟩ (.bool t244)).setCell ⟨gb249, 4, none⟩ (.int .i64 t245)).setCell ⟨gb249, 5, none⟩ (.int .i64 t246)).setCell ⟨gb249, 6, none⟩ (.int .i64 t247)).heap[gb249]? = some (.cells #[.int .i64 t241, .int .i64 t242, .string t243, .bool t244, .int .i64 t245, .int .i64 t246, .int .i64 t247] 71 (0, 0))) := ⟨by (with_reducible repeat (first | refine blk_drewN ?_ _ | refine blk_drew ?_ | refine blk_alloc ?_ _)); refine blk_put (cs := #[.int .i64 t241, .int .i64 t242, .string t243, .bool t244, .int .i64 t245, .int .i64 t246, .int .i64 0]) ?_ 6 _ rfl; (with_reducible repeat (first | refine blk_drewN ?_ _ | refine blk_drew ?_ | refine blk_alloc ?_ _)); refine blk_put (cs := #[.int .i64 t241, .int .i64 t242, .string t243, .bool t244, .int .i64 t245, .int .i64 0, .int .i64 0]) ?_ 5 _ rfl; (with_reducible repeat (first | refine blk_drewN ?_ _ | refine blk_drew ?_ | refine blk_alloc ?_ _)); refine blk_put (cs := #[.int .i64 t241, .int .i64 t242, .string t243, .bool t244, .int .i64 0, .int .i64 0, .int .i64 0]) ?_ 4 _ rfl; (with_reducible repeat (first | refine blk_drewN ?_ _ | refine blk_drew ?_ | refine blk_alloc ?_ _)); refine blk_put (cs := #[.int .i64 t241, .int .i64 t242, .string t243, .bool false, .int .i64 0, .int .i64 0, .int .i64 0]) ?_ 3 _ rfl; (with_reducible repeat (first | refine blk_drewN ?_ _ | refine blk_drew ?_ | refine blk_alloc ?_ _)); refine blk_put (cs := #[.int .i64 t241, .int .i64 t242, .string (⟨#[]⟩ : ByteArray), .bool false, .int .i64 0, .int .i64 0, .int .i64 0]) ?_ 2 _ rfl; (with_reducible repeat (first | refine blk_drewN ?_ _ | refine blk_drew ?_ | refine blk_alloc ?_ _)); refine blk_put (cs := #[.int .i64 t241, .int .i64 0, .string (⟨#[]⟩ : ByteArray), .bool false, .int .i64 0, .int .i64 0, .int .i64 0]) ?_ 1 _ rfl; (with_reducible repeat (first | refine blk_drewN ?_ _ | refine blk_drew ?_ | refine blk_alloc ?_ _)); refine blk_put (cs := #[.int .i64 0, .int .i64 0, .string (⟨#[]⟩ : ByteArray), .bool false, .int .i64 0, .int .i64 0, .int .i64 0]) ?_ 0 _ rfl; (with_reducible repeat (first | refine blk_drewN ?_ _ | refine blk_drew ?_ | refine blk_alloc ?_ _)); exact BK249.out⟩
                have n3_ : Aside0 (Below w.heap.size w (((((((w24.setCell ⟨gb249, 0, none⟩ (.int .i64 t241)).setCell ⟨gb249, 1, none⟩ (.int .i64 t242)).setCell ⟨gb249, 2, none⟩ (.string t243)).setCell ⟨gb249, 3, none⟩ (.bool t244)).setCell ⟨gb249, 4, none⟩ (.int .i64 t245)).setCell ⟨gb249, 5, none⟩ (.int .i64 t246)).setCell ⟨gb249, 6, none⟩ (.int .i64 t247))) := ⟨by repeat (first | (with_reducible first | exact HB.out | apply below_alloc | apply pw_below_drewN | apply below_drew1 | refine below_set ?_ GE232.out | refine below_set ?_ GE249.out) | exact HB.out)⟩
                (try clear HO_8)
                (try clear BK232)
                (try clear BK249)
                (try clear HB)
                generalize (((((((w24.setCell ⟨gb249, 0, none⟩ (.int .i64 t241)).setCell ⟨gb249, 1, none⟩ (.int .i64 t242)).setCell ⟨gb249, 2, none⟩ (.string t243)).setCell ⟨gb249, 3, none⟩ (.bool t244)).setCell ⟨gb249, 4, none⟩ (.int .i64 t245)).setCell ⟨gb249, 5, none⟩ (.int .i64 t246)).setCell ⟨gb249, 6, none⟩ (.int .i64 t247)) = w32 at n0_ n1_ n2_ n3_ ⊢
                have HO_8 := n0_
                have BK232 := n1_
                have BK249 := n2_
                have HB := n3_
                clear n0_ n1_ n2_ n3_
                have n0_ := Aside0.mk (Kd.R_drew HO_8.out)
                have n1_ := Aside0.mk (blk_drew BK232.out)
                have n2_ := Aside0.mk (blk_drew BK249.out)
                have n3_ := Aside0.mk (below_drew1 HB.out)
                clear HO_8
                clear BK232
                clear BK249
                clear HB
                have HO_8 := n0_
                have BK232 := n1_
                have BK249 := n2_
                have HB := n3_
                clear n0_ n1_ n2_ n3_
                refine start_ (n := 9) (S := fun w' => w'.cell? ⟨gb249, 0, none⟩ = some (.int .i64 t241) ∧ w'.cell? ⟨gb249, 1, none⟩ = some (.int .i64 t242) ∧ w'.cell? ⟨gb249, 2, none⟩ = some (.string t243) ∧ w'.cell? ⟨gb249, 3, none⟩ = some (.bool t244) ∧ w'.cell? ⟨gb249, 4, none⟩ = some (.int .i64 t245) ∧ w'.cell? ⟨gb249, 5, none⟩ = some (.int .i64 t246) ∧ w'.cell? ⟨gb249, 6, none⟩ = some (.int .i64 t247)) (ds := []) #[false, false, false, false, false, false, false, false, false] (by kernel_rfl) rfl rfl ⟨(blk_cell BK249.out 0).trans rfl, (blk_cell BK249.out 1).trans rfl, (blk_cell BK249.out 2).trans rfl, (blk_cell BK249.out 3).trans rfl, (blk_cell BK249.out 4).trans rfl, (blk_cell BK249.out 5).trans rfl, (blk_cell BK249.out 6).trans rfl⟩ (fun hHeld => ?_); refine with_tabW impl_ExitsInTurn.tab7 impl_ExitsInTurn.bits7 (fun HT_ HW_ => ?_)
                generalize w32.drew = w33 at HO_8 BK232 BK249 HB hHeld ⊢
                refine pure_ (i := 0) (N := some 32) (v := ?_) (a' := ?_) #[true, false, false, false, false, false, false, false, false] rfl rfl (any_of HT_.out (by kernel_rfl)) (fun _ _ _ h => h) (Or.inl ⟨by rfl, ?_⟩) ?_ ?_
                rotate_left
                · intro w'
                  go_simp
                  with_reducible rfl
                rotate_left
                · simp only [Act.put, List.setIfInBounds_toArray, List.set_cons_zero, List.set_cons_succ, i64_w, i32_w]
                  rfl
                refine pure_ (i := 1) (N := some 33) (v := ?_) (a' := ?_) #[true, true, false, false, false, false, false, false, false] rfl rfl (any_of HT_.out (by kernel_rfl)) (fun _ _ _ h => h) (Or.inl ⟨by rfl, ?_⟩) ?_ ?_
                rotate_left
                · intro w'
                  go_simp
                  with_reducible rfl
                rotate_left
                · simp only [Act.put, List.setIfInBounds_toArray, List.set_cons_zero, List.set_cons_succ, i64_w, i32_w]
                  rfl
                refine pure_ (i := 5) (N := some 37) (v := ?_) (a' := ?_) #[true, true, false, false, false, true, false, false, false] rfl rfl (any_of HT_.out (by kernel_rfl)) (fun _ _ _ h => h) (Or.inl ⟨by rfl, ?_⟩) ?_ ?_
                rotate_left
                · intro w'
                  go_simp
                  with_reducible rfl
                rotate_left
                · simp only [Act.put, List.setIfInBounds_toArray, List.set_cons_zero, List.set_cons_succ, i64_w, i32_w]
                  rfl
                refine take_ (i := 2) (N := some 34) (v := ?_) (a' := ?_) #[true, true, true, false, false, true, false, false, false] rfl rfl (take_ofW HT_.out HW_.out (by kernel_rfl)) (fun _ _ _ h => h) (Or.inl ⟨by rfl, ?_⟩) hHeld ?_ ?_
                rotate_left
                · rintro w' ⟨s0, s1, s2, s3, s4, s5, s6⟩
                  go_simp
                  with_reducible rfl
                rotate_left
                · simp only [Act.put, List.setIfInBounds_toArray, List.set_cons_zero, List.set_cons_succ, i64_w, i32_w]
                  rfl
                refine take_ (i := 6) (N := some 38) (v := ?_) (a' := ?_) #[true, true, true, false, false, true, true, false, false] rfl rfl (take_ofW HT_.out HW_.out (by kernel_rfl)) (fun _ _ _ h => h) (Or.inl ⟨by rfl, ?_⟩) hHeld ?_ ?_
                rotate_left
                · rintro w' ⟨s0, s1, s2, s3, s4, s5, s6⟩
                  go_simp
                  with_reducible rfl
                rotate_left
                · simp only [Act.put, List.setIfInBounds_toArray, List.set_cons_zero, List.set_cons_succ, i64_w, i32_w]
                  rfl
                refine one_ (i := 3) (N := some 35) #[true, true, true, true, false, true, true, false, false] rfl rfl (one_of HT_.out (by kernel_rfl)) (by decide) (fun K hK => ?_)
                refine value_ (w1 := ?_) (v := ?_) (by rfl) rfl ?_ ?_
                rotate_left 2
                · go_simp
                  constructor
                  · rfl
                  · rfl
                refine hK.out _ _ ⟨(blk_cell (blk_alloc BK249.out _) 0).trans rfl, (blk_cell (blk_alloc BK249.out _) 1).trans rfl, (blk_cell (blk_alloc BK249.out _) 2).trans rfl, (blk_cell (blk_alloc BK249.out _) 3).trans rfl, (blk_cell (blk_alloc BK249.out _) 4).trans rfl, (blk_cell (blk_alloc BK249.out _) 5).trans rfl, (blk_cell (blk_alloc BK249.out _) 6).trans rfl⟩ (fun hHeld => ?_)
                clear hK K
                refine norm_ (a' := ?_) ?_ ?_
                rotate_left
                · show Act.put _ (some 35) _ = _
                  simp only [Act.put, List.setIfInBounds_toArray, List.set_cons_zero, List.set_cons_succ, i64_w, i32_w]
                  rfl
                refine one_ (i := 4) (N := some 36) #[true, true, true, true, true, true, true, false, false] rfl rfl (one_of HT_.out (by kernel_rfl)) (by decide) (fun K hK => ?_)
                refine Kd.R_append_step (Kd.int .i64) (w0 := w) w.heap.size (by rfl) (.tmp 32) (.tmp 35) 50 3 (.int .i64 0) 8 rfl Tryd.underlying50 info3 rfl (by decide) (by omega) u8 x8_2 t245 [.int .i64 t245] (fun _ => True) (fun _ => False) rfl rfl ?aP (fun _ hk => hk.elim) ?aF ?aO ?aB ?aS ?aL ?_
                (case aP => exact rfl)
                (case aB => exact (XSq.bB HB))
                (case aF => exact (fun _ _ => trivial))
                (case aO => exact (by (with_reducible repeat (first | apply Kd.R_alloc | apply Kd.R_drewN | apply Kd.R_drew)); exact HO_8.out))
                (case aS => exact (below_size (XSq.bB HB)))
                (case aL => have := LMc19.out; omega)
                intro v251 w34 ho hb hg hat
                rw [← Ny250.out] at ho
                have n0_ := Aside0.mk (blk_grown (g := gb232) (o := .cells #[.int .i64 x233000_2, .int .i64 x233001_2, .string x233002_2, .bool x233003_2] 26 (0, 0)) (XSq.bq BK232) hg (Kd.R_ne HO_8.out BK232.out (by decide)))
                have n1_ := Aside0.mk (blk_grown (g := gb249) (o := .cells #[.int .i64 t241, .int .i64 t242, .string t243, .bool t244, .int .i64 t245, .int .i64 t246, .int .i64 t247] 71 (0, 0)) (XSq.bq BK249) hg (Kd.R_ne HO_8.out BK249.out (by decide)))
                have n2_ := Aside0.mk (hb)
                have n3_ := Aside0.mk (ho)
                clear BK232
                clear BK249
                clear HB
                clear HO_8
                have BK232 := n0_
                have BK249 := n1_
                have HB := n2_
                have HO252 := n3_
                clear n0_ n1_ n2_ n3_
                clear ho hb hg hat
                refine hK.out _ _ ⟨(blk_cell BK249.out 0).trans rfl, (blk_cell BK249.out 1).trans rfl, (blk_cell BK249.out 2).trans rfl, (blk_cell BK249.out 3).trans rfl, (blk_cell BK249.out 4).trans rfl, (blk_cell BK249.out 5).trans rfl, (blk_cell BK249.out 6).trans rfl⟩ (fun hHeld => ?_)
                clear hK K
                refine norm_ (a' := ?_) ?_ ?_
                rotate_left
                · show Act.put _ (some 36) _ = _
                  simp only [Act.put, List.setIfInBounds_toArray, List.set_cons_zero, List.set_cons_succ, i64_w, i32_w]
                  rfl
                refine pure_ (i := 7) (N := some 8) (v := ?_) (a' := ?_) #[true, true, true, true, true, true, true, true, false] rfl rfl (any_of HT_.out (by kernel_rfl)) (fun _ _ _ h => h) (Or.inl ⟨by rfl, ?_⟩) ?_ ?_
                rotate_left
                · intro w'
                  go_simp
                  with_reducible rfl
                rotate_left
                · simp only [Act.put, List.setIfInBounds_toArray, List.set_cons_zero, List.set_cons_succ, i64_w, i32_w]
                  rfl
                refine one_ (i := 8) (N := none) #[true, true, true, true, true, true, true, true, true] rfl rfl (one_of HT_.out (by kernel_rfl)) (by decide) (fun K hK => ?_)
                have hs35 : w34.cell? ⟨gb232, 0, none⟩ = some (.int .i64 x233000_2) := (blk_cell BK232.out 0).trans rfl
                have hfs35 := blk_frozen BK232.out 0
                have hns35_1 := NB249_232.out
                have hms35_1 := NB232_249.out
                have hs36 : w34.cell? ⟨gb232, 1, none⟩ = some (.int .i64 x233001_2) := (blk_cell BK232.out 1).trans rfl
                have hfs36 := blk_frozen BK232.out 1
                have hns36_1 := NB249_232.out
                have hms36_1 := NB232_249.out
                have hs37 : w34.cell? ⟨gb232, 2, none⟩ = some (.string x233002_2) := (blk_cell BK232.out 2).trans rfl
                have hfs37 := blk_frozen BK232.out 2
                have hns37_1 := NB249_232.out
                have hms37_1 := NB232_249.out
                have hs38 : w34.cell? ⟨gb232, 3, none⟩ = some (.bool x233003_2) := (blk_cell BK232.out 3).trans rfl
                have hfs38 := blk_frozen BK232.out 3
                have hns38_1 := NB249_232.out
                have hms38_1 := NB232_249.out
                refine skip_ (w1 := ?_) (by rfl) rfl ?_ ?_
                rotate_left
                · go_simp
                  rfl
                refine hK.out _ _ ⟨((cell_far (p := ⟨gb232, _, none⟩) NB249_232.out _).trans (((cell_far (p := ⟨gb232, _, none⟩) NB249_232.out _).trans (((cell_far (p := ⟨gb232, _, none⟩) NB249_232.out _).trans (((cell_far (p := ⟨gb232, _, none⟩) NB249_232.out _).trans (hHeld.1)))))))), ((cell_far (p := ⟨gb232, _, none⟩) NB249_232.out _).trans (((cell_far (p := ⟨gb232, _, none⟩) NB249_232.out _).trans (((cell_far (p := ⟨gb232, _, none⟩) NB249_232.out _).trans (((cell_far (p := ⟨gb232, _, none⟩) NB249_232.out _).trans (hHeld.2.1)))))))), ((cell_far (p := ⟨gb232, _, none⟩) NB249_232.out _).trans (((cell_far (p := ⟨gb232, _, none⟩) NB249_232.out _).trans (((cell_far (p := ⟨gb232, _, none⟩) NB249_232.out _).trans (((cell_far (p := ⟨gb232, _, none⟩) NB249_232.out _).trans (hHeld.2.2.1)))))))), ((cell_far (p := ⟨gb232, _, none⟩) NB249_232.out _).trans (((cell_far (p := ⟨gb232, _, none⟩) NB249_232.out _).trans (((cell_far (p := ⟨gb232, _, none⟩) NB249_232.out _).trans (((cell_far (p := ⟨gb232, _, none⟩) NB249_232.out _).trans (hHeld.2.2.2.1)))))))), ((cell_far (p := ⟨gb232, _, none⟩) NB249_232.out _).trans (((cell_far (p := ⟨gb232, _, none⟩) NB249_232.out _).trans (((cell_far (p := ⟨gb232, _, none⟩) NB249_232.out _).trans (((cell_far (p := ⟨gb232, _, none⟩) NB249_232.out _).trans (hHeld.2.2.2.2.1)))))))), ((cell_far (p := ⟨gb232, _, none⟩) NB249_232.out _).trans (((cell_far (p := ⟨gb232, _, none⟩) NB249_232.out _).trans (((cell_far (p := ⟨gb232, _, none⟩) NB249_232.out _).trans (((cell_far (p := ⟨gb232, _, none⟩) NB249_232.out _).trans (hHeld.2.2.2.2.2.1)))))))), ((cell_far (p := ⟨gb232, _, none⟩) NB249_232.out _).trans (((cell_far (p := ⟨gb232, _, none⟩) NB249_232.out _).trans (((cell_far (p := ⟨gb232, _, none⟩) NB249_232.out _).trans (((cell_far (p := ⟨gb232, _, none⟩) NB249_232.out _).trans (hHeld.2.2.2.2.2.2))))))))⟩ (fun hHeld => ?_)
                clear hK K
                refine done_ (done_of HT_.out (by kernel_rfl)) ?_
                try go_wp2
                go_roundg k2
                case measure => have := HJ3.out; have := HK2.out; omega
                case rel => exact ⟨(y250), (wrap64 (x22_2 + 1)), (t241), (t242), (t243), (t244), (by first | rfl | (simp; done) | (simp [*]; done)), H', ⟨by have := HJ3.out; have := HK2.out; omega⟩, ⟨by (with_reducible repeat (first | apply Kd.R_alloc | apply Kd.R_drewN | apply Kd.R_drew)); exact Kd.R_mono (Kd.R_far (p := ⟨gb232, 3, none⟩) (Kd.R_far (p := ⟨gb232, 2, none⟩) (Kd.R_far (p := ⟨gb232, 1, none⟩) (Kd.R_far (p := ⟨gb232, 0, none⟩) (Kd.R_types HO252.out BK232.out (by decide)) (fun _ hk => hk.2) (.int .i64 t241)) (fun _ hk => hk.2) (.int .i64 t242)) (fun _ hk => hk.2) (.string t243)) (fun _ hk => hk.2) (.bool t244)) (fun _ hk => trivial)⟩, ⟨by (with_reducible repeat (first | refine blk_drewN ?_ _ | refine blk_drew ?_ | refine blk_alloc ?_ _)); refine blk_put (cs := #[.int .i64 t241, .int .i64 t242, .string t243, .bool x233003_2]) ?_ 3 _ rfl; (with_reducible repeat (first | refine blk_drewN ?_ _ | refine blk_drew ?_ | refine blk_alloc ?_ _)); refine blk_put (cs := #[.int .i64 t241, .int .i64 t242, .string x233002_2, .bool x233003_2]) ?_ 2 _ rfl; (with_reducible repeat (first | refine blk_drewN ?_ _ | refine blk_drew ?_ | refine blk_alloc ?_ _)); refine blk_put (cs := #[.int .i64 t241, .int .i64 x233001_2, .string x233002_2, .bool x233003_2]) ?_ 1 _ rfl; (with_reducible repeat (first | refine blk_drewN ?_ _ | refine blk_drew ?_ | refine blk_alloc ?_ _)); refine blk_put (cs := #[.int .i64 x233000_2, .int .i64 x233001_2, .string x233002_2, .bool x233003_2]) ?_ 0 _ rfl; (with_reducible repeat (first | refine blk_drewN ?_ _ | refine blk_drew ?_ | refine blk_alloc ?_ _)); exact BK232.out⟩, ⟨by repeat (first | (with_reducible first | exact HB.out | apply below_alloc | apply pw_below_drewN | apply below_drew1 | refine below_set ?_ GE232.out | refine below_set ?_ GE249.out) | exact HB.out)⟩⟩
              · rw [if_neg c19] at H
                exact absurd H (by simp)
            · rw [if_neg c16] at H
              have c16b0 : decide (x22_2 < a2) = false := decide_eq_false c16
              clear c16
              simp only [Option.some.injEq, Prod.mk.injEq] at H
              obtain ⟨rfl, rfl⟩ := H
              go_wp2
              go_ret2
              exact ⟨_, by first | rfl | (simp [errW_none, errW_some] <;> rfl) | (simp [*, errW_none, errW_some] <;> rfl), by (with_reducible repeat (first | apply Kd.R_alloc | apply Kd.R_drewN | apply Kd.R_drew)); exact HO_8.out, by repeat (first | (with_reducible first | exact HB.out | apply below_alloc | apply pw_below_drewN | apply below_drew1 | refine below_set ?_ GE232.out) | exact HB.out)⟩

end Go.Proofs.YthmokfnejjiplaaDoor.PFnExactExitsInTurn
