-- Made by wip/tools/xkit.py (a program of this session's) with the kit's printer.
import Derived.Test.YtfhplgiblknfcaaDoorPFnExactPlainBeforex0
import Derived.Test.YtfhplgiblknfcaaDoorPFnExactPlainBeforex1
namespace Go.Proofs.YtfhplgiblknfcaaDoor.PFnExactPlainBefore
open Go.RowKit Go.Proofs.YtfhplgiblknfcaaDoorW.PrintWords Go.Proofs.YtfhplgiblknfcaaDoorW.PrintLast Go.Proofs.YtfhplgiblknfcaaDoorW.PrintMore
attribute [local go_sem] max2_int min2_int max_two min_two max_three min_three max_four min_four   -- for this text's walks alone
set_option linter.unusedVariables false
set_option linter.unusedSimpArgs false

/-! ### spec_enGood: function 29 -/
mutual
def spec_enGood.j0 : Nat → Bool → ByteArray → List (S60) → Int → Int → Int → Option (Bool)
  | 0, _, _, _, _, _, _ => none
  | k + 1, x32, x108000, x108001, x108002, x108003, x108004 => if x32 = true then (some false) else (spec_enGood.l0 k x108001 (x108001.length : Int) 0 x108000 x108001 x108002 x108003 x108004)
def spec_enGood.l0 : Nat → List (S60) → Int → Int → ByteArray → List (S60) → Int → Int → Int → Option (Bool)
  | 0, _, _, _, _, _, _, _, _ => none
  | k + 1, x34, x35, x36, x108000, x108001, x108002, x108003, x108004 => if x36 < x35 then (if 0 ≤ x36 then (if x36 < (x34.length : Int) then ((spec_enFar.f ((rd_T60 x34 x36).f0)).bind fun t114 => (if t114 = true then ((spec_enFar.f ((rd_T60 x34 x36).f1)).bind fun t115 => (if t115 = true then ((spec_l1In.f ((rd_T60 x34 x36).f2) 1 (wrap64 ((x108000.size : Int) - 1))).bind fun t116 => (if t116 = true then (if x36 > 0 then (if 0 ≤ (wrap64 (x36 - 1)) then (if (wrap64 (x36 - 1)) < (x108001.length : Int) then ((spec_enLess.f ((rd_T60 x108001 (wrap64 (x36 - 1))).f0) ((rd_T60 x108001 (wrap64 (x36 - 1))).f1) ((rd_T60 x108001 (wrap64 (x36 - 1))).f2) ((rd_T60 x34 x36).f0) ((rd_T60 x34 x36).f1) ((rd_T60 x34 x36).f2)).bind fun t118 => (if t118 = true then (spec_enGood.l0 k x34 x35 (wrap64 (x36 + 1)) x108000 x108001 x108002 x108003 x108004) else (some false))) else (none)) else (none)) else (spec_enGood.l0 k x34 x35 (wrap64 (x36 + 1)) x108000 x108001 x108002 x108003 x108004)) else (some false))) else (some false))) else (some false))) else (none)) else (none)) else (some true)
end
def spec_enGood.f (k : Nat) (a0_0 : ByteArray) (l0_1 : List (S60)) (a0_2 : Int) (a0_3 : Int) (a0_4 : Int) : Option (Bool) := (spec_woRule.f k a0_0).bind fun t108 => (if t108 = true then (if (l0_1.length : Int) > 300 then (spec_enGood.j0 k true a0_0 l0_1 a0_2 a0_3 a0_4) else ((spec_enFar.f a0_2).bind fun t109 => (if t109 = true then ((spec_enFar.f a0_3).bind fun t110 => (if t110 = true then ((spec_l1In.f a0_4 0 3).bind fun t111 => (spec_enGood.j0 k (!t111) a0_0 l0_1 a0_2 a0_3 a0_4)) else (spec_enGood.j0 k true a0_0 l0_1 a0_2 a0_3 a0_4))) else (spec_enGood.j0 k true a0_0 l0_1 a0_2 a0_3 a0_4)))) else (spec_enGood.j0 k true a0_0 l0_1 a0_2 a0_3 a0_4))
theorem spec_enGood.mono_l : ∀ k, (∀ y0 y1 y2 y3 y4 y5, LeO (spec_enGood.j0 k y0 y1 y2 y3 y4 y5) (spec_enGood.j0 (k + 1) y0 y1 y2 y3 y4 y5)) ∧ (∀ y0 y1 y2 y3 y4 y5 y6 y7, LeO (spec_enGood.l0 k y0 y1 y2 y3 y4 y5 y6 y7) (spec_enGood.l0 (k + 1) y0 y1 y2 y3 y4 y5 y6 y7))
  | 0 => ⟨fun _ _ _ _ _ _ r h => by simp [spec_enGood.j0] at h, fun _ _ _ _ _ _ _ _ r h => by simp [spec_enGood.l0] at h⟩
  | k + 1 => by
    obtain ⟨ih0, ih1⟩ := spec_enGood.mono_l k
    refine ⟨?_, ?_⟩
    · intro y0 y1 y2 y3 y4 y5
      unfold spec_enGood.j0
      repeat' first
      | (with_reducible exact ih0 _ _ _ _ _ _)
      | (with_reducible exact ih1 _ _ _ _ _ _ _ _)
      | (with_reducible exact spec_woRule.mono _ _)
      | (with_reducible exact LeO.refl _)
      | (with_reducible exact LeO.none _)
      | (with_reducible refine LeO.ite ?_ ?_)
      | (with_reducible refine LeO.bind ?_ (fun _ => ?_))
      | exact ih0 _ _ _ _ _ _
      | exact ih1 _ _ _ _ _ _ _ _
      | exact spec_woRule.mono _ _
      | exact LeO.none _
      | refine LeO.ite ?_ ?_
      | refine LeO.bind ?_ (fun _ => ?_)
    · intro y0 y1 y2 y3 y4 y5 y6 y7
      unfold spec_enGood.l0
      repeat' first
      | (with_reducible exact ih0 _ _ _ _ _ _)
      | (with_reducible exact ih1 _ _ _ _ _ _ _ _)
      | (with_reducible exact spec_woRule.mono _ _)
      | (with_reducible exact LeO.refl _)
      | (with_reducible exact LeO.none _)
      | (with_reducible refine LeO.ite ?_ ?_)
      | (with_reducible refine LeO.bind ?_ (fun _ => ?_))
      | exact ih0 _ _ _ _ _ _
      | exact ih1 _ _ _ _ _ _ _ _
      | exact spec_woRule.mono _ _
      | exact LeO.none _
      | refine LeO.ite ?_ ?_
      | refine LeO.bind ?_ (fun _ => ?_)
theorem spec_enGood.mono : ∀ a0 a1 a2 a3 a4 k, LeO (spec_enGood.f k a0 a1 a2 a3 a4) (spec_enGood.f (k + 1) a0 a1 a2 a3 a4) := by
  intro a0 a1 a2 a3 a4 k; obtain ⟨ih0, ih1⟩ := spec_enGood.mono_l k
  unfold spec_enGood.f
  repeat' first
      | (with_reducible exact ih0 _ _ _ _ _ _)
      | (with_reducible exact ih1 _ _ _ _ _ _ _ _)
      | (with_reducible exact spec_woRule.mono _ _)
      | (with_reducible exact LeO.refl _)
      | (with_reducible exact LeO.none _)
      | (with_reducible refine LeO.ite ?_ ?_)
      | (with_reducible refine LeO.bind ?_ (fun _ => ?_))
      | exact ih0 _ _ _ _ _ _
      | exact ih1 _ _ _ _ _ _ _ _
      | exact spec_woRule.mono _ _
      | exact LeO.none _
      | refine LeO.ite ?_ ?_
      | refine LeO.bind ?_ (fun _ => ?_)
def spec_enGood.T6 : Bool × List (List Nat × List Nat) := (true, [([], []), ([0], [0]), ([1], [1]), ([2], [2]), ([3, 2], [3]), ([4], [4]), ([5, 4], [4, 5]), ([6, 4, 4], [4, 6]), ([7, 4], [4, 7]), ([4, 8], [4, 8]), ([9, 7], [9]), ([10], [10]), ([11, 10], [10, 11]), ([10], [10]), ([13, 10], [10, 13]), ([14, 10], [10, 14]), ([15, 10], [10, 15]), ([12, 16, 10, 10], [10, 12, 16]), ([17, 10], [10, 17]), ([10, 18], [10, 18]), ([19, 17], [19]), ([20], [20]), ([21, 20], [20, 21]), ([22, 20, 20], [20, 22]), ([23], [23]), ([24, 23], [23, 24]), ([23], [23]), ([26, 23], [23, 26]), ([25, 27, 23], [23, 25, 27]), ([28, 23], [23, 28]), ([23], [23]), ([29, 30, 23, 23], [23, 29, 30]), ([31, 23], [23, 31]), ([23, 32, 20], [20, 23, 32]), ([20, 33], [20, 33])])
def spec_enGood.B6 : List Nat := [0, 1, 3, 7, 15, 31, 63, 127, 255, 511, 1023, 2047, 4095, 2047, 10239, 26623, 59391, 131071, 262143, 524287, 1048575, 2097151, 4194303, 8388607, 16777215, 33554431, 16777215, 83886079, 268435455, 536870911, 16777215, 2147483647, 4294967295, 8589934591, 17179869183]
theorem spec_enGood.tab6 : rtab .any (opsOf Tryd.f29 6) = spec_enGood.T6 := by kernel_rfl
theorem spec_enGood.bits6 : waitsOk spec_enGood.T6.2 spec_enGood.B6 = true := by kernel_rfl
set_option maxHeartbeats 8000000 in
set_option maxRecDepth 100000 in
theorem spec_enGood.calls (k : Nat) (a0_0 : ByteArray) (A0_1 : Option Addr) (c0_1 : Nat) (l0_1 : List (S60)) (a0_2 : Int) (a0_3 : Int) (a0_4 : Int) (r : Bool) (w : World) (hr0_1 : Kd.C k60 w A0_1 l0_1.length l0_1) (hc0_1 : l0_1.length ≤ c0_1) (h : spec_enGood.f k a0_0 l0_1 a0_2 a0_3 a0_4 = some r) :
  Calls Tryd.prog 29 #[.agg #[.string a0_0, .slice A0_1 l0_1.length c0_1, .int .i64 a0_2, .int .i64 a0_3, .int .i64 a0_4]] w fun e w' => e = .returned (.bool r) ∧ Below w.heap.size w w' := by
 have hu28 := Tryd.underlying28
 have hu60 := Tryd.underlying60
 have HR0_1 := Aside0.mk hr0_1
 have HC0_1 := Aside0.mk hc0_1
 clear hr0_1 hc0_1
 have HB := Aside0.mk (Below.refl w.heap.size w)
 have H : ((spec_woRule.f k a0_0).bind fun t108 => (if t108 = true then (if (l0_1.length : Int) > 300 then (spec_enGood.j0 k true a0_0 l0_1 a0_2 a0_3 a0_4) else ((spec_enFar.f a0_2).bind fun t109 => (if t109 = true then ((spec_enFar.f a0_3).bind fun t110 => (if t110 = true then ((spec_l1In.f a0_4 0 3).bind fun t111 => (spec_enGood.j0 k (!t111) a0_0 l0_1 a0_2 a0_3 a0_4)) else (spec_enGood.j0 k true a0_0 l0_1 a0_2 a0_3 a0_4))) else (spec_enGood.j0 k true a0_0 l0_1 a0_2 a0_3 a0_4)))) else (spec_enGood.j0 k true a0_0 l0_1 a0_2 a0_3 a0_4))) = some r := h
 clear h
 have HC2 := Aside0.mk H
 clear H
 go_enter Tryd.func29, Tryd.ntmps29
 go_upto_region 1 with (first | ((with_reducible refine gate_dst (N := 1) rfl ?_); (try (refine gate_guard (by rfl) ?_; dsimp only)); refine box_event ?hg (N := 1) ?hd (cs := #[.string a0_0, .slice A0_1 l0_1.length c0_1, .int .i64 a0_2, .int .i64 a0_3, .int .i64 a0_4]) (t := 28) ?hr ?_; (case hd => rfl); (case hg => rfl); (case hr => first | (go_simp; done) | (go_simp; rfl)); intro gb107 hg w3 hbox hb; have BK107 := Aside0.mk (hbox); have GW107 := XSq.gw hg (XSq.bB HB); have GE107 := XSq.gw hg (XSq.bB HB); replace HB := Aside0.mk (below_step (XSq.bB HB) hb); clear hb hbox hg))
 (try simp only [Act.put, List.setIfInBounds_toArray, List.set_cons_zero, List.set_cons_succ])
 go_cut [32] (fun v32 wc => ∃ (kq : Nat) (x32_1 : Bool), v32 = .bool x32_1 ∧ Aside0 (spec_enGood.j0 kq x32_1 a0_0 l0_1 a0_2 a0_3 a0_4 = some r) ∧ Aside0 (kq ≤ k) ∧ Aside0 (wc.heap[gb107]? = some (.cells #[.string a0_0, (.slice A0_1 l0_1.length c0_1), .int .i64 a0_2, .int .i64 a0_3, .int .i64 a0_4] 28 (0, 0))) ∧ Aside0 (Below w.heap.size w wc))
 case first =>
  have H := HC2.out; clear HC2; replace H := Option.bind_eq_some_iff.mp H; obtain ⟨t108, A40, H⟩ := H; replace H : (if t108 = true then (if (l0_1.length : Int) > 300 then (spec_enGood.j0 k true a0_0 l0_1 a0_2 a0_3 a0_4) else ((spec_enFar.f a0_2).bind fun t109 => (if t109 = true then ((spec_enFar.f a0_3).bind fun t110 => (if t110 = true then ((spec_l1In.f a0_4 0 3).bind fun t111 => (spec_enGood.j0 k (!t111) a0_0 l0_1 a0_2 a0_3 a0_4)) else (spec_enGood.j0 k true a0_0 l0_1 a0_2 a0_3 a0_4))) else (spec_enGood.j0 k true a0_0 l0_1 a0_2 a0_3 a0_4)))) else (spec_enGood.j0 k true a0_0 l0_1 a0_2 a0_3 a0_4)) = some r := H; have A4 := Aside0.mk A40; clear A40
  by_cases c5 : t108 = true
  ·
   subst c5
   have H1 : (if (l0_1.length : Int) > 300 then (spec_enGood.j0 k true a0_0 l0_1 a0_2 a0_3 a0_4) else ((spec_enFar.f a0_2).bind fun t109 => (if t109 = true then ((spec_enFar.f a0_3).bind fun t110 => (if t110 = true then ((spec_l1In.f a0_4 0 3).bind fun t111 => (spec_enGood.j0 k (!t111) a0_0 l0_1 a0_2 a0_3 a0_4)) else (spec_enGood.j0 k true a0_0 l0_1 a0_2 a0_3 a0_4))) else (spec_enGood.j0 k true a0_0 l0_1 a0_2 a0_3 a0_4)))) = some r := by rw [if_pos rfl] at H; exact H
   clear H; have H := H1; clear H1
   by_cases c6 : (l0_1.length : Int) > 300
   ·
    rw [if_pos c6] at H
    have c6b0 : decide (300 < (l0_1.length : Int)) = true := decide_eq_true c6; have c6b1 : decide (300 < l0_1.length) = true := decide_eq_true (by omega); clear c6
    (first | rw [c6b0] | (simp only [i64_w, i32_w]; rw [c6b0]) | skip)
    have H' := Aside0.mk H; clear H; have hcz7_0 := XSq.ck BK107 0; have hcz7_1 := XSq.ck BK107 1; have hcz7_2 := XSq.ck BK107 2; have hcz7_3 := XSq.ck BK107 3; have hcz7_4 := XSq.ck BK107 4; have hfz7_0 := blk_frozen BK107.out 0; have hfz7_1 := blk_frozen BK107.out 1; have hfz7_2 := blk_frozen BK107.out 2; have hfz7_3 := blk_frozen BK107.out 3; have hfz7_4 := blk_frozen BK107.out 4
    go_wp2_with (first | ((with_reducible refine gate_callee (f := 48) rfl ?_); refine goesL_ (some 7) rfl rfl Tryd.func48 (by kernel_rfl) rfl #[.string a0_0] rfl (by (try simp only [List.map_toArray, List.map_cons, List.map_nil]); first | done | rfl | (simp only [List.length_drop, List.length_take]; rfl)) ?_; (with_reducible refine (spec_woRule.calls k a0_0 true _ A4.out).mono ?_); rintro e w' ⟨rfl, ⟨nd, rfl⟩⟩; refine ⟨_, rfl, ?_⟩))
    go_meet
    case rel => exact ⟨_, (true), (by first | rfl | (simp; done) | (simp [*]; done)), H', ⟨by first | omega | exact Nat.le_refl _⟩, ⟨by (with_reducible repeat (first | refine blk_drewN ?_ _ | refine blk_drew ?_ | refine blk_alloc ?_ _)); exact BK107.out⟩, ⟨by repeat (first | (with_reducible first | exact HB.out | apply below_alloc | apply pw_below_drewN | apply below_drew1 | refine below_set ?_ GE107.out) | exact HB.out)⟩⟩
   ·
    rw [if_neg c6] at H
    have c6b0 : decide (300 < (l0_1.length : Int)) = false := decide_eq_false c6; have c6b1 : decide (300 < l0_1.length) = false := decide_eq_false (by omega); clear c6
    (first | rw [c6b0] | (simp only [i64_w, i32_w]; rw [c6b0]) | skip)
    replace H := Option.bind_eq_some_iff.mp H; obtain ⟨t109, A80, H⟩ := H; replace H : (if t109 = true then ((spec_enFar.f a0_3).bind fun t110 => (if t110 = true then ((spec_l1In.f a0_4 0 3).bind fun t111 => (spec_enGood.j0 k (!t111) a0_0 l0_1 a0_2 a0_3 a0_4)) else (spec_enGood.j0 k true a0_0 l0_1 a0_2 a0_3 a0_4))) else (spec_enGood.j0 k true a0_0 l0_1 a0_2 a0_3 a0_4)) = some r := H; have A8 := Aside0.mk A80; clear A80
    by_cases c9 : t109 = true
    ·
     subst c9
     have H1 : ((spec_enFar.f a0_3).bind fun t110 => (if t110 = true then ((spec_l1In.f a0_4 0 3).bind fun t111 => (spec_enGood.j0 k (!t111) a0_0 l0_1 a0_2 a0_3 a0_4)) else (spec_enGood.j0 k true a0_0 l0_1 a0_2 a0_3 a0_4))) = some r := by rw [if_pos rfl] at H; exact H
     clear H; have H := H1; clear H1; replace H := Option.bind_eq_some_iff.mp H; obtain ⟨t110, A100, H⟩ := H; replace H : (if t110 = true then ((spec_l1In.f a0_4 0 3).bind fun t111 => (spec_enGood.j0 k (!t111) a0_0 l0_1 a0_2 a0_3 a0_4)) else (spec_enGood.j0 k true a0_0 l0_1 a0_2 a0_3 a0_4)) = some r := H; have A10 := Aside0.mk A100; clear A100
     by_cases c11 : t110 = true
     ·
      subst c11
      have H1 : ((spec_l1In.f a0_4 0 3).bind fun t111 => (spec_enGood.j0 k (!t111) a0_0 l0_1 a0_2 a0_3 a0_4)) = some r := by rw [if_pos rfl] at H; exact H
      clear H; have H := H1; clear H1; replace H := Option.bind_eq_some_iff.mp H; obtain ⟨t111, A120, H⟩ := H; replace H : (spec_enGood.j0 k (!t111) a0_0 l0_1 a0_2 a0_3 a0_4) = some r := H; have A12 := Aside0.mk A120; clear A120; have H' := Aside0.mk H; clear H; have hcz13_0 := XSq.ck BK107 0; have hcz13_1 := XSq.ck BK107 1; have hcz13_2 := XSq.ck BK107 2; have hcz13_3 := XSq.ck BK107 3; have hcz13_4 := XSq.ck BK107 4; have hfz13_0 := blk_frozen BK107.out 0; have hfz13_1 := blk_frozen BK107.out 1; have hfz13_2 := blk_frozen BK107.out 2; have hfz13_3 := blk_frozen BK107.out 3; have hfz13_4 := blk_frozen BK107.out 4
      go_wp2_with (first | ((with_reducible refine gate_callee (f := 48) rfl ?_); refine goesL_ (some 7) rfl rfl Tryd.func48 (by kernel_rfl) rfl #[.string a0_0] rfl (by (try simp only [List.map_toArray, List.map_cons, List.map_nil]); first | done | rfl | (simp only [List.length_drop, List.length_take]; rfl)) ?_; (with_reducible refine (spec_woRule.calls k a0_0 true _ A4.out).mono ?_); rintro e w' ⟨rfl, ⟨nd, rfl⟩⟩; refine ⟨_, rfl, ?_⟩) | (go_at_call 46; (with_reducible refine (spec_enFar.calls a0_2 true _ A8.out).mono ?_); rintro e w' ⟨rfl, ⟨nd, rfl⟩⟩) | (go_at_call 46; (with_reducible refine (spec_enFar.calls a0_3 true _ A10.out).mono ?_); rintro e w' ⟨rfl, ⟨nd, rfl⟩⟩) | (go_at_call 27; (with_reducible refine (spec_l1In.calls a0_4 0 3 t111 _ A12.out).mono ?_); rintro e w' ⟨rfl, ⟨nd, rfl⟩⟩))
      go_meet
      case rel => exact ⟨_, (!t111), (by first | rfl | (simp; done) | (simp [*]; done)), H', ⟨by first | omega | exact Nat.le_refl _⟩, ⟨by (with_reducible repeat (first | refine blk_drewN ?_ _ | refine blk_drew ?_ | refine blk_alloc ?_ _)); exact BK107.out⟩, ⟨by repeat (first | (with_reducible first | exact HB.out | apply below_alloc | apply pw_below_drewN | apply below_drew1 | refine below_set ?_ GE107.out) | exact HB.out)⟩⟩
     ·
      replace c11 := Bool.eq_false_iff.mpr c11; subst c11
      have H1 : (spec_enGood.j0 k true a0_0 l0_1 a0_2 a0_3 a0_4) = some r := by rw [if_neg (show ¬ (false = true) by decide)] at H; exact H
      clear H; have H := H1; clear H1; have H' := Aside0.mk H; clear H; have hcz14_0 := XSq.ck BK107 0; have hcz14_1 := XSq.ck BK107 1; have hcz14_2 := XSq.ck BK107 2; have hcz14_3 := XSq.ck BK107 3; have hcz14_4 := XSq.ck BK107 4; have hfz14_0 := blk_frozen BK107.out 0; have hfz14_1 := blk_frozen BK107.out 1; have hfz14_2 := blk_frozen BK107.out 2; have hfz14_3 := blk_frozen BK107.out 3; have hfz14_4 := blk_frozen BK107.out 4
      go_wp2_with (first | ((with_reducible refine gate_callee (f := 48) rfl ?_); refine goesL_ (some 7) rfl rfl Tryd.func48 (by kernel_rfl) rfl #[.string a0_0] rfl (by (try simp only [List.map_toArray, List.map_cons, List.map_nil]); first | done | rfl | (simp only [List.length_drop, List.length_take]; rfl)) ?_; (with_reducible refine (spec_woRule.calls k a0_0 true _ A4.out).mono ?_); rintro e w' ⟨rfl, ⟨nd, rfl⟩⟩; refine ⟨_, rfl, ?_⟩) | (go_at_call 46; (with_reducible refine (spec_enFar.calls a0_2 true _ A8.out).mono ?_); rintro e w' ⟨rfl, ⟨nd, rfl⟩⟩) | (go_at_call 46; (with_reducible refine (spec_enFar.calls a0_3 false _ A10.out).mono ?_); rintro e w' ⟨rfl, ⟨nd, rfl⟩⟩))
      go_meet
      case rel => exact ⟨_, (true), (by first | rfl | (simp; done) | (simp [*]; done)), H', ⟨by first | omega | exact Nat.le_refl _⟩, ⟨by (with_reducible repeat (first | refine blk_drewN ?_ _ | refine blk_drew ?_ | refine blk_alloc ?_ _)); exact BK107.out⟩, ⟨by repeat (first | (with_reducible first | exact HB.out | apply below_alloc | apply pw_below_drewN | apply below_drew1 | refine below_set ?_ GE107.out) | exact HB.out)⟩⟩
    ·
     replace c9 := Bool.eq_false_iff.mpr c9; subst c9
     have H1 : (spec_enGood.j0 k true a0_0 l0_1 a0_2 a0_3 a0_4) = some r := by rw [if_neg (show ¬ (false = true) by decide)] at H; exact H
     clear H; have H := H1; clear H1; have H' := Aside0.mk H; clear H; have hcz15_0 := XSq.ck BK107 0; have hcz15_1 := XSq.ck BK107 1; have hcz15_2 := XSq.ck BK107 2; have hcz15_3 := XSq.ck BK107 3; have hcz15_4 := XSq.ck BK107 4; have hfz15_0 := blk_frozen BK107.out 0; have hfz15_1 := blk_frozen BK107.out 1; have hfz15_2 := blk_frozen BK107.out 2; have hfz15_3 := blk_frozen BK107.out 3; have hfz15_4 := blk_frozen BK107.out 4
     go_wp2_with (first | ((with_reducible refine gate_callee (f := 48) rfl ?_); refine goesL_ (some 7) rfl rfl Tryd.func48 (by kernel_rfl) rfl #[.string a0_0] rfl (by (try simp only [List.map_toArray, List.map_cons, List.map_nil]); first | done | rfl | (simp only [List.length_drop, List.length_take]; rfl)) ?_; (with_reducible refine (spec_woRule.calls k a0_0 true _ A4.out).mono ?_); rintro e w' ⟨rfl, ⟨nd, rfl⟩⟩; refine ⟨_, rfl, ?_⟩) | (go_at_call 46; (with_reducible refine (spec_enFar.calls a0_2 false _ A8.out).mono ?_); rintro e w' ⟨rfl, ⟨nd, rfl⟩⟩))
     go_meet
     case rel => exact ⟨_, (true), (by first | rfl | (simp; done) | (simp [*]; done)), H', ⟨by first | omega | exact Nat.le_refl _⟩, ⟨by (with_reducible repeat (first | refine blk_drewN ?_ _ | refine blk_drew ?_ | refine blk_alloc ?_ _)); exact BK107.out⟩, ⟨by repeat (first | (with_reducible first | exact HB.out | apply below_alloc | apply pw_below_drewN | apply below_drew1 | refine below_set ?_ GE107.out) | exact HB.out)⟩⟩
  ·
   replace c5 := Bool.eq_false_iff.mpr c5; subst c5
   have H1 : (spec_enGood.j0 k true a0_0 l0_1 a0_2 a0_3 a0_4) = some r := by rw [if_neg (show ¬ (false = true) by decide)] at H; exact H
   clear H; have H := H1; clear H1; have H' := Aside0.mk H; clear H; have hcz16_0 := XSq.ck BK107 0; have hcz16_1 := XSq.ck BK107 1; have hcz16_2 := XSq.ck BK107 2; have hcz16_3 := XSq.ck BK107 3; have hcz16_4 := XSq.ck BK107 4; have hfz16_0 := blk_frozen BK107.out 0; have hfz16_1 := blk_frozen BK107.out 1; have hfz16_2 := blk_frozen BK107.out 2; have hfz16_3 := blk_frozen BK107.out 3; have hfz16_4 := blk_frozen BK107.out 4
   go_wp2_with (first | ((with_reducible refine gate_callee (f := 48) rfl ?_); refine goesL_ (some 7) rfl rfl Tryd.func48 (by kernel_rfl) rfl #[.string a0_0] rfl (by (try simp only [List.map_toArray, List.map_cons, List.map_nil]); first | done | rfl | (simp only [List.length_drop, List.length_take]; rfl)) ?_; (with_reducible refine (spec_woRule.calls k a0_0 false _ A4.out).mono ?_); rintro e w' ⟨rfl, ⟨nd, rfl⟩⟩; refine ⟨_, rfl, ?_⟩))
   go_meet
   case rel => exact ⟨_, (true), (by first | rfl | (simp; done) | (simp [*]; done)), H', ⟨by first | omega | exact Nat.le_refl _⟩, ⟨by (with_reducible repeat (first | refine blk_drewN ?_ _ | refine blk_drew ?_ | refine blk_alloc ?_ _)); exact BK107.out⟩, ⟨by repeat (first | (with_reducible first | exact HB.out | apply below_alloc | apply pw_below_drewN | apply below_drew1 | refine below_set ?_ GE107.out) | exact HB.out)⟩⟩
 case rest =>
  clear HC2
  obtain ⟨kq, x32_1, rfl, HA, HJ1, BK107, HB⟩ := hcut; cases kq with
  | zero => exact absurd HA.out (by simp [spec_enGood.j0])
  | succ kj1 =>
   have H := HA.out; clear HA
   simp only [spec_enGood.j0] at H
   by_cases c17 : x32_1 = true
   ·
    subst c17
    have H1 : (some false) = some r := by rw [if_pos rfl] at H; exact H
    clear H; have H := H1; clear H1; obtain rfl := Option.some.inj H
    go_wp2
    go_ret
    exact ⟨by first | rfl | (simp [errW_none, errW_some] <;> rfl) | (simp [*, errW_none, errW_some] <;> rfl), by repeat (first | (with_reducible first | exact HB.out | apply below_alloc | apply pw_below_drewN | apply below_drew1 | refine below_set ?_ GE107.out) | exact HB.out)⟩
   ·
    replace c17 := Bool.eq_false_iff.mpr c17; subst c17
    have H1 : (spec_enGood.l0 kj1 l0_1 (l0_1.length : Int) 0 a0_0 l0_1 a0_2 a0_3 a0_4) = some r := by rw [if_neg (show ¬ (false = true) by decide)] at H; exact H
    clear H; have H := H1; clear H1; have H' := Aside0.mk H; clear H; have hcz18_0 := XSq.ck BK107 0; have hcz18_1 := XSq.ck BK107 1; have hcz18_2 := XSq.ck BK107 2; have hcz18_3 := XSq.ck BK107 3; have hcz18_4 := XSq.ck BK107 4; have hfz18_0 := blk_frozen BK107.out 0; have hfz18_1 := blk_frozen BK107.out 1; have hfz18_2 := blk_frozen BK107.out 2; have hfz18_3 := blk_frozen BK107.out 3; have hfz18_4 := blk_frozen BK107.out 4
    go_wp2
    go_loopg [36] kj1 (fun kq v36 w' => ∃ (x36_2 : Int), v36 = .int .i64 x36_2 ∧ Aside0 (spec_enGood.l0 kq l0_1 (l0_1.length : Int) x36_2 a0_0 l0_1 a0_2 a0_3 a0_4 = some r) ∧ Aside0 (kq ≤ kj1) ∧ Aside0 (w'.heap[gb107]? = some (.cells #[.string a0_0, (.slice A0_1 l0_1.length c0_1), .int .i64 a0_2, .int .i64 a0_3, .int .i64 a0_4] 28 (0, 0))) ∧ Aside0 (Below w.heap.size w w'))
    case atStart => exact ⟨(0), (by first | rfl | (simp; done) | (simp [*]; done)), H', ⟨Nat.le_refl _⟩, ⟨by (with_reducible repeat (first | refine blk_drewN ?_ _ | refine blk_drew ?_ | refine blk_alloc ?_ _)); exact BK107.out⟩, ⟨by repeat (first | (with_reducible first | exact HB.out | apply below_alloc | apply pw_below_drewN | apply below_drew1 | refine below_set ?_ GE107.out) | exact HB.out)⟩⟩
    case round =>
     clear H'
     obtain ⟨x36_2, rfl, HA, HK2, BK107, HB⟩ := hrel; cases gk with
     | zero => exact absurd HA.out (by simp [spec_enGood.l0])
     | succ k2 =>
      have H := HA.out; clear HA
      simp only [spec_enGood.l0] at H
      by_cases c19 : x36_2 < (l0_1.length : Int)
      ·
       rw [if_pos c19] at H
       have c19b0 : decide (x36_2 < (l0_1.length : Int)) = true := decide_eq_true c19; clear c19
       by_cases c20 : 0 ≤ x36_2
       ·
        rw [if_pos c20] at H
        have c20b0 : decide (0 ≤ x36_2) = true := decide_eq_true c20; clear c20
        by_cases c21 : x36_2 < (l0_1.length : Int)
        ·
         rw [if_pos c21] at H
         have c21b0 : decide (x36_2 < (l0_1.length : Int)) = true := decide_eq_true c21; clear c21; replace H := Option.bind_eq_some_iff.mp H; obtain ⟨t114, A220, H⟩ := H; replace H : (if t114 = true then ((spec_enFar.f ((rd_T60 l0_1 x36_2).f1)).bind fun t115 => (if t115 = true then ((spec_l1In.f ((rd_T60 l0_1 x36_2).f2) 1 (wrap64 ((a0_0.size : Int) - 1))).bind fun t116 => (if t116 = true then (if x36_2 > 0 then (if 0 ≤ (wrap64 (x36_2 - 1)) then (if (wrap64 (x36_2 - 1)) < (l0_1.length : Int) then ((spec_enLess.f ((rd_T60 l0_1 (wrap64 (x36_2 - 1))).f0) ((rd_T60 l0_1 (wrap64 (x36_2 - 1))).f1) ((rd_T60 l0_1 (wrap64 (x36_2 - 1))).f2) ((rd_T60 l0_1 x36_2).f0) ((rd_T60 l0_1 x36_2).f1) ((rd_T60 l0_1 x36_2).f2)).bind fun t118 => (if t118 = true then (spec_enGood.l0 k2 l0_1 (l0_1.length : Int) (wrap64 (x36_2 + 1)) a0_0 l0_1 a0_2 a0_3 a0_4) else (some false))) else (none)) else (none)) else (spec_enGood.l0 k2 l0_1 (l0_1.length : Int) (wrap64 (x36_2 + 1)) a0_0 l0_1 a0_2 a0_3 a0_4)) else (some false))) else (some false))) else (some false)) = some r := H; have A22 := Aside0.mk A220; clear A220
         by_cases c23 : t114 = true
         ·
          subst c23
          have H1 : ((spec_enFar.f ((rd_T60 l0_1 x36_2).f1)).bind fun t115 => (if t115 = true then ((spec_l1In.f ((rd_T60 l0_1 x36_2).f2) 1 (wrap64 ((a0_0.size : Int) - 1))).bind fun t116 => (if t116 = true then (if x36_2 > 0 then (if 0 ≤ (wrap64 (x36_2 - 1)) then (if (wrap64 (x36_2 - 1)) < (l0_1.length : Int) then ((spec_enLess.f ((rd_T60 l0_1 (wrap64 (x36_2 - 1))).f0) ((rd_T60 l0_1 (wrap64 (x36_2 - 1))).f1) ((rd_T60 l0_1 (wrap64 (x36_2 - 1))).f2) ((rd_T60 l0_1 x36_2).f0) ((rd_T60 l0_1 x36_2).f1) ((rd_T60 l0_1 x36_2).f2)).bind fun t118 => (if t118 = true then (spec_enGood.l0 k2 l0_1 (l0_1.length : Int) (wrap64 (x36_2 + 1)) a0_0 l0_1 a0_2 a0_3 a0_4) else (some false))) else (none)) else (none)) else (spec_enGood.l0 k2 l0_1 (l0_1.length : Int) (wrap64 (x36_2 + 1)) a0_0 l0_1 a0_2 a0_3 a0_4)) else (some false))) else (some false))) = some r := by rw [if_pos rfl] at H; exact H
          clear H; have H := H1; clear H1; replace H := Option.bind_eq_some_iff.mp H; obtain ⟨t115, A240, H⟩ := H; replace H : (if t115 = true then ((spec_l1In.f ((rd_T60 l0_1 x36_2).f2) 1 (wrap64 ((a0_0.size : Int) - 1))).bind fun t116 => (if t116 = true then (if x36_2 > 0 then (if 0 ≤ (wrap64 (x36_2 - 1)) then (if (wrap64 (x36_2 - 1)) < (l0_1.length : Int) then ((spec_enLess.f ((rd_T60 l0_1 (wrap64 (x36_2 - 1))).f0) ((rd_T60 l0_1 (wrap64 (x36_2 - 1))).f1) ((rd_T60 l0_1 (wrap64 (x36_2 - 1))).f2) ((rd_T60 l0_1 x36_2).f0) ((rd_T60 l0_1 x36_2).f1) ((rd_T60 l0_1 x36_2).f2)).bind fun t118 => (if t118 = true then (spec_enGood.l0 k2 l0_1 (l0_1.length : Int) (wrap64 (x36_2 + 1)) a0_0 l0_1 a0_2 a0_3 a0_4) else (some false))) else (none)) else (none)) else (spec_enGood.l0 k2 l0_1 (l0_1.length : Int) (wrap64 (x36_2 + 1)) a0_0 l0_1 a0_2 a0_3 a0_4)) else (some false))) else (some false)) = some r := H; have A24 := Aside0.mk A240; clear A240
          by_cases c25 : t115 = true
          ·
           subst c25
           have H1 : ((spec_l1In.f ((rd_T60 l0_1 x36_2).f2) 1 (wrap64 ((a0_0.size : Int) - 1))).bind fun t116 => (if t116 = true then (if x36_2 > 0 then (if 0 ≤ (wrap64 (x36_2 - 1)) then (if (wrap64 (x36_2 - 1)) < (l0_1.length : Int) then ((spec_enLess.f ((rd_T60 l0_1 (wrap64 (x36_2 - 1))).f0) ((rd_T60 l0_1 (wrap64 (x36_2 - 1))).f1) ((rd_T60 l0_1 (wrap64 (x36_2 - 1))).f2) ((rd_T60 l0_1 x36_2).f0) ((rd_T60 l0_1 x36_2).f1) ((rd_T60 l0_1 x36_2).f2)).bind fun t118 => (if t118 = true then (spec_enGood.l0 k2 l0_1 (l0_1.length : Int) (wrap64 (x36_2 + 1)) a0_0 l0_1 a0_2 a0_3 a0_4) else (some false))) else (none)) else (none)) else (spec_enGood.l0 k2 l0_1 (l0_1.length : Int) (wrap64 (x36_2 + 1)) a0_0 l0_1 a0_2 a0_3 a0_4)) else (some false))) = some r := by rw [if_pos rfl] at H; exact H
           clear H; have H := H1; clear H1; replace H := Option.bind_eq_some_iff.mp H; obtain ⟨t116, A260, H⟩ := H; replace H : (if t116 = true then (if x36_2 > 0 then (if 0 ≤ (wrap64 (x36_2 - 1)) then (if (wrap64 (x36_2 - 1)) < (l0_1.length : Int) then ((spec_enLess.f ((rd_T60 l0_1 (wrap64 (x36_2 - 1))).f0) ((rd_T60 l0_1 (wrap64 (x36_2 - 1))).f1) ((rd_T60 l0_1 (wrap64 (x36_2 - 1))).f2) ((rd_T60 l0_1 x36_2).f0) ((rd_T60 l0_1 x36_2).f1) ((rd_T60 l0_1 x36_2).f2)).bind fun t118 => (if t118 = true then (spec_enGood.l0 k2 l0_1 (l0_1.length : Int) (wrap64 (x36_2 + 1)) a0_0 l0_1 a0_2 a0_3 a0_4) else (some false))) else (none)) else (none)) else (spec_enGood.l0 k2 l0_1 (l0_1.length : Int) (wrap64 (x36_2 + 1)) a0_0 l0_1 a0_2 a0_3 a0_4)) else (some false)) = some r := H; have A26 := Aside0.mk A260; clear A260
           by_cases c27 : t116 = true
           ·
            subst c27
            have H1 : (if x36_2 > 0 then (if 0 ≤ (wrap64 (x36_2 - 1)) then (if (wrap64 (x36_2 - 1)) < (l0_1.length : Int) then ((spec_enLess.f ((rd_T60 l0_1 (wrap64 (x36_2 - 1))).f0) ((rd_T60 l0_1 (wrap64 (x36_2 - 1))).f1) ((rd_T60 l0_1 (wrap64 (x36_2 - 1))).f2) ((rd_T60 l0_1 x36_2).f0) ((rd_T60 l0_1 x36_2).f1) ((rd_T60 l0_1 x36_2).f2)).bind fun t118 => (if t118 = true then (spec_enGood.l0 k2 l0_1 (l0_1.length : Int) (wrap64 (x36_2 + 1)) a0_0 l0_1 a0_2 a0_3 a0_4) else (some false))) else (none)) else (none)) else (spec_enGood.l0 k2 l0_1 (l0_1.length : Int) (wrap64 (x36_2 + 1)) a0_0 l0_1 a0_2 a0_3 a0_4)) = some r := by rw [if_pos rfl] at H; exact H
            clear H; have H := H1; clear H1
            by_cases c28 : x36_2 > 0
            ·
             rw [if_pos c28] at H
             have c28b0 : decide (0 < x36_2) = true := decide_eq_true c28; clear c28; obtain ⟨ji29, hji29⟩ : ∃ j_ : Int, (wrap64 (x36_2 - 1)) = j_ := ⟨_, rfl⟩
             replace H : (if 0 ≤ (ji29) then (if (ji29) < (l0_1.length : Int) then ((spec_enLess.f ((rd_T60 l0_1 (ji29)).f0) ((rd_T60 l0_1 (ji29)).f1) ((rd_T60 l0_1 (ji29)).f2) ((rd_T60 l0_1 x36_2).f0) ((rd_T60 l0_1 x36_2).f1) ((rd_T60 l0_1 x36_2).f2)).bind fun t118 => (if t118 = true then (spec_enGood.l0 k2 l0_1 (l0_1.length : Int) (wrap64 (x36_2 + 1)) a0_0 l0_1 a0_2 a0_3 a0_4) else (some false))) else (none)) else (none)) = some r := by first | (rw [hji29] at H; exact H) | (simp only [hji29] at H ⊢; exact H)
             (try rw [hji29] at A22)
             (try rw [hji29] at A24)
             (try rw [hji29] at A26)
             have hji29w : (IntKind.i64.wrap (x36_2 - 1)) = ji29 := (i64_w _).trans hji29
             by_cases c30 : 0 ≤ (ji29)
             ·
              rw [if_pos c30] at H
              have c30b0 : decide (0 ≤ (ji29)) = true := decide_eq_true c30; clear c30
              by_cases c31 : (ji29) < (l0_1.length : Int)
              ·
               rw [if_pos c31] at H
               have c31b0 : decide ((ji29) < (l0_1.length : Int)) = true := decide_eq_true c31; clear c31; replace H := Option.bind_eq_some_iff.mp H; obtain ⟨t118, A320, H⟩ := H; replace H : (if t118 = true then (spec_enGood.l0 k2 l0_1 (l0_1.length : Int) (wrap64 (x36_2 + 1)) a0_0 l0_1 a0_2 a0_3 a0_4) else (some false)) = some r := H; have A32 := Aside0.mk A320; clear A320
               by_cases c33 : t118 = true
               ·
                subst c33
                have H1 : (spec_enGood.l0 k2 l0_1 (l0_1.length : Int) (wrap64 (x36_2 + 1)) a0_0 l0_1 a0_2 a0_3 a0_4) = some r := by rw [if_pos rfl] at H; exact H
                clear H; have H := H1; clear H1; have H' := Aside0.mk H; clear H; have p112 : 0 ≤ (x36_2 : Int) := of_decide_eq_true (by first | (with_reducible assumption) | assumption); have q112 : x36_2 < (l0_1.length : Int) := of_decide_eq_true (by first | (with_reducible assumption) | assumption); obtain ⟨ad112, e112, hx112_0, hx112_1, hx112_2⟩ := at_T60 HR0_1.out x36_2 p112 q112; cases e112; replace hx112_0 := (HB.out.cell (World.block_lt_of_cell? w _ hx112_0)).trans hx112_0; replace hx112_1 := (HB.out.cell (World.block_lt_of_cell? w _ hx112_1)).trans hx112_1; replace hx112_2 := (HB.out.cell (World.block_lt_of_cell? w _ hx112_2)).trans hx112_2; replace p112 := eq_true p112; replace q112 := eq_true q112
                try go_wp2_with (first | ((with_reducible refine gate_dst (N := 4) rfl ?_); (try (refine gate_guard (by rfl) ?_; dsimp only)); refine box_event ?hg (N := 4) ?hd (cs := #[.int .i64 0, .int .i64 0, .int .i64 0]) (t := 60) ?hr ?_; (case hd => rfl); (case hg => rfl); (case hr => first | (go_simp; done) | (go_simp; rfl)); intro gb113 hg w34 hbox hb; have BK113 := Aside0.mk (hbox); have GW113 := XSq.gw hg (XSq.bB HB); have GE113 := XSq.gw hg (XSq.bB HB); have NB107_113 := XSq.nl hg (XSq.bq BK107); have NB113_107 := XSq.nr hg (XSq.bq BK107); replace BK107 := XSq.bb BK107 hb; replace HB := Aside0.mk (below_step (XSq.bB HB) hb); clear hb hbox hg; have hnb35 := NB113_107.out; have hnc35 := NB107_113.out; have hcz36_0 := XSq.ck BK113 0; have hcz36_1 := XSq.ck BK113 1; have hcz36_2 := XSq.ck BK113 2; have hfz36_0 := blk_frozen BK113.out 0; have hfz36_1 := blk_frozen BK113.out 1; have hfz36_2 := blk_frozen BK113.out 2))
                have n0_ : Aside0 ((((w34.setCell ⟨gb113, 0, none⟩ (.int .i64 ((rd_T60 l0_1 x36_2).f0))).setCell ⟨gb113, 1, none⟩ (.int .i64 ((rd_T60 l0_1 x36_2).f1))).setCell ⟨gb113, 2, none⟩ (.int .i64 ((rd_T60 l0_1 x36_2).f2))).heap[gb107]? = some (.cells #[.string a0_0, .slice (some ad112) l0_1.length c0_1, .int .i64 a0_2, .int .i64 a0_3, .int .i64 a0_4] 28 (0, 0))) := ⟨by (with_reducible repeat (first | refine blk_drewN ?_ _ | refine blk_drew ?_ | refine blk_alloc ?_ _)); refine blk_far ?_ NB107_113.out _; (with_reducible repeat (first | refine blk_drewN ?_ _ | refine blk_drew ?_ | refine blk_alloc ?_ _)); refine blk_far ?_ NB107_113.out _; (with_reducible repeat (first | refine blk_drewN ?_ _ | refine blk_drew ?_ | refine blk_alloc ?_ _)); refine blk_far ?_ NB107_113.out _; (with_reducible repeat (first | refine blk_drewN ?_ _ | refine blk_drew ?_ | refine blk_alloc ?_ _)); exact BK107.out⟩; have n1_ : Aside0 ((((w34.setCell ⟨gb113, 0, none⟩ (.int .i64 ((rd_T60 l0_1 x36_2).f0))).setCell ⟨gb113, 1, none⟩ (.int .i64 ((rd_T60 l0_1 x36_2).f1))).setCell ⟨gb113, 2, none⟩ (.int .i64 ((rd_T60 l0_1 x36_2).f2))).heap[gb113]? = some (.cells #[.int .i64 ((rd_T60 l0_1 x36_2).f0), .int .i64 ((rd_T60 l0_1 x36_2).f1), .int .i64 ((rd_T60 l0_1 x36_2).f2)] 60 (0, 0))) := ⟨by (with_reducible repeat (first | refine blk_drewN ?_ _ | refine blk_drew ?_ | refine blk_alloc ?_ _)); refine blk_put (cs := #[.int .i64 ((rd_T60 l0_1 x36_2).f0), .int .i64 ((rd_T60 l0_1 x36_2).f1), .int .i64 0]) ?_ 2 _ rfl; (with_reducible repeat (first | refine blk_drewN ?_ _ | refine blk_drew ?_ | refine blk_alloc ?_ _)); refine blk_put (cs := #[.int .i64 ((rd_T60 l0_1 x36_2).f0), .int .i64 0, .int .i64 0]) ?_ 1 _ rfl; (with_reducible repeat (first | refine blk_drewN ?_ _ | refine blk_drew ?_ | refine blk_alloc ?_ _)); refine blk_put (cs := #[.int .i64 0, .int .i64 0, .int .i64 0]) ?_ 0 _ rfl; (with_reducible repeat (first | refine blk_drewN ?_ _ | refine blk_drew ?_ | refine blk_alloc ?_ _)); exact BK113.out⟩; have n2_ : Aside0 (Below w.heap.size w (((w34.setCell ⟨gb113, 0, none⟩ (.int .i64 ((rd_T60 l0_1 x36_2).f0))).setCell ⟨gb113, 1, none⟩ (.int .i64 ((rd_T60 l0_1 x36_2).f1))).setCell ⟨gb113, 2, none⟩ (.int .i64 ((rd_T60 l0_1 x36_2).f2)))) := ⟨by repeat (first | (with_reducible first | exact HB.out | apply below_alloc | apply pw_below_drewN | apply below_drew1 | refine below_set ?_ GE107.out | refine below_set ?_ GE113.out) | exact HB.out)⟩
                (try clear BK107)
                (try clear BK113)
                (try clear HB)
                generalize (((w34.setCell ⟨gb113, 0, none⟩ (.int .i64 ((rd_T60 l0_1 x36_2).f0))).setCell ⟨gb113, 1, none⟩ (.int .i64 ((rd_T60 l0_1 x36_2).f1))).setCell ⟨gb113, 2, none⟩ (.int .i64 ((rd_T60 l0_1 x36_2).f2))) = w37 at n0_ n1_ n2_ ⊢
                have BK107 := n0_; have BK113 := n1_; have HB := n2_; clear n0_ n1_ n2_; replace BK107 := Aside0.mk (blk_drew BK107.out); replace BK113 := Aside0.mk (blk_drew BK113.out); replace HB := Aside0.mk (below_drew1 HB.out); have p117 : 0 ≤ ((ji29) : Int) := of_decide_eq_true (by first | (with_reducible assumption) | assumption); have q117 : (ji29) < (l0_1.length : Int) := of_decide_eq_true (by first | (with_reducible assumption) | assumption); obtain ⟨ad117, e117, hx117_0, hx117_1, hx117_2⟩ := at_T60 HR0_1.out (ji29) p117 q117; have hw117_2 := hx117_2; have hw117_1 := hx117_1; have hw117_0 := hx117_0; obtain rfl : ad112 = ad117 := (by injection e117); replace hx117_0 := (HB.out.cell (World.block_lt_of_cell? w _ hx117_0)).trans hx117_0; replace hx117_1 := (HB.out.cell (World.block_lt_of_cell? w _ hx117_1)).trans hx117_1; replace hx117_2 := (HB.out.cell (World.block_lt_of_cell? w _ hx117_2)).trans hx117_2; replace p117 := eq_true p117; replace q117 := eq_true q117
                refine start_ (n := 35) (S := fun w' => w'.cell? ⟨gb113, 0, none⟩ = some (.int .i64 ((rd_T60 l0_1 x36_2).f0)) ∧ w'.cell? ⟨gb113, 1, none⟩ = some (.int .i64 ((rd_T60 l0_1 x36_2).f1)) ∧ w'.cell? ⟨gb113, 2, none⟩ = some (.int .i64 ((rd_T60 l0_1 x36_2).f2)) ∧ w'.cell? ⟨gb107, 0, none⟩ = some (.string a0_0) ∧ w'.cell? ⟨gb107, 1, none⟩ = some (.slice (some ad112) l0_1.length c0_1) ∧ w'.cell? ⟨gb107, 2, none⟩ = some (.int .i64 a0_2) ∧ w'.cell? ⟨gb107, 3, none⟩ = some (.int .i64 a0_3) ∧ w'.cell? ⟨gb107, 4, none⟩ = some (.int .i64 a0_4) ∧ w'.cell? (ad112.add (((ji29)).toNat * 3)) = some (.int .i64 ((rd_T60 l0_1 (ji29)).f0)) ∧ w'.cell? ⟨(ad112.add (((ji29)).toNat * 3)).block, (ad112.add (((ji29)).toNat * 3)).off + 1, none⟩ = some (.int .i64 ((rd_T60 l0_1 (ji29)).f1)) ∧ w'.cell? ⟨(ad112.add (((ji29)).toNat * 3)).block, (ad112.add (((ji29)).toNat * 3)).off + 2, none⟩ = some (.int .i64 ((rd_T60 l0_1 (ji29)).f2))) (ds := []) #[false, false, false, false, false, false, false, false, false, false, false, false, false, false, false, false, false, false, false, false, false, false, false, false, false, false, false, false, false, false, false, false, false, false, false] (by kernel_rfl) rfl rfl ⟨(blk_cell BK113.out 0).trans rfl, (blk_cell BK113.out 1).trans rfl, (blk_cell BK113.out 2).trans rfl, (blk_cell BK107.out 0).trans rfl, (blk_cell BK107.out 1).trans rfl, (blk_cell BK107.out 2).trans rfl, (blk_cell BK107.out 3).trans rfl, (blk_cell BK107.out 4).trans rfl, ((HB.out.cell (World.block_lt_of_cell? w _ hw117_0)).trans hw117_0), ((HB.out.cell (World.block_lt_of_cell? w _ hw117_1)).trans hw117_1), ((HB.out.cell (World.block_lt_of_cell? w _ hw117_2)).trans hw117_2)⟩ (fun hHeld => ?_); refine with_tabW spec_enGood.tab6 spec_enGood.bits6 (fun HT_ HW_ => ?_)
                generalize w37.drew = w38 at BK107 BK113 HB hx117_0 hx117_1 hx117_2 hHeld ⊢
                refine pure_ (i := 0) (N := some 41) (v := ?_) (a' := ?_) (XSq.bA 35 1) rfl rfl (any_of HT_.out (by kernel_rfl)) (fun _ _ _ h => h) (Or.inl ⟨by rfl, ?_⟩) ?_ ?_
                rotate_left
                ·
                 intro w'
                 go_simp
                 with_reducible rfl
                rotate_left
                ·
                 simp only [Act.put, XSq.p1, XSq.p2, XSq.p3, i64_w, i32_w]
                 rfl
                refine take_ (i := 1) (N := some 42) (v := ?_) (a' := ?_) (XSq.bA 35 3) rfl rfl (take_ofW HT_.out HW_.out (by kernel_rfl)) (fun _ _ _ h => h) (Or.inl ⟨by rfl, ?_⟩) hHeld ?_ ?_
                rotate_left
                ·
                 rintro w' ⟨s0, s1, s2, s3, s4, s5, s6, s7, s8, s9, s10⟩
                 go_simp
                 with_reducible rfl
                rotate_left
                ·
                 simp only [Act.put, XSq.p1, XSq.p2, XSq.p3, i64_w, i32_w]
                 rfl
                refine one_ (i := 2) (N := some 43) (XSq.bA 35 7) rfl rfl (one_of HT_.out (by kernel_rfl)) (by decide) (fun K hK => ?_)
                refine goes_ Tryd.func46 (by kernel_rfl) rfl #[.int .i64 ((rd_T60 l0_1 x36_2).f0)] (by rfl) rfl rfl (by (try simp only [List.map_toArray, List.map_cons, List.map_nil]); first | done | rfl | (simp only [List.length_drop, List.length_take]; rfl)) ?_
                with_reducible refine (spec_enFar.calls ((rd_T60 l0_1 x36_2).f0) true _ A22.out).mono ?_
                rintro e w' ⟨rfl, ⟨nd, rfl⟩⟩
                refine ⟨_, rfl, ?_⟩
                refine hK.out _ _ ⟨(blk_cell BK113.out 0).trans rfl, (blk_cell BK113.out 1).trans rfl, (blk_cell BK113.out 2).trans rfl, (blk_cell BK107.out 0).trans rfl, (blk_cell BK107.out 1).trans rfl, (blk_cell BK107.out 2).trans rfl, (blk_cell BK107.out 3).trans rfl, (blk_cell BK107.out 4).trans rfl, ((HB.out.cell (World.block_lt_of_cell? w _ hw117_0)).trans hw117_0), ((HB.out.cell (World.block_lt_of_cell? w _ hw117_1)).trans hw117_1), ((HB.out.cell (World.block_lt_of_cell? w _ hw117_2)).trans hw117_2)⟩ (fun hHeld => ?_)
                clear hK K
                refine norm_ (a' := ?_) ?_ ?_
                rotate_left
                ·
                 show Act.put _ (some 43) _ = _
                 simp only [Act.put, XSq.p1, XSq.p2, XSq.p3, i64_w, i32_w]
                 rfl
                refine pure_ (i := 3) (N := some 44) (v := ?_) (a' := ?_) (XSq.bA 35 15) rfl rfl (any_of HT_.out (by kernel_rfl)) (fun _ _ _ h => h) (Or.inl ⟨by rfl, ?_⟩) ?_ ?_
                rotate_left
                ·
                 intro w'
                 go_simp
                 with_reducible rfl
                rotate_left
                ·
                 simp only [Act.put, XSq.p1, XSq.p2, XSq.p3, i64_w, i32_w]
                 rfl
                refine pure_ (i := 4) (N := some 45) (v := ?_) (a' := ?_) (XSq.bA 35 31) rfl rfl (any_of HT_.out (by kernel_rfl)) (fun _ _ _ h => h) (Or.inl ⟨by rfl, ?_⟩) ?_ ?_
                rotate_left
                ·
                 intro w'
                 go_simp
                 with_reducible rfl
                rotate_left
                ·
                 simp only [Act.put, XSq.p1, XSq.p2, XSq.p3, i64_w, i32_w]
                 rfl
                refine pure_ (i := 5) (N := some 46) (v := ?_) (a' := ?_) (XSq.bA 35 63) rfl rfl (any_of HT_.out (by kernel_rfl)) (fun _ _ _ h => h) (Or.inl ⟨by rfl, ?_⟩) ?_ ?_
                rotate_left
                ·
                 intro w'
                 go_simp
                 with_reducible rfl
                rotate_left
                ·
                 simp only [Act.put, XSq.p1, XSq.p2, XSq.p3, i64_w, i32_w]
                 rfl
                refine take_ (i := 6) (N := some 47) (v := ?_) (a' := ?_) (XSq.bA 35 127) rfl rfl (take_ofW HT_.out HW_.out (by kernel_rfl)) (fun _ _ _ h => h) (Or.inl ⟨by rfl, ?_⟩) hHeld ?_ ?_
                rotate_left
                ·
                 rintro w' ⟨s0, s1, s2, s3, s4, s5, s6, s7, s8, s9, s10⟩
                 go_simp
                 with_reducible rfl
                rotate_left
                ·
                 simp only [Act.put, XSq.p1, XSq.p2, XSq.p3, i64_w, i32_w]
                 rfl
                refine one_ (i := 7) (N := some 48) (XSq.bA 35 255) rfl rfl (one_of HT_.out (by kernel_rfl)) (by decide) (fun K hK => ?_)
                refine goes_ Tryd.func46 (by kernel_rfl) rfl #[.int .i64 ((rd_T60 l0_1 x36_2).f1)] (by rfl) rfl rfl (by (try simp only [List.map_toArray, List.map_cons, List.map_nil]); first | done | rfl | (simp only [List.length_drop, List.length_take]; rfl)) ?_
                with_reducible refine (spec_enFar.calls ((rd_T60 l0_1 x36_2).f1) true _ A24.out).mono ?_
                rintro e w' ⟨rfl, ⟨nd, rfl⟩⟩
                refine ⟨_, rfl, ?_⟩
                refine hK.out _ _ ⟨(blk_cell BK113.out 0).trans rfl, (blk_cell BK113.out 1).trans rfl, (blk_cell BK113.out 2).trans rfl, (blk_cell BK107.out 0).trans rfl, (blk_cell BK107.out 1).trans rfl, (blk_cell BK107.out 2).trans rfl, (blk_cell BK107.out 3).trans rfl, (blk_cell BK107.out 4).trans rfl, ((HB.out.cell (World.block_lt_of_cell? w _ hw117_0)).trans hw117_0), ((HB.out.cell (World.block_lt_of_cell? w _ hw117_1)).trans hw117_1), ((HB.out.cell (World.block_lt_of_cell? w _ hw117_2)).trans hw117_2)⟩ (fun hHeld => ?_)
                clear hK K
                refine norm_ (a' := ?_) ?_ ?_
                rotate_left
                ·
                 show Act.put _ (some 48) _ = _
                 simp only [Act.put, XSq.p1, XSq.p2, XSq.p3, i64_w, i32_w]
                 rfl
                refine pure_ (i := 8) (N := some 49) (v := ?_) (a' := ?_) (XSq.bA 35 511) rfl rfl (any_of HT_.out (by kernel_rfl)) (fun _ _ _ h => h) (Or.inl ⟨by rfl, ?_⟩) ?_ ?_
                rotate_left
                ·
                 intro w'
                 go_simp
                 with_reducible rfl
                rotate_left
                ·
                 simp only [Act.put, XSq.p1, XSq.p2, XSq.p3, i64_w, i32_w]
                 rfl
                refine pure_ (i := 9) (N := some 50) (v := ?_) (a' := ?_) (XSq.bA 35 1023) rfl rfl (any_of HT_.out (by kernel_rfl)) (fun _ _ _ h => h) (Or.inl ⟨by rfl, ?_⟩) ?_ ?_
                rotate_left
                ·
                 intro w'
                 go_simp
                 with_reducible rfl
                rotate_left
                ·
                 simp only [Act.put, XSq.p1, XSq.p2, XSq.p3, i64_w, i32_w]
                 rfl
                refine pure_ (i := 10) (N := some 51) (v := ?_) (a' := ?_) (XSq.bA 35 2047) rfl rfl (any_of HT_.out (by kernel_rfl)) (fun _ _ _ h => h) (Or.inl ⟨by rfl, ?_⟩) ?_ ?_
                rotate_left
                ·
                 intro w'
                 go_simp
                 with_reducible rfl
                rotate_left
                ·
                 simp only [Act.put, XSq.p1, XSq.p2, XSq.p3, i64_w, i32_w]
                 rfl
                refine pure_ (i := 11) (N := some 52) (v := ?_) (a' := ?_) (XSq.bA 35 4095) rfl rfl (any_of HT_.out (by kernel_rfl)) (fun _ _ _ h => h) (Or.inl ⟨by rfl, ?_⟩) ?_ ?_
                rotate_left
                ·
                 intro w'
                 go_simp
                 with_reducible rfl
                rotate_left
                ·
                 simp only [Act.put, XSq.p1, XSq.p2, XSq.p3, i64_w, i32_w]
                 rfl
                refine pure_ (i := 13) (N := some 54) (v := ?_) (a' := ?_) (XSq.bA 35 12287) rfl rfl (any_of HT_.out (by kernel_rfl)) (fun _ _ _ h => h) (Or.inl ⟨by rfl, ?_⟩) ?_ ?_
                rotate_left
                ·
                 intro w'
                 go_simp
                 with_reducible rfl
                rotate_left
                ·
                 simp only [Act.put, XSq.p1, XSq.p2, XSq.p3, i64_w, i32_w]
                 rfl
                refine take_ (i := 12) (N := some 53) (v := ?_) (a' := ?_) (XSq.bA 35 16383) rfl rfl (take_ofW HT_.out HW_.out (by kernel_rfl)) (fun _ _ _ h => h) (Or.inl ⟨by rfl, ?_⟩) hHeld ?_ ?_
                rotate_left
                ·
                 rintro w' ⟨s0, s1, s2, s3, s4, s5, s6, s7, s8, s9, s10⟩
                 go_simp
                 with_reducible rfl
                rotate_left
                ·
                 simp only [Act.put, XSq.p1, XSq.p2, XSq.p3, i64_w, i32_w]
                 rfl
                refine take_ (i := 14) (N := some 55) (v := ?_) (a' := ?_) (XSq.bA 35 32767) rfl rfl (take_ofW HT_.out HW_.out (by kernel_rfl)) (fun _ _ _ h => h) (Or.inl ⟨by rfl, ?_⟩) hHeld ?_ ?_
                rotate_left
                ·
                 rintro w' ⟨s0, s1, s2, s3, s4, s5, s6, s7, s8, s9, s10⟩
                 go_simp
                 with_reducible rfl
                rotate_left
                ·
                 simp only [Act.put, XSq.p1, XSq.p2, XSq.p3, i64_w, i32_w]
                 rfl
                refine pure_ (i := 15) (N := some 56) (v := ?_) (a' := ?_) (XSq.bA 35 65535) rfl rfl (any_of HT_.out (by kernel_rfl)) (fun _ _ _ h => h) (Or.inl ⟨by rfl, ?_⟩) ?_ ?_
                rotate_left
                ·
                 intro w'
                 go_simp
                 with_reducible rfl
                rotate_left
                ·
                 simp only [Act.put, XSq.p1, XSq.p2, XSq.p3, i64_w, i32_w]
                 rfl
                refine pure_ (i := 16) (N := some 57) (v := ?_) (a' := ?_) (XSq.bA 35 131071) rfl rfl (any_of HT_.out (by kernel_rfl)) (fun _ _ _ h => h) (Or.inl ⟨by rfl, ?_⟩) ?_ ?_
                rotate_left
                ·
                 intro w'
                 go_simp
                 with_reducible rfl
                rotate_left
                ·
                 simp only [Act.put, XSq.p1, XSq.p2, XSq.p3, i64_w, i32_w]
                 rfl
                refine one_ (i := 17) (N := some 58) (XSq.bA 35 262143) rfl rfl (one_of HT_.out (by kernel_rfl)) (by decide) (fun K hK => ?_)
                refine goes_ Tryd.func27 (by kernel_rfl) rfl #[.int .i64 ((rd_T60 l0_1 x36_2).f2), .int .i64 1, .int .i64 (wrap64 ((a0_0.size : Int) - 1))] (by rfl) rfl rfl (by (try simp only [List.map_toArray, List.map_cons, List.map_nil]); first | done | rfl | (simp only [List.length_drop, List.length_take]; rfl)) ?_
                with_reducible refine (spec_l1In.calls ((rd_T60 l0_1 x36_2).f2) 1 (wrap64 ((a0_0.size : Int) - 1)) true _ A26.out).mono ?_
                rintro e w' ⟨rfl, ⟨nd, rfl⟩⟩
                refine ⟨_, rfl, ?_⟩
                refine hK.out _ _ ⟨(blk_cell BK113.out 0).trans rfl, (blk_cell BK113.out 1).trans rfl, (blk_cell BK113.out 2).trans rfl, (blk_cell BK107.out 0).trans rfl, (blk_cell BK107.out 1).trans rfl, (blk_cell BK107.out 2).trans rfl, (blk_cell BK107.out 3).trans rfl, (blk_cell BK107.out 4).trans rfl, ((HB.out.cell (World.block_lt_of_cell? w _ hw117_0)).trans hw117_0), ((HB.out.cell (World.block_lt_of_cell? w _ hw117_1)).trans hw117_1), ((HB.out.cell (World.block_lt_of_cell? w _ hw117_2)).trans hw117_2)⟩ (fun hHeld => ?_)
                clear hK K
                refine norm_ (a' := ?_) ?_ ?_
                rotate_left
                ·
                 show Act.put _ (some 58) _ = _
                 simp only [Act.put, XSq.p1, XSq.p2, XSq.p3, i64_w, i32_w]
                 rfl
                refine pure_ (i := 18) (N := some 59) (v := ?_) (a' := ?_) (XSq.bA 35 524287) rfl rfl (any_of HT_.out (by kernel_rfl)) (fun _ _ _ h => h) (Or.inl ⟨by rfl, ?_⟩) ?_ ?_
                rotate_left
                ·
                 intro w'
                 go_simp
                 with_reducible rfl
                rotate_left
                ·
                 simp only [Act.put, XSq.p1, XSq.p2, XSq.p3, i64_w, i32_w]
                 rfl
                refine pure_ (i := 19) (N := some 60) (v := ?_) (a' := ?_) (XSq.bA 35 1048575) rfl rfl (any_of HT_.out (by kernel_rfl)) (fun _ _ _ h => h) (Or.inl ⟨by rfl, ?_⟩) ?_ ?_
                rotate_left
                ·
                 intro w'
                 go_simp
                 with_reducible rfl
                rotate_left
                ·
                 simp only [Act.put, XSq.p1, XSq.p2, XSq.p3, i64_w, i32_w]
                 rfl
                refine pure_ (i := 20) (N := some 61) (v := ?_) (a' := ?_) (XSq.bA 35 2097151) rfl rfl (any_of HT_.out (by kernel_rfl)) (fun _ _ _ h => h) (Or.inl ⟨by rfl, ?_⟩) ?_ ?_
                rotate_left
                ·
                 intro w'
                 go_simp
                 with_reducible rfl
                rotate_left
                ·
                 simp only [Act.put, XSq.p1, XSq.p2, XSq.p3, i64_w, i32_w]
                 rfl
                refine pure_ (i := 21) (N := some 62) (v := ?_) (a' := ?_) (XSq.bA 35 4194303) rfl rfl (any_of HT_.out (by kernel_rfl)) (fun _ _ _ h => h) (Or.inl ⟨by rfl, ?_⟩) ?_ ?_
                rotate_left
                ·
                 intro w'
                 go_simp
                 with_reducible rfl
                rotate_left
                ·
                 simp only [Act.put, XSq.p1, XSq.p2, XSq.p3, i64_w, i32_w]
                 rfl
                refine pure_ (i := 22) (N := some 63) (v := ?_) (a' := ?_) (XSq.bA 35 8388607) rfl rfl (any_of HT_.out (by kernel_rfl)) (fun _ _ _ h => h) (Or.inl ⟨by rfl, ?_⟩) ?_ ?_
                rotate_left
                ·
                 intro w'
                 go_simp
                 with_reducible rfl
                rotate_left
                ·
                 simp only [Act.put, XSq.p1, XSq.p2, XSq.p3, i64_w, i32_w]
                 rfl
                refine pure_ (i := 23) (N := some 64) (v := ?_) (a' := ?_) (XSq.bA 35 16777215) rfl rfl (any_of HT_.out (by kernel_rfl)) (fun _ _ _ h => h) (Or.inl ⟨by rfl, ?_⟩) ?_ ?_
                rotate_left
                ·
                 intro w'
                 go_simp
                 with_reducible rfl
                rotate_left
                ·
                 simp only [Act.put, XSq.p1, XSq.p2, XSq.p3, i64_w, i32_w]
                 rfl
                refine pure_ (i := 24) (N := some 65) (v := ?_) (a' := ?_) (XSq.bA 35 33554431) rfl rfl (any_of HT_.out (by kernel_rfl)) (fun _ _ _ h => h) (Or.inl ⟨by rfl, ?_⟩) ?_ ?_
                rotate_left
                ·
                 intro w'
                 go_simp
                 with_reducible rfl
                rotate_left
                ·
                 simp only [Act.put, XSq.p1, XSq.p2, XSq.p3, i64_w, i32_w]
                 rfl
                refine pure_ (i := 26) (N := some 67) (v := ?_) (a' := ?_) (XSq.bA 35 100663295) rfl rfl (any_of HT_.out (by kernel_rfl)) (fun _ _ _ h => h) (Or.inl ⟨by rfl, ?_⟩) ?_ ?_
                rotate_left
                ·
                 intro w'
                 go_simp
                 with_reducible rfl
                rotate_left
                ·
                 simp only [Act.put, XSq.p1, XSq.p2, XSq.p3, i64_w, i32_w]
                 rfl
                refine pure_ (i := 27) (N := some 68) (v := ?_) (a' := ?_) (XSq.bA 35 234881023) rfl rfl (any_of HT_.out (by kernel_rfl)) (fun _ _ _ h => h) (Or.inl ⟨by rfl, ?_⟩) ?_ ?_
                rotate_left
                ·
                 intro w'
                 go_simp
                 with_reducible rfl
                rotate_left
                ·
                 simp only [Act.put, XSq.p1, XSq.p2, XSq.p3, i64_w, i32_w]
                 rfl
                refine take_ (i := 25) (N := some 66) (v := ?_) (a' := ?_) (XSq.bA 35 268435455) rfl rfl (take_ofW HT_.out HW_.out (by kernel_rfl)) (fun _ _ _ h => h) (Or.inl ⟨by rfl, ?_⟩) hHeld ?_ ?_
                rotate_left
                ·
                 rintro w' ⟨s0, s1, s2, s3, s4, s5, s6, s7, s8, s9, s10⟩
                 go_simp
                 with_reducible rfl
                rotate_left
                ·
                 simp only [Act.put, XSq.p1, XSq.p2, XSq.p3, i64_w, i32_w]
                 rfl
                refine pure_ (i := 28) (N := some 69) (v := ?_) (a' := ?_) (XSq.bA 35 536870911) rfl rfl (any_of HT_.out (by kernel_rfl)) (fun _ _ _ h => h) (Or.inl ⟨by rfl, ?_⟩) ?_ ?_
                rotate_left
                ·
                 intro w'
                 go_simp
                 with_reducible rfl
                rotate_left
                ·
                 simp only [Act.put, XSq.p1, XSq.p2, XSq.p3, i64_w, i32_w]
                 rfl
                refine take_ (i := 29) (N := some 70) (v := ?_) (a' := ?_) (XSq.bA 35 1073741823) rfl rfl (take_ofW HT_.out HW_.out (by kernel_rfl)) (fun _ _ _ h => h) (Or.inl ⟨by rfl, ?_⟩) hHeld ?_ ?_
                rotate_left
                ·
                 rintro w' ⟨s0, s1, s2, s3, s4, s5, s6, s7, s8, s9, s10⟩
                 go_simp
                 with_reducible rfl
                rotate_left
                ·
                 simp only [Act.put, XSq.p1, XSq.p2, XSq.p3, i64_w, i32_w]
                 rfl
                refine take_ (i := 30) (N := some 71) (v := ?_) (a' := ?_) (XSq.bA 35 2147483647) rfl rfl (take_ofW HT_.out HW_.out (by kernel_rfl)) (fun _ _ _ h => h) (Or.inl ⟨by rfl, ?_⟩) hHeld ?_ ?_
                rotate_left
                ·
                 rintro w' ⟨s0, s1, s2, s3, s4, s5, s6, s7, s8, s9, s10⟩
                 go_simp
                 with_reducible rfl
                rotate_left
                ·
                 simp only [Act.put, XSq.p1, XSq.p2, XSq.p3, i64_w, i32_w]
                 rfl
                refine one_ (i := 31) (N := some 72) (XSq.bA 35 4294967295) rfl rfl (one_of HT_.out (by kernel_rfl)) (by decide) (fun K hK => ?_)
                refine goes_ Tryd.func49 (by kernel_rfl) rfl #[.agg #[.int .i64 ((rd_T60 l0_1 (ji29)).f0), .int .i64 ((rd_T60 l0_1 (ji29)).f1), .int .i64 ((rd_T60 l0_1 (ji29)).f2)], .agg #[.int .i64 ((rd_T60 l0_1 x36_2).f0), .int .i64 ((rd_T60 l0_1 x36_2).f1), .int .i64 ((rd_T60 l0_1 x36_2).f2)]] (by rfl) rfl rfl (by (try simp only [List.map_toArray, List.map_cons, List.map_nil]); first | done | (simp only [hji29]; rfl) | rfl | (simp only [List.length_drop, List.length_take]; rfl)) ?_
                with_reducible refine (spec_enLess.calls ((rd_T60 l0_1 (ji29)).f0) ((rd_T60 l0_1 (ji29)).f1) ((rd_T60 l0_1 (ji29)).f2) ((rd_T60 l0_1 x36_2).f0) ((rd_T60 l0_1 x36_2).f1) ((rd_T60 l0_1 x36_2).f2) true _ A32.out).mono ?_
                rintro e w39 ⟨rfl, hb⟩
                refine ⟨_, rfl, ?_⟩
                replace BK107 := XSq.bb BK107 hb; replace BK113 := XSq.bb BK113 hb; replace HB := Aside0.mk (below_step (XSq.bB HB) hb); clear hb
                refine hK.out _ _ ⟨(blk_cell BK113.out 0).trans rfl, (blk_cell BK113.out 1).trans rfl, (blk_cell BK113.out 2).trans rfl, (blk_cell BK107.out 0).trans rfl, (blk_cell BK107.out 1).trans rfl, (blk_cell BK107.out 2).trans rfl, (blk_cell BK107.out 3).trans rfl, (blk_cell BK107.out 4).trans rfl, ((HB.out.cell (World.block_lt_of_cell? w _ hw117_0)).trans hw117_0), ((HB.out.cell (World.block_lt_of_cell? w _ hw117_1)).trans hw117_1), ((HB.out.cell (World.block_lt_of_cell? w _ hw117_2)).trans hw117_2)⟩ (fun hHeld => ?_)
                clear hK K
                refine norm_ (a' := ?_) ?_ ?_
                rotate_left
                ·
                 show Act.put _ (some 72) _ = _
                 simp only [Act.put, XSq.p1, XSq.p2, XSq.p3, i64_w, i32_w]
                 rfl
                refine pure_ (i := 32) (N := some 73) (v := ?_) (a' := ?_) (XSq.bA 35 8589934591) rfl rfl (any_of HT_.out (by kernel_rfl)) (fun _ _ _ h => h) (Or.inl ⟨by rfl, ?_⟩) ?_ ?_
                rotate_left
                ·
                 intro w'
                 go_simp
                 with_reducible rfl
                rotate_left
                ·
                 simp only [Act.put, XSq.p1, XSq.p2, XSq.p3, i64_w, i32_w]
                 rfl
                refine pure_ (i := 33) (N := some 74) (v := ?_) (a' := ?_) (XSq.bA 35 17179869183) rfl rfl (any_of HT_.out (by kernel_rfl)) (fun _ _ _ h => h) (Or.inl ⟨by rfl, ?_⟩) ?_ ?_
                rotate_left
                ·
                 intro w'
                 go_simp
                 with_reducible rfl
                rotate_left
                ·
                 simp only [Act.put, XSq.p1, XSq.p2, XSq.p3, i64_w, i32_w]
                 rfl
                refine pure_ (i := 34) (N := some 75) (v := ?_) (a' := ?_) (XSq.bA 35 34359738367) rfl rfl (any_of HT_.out (by kernel_rfl)) (fun _ _ _ h => h) (Or.inl ⟨by rfl, ?_⟩) ?_ ?_
                rotate_left
                ·
                 intro w'
                 go_simp
                 with_reducible rfl
                rotate_left
                ·
                 simp only [Act.put, XSq.p1, XSq.p2, XSq.p3, i64_w, i32_w]
                 rfl
                refine done_ (done_of HT_.out (by kernel_rfl)) ?_
                try go_wp2
                go_roundg k2
                case measure => have := HJ1.out; have := HK2.out; omega
                case rel => exact ⟨(wrap64 (x36_2 + 1)), (by first | rfl | (simp; done) | (simp [*]; done)), H', ⟨by have := HJ1.out; have := HK2.out; omega⟩, ⟨by (with_reducible repeat (first | refine blk_drewN ?_ _ | refine blk_drew ?_ | refine blk_alloc ?_ _)); exact BK107.out⟩, ⟨by repeat (first | (with_reducible first | exact HB.out | apply below_alloc | apply pw_below_drewN | apply below_drew1 | refine below_set ?_ GE107.out | refine below_set ?_ GE113.out) | exact HB.out)⟩⟩
               ·
                replace c33 := Bool.eq_false_iff.mpr c33; subst c33
                have H1 : (some false) = some r := by rw [if_neg (show ¬ (false = true) by decide)] at H; exact H
                clear H; have H := H1; clear H1; obtain rfl := Option.some.inj H; have p112 : 0 ≤ (x36_2 : Int) := of_decide_eq_true (by first | (with_reducible assumption) | assumption); have q112 : x36_2 < (l0_1.length : Int) := of_decide_eq_true (by first | (with_reducible assumption) | assumption); obtain ⟨ad112, e112, hx112_0, hx112_1, hx112_2⟩ := at_T60 HR0_1.out x36_2 p112 q112; cases e112; replace hx112_0 := (HB.out.cell (World.block_lt_of_cell? w _ hx112_0)).trans hx112_0; replace hx112_1 := (HB.out.cell (World.block_lt_of_cell? w _ hx112_1)).trans hx112_1; replace hx112_2 := (HB.out.cell (World.block_lt_of_cell? w _ hx112_2)).trans hx112_2; replace p112 := eq_true p112; replace q112 := eq_true q112
                try go_wp2_with (first | ((with_reducible refine gate_dst (N := 4) rfl ?_); (try (refine gate_guard (by rfl) ?_; dsimp only)); refine box_event ?hg (N := 4) ?hd (cs := #[.int .i64 0, .int .i64 0, .int .i64 0]) (t := 60) ?hr ?_; (case hd => rfl); (case hg => rfl); (case hr => first | (go_simp; done) | (go_simp; rfl)); intro gb113 hg w40 hbox hb; have BK113 := Aside0.mk (hbox); have GW113 := XSq.gw hg (XSq.bB HB); have GE113 := XSq.gw hg (XSq.bB HB); have NB107_113 := XSq.nl hg (XSq.bq BK107); have NB113_107 := XSq.nr hg (XSq.bq BK107); replace BK107 := XSq.bb BK107 hb; replace HB := Aside0.mk (below_step (XSq.bB HB) hb); clear hb hbox hg; have hnb41 := NB113_107.out; have hnc41 := NB107_113.out; have hcz42_0 := XSq.ck BK113 0; have hcz42_1 := XSq.ck BK113 1; have hcz42_2 := XSq.ck BK113 2; have hfz42_0 := blk_frozen BK113.out 0; have hfz42_1 := blk_frozen BK113.out 1; have hfz42_2 := blk_frozen BK113.out 2))
                have n0_ : Aside0 ((((w40.setCell ⟨gb113, 0, none⟩ (.int .i64 ((rd_T60 l0_1 x36_2).f0))).setCell ⟨gb113, 1, none⟩ (.int .i64 ((rd_T60 l0_1 x36_2).f1))).setCell ⟨gb113, 2, none⟩ (.int .i64 ((rd_T60 l0_1 x36_2).f2))).heap[gb107]? = some (.cells #[.string a0_0, .slice (some ad112) l0_1.length c0_1, .int .i64 a0_2, .int .i64 a0_3, .int .i64 a0_4] 28 (0, 0))) := ⟨by (with_reducible repeat (first | refine blk_drewN ?_ _ | refine blk_drew ?_ | refine blk_alloc ?_ _)); refine blk_far ?_ NB107_113.out _; (with_reducible repeat (first | refine blk_drewN ?_ _ | refine blk_drew ?_ | refine blk_alloc ?_ _)); refine blk_far ?_ NB107_113.out _; (with_reducible repeat (first | refine blk_drewN ?_ _ | refine blk_drew ?_ | refine blk_alloc ?_ _)); refine blk_far ?_ NB107_113.out _; (with_reducible repeat (first | refine blk_drewN ?_ _ | refine blk_drew ?_ | refine blk_alloc ?_ _)); exact BK107.out⟩; have n1_ : Aside0 ((((w40.setCell ⟨gb113, 0, none⟩ (.int .i64 ((rd_T60 l0_1 x36_2).f0))).setCell ⟨gb113, 1, none⟩ (.int .i64 ((rd_T60 l0_1 x36_2).f1))).setCell ⟨gb113, 2, none⟩ (.int .i64 ((rd_T60 l0_1 x36_2).f2))).heap[gb113]? = some (.cells #[.int .i64 ((rd_T60 l0_1 x36_2).f0), .int .i64 ((rd_T60 l0_1 x36_2).f1), .int .i64 ((rd_T60 l0_1 x36_2).f2)] 60 (0, 0))) := ⟨by (with_reducible repeat (first | refine blk_drewN ?_ _ | refine blk_drew ?_ | refine blk_alloc ?_ _)); refine blk_put (cs := #[.int .i64 ((rd_T60 l0_1 x36_2).f0), .int .i64 ((rd_T60 l0_1 x36_2).f1), .int .i64 0]) ?_ 2 _ rfl; (with_reducible repeat (first | refine blk_drewN ?_ _ | refine blk_drew ?_ | refine blk_alloc ?_ _)); refine blk_put (cs := #[.int .i64 ((rd_T60 l0_1 x36_2).f0), .int .i64 0, .int .i64 0]) ?_ 1 _ rfl; (with_reducible repeat (first | refine blk_drewN ?_ _ | refine blk_drew ?_ | refine blk_alloc ?_ _)); refine blk_put (cs := #[.int .i64 0, .int .i64 0, .int .i64 0]) ?_ 0 _ rfl; (with_reducible repeat (first | refine blk_drewN ?_ _ | refine blk_drew ?_ | refine blk_alloc ?_ _)); exact BK113.out⟩; have n2_ : Aside0 (Below w.heap.size w (((w40.setCell ⟨gb113, 0, none⟩ (.int .i64 ((rd_T60 l0_1 x36_2).f0))).setCell ⟨gb113, 1, none⟩ (.int .i64 ((rd_T60 l0_1 x36_2).f1))).setCell ⟨gb113, 2, none⟩ (.int .i64 ((rd_T60 l0_1 x36_2).f2)))) := ⟨by repeat (first | (with_reducible first | exact HB.out | apply below_alloc | apply pw_below_drewN | apply below_drew1 | refine below_set ?_ GE107.out | refine below_set ?_ GE113.out) | exact HB.out)⟩
                (try clear BK107)
                (try clear BK113)
                (try clear HB)
                generalize (((w40.setCell ⟨gb113, 0, none⟩ (.int .i64 ((rd_T60 l0_1 x36_2).f0))).setCell ⟨gb113, 1, none⟩ (.int .i64 ((rd_T60 l0_1 x36_2).f1))).setCell ⟨gb113, 2, none⟩ (.int .i64 ((rd_T60 l0_1 x36_2).f2))) = w43 at n0_ n1_ n2_ ⊢
                have BK107 := n0_; have BK113 := n1_; have HB := n2_; clear n0_ n1_ n2_; replace BK107 := Aside0.mk (blk_drew BK107.out); replace BK113 := Aside0.mk (blk_drew BK113.out); replace HB := Aside0.mk (below_drew1 HB.out); have p117 : 0 ≤ ((ji29) : Int) := of_decide_eq_true (by first | (with_reducible assumption) | assumption); have q117 : (ji29) < (l0_1.length : Int) := of_decide_eq_true (by first | (with_reducible assumption) | assumption); obtain ⟨ad117, e117, hx117_0, hx117_1, hx117_2⟩ := at_T60 HR0_1.out (ji29) p117 q117; have hw117_2 := hx117_2; have hw117_1 := hx117_1; have hw117_0 := hx117_0; obtain rfl : ad112 = ad117 := (by injection e117); replace hx117_0 := (HB.out.cell (World.block_lt_of_cell? w _ hx117_0)).trans hx117_0; replace hx117_1 := (HB.out.cell (World.block_lt_of_cell? w _ hx117_1)).trans hx117_1; replace hx117_2 := (HB.out.cell (World.block_lt_of_cell? w _ hx117_2)).trans hx117_2; replace p117 := eq_true p117; replace q117 := eq_true q117
                refine start_ (n := 35) (S := fun w' => w'.cell? ⟨gb113, 0, none⟩ = some (.int .i64 ((rd_T60 l0_1 x36_2).f0)) ∧ w'.cell? ⟨gb113, 1, none⟩ = some (.int .i64 ((rd_T60 l0_1 x36_2).f1)) ∧ w'.cell? ⟨gb113, 2, none⟩ = some (.int .i64 ((rd_T60 l0_1 x36_2).f2)) ∧ w'.cell? ⟨gb107, 0, none⟩ = some (.string a0_0) ∧ w'.cell? ⟨gb107, 1, none⟩ = some (.slice (some ad112) l0_1.length c0_1) ∧ w'.cell? ⟨gb107, 2, none⟩ = some (.int .i64 a0_2) ∧ w'.cell? ⟨gb107, 3, none⟩ = some (.int .i64 a0_3) ∧ w'.cell? ⟨gb107, 4, none⟩ = some (.int .i64 a0_4) ∧ w'.cell? (ad112.add (((ji29)).toNat * 3)) = some (.int .i64 ((rd_T60 l0_1 (ji29)).f0)) ∧ w'.cell? ⟨(ad112.add (((ji29)).toNat * 3)).block, (ad112.add (((ji29)).toNat * 3)).off + 1, none⟩ = some (.int .i64 ((rd_T60 l0_1 (ji29)).f1)) ∧ w'.cell? ⟨(ad112.add (((ji29)).toNat * 3)).block, (ad112.add (((ji29)).toNat * 3)).off + 2, none⟩ = some (.int .i64 ((rd_T60 l0_1 (ji29)).f2))) (ds := []) #[false, false, false, false, false, false, false, false, false, false, false, false, false, false, false, false, false, false, false, false, false, false, false, false, false, false, false, false, false, false, false, false, false, false, false] (by kernel_rfl) rfl rfl ⟨(blk_cell BK113.out 0).trans rfl, (blk_cell BK113.out 1).trans rfl, (blk_cell BK113.out 2).trans rfl, (blk_cell BK107.out 0).trans rfl, (blk_cell BK107.out 1).trans rfl, (blk_cell BK107.out 2).trans rfl, (blk_cell BK107.out 3).trans rfl, (blk_cell BK107.out 4).trans rfl, ((HB.out.cell (World.block_lt_of_cell? w _ hw117_0)).trans hw117_0), ((HB.out.cell (World.block_lt_of_cell? w _ hw117_1)).trans hw117_1), ((HB.out.cell (World.block_lt_of_cell? w _ hw117_2)).trans hw117_2)⟩ (fun hHeld => ?_); refine with_tabW spec_enGood.tab6 spec_enGood.bits6 (fun HT_ HW_ => ?_)
                generalize w43.drew = w44 at BK107 BK113 HB hx117_0 hx117_1 hx117_2 hHeld ⊢
                refine pure_ (i := 0) (N := some 41) (v := ?_) (a' := ?_) (XSq.bA 35 1) rfl rfl (any_of HT_.out (by kernel_rfl)) (fun _ _ _ h => h) (Or.inl ⟨by rfl, ?_⟩) ?_ ?_
                rotate_left
                ·
                 intro w'
                 go_simp
                 with_reducible rfl
                rotate_left
                ·
                 simp only [Act.put, XSq.p1, XSq.p2, XSq.p3, i64_w, i32_w]
                 rfl
                refine take_ (i := 1) (N := some 42) (v := ?_) (a' := ?_) (XSq.bA 35 3) rfl rfl (take_ofW HT_.out HW_.out (by kernel_rfl)) (fun _ _ _ h => h) (Or.inl ⟨by rfl, ?_⟩) hHeld ?_ ?_
                rotate_left
                ·
                 rintro w' ⟨s0, s1, s2, s3, s4, s5, s6, s7, s8, s9, s10⟩
                 go_simp
                 with_reducible rfl
                rotate_left
                ·
                 simp only [Act.put, XSq.p1, XSq.p2, XSq.p3, i64_w, i32_w]
                 rfl
                refine one_ (i := 2) (N := some 43) (XSq.bA 35 7) rfl rfl (one_of HT_.out (by kernel_rfl)) (by decide) (fun K hK => ?_)
                refine goes_ Tryd.func46 (by kernel_rfl) rfl #[.int .i64 ((rd_T60 l0_1 x36_2).f0)] (by rfl) rfl rfl (by (try simp only [List.map_toArray, List.map_cons, List.map_nil]); first | done | rfl | (simp only [List.length_drop, List.length_take]; rfl)) ?_
                with_reducible refine (spec_enFar.calls ((rd_T60 l0_1 x36_2).f0) true _ A22.out).mono ?_
                rintro e w' ⟨rfl, ⟨nd, rfl⟩⟩
                refine ⟨_, rfl, ?_⟩
                refine hK.out _ _ ⟨(blk_cell BK113.out 0).trans rfl, (blk_cell BK113.out 1).trans rfl, (blk_cell BK113.out 2).trans rfl, (blk_cell BK107.out 0).trans rfl, (blk_cell BK107.out 1).trans rfl, (blk_cell BK107.out 2).trans rfl, (blk_cell BK107.out 3).trans rfl, (blk_cell BK107.out 4).trans rfl, ((HB.out.cell (World.block_lt_of_cell? w _ hw117_0)).trans hw117_0), ((HB.out.cell (World.block_lt_of_cell? w _ hw117_1)).trans hw117_1), ((HB.out.cell (World.block_lt_of_cell? w _ hw117_2)).trans hw117_2)⟩ (fun hHeld => ?_)
                clear hK K
                refine norm_ (a' := ?_) ?_ ?_
                rotate_left
                ·
                 show Act.put _ (some 43) _ = _
                 simp only [Act.put, XSq.p1, XSq.p2, XSq.p3, i64_w, i32_w]
                 rfl
                refine pure_ (i := 3) (N := some 44) (v := ?_) (a' := ?_) (XSq.bA 35 15) rfl rfl (any_of HT_.out (by kernel_rfl)) (fun _ _ _ h => h) (Or.inl ⟨by rfl, ?_⟩) ?_ ?_
                rotate_left
                ·
                 intro w'
                 go_simp
                 with_reducible rfl
                rotate_left
                ·
                 simp only [Act.put, XSq.p1, XSq.p2, XSq.p3, i64_w, i32_w]
                 rfl
                refine pure_ (i := 4) (N := some 45) (v := ?_) (a' := ?_) (XSq.bA 35 31) rfl rfl (any_of HT_.out (by kernel_rfl)) (fun _ _ _ h => h) (Or.inl ⟨by rfl, ?_⟩) ?_ ?_
                rotate_left
                ·
                 intro w'
                 go_simp
                 with_reducible rfl
                rotate_left
                ·
                 simp only [Act.put, XSq.p1, XSq.p2, XSq.p3, i64_w, i32_w]
                 rfl
                refine pure_ (i := 5) (N := some 46) (v := ?_) (a' := ?_) (XSq.bA 35 63) rfl rfl (any_of HT_.out (by kernel_rfl)) (fun _ _ _ h => h) (Or.inl ⟨by rfl, ?_⟩) ?_ ?_
                rotate_left
                ·
                 intro w'
                 go_simp
                 with_reducible rfl
                rotate_left
                ·
                 simp only [Act.put, XSq.p1, XSq.p2, XSq.p3, i64_w, i32_w]
                 rfl
                refine take_ (i := 6) (N := some 47) (v := ?_) (a' := ?_) (XSq.bA 35 127) rfl rfl (take_ofW HT_.out HW_.out (by kernel_rfl)) (fun _ _ _ h => h) (Or.inl ⟨by rfl, ?_⟩) hHeld ?_ ?_
                rotate_left
                ·
                 rintro w' ⟨s0, s1, s2, s3, s4, s5, s6, s7, s8, s9, s10⟩
                 go_simp
                 with_reducible rfl
                rotate_left
                ·
                 simp only [Act.put, XSq.p1, XSq.p2, XSq.p3, i64_w, i32_w]
                 rfl
                refine one_ (i := 7) (N := some 48) (XSq.bA 35 255) rfl rfl (one_of HT_.out (by kernel_rfl)) (by decide) (fun K hK => ?_)
                refine goes_ Tryd.func46 (by kernel_rfl) rfl #[.int .i64 ((rd_T60 l0_1 x36_2).f1)] (by rfl) rfl rfl (by (try simp only [List.map_toArray, List.map_cons, List.map_nil]); first | done | rfl | (simp only [List.length_drop, List.length_take]; rfl)) ?_
                with_reducible refine (spec_enFar.calls ((rd_T60 l0_1 x36_2).f1) true _ A24.out).mono ?_
                rintro e w' ⟨rfl, ⟨nd, rfl⟩⟩
                refine ⟨_, rfl, ?_⟩
                refine hK.out _ _ ⟨(blk_cell BK113.out 0).trans rfl, (blk_cell BK113.out 1).trans rfl, (blk_cell BK113.out 2).trans rfl, (blk_cell BK107.out 0).trans rfl, (blk_cell BK107.out 1).trans rfl, (blk_cell BK107.out 2).trans rfl, (blk_cell BK107.out 3).trans rfl, (blk_cell BK107.out 4).trans rfl, ((HB.out.cell (World.block_lt_of_cell? w _ hw117_0)).trans hw117_0), ((HB.out.cell (World.block_lt_of_cell? w _ hw117_1)).trans hw117_1), ((HB.out.cell (World.block_lt_of_cell? w _ hw117_2)).trans hw117_2)⟩ (fun hHeld => ?_)
                clear hK K
                refine norm_ (a' := ?_) ?_ ?_
                rotate_left
                ·
                 show Act.put _ (some 48) _ = _
                 simp only [Act.put, XSq.p1, XSq.p2, XSq.p3, i64_w, i32_w]
                 rfl
                refine pure_ (i := 8) (N := some 49) (v := ?_) (a' := ?_) (XSq.bA 35 511) rfl rfl (any_of HT_.out (by kernel_rfl)) (fun _ _ _ h => h) (Or.inl ⟨by rfl, ?_⟩) ?_ ?_
                rotate_left
                ·
                 intro w'
                 go_simp
                 with_reducible rfl
                rotate_left
                ·
                 simp only [Act.put, XSq.p1, XSq.p2, XSq.p3, i64_w, i32_w]
                 rfl
                refine pure_ (i := 9) (N := some 50) (v := ?_) (a' := ?_) (XSq.bA 35 1023) rfl rfl (any_of HT_.out (by kernel_rfl)) (fun _ _ _ h => h) (Or.inl ⟨by rfl, ?_⟩) ?_ ?_
                rotate_left
                ·
                 intro w'
                 go_simp
                 with_reducible rfl
                rotate_left
                ·
                 simp only [Act.put, XSq.p1, XSq.p2, XSq.p3, i64_w, i32_w]
                 rfl
                refine pure_ (i := 10) (N := some 51) (v := ?_) (a' := ?_) (XSq.bA 35 2047) rfl rfl (any_of HT_.out (by kernel_rfl)) (fun _ _ _ h => h) (Or.inl ⟨by rfl, ?_⟩) ?_ ?_
                rotate_left
                ·
                 intro w'
                 go_simp
                 with_reducible rfl
                rotate_left
                ·
                 simp only [Act.put, XSq.p1, XSq.p2, XSq.p3, i64_w, i32_w]
                 rfl
                refine pure_ (i := 11) (N := some 52) (v := ?_) (a' := ?_) (XSq.bA 35 4095) rfl rfl (any_of HT_.out (by kernel_rfl)) (fun _ _ _ h => h) (Or.inl ⟨by rfl, ?_⟩) ?_ ?_
                rotate_left
                ·
                 intro w'
                 go_simp
                 with_reducible rfl
                rotate_left
                ·
                 simp only [Act.put, XSq.p1, XSq.p2, XSq.p3, i64_w, i32_w]
                 rfl
                refine pure_ (i := 13) (N := some 54) (v := ?_) (a' := ?_) (XSq.bA 35 12287) rfl rfl (any_of HT_.out (by kernel_rfl)) (fun _ _ _ h => h) (Or.inl ⟨by rfl, ?_⟩) ?_ ?_
                rotate_left
                ·
                 intro w'
                 go_simp
                 with_reducible rfl
                rotate_left
                ·
                 simp only [Act.put, XSq.p1, XSq.p2, XSq.p3, i64_w, i32_w]
                 rfl
                refine take_ (i := 12) (N := some 53) (v := ?_) (a' := ?_) (XSq.bA 35 16383) rfl rfl (take_ofW HT_.out HW_.out (by kernel_rfl)) (fun _ _ _ h => h) (Or.inl ⟨by rfl, ?_⟩) hHeld ?_ ?_
                rotate_left
                ·
                 rintro w' ⟨s0, s1, s2, s3, s4, s5, s6, s7, s8, s9, s10⟩
                 go_simp
                 with_reducible rfl
                rotate_left
                ·
                 simp only [Act.put, XSq.p1, XSq.p2, XSq.p3, i64_w, i32_w]
                 rfl
                refine take_ (i := 14) (N := some 55) (v := ?_) (a' := ?_) (XSq.bA 35 32767) rfl rfl (take_ofW HT_.out HW_.out (by kernel_rfl)) (fun _ _ _ h => h) (Or.inl ⟨by rfl, ?_⟩) hHeld ?_ ?_
                rotate_left
                ·
                 rintro w' ⟨s0, s1, s2, s3, s4, s5, s6, s7, s8, s9, s10⟩
                 go_simp
                 with_reducible rfl
                rotate_left
                ·
                 simp only [Act.put, XSq.p1, XSq.p2, XSq.p3, i64_w, i32_w]
                 rfl
                refine pure_ (i := 15) (N := some 56) (v := ?_) (a' := ?_) (XSq.bA 35 65535) rfl rfl (any_of HT_.out (by kernel_rfl)) (fun _ _ _ h => h) (Or.inl ⟨by rfl, ?_⟩) ?_ ?_
                rotate_left
                ·
                 intro w'
                 go_simp
                 with_reducible rfl
                rotate_left
                ·
                 simp only [Act.put, XSq.p1, XSq.p2, XSq.p3, i64_w, i32_w]
                 rfl
                refine pure_ (i := 16) (N := some 57) (v := ?_) (a' := ?_) (XSq.bA 35 131071) rfl rfl (any_of HT_.out (by kernel_rfl)) (fun _ _ _ h => h) (Or.inl ⟨by rfl, ?_⟩) ?_ ?_
                rotate_left
                ·
                 intro w'
                 go_simp
                 with_reducible rfl
                rotate_left
                ·
                 simp only [Act.put, XSq.p1, XSq.p2, XSq.p3, i64_w, i32_w]
                 rfl
                refine one_ (i := 17) (N := some 58) (XSq.bA 35 262143) rfl rfl (one_of HT_.out (by kernel_rfl)) (by decide) (fun K hK => ?_)
                refine goes_ Tryd.func27 (by kernel_rfl) rfl #[.int .i64 ((rd_T60 l0_1 x36_2).f2), .int .i64 1, .int .i64 (wrap64 ((a0_0.size : Int) - 1))] (by rfl) rfl rfl (by (try simp only [List.map_toArray, List.map_cons, List.map_nil]); first | done | rfl | (simp only [List.length_drop, List.length_take]; rfl)) ?_
                with_reducible refine (spec_l1In.calls ((rd_T60 l0_1 x36_2).f2) 1 (wrap64 ((a0_0.size : Int) - 1)) true _ A26.out).mono ?_
                rintro e w' ⟨rfl, ⟨nd, rfl⟩⟩
                refine ⟨_, rfl, ?_⟩
                refine hK.out _ _ ⟨(blk_cell BK113.out 0).trans rfl, (blk_cell BK113.out 1).trans rfl, (blk_cell BK113.out 2).trans rfl, (blk_cell BK107.out 0).trans rfl, (blk_cell BK107.out 1).trans rfl, (blk_cell BK107.out 2).trans rfl, (blk_cell BK107.out 3).trans rfl, (blk_cell BK107.out 4).trans rfl, ((HB.out.cell (World.block_lt_of_cell? w _ hw117_0)).trans hw117_0), ((HB.out.cell (World.block_lt_of_cell? w _ hw117_1)).trans hw117_1), ((HB.out.cell (World.block_lt_of_cell? w _ hw117_2)).trans hw117_2)⟩ (fun hHeld => ?_)
                clear hK K
                refine norm_ (a' := ?_) ?_ ?_
                rotate_left
                ·
                 show Act.put _ (some 58) _ = _
                 simp only [Act.put, XSq.p1, XSq.p2, XSq.p3, i64_w, i32_w]
                 rfl
                refine pure_ (i := 18) (N := some 59) (v := ?_) (a' := ?_) (XSq.bA 35 524287) rfl rfl (any_of HT_.out (by kernel_rfl)) (fun _ _ _ h => h) (Or.inl ⟨by rfl, ?_⟩) ?_ ?_
                rotate_left
                ·
                 intro w'
                 go_simp
                 with_reducible rfl
                rotate_left
                ·
                 simp only [Act.put, XSq.p1, XSq.p2, XSq.p3, i64_w, i32_w]
                 rfl
                refine pure_ (i := 19) (N := some 60) (v := ?_) (a' := ?_) (XSq.bA 35 1048575) rfl rfl (any_of HT_.out (by kernel_rfl)) (fun _ _ _ h => h) (Or.inl ⟨by rfl, ?_⟩) ?_ ?_
                rotate_left
                ·
                 intro w'
                 go_simp
                 with_reducible rfl
                rotate_left
                ·
                 simp only [Act.put, XSq.p1, XSq.p2, XSq.p3, i64_w, i32_w]
                 rfl
                refine pure_ (i := 20) (N := some 61) (v := ?_) (a' := ?_) (XSq.bA 35 2097151) rfl rfl (any_of HT_.out (by kernel_rfl)) (fun _ _ _ h => h) (Or.inl ⟨by rfl, ?_⟩) ?_ ?_
                rotate_left
                ·
                 intro w'
                 go_simp
                 with_reducible rfl
                rotate_left
                ·
                 simp only [Act.put, XSq.p1, XSq.p2, XSq.p3, i64_w, i32_w]
                 rfl
                refine pure_ (i := 21) (N := some 62) (v := ?_) (a' := ?_) (XSq.bA 35 4194303) rfl rfl (any_of HT_.out (by kernel_rfl)) (fun _ _ _ h => h) (Or.inl ⟨by rfl, ?_⟩) ?_ ?_
                rotate_left
                ·
                 intro w'
                 go_simp
                 with_reducible rfl
                rotate_left
                ·
                 simp only [Act.put, XSq.p1, XSq.p2, XSq.p3, i64_w, i32_w]
                 rfl
                refine pure_ (i := 22) (N := some 63) (v := ?_) (a' := ?_) (XSq.bA 35 8388607) rfl rfl (any_of HT_.out (by kernel_rfl)) (fun _ _ _ h => h) (Or.inl ⟨by rfl, ?_⟩) ?_ ?_
                rotate_left
                ·
                 intro w'
                 go_simp
                 with_reducible rfl
                rotate_left
                ·
                 simp only [Act.put, XSq.p1, XSq.p2, XSq.p3, i64_w, i32_w]
                 rfl
                refine pure_ (i := 23) (N := some 64) (v := ?_) (a' := ?_) (XSq.bA 35 16777215) rfl rfl (any_of HT_.out (by kernel_rfl)) (fun _ _ _ h => h) (Or.inl ⟨by rfl, ?_⟩) ?_ ?_
                rotate_left
                ·
                 intro w'
                 go_simp
                 with_reducible rfl
                rotate_left
                ·
                 simp only [Act.put, XSq.p1, XSq.p2, XSq.p3, i64_w, i32_w]
                 rfl
                refine pure_ (i := 24) (N := some 65) (v := ?_) (a' := ?_) (XSq.bA 35 33554431) rfl rfl (any_of HT_.out (by kernel_rfl)) (fun _ _ _ h => h) (Or.inl ⟨by rfl, ?_⟩) ?_ ?_
                rotate_left
                ·
                 intro w'
                 go_simp
                 with_reducible rfl
                rotate_left
                ·
                 simp only [Act.put, XSq.p1, XSq.p2, XSq.p3, i64_w, i32_w]
                 rfl
                refine pure_ (i := 26) (N := some 67) (v := ?_) (a' := ?_) (XSq.bA 35 100663295) rfl rfl (any_of HT_.out (by kernel_rfl)) (fun _ _ _ h => h) (Or.inl ⟨by rfl, ?_⟩) ?_ ?_
                rotate_left
                ·
                 intro w'
                 go_simp
                 with_reducible rfl
                rotate_left
                ·
                 simp only [Act.put, XSq.p1, XSq.p2, XSq.p3, i64_w, i32_w]
                 rfl
                refine pure_ (i := 27) (N := some 68) (v := ?_) (a' := ?_) (XSq.bA 35 234881023) rfl rfl (any_of HT_.out (by kernel_rfl)) (fun _ _ _ h => h) (Or.inl ⟨by rfl, ?_⟩) ?_ ?_
                rotate_left
                ·
                 intro w'
                 go_simp
                 with_reducible rfl
                rotate_left
                ·
                 simp only [Act.put, XSq.p1, XSq.p2, XSq.p3, i64_w, i32_w]
                 rfl
                refine take_ (i := 25) (N := some 66) (v := ?_) (a' := ?_) (XSq.bA 35 268435455) rfl rfl (take_ofW HT_.out HW_.out (by kernel_rfl)) (fun _ _ _ h => h) (Or.inl ⟨by rfl, ?_⟩) hHeld ?_ ?_
                rotate_left
                ·
                 rintro w' ⟨s0, s1, s2, s3, s4, s5, s6, s7, s8, s9, s10⟩
                 go_simp
                 with_reducible rfl
                rotate_left
                ·
                 simp only [Act.put, XSq.p1, XSq.p2, XSq.p3, i64_w, i32_w]
                 rfl
                refine pure_ (i := 28) (N := some 69) (v := ?_) (a' := ?_) (XSq.bA 35 536870911) rfl rfl (any_of HT_.out (by kernel_rfl)) (fun _ _ _ h => h) (Or.inl ⟨by rfl, ?_⟩) ?_ ?_
                rotate_left
                ·
                 intro w'
                 go_simp
                 with_reducible rfl
                rotate_left
                ·
                 simp only [Act.put, XSq.p1, XSq.p2, XSq.p3, i64_w, i32_w]
                 rfl
                refine take_ (i := 29) (N := some 70) (v := ?_) (a' := ?_) (XSq.bA 35 1073741823) rfl rfl (take_ofW HT_.out HW_.out (by kernel_rfl)) (fun _ _ _ h => h) (Or.inl ⟨by rfl, ?_⟩) hHeld ?_ ?_
                rotate_left
                ·
                 rintro w' ⟨s0, s1, s2, s3, s4, s5, s6, s7, s8, s9, s10⟩
                 go_simp
                 with_reducible rfl
                rotate_left
                ·
                 simp only [Act.put, XSq.p1, XSq.p2, XSq.p3, i64_w, i32_w]
                 rfl
                refine take_ (i := 30) (N := some 71) (v := ?_) (a' := ?_) (XSq.bA 35 2147483647) rfl rfl (take_ofW HT_.out HW_.out (by kernel_rfl)) (fun _ _ _ h => h) (Or.inl ⟨by rfl, ?_⟩) hHeld ?_ ?_
                rotate_left
                ·
                 rintro w' ⟨s0, s1, s2, s3, s4, s5, s6, s7, s8, s9, s10⟩
                 go_simp
                 with_reducible rfl
                rotate_left
                ·
                 simp only [Act.put, XSq.p1, XSq.p2, XSq.p3, i64_w, i32_w]
                 rfl
                refine one_ (i := 31) (N := some 72) (XSq.bA 35 4294967295) rfl rfl (one_of HT_.out (by kernel_rfl)) (by decide) (fun K hK => ?_)
                refine goes_ Tryd.func49 (by kernel_rfl) rfl #[.agg #[.int .i64 ((rd_T60 l0_1 (ji29)).f0), .int .i64 ((rd_T60 l0_1 (ji29)).f1), .int .i64 ((rd_T60 l0_1 (ji29)).f2)], .agg #[.int .i64 ((rd_T60 l0_1 x36_2).f0), .int .i64 ((rd_T60 l0_1 x36_2).f1), .int .i64 ((rd_T60 l0_1 x36_2).f2)]] (by rfl) rfl rfl (by (try simp only [List.map_toArray, List.map_cons, List.map_nil]); first | done | (simp only [hji29]; rfl) | rfl | (simp only [List.length_drop, List.length_take]; rfl)) ?_
                with_reducible refine (spec_enLess.calls ((rd_T60 l0_1 (ji29)).f0) ((rd_T60 l0_1 (ji29)).f1) ((rd_T60 l0_1 (ji29)).f2) ((rd_T60 l0_1 x36_2).f0) ((rd_T60 l0_1 x36_2).f1) ((rd_T60 l0_1 x36_2).f2) false _ A32.out).mono ?_
                rintro e w45 ⟨rfl, hb⟩
                refine ⟨_, rfl, ?_⟩
                replace BK107 := XSq.bb BK107 hb; replace BK113 := XSq.bb BK113 hb; replace HB := Aside0.mk (below_step (XSq.bB HB) hb); clear hb
                refine hK.out _ _ ⟨(blk_cell BK113.out 0).trans rfl, (blk_cell BK113.out 1).trans rfl, (blk_cell BK113.out 2).trans rfl, (blk_cell BK107.out 0).trans rfl, (blk_cell BK107.out 1).trans rfl, (blk_cell BK107.out 2).trans rfl, (blk_cell BK107.out 3).trans rfl, (blk_cell BK107.out 4).trans rfl, ((HB.out.cell (World.block_lt_of_cell? w _ hw117_0)).trans hw117_0), ((HB.out.cell (World.block_lt_of_cell? w _ hw117_1)).trans hw117_1), ((HB.out.cell (World.block_lt_of_cell? w _ hw117_2)).trans hw117_2)⟩ (fun hHeld => ?_)
                clear hK K
                refine norm_ (a' := ?_) ?_ ?_
                rotate_left
                ·
                 show Act.put _ (some 72) _ = _
                 simp only [Act.put, XSq.p1, XSq.p2, XSq.p3, i64_w, i32_w]
                 rfl
                refine pure_ (i := 32) (N := some 73) (v := ?_) (a' := ?_) (XSq.bA 35 8589934591) rfl rfl (any_of HT_.out (by kernel_rfl)) (fun _ _ _ h => h) (Or.inl ⟨by rfl, ?_⟩) ?_ ?_
                rotate_left
                ·
                 intro w'
                 go_simp
                 with_reducible rfl
                rotate_left
                ·
                 simp only [Act.put, XSq.p1, XSq.p2, XSq.p3, i64_w, i32_w]
                 rfl
                refine pure_ (i := 33) (N := some 74) (v := ?_) (a' := ?_) (XSq.bA 35 17179869183) rfl rfl (any_of HT_.out (by kernel_rfl)) (fun _ _ _ h => h) (Or.inl ⟨by rfl, ?_⟩) ?_ ?_
                rotate_left
                ·
                 intro w'
                 go_simp
                 with_reducible rfl
                rotate_left
                ·
                 simp only [Act.put, XSq.p1, XSq.p2, XSq.p3, i64_w, i32_w]
                 rfl
                refine pure_ (i := 34) (N := some 75) (v := ?_) (a' := ?_) (XSq.bA 35 34359738367) rfl rfl (any_of HT_.out (by kernel_rfl)) (fun _ _ _ h => h) (Or.inl ⟨by rfl, ?_⟩) ?_ ?_
                rotate_left
                ·
                 intro w'
                 go_simp
                 with_reducible rfl
                rotate_left
                ·
                 simp only [Act.put, XSq.p1, XSq.p2, XSq.p3, i64_w, i32_w]
                 rfl
                refine done_ (done_of HT_.out (by kernel_rfl)) ?_
                try go_wp2
                go_ret
                exact ⟨by first | rfl | (simp [errW_none, errW_some] <;> rfl) | (simp only [← hji29]; first | rfl | (simp [errW_none, errW_some] <;> rfl)) | (simp [*, errW_none, errW_some] <;> rfl), by repeat (first | (with_reducible first | exact HB.out | apply below_alloc | apply pw_below_drewN | apply below_drew1 | refine below_set ?_ GE107.out | refine below_set ?_ GE113.out) | exact HB.out)⟩
              ·
               rw [if_neg c31] at H
               exact absurd H (by simp)
             ·
              rw [if_neg c30] at H
              exact absurd H (by simp)
            ·
             rw [if_neg c28] at H
             have c28b0 : decide (0 < x36_2) = false := decide_eq_false c28; clear c28; have H' := Aside0.mk H; clear H; have p112 : 0 ≤ (x36_2 : Int) := of_decide_eq_true (by first | (with_reducible assumption) | assumption); have q112 : x36_2 < (l0_1.length : Int) := of_decide_eq_true (by first | (with_reducible assumption) | assumption); obtain ⟨ad112, e112, hx112_0, hx112_1, hx112_2⟩ := at_T60 HR0_1.out x36_2 p112 q112; cases e112; replace hx112_0 := (HB.out.cell (World.block_lt_of_cell? w _ hx112_0)).trans hx112_0; replace hx112_1 := (HB.out.cell (World.block_lt_of_cell? w _ hx112_1)).trans hx112_1; replace hx112_2 := (HB.out.cell (World.block_lt_of_cell? w _ hx112_2)).trans hx112_2; replace p112 := eq_true p112; replace q112 := eq_true q112
             try go_wp2_with (first | ((with_reducible refine gate_dst (N := 4) rfl ?_); (try (refine gate_guard (by rfl) ?_; dsimp only)); refine box_event ?hg (N := 4) ?hd (cs := #[.int .i64 0, .int .i64 0, .int .i64 0]) (t := 60) ?hr ?_; (case hd => rfl); (case hg => rfl); (case hr => first | (go_simp; done) | (go_simp; rfl)); intro gb113 hg w46 hbox hb; have BK113 := Aside0.mk (hbox); have GW113 := XSq.gw hg (XSq.bB HB); have GE113 := XSq.gw hg (XSq.bB HB); have NB107_113 := XSq.nl hg (XSq.bq BK107); have NB113_107 := XSq.nr hg (XSq.bq BK107); replace BK107 := XSq.bb BK107 hb; replace HB := Aside0.mk (below_step (XSq.bB HB) hb); clear hb hbox hg; have hnb47 := NB113_107.out; have hnc47 := NB107_113.out; have hcz48_0 := XSq.ck BK113 0; have hcz48_1 := XSq.ck BK113 1; have hcz48_2 := XSq.ck BK113 2; have hfz48_0 := blk_frozen BK113.out 0; have hfz48_1 := blk_frozen BK113.out 1; have hfz48_2 := blk_frozen BK113.out 2))
             have n0_ : Aside0 ((((w46.setCell ⟨gb113, 0, none⟩ (.int .i64 ((rd_T60 l0_1 x36_2).f0))).setCell ⟨gb113, 1, none⟩ (.int .i64 ((rd_T60 l0_1 x36_2).f1))).setCell ⟨gb113, 2, none⟩ (.int .i64 ((rd_T60 l0_1 x36_2).f2))).heap[gb107]? = some (.cells #[.string a0_0, .slice (some ad112) l0_1.length c0_1, .int .i64 a0_2, .int .i64 a0_3, .int .i64 a0_4] 28 (0, 0))) := ⟨by (with_reducible repeat (first | refine blk_drewN ?_ _ | refine blk_drew ?_ | refine blk_alloc ?_ _)); refine blk_far ?_ NB107_113.out _; (with_reducible repeat (first | refine blk_drewN ?_ _ | refine blk_drew ?_ | refine blk_alloc ?_ _)); refine blk_far ?_ NB107_113.out _; (with_reducible repeat (first | refine blk_drewN ?_ _ | refine blk_drew ?_ | refine blk_alloc ?_ _)); refine blk_far ?_ NB107_113.out _; (with_reducible repeat (first | refine blk_drewN ?_ _ | refine blk_drew ?_ | refine blk_alloc ?_ _)); exact BK107.out⟩; have n1_ : Aside0 ((((w46.setCell ⟨gb113, 0, none⟩ (.int .i64 ((rd_T60 l0_1 x36_2).f0))).setCell ⟨gb113, 1, none⟩ (.int .i64 ((rd_T60 l0_1 x36_2).f1))).setCell ⟨gb113, 2, none⟩ (.int .i64 ((rd_T60 l0_1 x36_2).f2))).heap[gb113]? = some (.cells #[.int .i64 ((rd_T60 l0_1 x36_2).f0), .int .i64 ((rd_T60 l0_1 x36_2).f1), .int .i64 ((rd_T60 l0_1 x36_2).f2)] 60 (0, 0))) := ⟨by (with_reducible repeat (first | refine blk_drewN ?_ _ | refine blk_drew ?_ | refine blk_alloc ?_ _)); refine blk_put (cs := #[.int .i64 ((rd_T60 l0_1 x36_2).f0), .int .i64 ((rd_T60 l0_1 x36_2).f1), .int .i64 0]) ?_ 2 _ rfl; (with_reducible repeat (first | refine blk_drewN ?_ _ | refine blk_drew ?_ | refine blk_alloc ?_ _)); refine blk_put (cs := #[.int .i64 ((rd_T60 l0_1 x36_2).f0), .int .i64 0, .int .i64 0]) ?_ 1 _ rfl; (with_reducible repeat (first | refine blk_drewN ?_ _ | refine blk_drew ?_ | refine blk_alloc ?_ _)); refine blk_put (cs := #[.int .i64 0, .int .i64 0, .int .i64 0]) ?_ 0 _ rfl; (with_reducible repeat (first | refine blk_drewN ?_ _ | refine blk_drew ?_ | refine blk_alloc ?_ _)); exact BK113.out⟩; have n2_ : Aside0 (Below w.heap.size w (((w46.setCell ⟨gb113, 0, none⟩ (.int .i64 ((rd_T60 l0_1 x36_2).f0))).setCell ⟨gb113, 1, none⟩ (.int .i64 ((rd_T60 l0_1 x36_2).f1))).setCell ⟨gb113, 2, none⟩ (.int .i64 ((rd_T60 l0_1 x36_2).f2)))) := ⟨by repeat (first | (with_reducible first | exact HB.out | apply below_alloc | apply pw_below_drewN | apply below_drew1 | refine below_set ?_ GE107.out | refine below_set ?_ GE113.out) | exact HB.out)⟩
             (try clear BK107)
             (try clear BK113)
             (try clear HB)
             generalize (((w46.setCell ⟨gb113, 0, none⟩ (.int .i64 ((rd_T60 l0_1 x36_2).f0))).setCell ⟨gb113, 1, none⟩ (.int .i64 ((rd_T60 l0_1 x36_2).f1))).setCell ⟨gb113, 2, none⟩ (.int .i64 ((rd_T60 l0_1 x36_2).f2))) = w49 at n0_ n1_ n2_ ⊢
             have BK107 := n0_; have BK113 := n1_; have HB := n2_; clear n0_ n1_ n2_; replace BK107 := Aside0.mk (blk_drew BK107.out); replace BK113 := Aside0.mk (blk_drew BK113.out); replace HB := Aside0.mk (below_drew1 HB.out)
             refine start_ (n := 35) (S := fun w' => w'.cell? ⟨gb113, 0, none⟩ = some (.int .i64 ((rd_T60 l0_1 x36_2).f0)) ∧ w'.cell? ⟨gb113, 1, none⟩ = some (.int .i64 ((rd_T60 l0_1 x36_2).f1)) ∧ w'.cell? ⟨gb113, 2, none⟩ = some (.int .i64 ((rd_T60 l0_1 x36_2).f2)) ∧ w'.cell? ⟨gb107, 0, none⟩ = some (.string a0_0) ∧ w'.cell? ⟨gb107, 1, none⟩ = some (.slice (some ad112) l0_1.length c0_1) ∧ w'.cell? ⟨gb107, 2, none⟩ = some (.int .i64 a0_2) ∧ w'.cell? ⟨gb107, 3, none⟩ = some (.int .i64 a0_3) ∧ w'.cell? ⟨gb107, 4, none⟩ = some (.int .i64 a0_4)) (ds := []) #[false, false, false, false, false, false, false, false, false, false, false, false, false, false, false, false, false, false, false, false, false, false, false, false, false, false, false, false, false, false, false, false, false, false, false] (by kernel_rfl) rfl rfl ⟨(blk_cell BK113.out 0).trans rfl, (blk_cell BK113.out 1).trans rfl, (blk_cell BK113.out 2).trans rfl, (blk_cell BK107.out 0).trans rfl, (blk_cell BK107.out 1).trans rfl, (blk_cell BK107.out 2).trans rfl, (blk_cell BK107.out 3).trans rfl, (blk_cell BK107.out 4).trans rfl⟩ (fun hHeld => ?_); refine with_tabW spec_enGood.tab6 spec_enGood.bits6 (fun HT_ HW_ => ?_)
             generalize w49.drew = w50 at BK107 BK113 HB hHeld ⊢
             refine pure_ (i := 0) (N := some 41) (v := ?_) (a' := ?_) (XSq.bA 35 1) rfl rfl (any_of HT_.out (by kernel_rfl)) (fun _ _ _ h => h) (Or.inl ⟨by rfl, ?_⟩) ?_ ?_
             rotate_left
             ·
              intro w'
              go_simp
              with_reducible rfl
             rotate_left
             ·
              simp only [Act.put, XSq.p1, XSq.p2, XSq.p3, i64_w, i32_w]
              rfl
             refine take_ (i := 1) (N := some 42) (v := ?_) (a' := ?_) (XSq.bA 35 3) rfl rfl (take_ofW HT_.out HW_.out (by kernel_rfl)) (fun _ _ _ h => h) (Or.inl ⟨by rfl, ?_⟩) hHeld ?_ ?_
             rotate_left
             ·
              rintro w' ⟨s0, s1, s2, s3, s4, s5, s6, s7⟩
              go_simp
              with_reducible rfl
             rotate_left
             ·
              simp only [Act.put, XSq.p1, XSq.p2, XSq.p3, i64_w, i32_w]
              rfl
             refine one_ (i := 2) (N := some 43) (XSq.bA 35 7) rfl rfl (one_of HT_.out (by kernel_rfl)) (by decide) (fun K hK => ?_)
             refine goes_ Tryd.func46 (by kernel_rfl) rfl #[.int .i64 ((rd_T60 l0_1 x36_2).f0)] (by rfl) rfl rfl (by (try simp only [List.map_toArray, List.map_cons, List.map_nil]); first | done | rfl | (simp only [List.length_drop, List.length_take]; rfl)) ?_
             with_reducible refine (spec_enFar.calls ((rd_T60 l0_1 x36_2).f0) true _ A22.out).mono ?_
             rintro e w' ⟨rfl, ⟨nd, rfl⟩⟩
             refine ⟨_, rfl, ?_⟩
             refine hK.out _ _ ⟨(blk_cell BK113.out 0).trans rfl, (blk_cell BK113.out 1).trans rfl, (blk_cell BK113.out 2).trans rfl, (blk_cell BK107.out 0).trans rfl, (blk_cell BK107.out 1).trans rfl, (blk_cell BK107.out 2).trans rfl, (blk_cell BK107.out 3).trans rfl, (blk_cell BK107.out 4).trans rfl⟩ (fun hHeld => ?_)
             clear hK K
             refine norm_ (a' := ?_) ?_ ?_
             rotate_left
             ·
              show Act.put _ (some 43) _ = _
              simp only [Act.put, XSq.p1, XSq.p2, XSq.p3, i64_w, i32_w]
              rfl
             refine pure_ (i := 3) (N := some 44) (v := ?_) (a' := ?_) (XSq.bA 35 15) rfl rfl (any_of HT_.out (by kernel_rfl)) (fun _ _ _ h => h) (Or.inl ⟨by rfl, ?_⟩) ?_ ?_
             rotate_left
             ·
              intro w'
              go_simp
              with_reducible rfl
             rotate_left
             ·
              simp only [Act.put, XSq.p1, XSq.p2, XSq.p3, i64_w, i32_w]
              rfl
             refine pure_ (i := 4) (N := some 45) (v := ?_) (a' := ?_) (XSq.bA 35 31) rfl rfl (any_of HT_.out (by kernel_rfl)) (fun _ _ _ h => h) (Or.inl ⟨by rfl, ?_⟩) ?_ ?_
             rotate_left
             ·
              intro w'
              go_simp
              with_reducible rfl
             rotate_left
             ·
              simp only [Act.put, XSq.p1, XSq.p2, XSq.p3, i64_w, i32_w]
              rfl
             refine pure_ (i := 5) (N := some 46) (v := ?_) (a' := ?_) (XSq.bA 35 63) rfl rfl (any_of HT_.out (by kernel_rfl)) (fun _ _ _ h => h) (Or.inl ⟨by rfl, ?_⟩) ?_ ?_
             rotate_left
             ·
              intro w'
              go_simp
              with_reducible rfl
             rotate_left
             ·
              simp only [Act.put, XSq.p1, XSq.p2, XSq.p3, i64_w, i32_w]
              rfl
             refine take_ (i := 6) (N := some 47) (v := ?_) (a' := ?_) (XSq.bA 35 127) rfl rfl (take_ofW HT_.out HW_.out (by kernel_rfl)) (fun _ _ _ h => h) (Or.inl ⟨by rfl, ?_⟩) hHeld ?_ ?_
             rotate_left
             ·
              rintro w' ⟨s0, s1, s2, s3, s4, s5, s6, s7⟩
              go_simp
              with_reducible rfl
             rotate_left
             ·
              simp only [Act.put, XSq.p1, XSq.p2, XSq.p3, i64_w, i32_w]
              rfl
             refine one_ (i := 7) (N := some 48) (XSq.bA 35 255) rfl rfl (one_of HT_.out (by kernel_rfl)) (by decide) (fun K hK => ?_)
             refine goes_ Tryd.func46 (by kernel_rfl) rfl #[.int .i64 ((rd_T60 l0_1 x36_2).f1)] (by rfl) rfl rfl (by (try simp only [List.map_toArray, List.map_cons, List.map_nil]); first | done | rfl | (simp only [List.length_drop, List.length_take]; rfl)) ?_
             with_reducible refine (spec_enFar.calls ((rd_T60 l0_1 x36_2).f1) true _ A24.out).mono ?_
             rintro e w' ⟨rfl, ⟨nd, rfl⟩⟩
             refine ⟨_, rfl, ?_⟩
             refine hK.out _ _ ⟨(blk_cell BK113.out 0).trans rfl, (blk_cell BK113.out 1).trans rfl, (blk_cell BK113.out 2).trans rfl, (blk_cell BK107.out 0).trans rfl, (blk_cell BK107.out 1).trans rfl, (blk_cell BK107.out 2).trans rfl, (blk_cell BK107.out 3).trans rfl, (blk_cell BK107.out 4).trans rfl⟩ (fun hHeld => ?_)
             clear hK K
             refine norm_ (a' := ?_) ?_ ?_
             rotate_left
             ·
              show Act.put _ (some 48) _ = _
              simp only [Act.put, XSq.p1, XSq.p2, XSq.p3, i64_w, i32_w]
              rfl
             refine pure_ (i := 8) (N := some 49) (v := ?_) (a' := ?_) (XSq.bA 35 511) rfl rfl (any_of HT_.out (by kernel_rfl)) (fun _ _ _ h => h) (Or.inl ⟨by rfl, ?_⟩) ?_ ?_
             rotate_left
             ·
              intro w'
              go_simp
              with_reducible rfl
             rotate_left
             ·
              simp only [Act.put, XSq.p1, XSq.p2, XSq.p3, i64_w, i32_w]
              rfl
             refine pure_ (i := 9) (N := some 50) (v := ?_) (a' := ?_) (XSq.bA 35 1023) rfl rfl (any_of HT_.out (by kernel_rfl)) (fun _ _ _ h => h) (Or.inl ⟨by rfl, ?_⟩) ?_ ?_
             rotate_left
             ·
              intro w'
              go_simp
              with_reducible rfl
             rotate_left
             ·
              simp only [Act.put, XSq.p1, XSq.p2, XSq.p3, i64_w, i32_w]
              rfl
             refine pure_ (i := 10) (N := some 51) (v := ?_) (a' := ?_) (XSq.bA 35 2047) rfl rfl (any_of HT_.out (by kernel_rfl)) (fun _ _ _ h => h) (Or.inl ⟨by rfl, ?_⟩) ?_ ?_
             rotate_left
             ·
              intro w'
              go_simp
              with_reducible rfl
             rotate_left
             ·
              simp only [Act.put, XSq.p1, XSq.p2, XSq.p3, i64_w, i32_w]
              rfl
             refine pure_ (i := 11) (N := some 52) (v := ?_) (a' := ?_) (XSq.bA 35 4095) rfl rfl (any_of HT_.out (by kernel_rfl)) (fun _ _ _ h => h) (Or.inl ⟨by rfl, ?_⟩) ?_ ?_
             rotate_left
             ·
              intro w'
              go_simp
              with_reducible rfl
             rotate_left
             ·
              simp only [Act.put, XSq.p1, XSq.p2, XSq.p3, i64_w, i32_w]
              rfl
             refine pure_ (i := 13) (N := some 54) (v := ?_) (a' := ?_) (XSq.bA 35 12287) rfl rfl (any_of HT_.out (by kernel_rfl)) (fun _ _ _ h => h) (Or.inl ⟨by rfl, ?_⟩) ?_ ?_
             rotate_left
             ·
              intro w'
              go_simp
              with_reducible rfl
             rotate_left
             ·
              simp only [Act.put, XSq.p1, XSq.p2, XSq.p3, i64_w, i32_w]
              rfl
             refine take_ (i := 12) (N := some 53) (v := ?_) (a' := ?_) (XSq.bA 35 16383) rfl rfl (take_ofW HT_.out HW_.out (by kernel_rfl)) (fun _ _ _ h => h) (Or.inl ⟨by rfl, ?_⟩) hHeld ?_ ?_
             rotate_left
             ·
              rintro w' ⟨s0, s1, s2, s3, s4, s5, s6, s7⟩
              go_simp
              with_reducible rfl
             rotate_left
             ·
              simp only [Act.put, XSq.p1, XSq.p2, XSq.p3, i64_w, i32_w]
              rfl
             refine take_ (i := 14) (N := some 55) (v := ?_) (a' := ?_) (XSq.bA 35 32767) rfl rfl (take_ofW HT_.out HW_.out (by kernel_rfl)) (fun _ _ _ h => h) (Or.inl ⟨by rfl, ?_⟩) hHeld ?_ ?_
             rotate_left
             ·
              rintro w' ⟨s0, s1, s2, s3, s4, s5, s6, s7⟩
              go_simp
              with_reducible rfl
             rotate_left
             ·
              simp only [Act.put, XSq.p1, XSq.p2, XSq.p3, i64_w, i32_w]
              rfl
             refine pure_ (i := 15) (N := some 56) (v := ?_) (a' := ?_) (XSq.bA 35 65535) rfl rfl (any_of HT_.out (by kernel_rfl)) (fun _ _ _ h => h) (Or.inl ⟨by rfl, ?_⟩) ?_ ?_
             rotate_left
             ·
              intro w'
              go_simp
              with_reducible rfl
             rotate_left
             ·
              simp only [Act.put, XSq.p1, XSq.p2, XSq.p3, i64_w, i32_w]
              rfl
             refine pure_ (i := 16) (N := some 57) (v := ?_) (a' := ?_) (XSq.bA 35 131071) rfl rfl (any_of HT_.out (by kernel_rfl)) (fun _ _ _ h => h) (Or.inl ⟨by rfl, ?_⟩) ?_ ?_
             rotate_left
             ·
              intro w'
              go_simp
              with_reducible rfl
             rotate_left
             ·
              simp only [Act.put, XSq.p1, XSq.p2, XSq.p3, i64_w, i32_w]
              rfl
             refine one_ (i := 17) (N := some 58) (XSq.bA 35 262143) rfl rfl (one_of HT_.out (by kernel_rfl)) (by decide) (fun K hK => ?_)
             refine goes_ Tryd.func27 (by kernel_rfl) rfl #[.int .i64 ((rd_T60 l0_1 x36_2).f2), .int .i64 1, .int .i64 (wrap64 ((a0_0.size : Int) - 1))] (by rfl) rfl rfl (by (try simp only [List.map_toArray, List.map_cons, List.map_nil]); first | done | rfl | (simp only [List.length_drop, List.length_take]; rfl)) ?_
             with_reducible refine (spec_l1In.calls ((rd_T60 l0_1 x36_2).f2) 1 (wrap64 ((a0_0.size : Int) - 1)) true _ A26.out).mono ?_
             rintro e w' ⟨rfl, ⟨nd, rfl⟩⟩
             refine ⟨_, rfl, ?_⟩
             refine hK.out _ _ ⟨(blk_cell BK113.out 0).trans rfl, (blk_cell BK113.out 1).trans rfl, (blk_cell BK113.out 2).trans rfl, (blk_cell BK107.out 0).trans rfl, (blk_cell BK107.out 1).trans rfl, (blk_cell BK107.out 2).trans rfl, (blk_cell BK107.out 3).trans rfl, (blk_cell BK107.out 4).trans rfl⟩ (fun hHeld => ?_)
             clear hK K
             refine norm_ (a' := ?_) ?_ ?_
             rotate_left
             ·
              show Act.put _ (some 58) _ = _
              simp only [Act.put, XSq.p1, XSq.p2, XSq.p3, i64_w, i32_w]
              rfl
             refine pure_ (i := 18) (N := some 59) (v := ?_) (a' := ?_) (XSq.bA 35 524287) rfl rfl (any_of HT_.out (by kernel_rfl)) (fun _ _ _ h => h) (Or.inl ⟨by rfl, ?_⟩) ?_ ?_
             rotate_left
             ·
              intro w'
              go_simp
              with_reducible rfl
             rotate_left
             ·
              simp only [Act.put, XSq.p1, XSq.p2, XSq.p3, i64_w, i32_w]
              rfl
             refine pure_ (i := 19) (N := some 60) (v := ?_) (a' := ?_) (XSq.bA 35 1048575) rfl rfl (any_of HT_.out (by kernel_rfl)) (fun _ _ _ h => h) (Or.inl ⟨by rfl, ?_⟩) ?_ ?_
             rotate_left
             ·
              intro w'
              go_simp
              with_reducible rfl
             rotate_left
             ·
              simp only [Act.put, XSq.p1, XSq.p2, XSq.p3, i64_w, i32_w]
              rfl
             refine pure_ (i := 20) (N := some 61) (v := ?_) (a' := ?_) (XSq.bA 35 2097151) rfl rfl (any_of HT_.out (by kernel_rfl)) (fun _ _ _ h => h) (Or.inl ⟨by rfl, ?_⟩) ?_ ?_
             rotate_left
             ·
              intro w'
              go_simp
              with_reducible rfl
             rotate_left
             ·
              simp only [Act.put, XSq.p1, XSq.p2, XSq.p3, i64_w, i32_w]
              rfl
             refine pure_ (i := 21) (N := some 62) (v := ?_) (a' := ?_) (XSq.bA 35 4194303) rfl rfl (any_of HT_.out (by kernel_rfl)) (fun _ _ _ h => h) (Or.inl ⟨by rfl, ?_⟩) ?_ ?_
             rotate_left
             ·
              intro w'
              go_simp
              with_reducible rfl
             rotate_left
             ·
              simp only [Act.put, XSq.p1, XSq.p2, XSq.p3, i64_w, i32_w]
              rfl
             refine pure_ (i := 22) (N := some 63) (v := ?_) (a' := ?_) (XSq.bA 35 8388607) rfl rfl (any_of HT_.out (by kernel_rfl)) (fun _ _ _ h => h) (Or.inl ⟨by rfl, ?_⟩) ?_ ?_
             rotate_left
             ·
              intro w'
              go_simp
              with_reducible rfl
             rotate_left
             ·
              simp only [Act.put, XSq.p1, XSq.p2, XSq.p3, i64_w, i32_w]
              rfl
             refine pure_ (i := 23) (N := some 64) (v := ?_) (a' := ?_) (XSq.bA 35 16777215) rfl rfl (any_of HT_.out (by kernel_rfl)) (fun _ _ _ h => h) (Or.inl ⟨by rfl, ?_⟩) ?_ ?_
             rotate_left
             ·
              intro w'
              go_simp
              with_reducible rfl
             rotate_left
             ·
              simp only [Act.put, XSq.p1, XSq.p2, XSq.p3, i64_w, i32_w]
              rfl
             refine pure_ (i := 24) (N := some 65) (v := undef) (a' := ?_) (XSq.bA 35 33554431) rfl rfl (any_of HT_.out (by kernel_rfl)) (fun _ _ _ h => h) (Or.inr ⟨by rfl, rfl⟩) ?_ ?_
             rotate_left
             ·
              simp only [Act.put, XSq.p1, XSq.p2, XSq.p3, i64_w, i32_w]
              rfl
             refine pure_ (i := 25) (N := some 66) (v := undef) (a' := ?_) (XSq.bA 35 67108863) rfl rfl (any_of HT_.out (by kernel_rfl)) (fun _ _ _ h => h) (Or.inr ⟨by rfl, rfl⟩) ?_ ?_
             rotate_left
             ·
              simp only [Act.put, XSq.p1, XSq.p2, XSq.p3, i64_w, i32_w]
              rfl
             refine pure_ (i := 26) (N := some 67) (v := undef) (a' := ?_) (XSq.bA 35 134217727) rfl rfl (any_of HT_.out (by kernel_rfl)) (fun _ _ _ h => h) (Or.inr ⟨by rfl, rfl⟩) ?_ ?_
             rotate_left
             ·
              simp only [Act.put, XSq.p1, XSq.p2, XSq.p3, i64_w, i32_w]
              rfl
             refine pure_ (i := 27) (N := some 68) (v := undef) (a' := ?_) (XSq.bA 35 268435455) rfl rfl (any_of HT_.out (by kernel_rfl)) (fun _ _ _ h => h) (Or.inr ⟨by rfl, rfl⟩) ?_ ?_
             rotate_left
             ·
              simp only [Act.put, XSq.p1, XSq.p2, XSq.p3, i64_w, i32_w]
              rfl
             refine pure_ (i := 28) (N := some 69) (v := undef) (a' := ?_) (XSq.bA 35 536870911) rfl rfl (any_of HT_.out (by kernel_rfl)) (fun _ _ _ h => h) (Or.inr ⟨by rfl, rfl⟩) ?_ ?_
             rotate_left
             ·
              simp only [Act.put, XSq.p1, XSq.p2, XSq.p3, i64_w, i32_w]
              rfl
             refine pure_ (i := 29) (N := some 70) (v := undef) (a' := ?_) (XSq.bA 35 1073741823) rfl rfl (any_of HT_.out (by kernel_rfl)) (fun _ _ _ h => h) (Or.inr ⟨by rfl, rfl⟩) ?_ ?_
             rotate_left
             ·
              simp only [Act.put, XSq.p1, XSq.p2, XSq.p3, i64_w, i32_w]
              rfl
             refine pure_ (i := 30) (N := some 71) (v := undef) (a' := ?_) (XSq.bA 35 2147483647) rfl rfl (any_of HT_.out (by kernel_rfl)) (fun _ _ _ h => h) (Or.inr ⟨by rfl, rfl⟩) ?_ ?_
             rotate_left
             ·
              simp only [Act.put, XSq.p1, XSq.p2, XSq.p3, i64_w, i32_w]
              rfl
             refine pure_ (i := 31) (N := some 72) (v := undef) (a' := ?_) (XSq.bA 35 4294967295) rfl rfl (any_of HT_.out (by kernel_rfl)) (fun _ _ _ h => h) (Or.inr ⟨by rfl, rfl⟩) ?_ ?_
             rotate_left
             ·
              simp only [Act.put, XSq.p1, XSq.p2, XSq.p3, i64_w, i32_w]
              rfl
             refine pure_ (i := 32) (N := some 73) (v := undef) (a' := ?_) (XSq.bA 35 8589934591) rfl rfl (any_of HT_.out (by kernel_rfl)) (fun _ _ _ h => h) (Or.inr ⟨by rfl, rfl⟩) ?_ ?_
             rotate_left
             ·
              simp only [Act.put, XSq.p1, XSq.p2, XSq.p3, i64_w, i32_w]
              rfl
             refine pure_ (i := 33) (N := some 74) (v := ?_) (a' := ?_) (XSq.bA 35 17179869183) rfl rfl (any_of HT_.out (by kernel_rfl)) (fun _ _ _ h => h) (Or.inl ⟨by rfl, ?_⟩) ?_ ?_
             rotate_left
             ·
              intro w'
              go_simp
              with_reducible rfl
             rotate_left
             ·
              simp only [Act.put, XSq.p1, XSq.p2, XSq.p3, i64_w, i32_w]
              rfl
             refine pure_ (i := 34) (N := some 75) (v := ?_) (a' := ?_) (XSq.bA 35 34359738367) rfl rfl (any_of HT_.out (by kernel_rfl)) (fun _ _ _ h => h) (Or.inl ⟨by rfl, ?_⟩) ?_ ?_
             rotate_left
             ·
              intro w'
              go_simp
              with_reducible rfl
             rotate_left
             ·
              simp only [Act.put, XSq.p1, XSq.p2, XSq.p3, i64_w, i32_w]
              rfl
             refine done_ (done_of HT_.out (by kernel_rfl)) ?_
             try go_wp2
             go_roundg k2
             case measure => have := HJ1.out; have := HK2.out; omega
             case rel => exact ⟨(wrap64 (x36_2 + 1)), (by first | rfl | (simp; done) | (simp [*]; done)), H', ⟨by have := HJ1.out; have := HK2.out; omega⟩, ⟨by (with_reducible repeat (first | refine blk_drewN ?_ _ | refine blk_drew ?_ | refine blk_alloc ?_ _)); exact BK107.out⟩, ⟨by repeat (first | (with_reducible first | exact HB.out | apply below_alloc | apply pw_below_drewN | apply below_drew1 | refine below_set ?_ GE107.out | refine below_set ?_ GE113.out) | exact HB.out)⟩⟩
           ·
            replace c27 := Bool.eq_false_iff.mpr c27; subst c27
            have H1 : (some false) = some r := by rw [if_neg (show ¬ (false = true) by decide)] at H; exact H
            clear H; have H := H1; clear H1; obtain rfl := Option.some.inj H; have p112 : 0 ≤ (x36_2 : Int) := of_decide_eq_true (by first | (with_reducible assumption) | assumption); have q112 : x36_2 < (l0_1.length : Int) := of_decide_eq_true (by first | (with_reducible assumption) | assumption); obtain ⟨ad112, e112, hx112_0, hx112_1, hx112_2⟩ := at_T60 HR0_1.out x36_2 p112 q112; cases e112; replace hx112_0 := (HB.out.cell (World.block_lt_of_cell? w _ hx112_0)).trans hx112_0; replace hx112_1 := (HB.out.cell (World.block_lt_of_cell? w _ hx112_1)).trans hx112_1; replace hx112_2 := (HB.out.cell (World.block_lt_of_cell? w _ hx112_2)).trans hx112_2; replace p112 := eq_true p112; replace q112 := eq_true q112
            try go_wp2_with (first | ((with_reducible refine gate_dst (N := 4) rfl ?_); (try (refine gate_guard (by rfl) ?_; dsimp only)); refine box_event ?hg (N := 4) ?hd (cs := #[.int .i64 0, .int .i64 0, .int .i64 0]) (t := 60) ?hr ?_; (case hd => rfl); (case hg => rfl); (case hr => first | (go_simp; done) | (go_simp; rfl)); intro gb113 hg w51 hbox hb; have BK113 := Aside0.mk (hbox); have GW113 := XSq.gw hg (XSq.bB HB); have GE113 := XSq.gw hg (XSq.bB HB); have NB107_113 := XSq.nl hg (XSq.bq BK107); have NB113_107 := XSq.nr hg (XSq.bq BK107); replace BK107 := XSq.bb BK107 hb; replace HB := Aside0.mk (below_step (XSq.bB HB) hb); clear hb hbox hg; have hnb52 := NB113_107.out; have hnc52 := NB107_113.out; have hcz53_0 := XSq.ck BK113 0; have hcz53_1 := XSq.ck BK113 1; have hcz53_2 := XSq.ck BK113 2; have hfz53_0 := blk_frozen BK113.out 0; have hfz53_1 := blk_frozen BK113.out 1; have hfz53_2 := blk_frozen BK113.out 2))
            have n0_ : Aside0 ((((w51.setCell ⟨gb113, 0, none⟩ (.int .i64 ((rd_T60 l0_1 x36_2).f0))).setCell ⟨gb113, 1, none⟩ (.int .i64 ((rd_T60 l0_1 x36_2).f1))).setCell ⟨gb113, 2, none⟩ (.int .i64 ((rd_T60 l0_1 x36_2).f2))).heap[gb107]? = some (.cells #[.string a0_0, .slice (some ad112) l0_1.length c0_1, .int .i64 a0_2, .int .i64 a0_3, .int .i64 a0_4] 28 (0, 0))) := ⟨by (with_reducible repeat (first | refine blk_drewN ?_ _ | refine blk_drew ?_ | refine blk_alloc ?_ _)); refine blk_far ?_ NB107_113.out _; (with_reducible repeat (first | refine blk_drewN ?_ _ | refine blk_drew ?_ | refine blk_alloc ?_ _)); refine blk_far ?_ NB107_113.out _; (with_reducible repeat (first | refine blk_drewN ?_ _ | refine blk_drew ?_ | refine blk_alloc ?_ _)); refine blk_far ?_ NB107_113.out _; (with_reducible repeat (first | refine blk_drewN ?_ _ | refine blk_drew ?_ | refine blk_alloc ?_ _)); exact BK107.out⟩; have n1_ : Aside0 ((((w51.setCell ⟨gb113, 0, none⟩ (.int .i64 ((rd_T60 l0_1 x36_2).f0))).setCell ⟨gb113, 1, none⟩ (.int .i64 ((rd_T60 l0_1 x36_2).f1))).setCell ⟨gb113, 2, none⟩ (.int .i64 ((rd_T60 l0_1 x36_2).f2))).heap[gb113]? = some (.cells #[.int .i64 ((rd_T60 l0_1 x36_2).f0), .int .i64 ((rd_T60 l0_1 x36_2).f1), .int .i64 ((rd_T60 l0_1 x36_2).f2)] 60 (0, 0))) := ⟨by (with_reducible repeat (first | refine blk_drewN ?_ _ | refine blk_drew ?_ | refine blk_alloc ?_ _)); refine blk_put (cs := #[.int .i64 ((rd_T60 l0_1 x36_2).f0), .int .i64 ((rd_T60 l0_1 x36_2).f1), .int .i64 0]) ?_ 2 _ rfl; (with_reducible repeat (first | refine blk_drewN ?_ _ | refine blk_drew ?_ | refine blk_alloc ?_ _)); refine blk_put (cs := #[.int .i64 ((rd_T60 l0_1 x36_2).f0), .int .i64 0, .int .i64 0]) ?_ 1 _ rfl; (with_reducible repeat (first | refine blk_drewN ?_ _ | refine blk_drew ?_ | refine blk_alloc ?_ _)); refine blk_put (cs := #[.int .i64 0, .int .i64 0, .int .i64 0]) ?_ 0 _ rfl; (with_reducible repeat (first | refine blk_drewN ?_ _ | refine blk_drew ?_ | refine blk_alloc ?_ _)); exact BK113.out⟩; have n2_ : Aside0 (Below w.heap.size w (((w51.setCell ⟨gb113, 0, none⟩ (.int .i64 ((rd_T60 l0_1 x36_2).f0))).setCell ⟨gb113, 1, none⟩ (.int .i64 ((rd_T60 l0_1 x36_2).f1))).setCell ⟨gb113, 2, none⟩ (.int .i64 ((rd_T60 l0_1 x36_2).f2)))) := ⟨by repeat (first | (with_reducible first | exact HB.out | apply below_alloc | apply pw_below_drewN | apply below_drew1 | refine below_set ?_ GE107.out | refine below_set ?_ GE113.out) | exact HB.out)⟩
            (try clear BK107)
            (try clear BK113)
            (try clear HB)
            generalize (((w51.setCell ⟨gb113, 0, none⟩ (.int .i64 ((rd_T60 l0_1 x36_2).f0))).setCell ⟨gb113, 1, none⟩ (.int .i64 ((rd_T60 l0_1 x36_2).f1))).setCell ⟨gb113, 2, none⟩ (.int .i64 ((rd_T60 l0_1 x36_2).f2))) = w54 at n0_ n1_ n2_ ⊢
            have BK107 := n0_; have BK113 := n1_; have HB := n2_; clear n0_ n1_ n2_; replace BK107 := Aside0.mk (blk_drew BK107.out); replace BK113 := Aside0.mk (blk_drew BK113.out); replace HB := Aside0.mk (below_drew1 HB.out)
            refine start_ (n := 35) (S := fun w' => w'.cell? ⟨gb113, 0, none⟩ = some (.int .i64 ((rd_T60 l0_1 x36_2).f0)) ∧ w'.cell? ⟨gb113, 1, none⟩ = some (.int .i64 ((rd_T60 l0_1 x36_2).f1)) ∧ w'.cell? ⟨gb113, 2, none⟩ = some (.int .i64 ((rd_T60 l0_1 x36_2).f2)) ∧ w'.cell? ⟨gb107, 0, none⟩ = some (.string a0_0) ∧ w'.cell? ⟨gb107, 1, none⟩ = some (.slice (some ad112) l0_1.length c0_1) ∧ w'.cell? ⟨gb107, 2, none⟩ = some (.int .i64 a0_2) ∧ w'.cell? ⟨gb107, 3, none⟩ = some (.int .i64 a0_3) ∧ w'.cell? ⟨gb107, 4, none⟩ = some (.int .i64 a0_4)) (ds := []) #[false, false, false, false, false, false, false, false, false, false, false, false, false, false, false, false, false, false, false, false, false, false, false, false, false, false, false, false, false, false, false, false, false, false, false] (by kernel_rfl) rfl rfl ⟨(blk_cell BK113.out 0).trans rfl, (blk_cell BK113.out 1).trans rfl, (blk_cell BK113.out 2).trans rfl, (blk_cell BK107.out 0).trans rfl, (blk_cell BK107.out 1).trans rfl, (blk_cell BK107.out 2).trans rfl, (blk_cell BK107.out 3).trans rfl, (blk_cell BK107.out 4).trans rfl⟩ (fun hHeld => ?_); refine with_tabW spec_enGood.tab6 spec_enGood.bits6 (fun HT_ HW_ => ?_)
            generalize w54.drew = w55 at BK107 BK113 HB hHeld ⊢
            refine pure_ (i := 0) (N := some 41) (v := ?_) (a' := ?_) (XSq.bA 35 1) rfl rfl (any_of HT_.out (by kernel_rfl)) (fun _ _ _ h => h) (Or.inl ⟨by rfl, ?_⟩) ?_ ?_
            rotate_left
            ·
             intro w'
             go_simp
             with_reducible rfl
            rotate_left
            ·
             simp only [Act.put, XSq.p1, XSq.p2, XSq.p3, i64_w, i32_w]
             rfl
            refine take_ (i := 1) (N := some 42) (v := ?_) (a' := ?_) (XSq.bA 35 3) rfl rfl (take_ofW HT_.out HW_.out (by kernel_rfl)) (fun _ _ _ h => h) (Or.inl ⟨by rfl, ?_⟩) hHeld ?_ ?_
            rotate_left
            ·
             rintro w' ⟨s0, s1, s2, s3, s4, s5, s6, s7⟩
             go_simp
             with_reducible rfl
            rotate_left
            ·
             simp only [Act.put, XSq.p1, XSq.p2, XSq.p3, i64_w, i32_w]
             rfl
            refine one_ (i := 2) (N := some 43) (XSq.bA 35 7) rfl rfl (one_of HT_.out (by kernel_rfl)) (by decide) (fun K hK => ?_)
            refine goes_ Tryd.func46 (by kernel_rfl) rfl #[.int .i64 ((rd_T60 l0_1 x36_2).f0)] (by rfl) rfl rfl (by (try simp only [List.map_toArray, List.map_cons, List.map_nil]); first | done | rfl | (simp only [List.length_drop, List.length_take]; rfl)) ?_
            with_reducible refine (spec_enFar.calls ((rd_T60 l0_1 x36_2).f0) true _ A22.out).mono ?_
            rintro e w' ⟨rfl, ⟨nd, rfl⟩⟩
            refine ⟨_, rfl, ?_⟩
            refine hK.out _ _ ⟨(blk_cell BK113.out 0).trans rfl, (blk_cell BK113.out 1).trans rfl, (blk_cell BK113.out 2).trans rfl, (blk_cell BK107.out 0).trans rfl, (blk_cell BK107.out 1).trans rfl, (blk_cell BK107.out 2).trans rfl, (blk_cell BK107.out 3).trans rfl, (blk_cell BK107.out 4).trans rfl⟩ (fun hHeld => ?_)
            clear hK K
            refine norm_ (a' := ?_) ?_ ?_
            rotate_left
            ·
             show Act.put _ (some 43) _ = _
             simp only [Act.put, XSq.p1, XSq.p2, XSq.p3, i64_w, i32_w]
             rfl
            refine pure_ (i := 3) (N := some 44) (v := ?_) (a' := ?_) (XSq.bA 35 15) rfl rfl (any_of HT_.out (by kernel_rfl)) (fun _ _ _ h => h) (Or.inl ⟨by rfl, ?_⟩) ?_ ?_
            rotate_left
            ·
             intro w'
             go_simp
             with_reducible rfl
            rotate_left
            ·
             simp only [Act.put, XSq.p1, XSq.p2, XSq.p3, i64_w, i32_w]
             rfl
            refine pure_ (i := 4) (N := some 45) (v := ?_) (a' := ?_) (XSq.bA 35 31) rfl rfl (any_of HT_.out (by kernel_rfl)) (fun _ _ _ h => h) (Or.inl ⟨by rfl, ?_⟩) ?_ ?_
            rotate_left
            ·
             intro w'
             go_simp
             with_reducible rfl
            rotate_left
            ·
             simp only [Act.put, XSq.p1, XSq.p2, XSq.p3, i64_w, i32_w]
             rfl
            refine pure_ (i := 5) (N := some 46) (v := ?_) (a' := ?_) (XSq.bA 35 63) rfl rfl (any_of HT_.out (by kernel_rfl)) (fun _ _ _ h => h) (Or.inl ⟨by rfl, ?_⟩) ?_ ?_
            rotate_left
            ·
             intro w'
             go_simp
             with_reducible rfl
            rotate_left
            ·
             simp only [Act.put, XSq.p1, XSq.p2, XSq.p3, i64_w, i32_w]
             rfl
            refine take_ (i := 6) (N := some 47) (v := ?_) (a' := ?_) (XSq.bA 35 127) rfl rfl (take_ofW HT_.out HW_.out (by kernel_rfl)) (fun _ _ _ h => h) (Or.inl ⟨by rfl, ?_⟩) hHeld ?_ ?_
            rotate_left
            ·
             rintro w' ⟨s0, s1, s2, s3, s4, s5, s6, s7⟩
             go_simp
             with_reducible rfl
            rotate_left
            ·
             simp only [Act.put, XSq.p1, XSq.p2, XSq.p3, i64_w, i32_w]
             rfl
            refine one_ (i := 7) (N := some 48) (XSq.bA 35 255) rfl rfl (one_of HT_.out (by kernel_rfl)) (by decide) (fun K hK => ?_)
            refine goes_ Tryd.func46 (by kernel_rfl) rfl #[.int .i64 ((rd_T60 l0_1 x36_2).f1)] (by rfl) rfl rfl (by (try simp only [List.map_toArray, List.map_cons, List.map_nil]); first | done | rfl | (simp only [List.length_drop, List.length_take]; rfl)) ?_
            with_reducible refine (spec_enFar.calls ((rd_T60 l0_1 x36_2).f1) true _ A24.out).mono ?_
            rintro e w' ⟨rfl, ⟨nd, rfl⟩⟩
            refine ⟨_, rfl, ?_⟩
            refine hK.out _ _ ⟨(blk_cell BK113.out 0).trans rfl, (blk_cell BK113.out 1).trans rfl, (blk_cell BK113.out 2).trans rfl, (blk_cell BK107.out 0).trans rfl, (blk_cell BK107.out 1).trans rfl, (blk_cell BK107.out 2).trans rfl, (blk_cell BK107.out 3).trans rfl, (blk_cell BK107.out 4).trans rfl⟩ (fun hHeld => ?_)
            clear hK K
            refine norm_ (a' := ?_) ?_ ?_
            rotate_left
            ·
             show Act.put _ (some 48) _ = _
             simp only [Act.put, XSq.p1, XSq.p2, XSq.p3, i64_w, i32_w]
             rfl
            refine pure_ (i := 8) (N := some 49) (v := ?_) (a' := ?_) (XSq.bA 35 511) rfl rfl (any_of HT_.out (by kernel_rfl)) (fun _ _ _ h => h) (Or.inl ⟨by rfl, ?_⟩) ?_ ?_
            rotate_left
            ·
             intro w'
             go_simp
             with_reducible rfl
            rotate_left
            ·
             simp only [Act.put, XSq.p1, XSq.p2, XSq.p3, i64_w, i32_w]
             rfl
            refine pure_ (i := 9) (N := some 50) (v := ?_) (a' := ?_) (XSq.bA 35 1023) rfl rfl (any_of HT_.out (by kernel_rfl)) (fun _ _ _ h => h) (Or.inl ⟨by rfl, ?_⟩) ?_ ?_
            rotate_left
            ·
             intro w'
             go_simp
             with_reducible rfl
            rotate_left
            ·
             simp only [Act.put, XSq.p1, XSq.p2, XSq.p3, i64_w, i32_w]
             rfl
            refine pure_ (i := 10) (N := some 51) (v := ?_) (a' := ?_) (XSq.bA 35 2047) rfl rfl (any_of HT_.out (by kernel_rfl)) (fun _ _ _ h => h) (Or.inl ⟨by rfl, ?_⟩) ?_ ?_
            rotate_left
            ·
             intro w'
             go_simp
             with_reducible rfl
            rotate_left
            ·
             simp only [Act.put, XSq.p1, XSq.p2, XSq.p3, i64_w, i32_w]
             rfl
            refine pure_ (i := 11) (N := some 52) (v := ?_) (a' := ?_) (XSq.bA 35 4095) rfl rfl (any_of HT_.out (by kernel_rfl)) (fun _ _ _ h => h) (Or.inl ⟨by rfl, ?_⟩) ?_ ?_
            rotate_left
            ·
             intro w'
             go_simp
             with_reducible rfl
            rotate_left
            ·
             simp only [Act.put, XSq.p1, XSq.p2, XSq.p3, i64_w, i32_w]
             rfl
            refine pure_ (i := 13) (N := some 54) (v := ?_) (a' := ?_) (XSq.bA 35 12287) rfl rfl (any_of HT_.out (by kernel_rfl)) (fun _ _ _ h => h) (Or.inl ⟨by rfl, ?_⟩) ?_ ?_
            rotate_left
            ·
             intro w'
             go_simp
             with_reducible rfl
            rotate_left
            ·
             simp only [Act.put, XSq.p1, XSq.p2, XSq.p3, i64_w, i32_w]
             rfl
            refine take_ (i := 12) (N := some 53) (v := ?_) (a' := ?_) (XSq.bA 35 16383) rfl rfl (take_ofW HT_.out HW_.out (by kernel_rfl)) (fun _ _ _ h => h) (Or.inl ⟨by rfl, ?_⟩) hHeld ?_ ?_
            rotate_left
            ·
             rintro w' ⟨s0, s1, s2, s3, s4, s5, s6, s7⟩
             go_simp
             with_reducible rfl
            rotate_left
            ·
             simp only [Act.put, XSq.p1, XSq.p2, XSq.p3, i64_w, i32_w]
             rfl
            refine take_ (i := 14) (N := some 55) (v := ?_) (a' := ?_) (XSq.bA 35 32767) rfl rfl (take_ofW HT_.out HW_.out (by kernel_rfl)) (fun _ _ _ h => h) (Or.inl ⟨by rfl, ?_⟩) hHeld ?_ ?_
            rotate_left
            ·
             rintro w' ⟨s0, s1, s2, s3, s4, s5, s6, s7⟩
             go_simp
             with_reducible rfl
            rotate_left
            ·
             simp only [Act.put, XSq.p1, XSq.p2, XSq.p3, i64_w, i32_w]
             rfl
            refine pure_ (i := 15) (N := some 56) (v := ?_) (a' := ?_) (XSq.bA 35 65535) rfl rfl (any_of HT_.out (by kernel_rfl)) (fun _ _ _ h => h) (Or.inl ⟨by rfl, ?_⟩) ?_ ?_
            rotate_left
            ·
             intro w'
             go_simp
             with_reducible rfl
            rotate_left
            ·
             simp only [Act.put, XSq.p1, XSq.p2, XSq.p3, i64_w, i32_w]
             rfl
            refine pure_ (i := 16) (N := some 57) (v := ?_) (a' := ?_) (XSq.bA 35 131071) rfl rfl (any_of HT_.out (by kernel_rfl)) (fun _ _ _ h => h) (Or.inl ⟨by rfl, ?_⟩) ?_ ?_
            rotate_left
            ·
             intro w'
             go_simp
             with_reducible rfl
            rotate_left
            ·
             simp only [Act.put, XSq.p1, XSq.p2, XSq.p3, i64_w, i32_w]
             rfl
            refine one_ (i := 17) (N := some 58) (XSq.bA 35 262143) rfl rfl (one_of HT_.out (by kernel_rfl)) (by decide) (fun K hK => ?_)
            refine goes_ Tryd.func27 (by kernel_rfl) rfl #[.int .i64 ((rd_T60 l0_1 x36_2).f2), .int .i64 1, .int .i64 (wrap64 ((a0_0.size : Int) - 1))] (by rfl) rfl rfl (by (try simp only [List.map_toArray, List.map_cons, List.map_nil]); first | done | rfl | (simp only [List.length_drop, List.length_take]; rfl)) ?_
            with_reducible refine (spec_l1In.calls ((rd_T60 l0_1 x36_2).f2) 1 (wrap64 ((a0_0.size : Int) - 1)) false _ A26.out).mono ?_
            rintro e w' ⟨rfl, ⟨nd, rfl⟩⟩
            refine ⟨_, rfl, ?_⟩
            refine hK.out _ _ ⟨(blk_cell BK113.out 0).trans rfl, (blk_cell BK113.out 1).trans rfl, (blk_cell BK113.out 2).trans rfl, (blk_cell BK107.out 0).trans rfl, (blk_cell BK107.out 1).trans rfl, (blk_cell BK107.out 2).trans rfl, (blk_cell BK107.out 3).trans rfl, (blk_cell BK107.out 4).trans rfl⟩ (fun hHeld => ?_)
            clear hK K
            refine norm_ (a' := ?_) ?_ ?_
            rotate_left
            ·
             show Act.put _ (some 58) _ = _
             simp only [Act.put, XSq.p1, XSq.p2, XSq.p3, i64_w, i32_w]
             rfl
            refine pure_ (i := 18) (N := some 59) (v := ?_) (a' := ?_) (XSq.bA 35 524287) rfl rfl (any_of HT_.out (by kernel_rfl)) (fun _ _ _ h => h) (Or.inl ⟨by rfl, ?_⟩) ?_ ?_
            rotate_left
            ·
             intro w'
             go_simp
             with_reducible rfl
            rotate_left
            ·
             simp only [Act.put, XSq.p1, XSq.p2, XSq.p3, i64_w, i32_w]
             rfl
            refine pure_ (i := 19) (N := some 60) (v := ?_) (a' := ?_) (XSq.bA 35 1048575) rfl rfl (any_of HT_.out (by kernel_rfl)) (fun _ _ _ h => h) (Or.inl ⟨by rfl, ?_⟩) ?_ ?_
            rotate_left
            ·
             intro w'
             go_simp
             with_reducible rfl
            rotate_left
            ·
             simp only [Act.put, XSq.p1, XSq.p2, XSq.p3, i64_w, i32_w]
             rfl
            refine pure_ (i := 20) (N := some 61) (v := ?_) (a' := ?_) (XSq.bA 35 2097151) rfl rfl (any_of HT_.out (by kernel_rfl)) (fun _ _ _ h => h) (Or.inl ⟨by rfl, ?_⟩) ?_ ?_
            rotate_left
            ·
             intro w'
             go_simp
             with_reducible rfl
            rotate_left
            ·
             simp only [Act.put, XSq.p1, XSq.p2, XSq.p3, i64_w, i32_w]
             rfl
            refine pure_ (i := 21) (N := some 62) (v := undef) (a' := ?_) (XSq.bA 35 4194303) rfl rfl (any_of HT_.out (by kernel_rfl)) (fun _ _ _ h => h) (Or.inr ⟨by rfl, rfl⟩) ?_ ?_
            rotate_left
            ·
             simp only [Act.put, XSq.p1, XSq.p2, XSq.p3, i64_w, i32_w]
             rfl
            refine pure_ (i := 22) (N := some 63) (v := undef) (a' := ?_) (XSq.bA 35 8388607) rfl rfl (any_of HT_.out (by kernel_rfl)) (fun _ _ _ h => h) (Or.inr ⟨by rfl, rfl⟩) ?_ ?_
            rotate_left
            ·
             simp only [Act.put, XSq.p1, XSq.p2, XSq.p3, i64_w, i32_w]
             rfl
            refine pure_ (i := 23) (N := some 64) (v := undef) (a' := ?_) (XSq.bA 35 16777215) rfl rfl (any_of HT_.out (by kernel_rfl)) (fun _ _ _ h => h) (Or.inr ⟨by rfl, rfl⟩) ?_ ?_
            rotate_left
            ·
             simp only [Act.put, XSq.p1, XSq.p2, XSq.p3, i64_w, i32_w]
             rfl
            refine pure_ (i := 24) (N := some 65) (v := undef) (a' := ?_) (XSq.bA 35 33554431) rfl rfl (any_of HT_.out (by kernel_rfl)) (fun _ _ _ h => h) (Or.inr ⟨by rfl, rfl⟩) ?_ ?_
            rotate_left
            ·
             simp only [Act.put, XSq.p1, XSq.p2, XSq.p3, i64_w, i32_w]
             rfl
            refine pure_ (i := 25) (N := some 66) (v := undef) (a' := ?_) (XSq.bA 35 67108863) rfl rfl (any_of HT_.out (by kernel_rfl)) (fun _ _ _ h => h) (Or.inr ⟨by rfl, rfl⟩) ?_ ?_
            rotate_left
            ·
             simp only [Act.put, XSq.p1, XSq.p2, XSq.p3, i64_w, i32_w]
             rfl
            refine pure_ (i := 26) (N := some 67) (v := undef) (a' := ?_) (XSq.bA 35 134217727) rfl rfl (any_of HT_.out (by kernel_rfl)) (fun _ _ _ h => h) (Or.inr ⟨by rfl, rfl⟩) ?_ ?_
            rotate_left
            ·
             simp only [Act.put, XSq.p1, XSq.p2, XSq.p3, i64_w, i32_w]
             rfl
            refine pure_ (i := 27) (N := some 68) (v := undef) (a' := ?_) (XSq.bA 35 268435455) rfl rfl (any_of HT_.out (by kernel_rfl)) (fun _ _ _ h => h) (Or.inr ⟨by rfl, rfl⟩) ?_ ?_
            rotate_left
            ·
             simp only [Act.put, XSq.p1, XSq.p2, XSq.p3, i64_w, i32_w]
             rfl
            refine pure_ (i := 28) (N := some 69) (v := undef) (a' := ?_) (XSq.bA 35 536870911) rfl rfl (any_of HT_.out (by kernel_rfl)) (fun _ _ _ h => h) (Or.inr ⟨by rfl, rfl⟩) ?_ ?_
            rotate_left
            ·
             simp only [Act.put, XSq.p1, XSq.p2, XSq.p3, i64_w, i32_w]
             rfl
            refine pure_ (i := 29) (N := some 70) (v := undef) (a' := ?_) (XSq.bA 35 1073741823) rfl rfl (any_of HT_.out (by kernel_rfl)) (fun _ _ _ h => h) (Or.inr ⟨by rfl, rfl⟩) ?_ ?_
            rotate_left
            ·
             simp only [Act.put, XSq.p1, XSq.p2, XSq.p3, i64_w, i32_w]
             rfl
            refine pure_ (i := 30) (N := some 71) (v := undef) (a' := ?_) (XSq.bA 35 2147483647) rfl rfl (any_of HT_.out (by kernel_rfl)) (fun _ _ _ h => h) (Or.inr ⟨by rfl, rfl⟩) ?_ ?_
            rotate_left
            ·
             simp only [Act.put, XSq.p1, XSq.p2, XSq.p3, i64_w, i32_w]
             rfl
            refine pure_ (i := 31) (N := some 72) (v := undef) (a' := ?_) (XSq.bA 35 4294967295) rfl rfl (any_of HT_.out (by kernel_rfl)) (fun _ _ _ h => h) (Or.inr ⟨by rfl, rfl⟩) ?_ ?_
            rotate_left
            ·
             simp only [Act.put, XSq.p1, XSq.p2, XSq.p3, i64_w, i32_w]
             rfl
            refine pure_ (i := 32) (N := some 73) (v := undef) (a' := ?_) (XSq.bA 35 8589934591) rfl rfl (any_of HT_.out (by kernel_rfl)) (fun _ _ _ h => h) (Or.inr ⟨by rfl, rfl⟩) ?_ ?_
            rotate_left
            ·
             simp only [Act.put, XSq.p1, XSq.p2, XSq.p3, i64_w, i32_w]
             rfl
            refine pure_ (i := 33) (N := some 74) (v := undef) (a' := ?_) (XSq.bA 35 17179869183) rfl rfl (any_of HT_.out (by kernel_rfl)) (fun _ _ _ h => h) (Or.inr ⟨by rfl, rfl⟩) ?_ ?_
            rotate_left
            ·
             simp only [Act.put, XSq.p1, XSq.p2, XSq.p3, i64_w, i32_w]
             rfl
            refine pure_ (i := 34) (N := some 75) (v := ?_) (a' := ?_) (XSq.bA 35 34359738367) rfl rfl (any_of HT_.out (by kernel_rfl)) (fun _ _ _ h => h) (Or.inl ⟨by rfl, ?_⟩) ?_ ?_
            rotate_left
            ·
             intro w'
             go_simp
             with_reducible rfl
            rotate_left
            ·
             simp only [Act.put, XSq.p1, XSq.p2, XSq.p3, i64_w, i32_w]
             rfl
            refine done_ (done_of HT_.out (by kernel_rfl)) ?_
            try go_wp2
            go_ret
            exact ⟨by first | rfl | (simp [errW_none, errW_some] <;> rfl) | (simp [*, errW_none, errW_some] <;> rfl), by repeat (first | (with_reducible first | exact HB.out | apply below_alloc | apply pw_below_drewN | apply below_drew1 | refine below_set ?_ GE107.out | refine below_set ?_ GE113.out) | exact HB.out)⟩
          ·
           replace c25 := Bool.eq_false_iff.mpr c25; subst c25
           have H1 : (some false) = some r := by rw [if_neg (show ¬ (false = true) by decide)] at H; exact H
           clear H; have H := H1; clear H1; obtain rfl := Option.some.inj H; have p112 : 0 ≤ (x36_2 : Int) := of_decide_eq_true (by first | (with_reducible assumption) | assumption); have q112 : x36_2 < (l0_1.length : Int) := of_decide_eq_true (by first | (with_reducible assumption) | assumption); obtain ⟨ad112, e112, hx112_0, hx112_1, hx112_2⟩ := at_T60 HR0_1.out x36_2 p112 q112; cases e112; replace hx112_0 := (HB.out.cell (World.block_lt_of_cell? w _ hx112_0)).trans hx112_0; replace hx112_1 := (HB.out.cell (World.block_lt_of_cell? w _ hx112_1)).trans hx112_1; replace hx112_2 := (HB.out.cell (World.block_lt_of_cell? w _ hx112_2)).trans hx112_2; replace p112 := eq_true p112; replace q112 := eq_true q112
           try go_wp2_with (first | ((with_reducible refine gate_dst (N := 4) rfl ?_); (try (refine gate_guard (by rfl) ?_; dsimp only)); refine box_event ?hg (N := 4) ?hd (cs := #[.int .i64 0, .int .i64 0, .int .i64 0]) (t := 60) ?hr ?_; (case hd => rfl); (case hg => rfl); (case hr => first | (go_simp; done) | (go_simp; rfl)); intro gb113 hg w56 hbox hb; have BK113 := Aside0.mk (hbox); have GW113 := XSq.gw hg (XSq.bB HB); have GE113 := XSq.gw hg (XSq.bB HB); have NB107_113 := XSq.nl hg (XSq.bq BK107); have NB113_107 := XSq.nr hg (XSq.bq BK107); replace BK107 := XSq.bb BK107 hb; replace HB := Aside0.mk (below_step (XSq.bB HB) hb); clear hb hbox hg; have hnb57 := NB113_107.out; have hnc57 := NB107_113.out; have hcz58_0 := XSq.ck BK113 0; have hcz58_1 := XSq.ck BK113 1; have hcz58_2 := XSq.ck BK113 2; have hfz58_0 := blk_frozen BK113.out 0; have hfz58_1 := blk_frozen BK113.out 1; have hfz58_2 := blk_frozen BK113.out 2))
           have n0_ : Aside0 ((((w56.setCell ⟨gb113, 0, none⟩ (.int .i64 ((rd_T60 l0_1 x36_2).f0))).setCell ⟨gb113, 1, none⟩ (.int .i64 ((rd_T60 l0_1 x36_2).f1))).setCell ⟨gb113, 2, none⟩ (.int .i64 ((rd_T60 l0_1 x36_2).f2))).heap[gb107]? = some (.cells #[.string a0_0, .slice (some ad112) l0_1.length c0_1, .int .i64 a0_2, .int .i64 a0_3, .int .i64 a0_4] 28 (0, 0))) := ⟨by (with_reducible repeat (first | refine blk_drewN ?_ _ | refine blk_drew ?_ | refine blk_alloc ?_ _)); refine blk_far ?_ NB107_113.out _; (with_reducible repeat (first | refine blk_drewN ?_ _ | refine blk_drew ?_ | refine blk_alloc ?_ _)); refine blk_far ?_ NB107_113.out _; (with_reducible repeat (first | refine blk_drewN ?_ _ | refine blk_drew ?_ | refine blk_alloc ?_ _)); refine blk_far ?_ NB107_113.out _; (with_reducible repeat (first | refine blk_drewN ?_ _ | refine blk_drew ?_ | refine blk_alloc ?_ _)); exact BK107.out⟩; have n1_ : Aside0 ((((w56.setCell ⟨gb113, 0, none⟩ (.int .i64 ((rd_T60 l0_1 x36_2).f0))).setCell ⟨gb113, 1, none⟩ (.int .i64 ((rd_T60 l0_1 x36_2).f1))).setCell ⟨gb113, 2, none⟩ (.int .i64 ((rd_T60 l0_1 x36_2).f2))).heap[gb113]? = some (.cells #[.int .i64 ((rd_T60 l0_1 x36_2).f0), .int .i64 ((rd_T60 l0_1 x36_2).f1), .int .i64 ((rd_T60 l0_1 x36_2).f2)] 60 (0, 0))) := ⟨by (with_reducible repeat (first | refine blk_drewN ?_ _ | refine blk_drew ?_ | refine blk_alloc ?_ _)); refine blk_put (cs := #[.int .i64 ((rd_T60 l0_1 x36_2).f0), .int .i64 ((rd_T60 l0_1 x36_2).f1), .int .i64 0]) ?_ 2 _ rfl; (with_reducible repeat (first | refine blk_drewN ?_ _ | refine blk_drew ?_ | refine blk_alloc ?_ _)); refine blk_put (cs := #[.int .i64 ((rd_T60 l0_1 x36_2).f0), .int .i64 0, .int .i64 0]) ?_ 1 _ rfl; (with_reducible repeat (first | refine blk_drewN ?_ _ | refine blk_drew ?_ | refine blk_alloc ?_ _)); refine blk_put (cs := #[.int .i64 0, .int .i64 0, .int .i64 0]) ?_ 0 _ rfl; (with_reducible repeat (first | refine blk_drewN ?_ _ | refine blk_drew ?_ | refine blk_alloc ?_ _)); exact BK113.out⟩; have n2_ : Aside0 (Below w.heap.size w (((w56.setCell ⟨gb113, 0, none⟩ (.int .i64 ((rd_T60 l0_1 x36_2).f0))).setCell ⟨gb113, 1, none⟩ (.int .i64 ((rd_T60 l0_1 x36_2).f1))).setCell ⟨gb113, 2, none⟩ (.int .i64 ((rd_T60 l0_1 x36_2).f2)))) := ⟨by repeat (first | (with_reducible first | exact HB.out | apply below_alloc | apply pw_below_drewN | apply below_drew1 | refine below_set ?_ GE107.out | refine below_set ?_ GE113.out) | exact HB.out)⟩
           (try clear BK107)
           (try clear BK113)
           (try clear HB)
           generalize (((w56.setCell ⟨gb113, 0, none⟩ (.int .i64 ((rd_T60 l0_1 x36_2).f0))).setCell ⟨gb113, 1, none⟩ (.int .i64 ((rd_T60 l0_1 x36_2).f1))).setCell ⟨gb113, 2, none⟩ (.int .i64 ((rd_T60 l0_1 x36_2).f2))) = w59 at n0_ n1_ n2_ ⊢
           have BK107 := n0_; have BK113 := n1_; have HB := n2_; clear n0_ n1_ n2_; replace BK107 := Aside0.mk (blk_drew BK107.out); replace BK113 := Aside0.mk (blk_drew BK113.out); replace HB := Aside0.mk (below_drew1 HB.out)
           refine start_ (n := 35) (S := fun w' => w'.cell? ⟨gb113, 0, none⟩ = some (.int .i64 ((rd_T60 l0_1 x36_2).f0)) ∧ w'.cell? ⟨gb113, 1, none⟩ = some (.int .i64 ((rd_T60 l0_1 x36_2).f1)) ∧ w'.cell? ⟨gb113, 2, none⟩ = some (.int .i64 ((rd_T60 l0_1 x36_2).f2))) (ds := []) #[false, false, false, false, false, false, false, false, false, false, false, false, false, false, false, false, false, false, false, false, false, false, false, false, false, false, false, false, false, false, false, false, false, false, false] (by kernel_rfl) rfl rfl ⟨(blk_cell BK113.out 0).trans rfl, (blk_cell BK113.out 1).trans rfl, (blk_cell BK113.out 2).trans rfl⟩ (fun hHeld => ?_); refine with_tabW spec_enGood.tab6 spec_enGood.bits6 (fun HT_ HW_ => ?_)
           generalize w59.drew = w60 at BK107 BK113 HB hHeld ⊢
           refine pure_ (i := 0) (N := some 41) (v := ?_) (a' := ?_) (XSq.bA 35 1) rfl rfl (any_of HT_.out (by kernel_rfl)) (fun _ _ _ h => h) (Or.inl ⟨by rfl, ?_⟩) ?_ ?_
           rotate_left
           ·
            intro w'
            go_simp
            with_reducible rfl
           rotate_left
           ·
            simp only [Act.put, XSq.p1, XSq.p2, XSq.p3, i64_w, i32_w]
            rfl
           refine take_ (i := 1) (N := some 42) (v := ?_) (a' := ?_) (XSq.bA 35 3) rfl rfl (take_ofW HT_.out HW_.out (by kernel_rfl)) (fun _ _ _ h => h) (Or.inl ⟨by rfl, ?_⟩) hHeld ?_ ?_
           rotate_left
           ·
            rintro w' ⟨s0, s1, s2⟩
            go_simp
            with_reducible rfl
           rotate_left
           ·
            simp only [Act.put, XSq.p1, XSq.p2, XSq.p3, i64_w, i32_w]
            rfl
           refine one_ (i := 2) (N := some 43) (XSq.bA 35 7) rfl rfl (one_of HT_.out (by kernel_rfl)) (by decide) (fun K hK => ?_)
           refine goes_ Tryd.func46 (by kernel_rfl) rfl #[.int .i64 ((rd_T60 l0_1 x36_2).f0)] (by rfl) rfl rfl (by (try simp only [List.map_toArray, List.map_cons, List.map_nil]); first | done | rfl | (simp only [List.length_drop, List.length_take]; rfl)) ?_
           with_reducible refine (spec_enFar.calls ((rd_T60 l0_1 x36_2).f0) true _ A22.out).mono ?_
           rintro e w' ⟨rfl, ⟨nd, rfl⟩⟩
           refine ⟨_, rfl, ?_⟩
           refine hK.out _ _ ⟨(blk_cell BK113.out 0).trans rfl, (blk_cell BK113.out 1).trans rfl, (blk_cell BK113.out 2).trans rfl⟩ (fun hHeld => ?_)
           clear hK K
           refine norm_ (a' := ?_) ?_ ?_
           rotate_left
           ·
            show Act.put _ (some 43) _ = _
            simp only [Act.put, XSq.p1, XSq.p2, XSq.p3, i64_w, i32_w]
            rfl
           refine pure_ (i := 3) (N := some 44) (v := ?_) (a' := ?_) (XSq.bA 35 15) rfl rfl (any_of HT_.out (by kernel_rfl)) (fun _ _ _ h => h) (Or.inl ⟨by rfl, ?_⟩) ?_ ?_
           rotate_left
           ·
            intro w'
            go_simp
            with_reducible rfl
           rotate_left
           ·
            simp only [Act.put, XSq.p1, XSq.p2, XSq.p3, i64_w, i32_w]
            rfl
           refine pure_ (i := 4) (N := some 45) (v := ?_) (a' := ?_) (XSq.bA 35 31) rfl rfl (any_of HT_.out (by kernel_rfl)) (fun _ _ _ h => h) (Or.inl ⟨by rfl, ?_⟩) ?_ ?_
           rotate_left
           ·
            intro w'
            go_simp
            with_reducible rfl
           rotate_left
           ·
            simp only [Act.put, XSq.p1, XSq.p2, XSq.p3, i64_w, i32_w]
            rfl
           refine pure_ (i := 5) (N := some 46) (v := ?_) (a' := ?_) (XSq.bA 35 63) rfl rfl (any_of HT_.out (by kernel_rfl)) (fun _ _ _ h => h) (Or.inl ⟨by rfl, ?_⟩) ?_ ?_
           rotate_left
           ·
            intro w'
            go_simp
            with_reducible rfl
           rotate_left
           ·
            simp only [Act.put, XSq.p1, XSq.p2, XSq.p3, i64_w, i32_w]
            rfl
           refine take_ (i := 6) (N := some 47) (v := ?_) (a' := ?_) (XSq.bA 35 127) rfl rfl (take_ofW HT_.out HW_.out (by kernel_rfl)) (fun _ _ _ h => h) (Or.inl ⟨by rfl, ?_⟩) hHeld ?_ ?_
           rotate_left
           ·
            rintro w' ⟨s0, s1, s2⟩
            go_simp
            with_reducible rfl
           rotate_left
           ·
            simp only [Act.put, XSq.p1, XSq.p2, XSq.p3, i64_w, i32_w]
            rfl
           refine one_ (i := 7) (N := some 48) (XSq.bA 35 255) rfl rfl (one_of HT_.out (by kernel_rfl)) (by decide) (fun K hK => ?_)
           refine goes_ Tryd.func46 (by kernel_rfl) rfl #[.int .i64 ((rd_T60 l0_1 x36_2).f1)] (by rfl) rfl rfl (by (try simp only [List.map_toArray, List.map_cons, List.map_nil]); first | done | rfl | (simp only [List.length_drop, List.length_take]; rfl)) ?_
           with_reducible refine (spec_enFar.calls ((rd_T60 l0_1 x36_2).f1) false _ A24.out).mono ?_
           rintro e w' ⟨rfl, ⟨nd, rfl⟩⟩
           refine ⟨_, rfl, ?_⟩
           refine hK.out _ _ ⟨(blk_cell BK113.out 0).trans rfl, (blk_cell BK113.out 1).trans rfl, (blk_cell BK113.out 2).trans rfl⟩ (fun hHeld => ?_)
           clear hK K
           refine norm_ (a' := ?_) ?_ ?_
           rotate_left
           ·
            show Act.put _ (some 48) _ = _
            simp only [Act.put, XSq.p1, XSq.p2, XSq.p3, i64_w, i32_w]
            rfl
           refine pure_ (i := 8) (N := some 49) (v := ?_) (a' := ?_) (XSq.bA 35 511) rfl rfl (any_of HT_.out (by kernel_rfl)) (fun _ _ _ h => h) (Or.inl ⟨by rfl, ?_⟩) ?_ ?_
           rotate_left
           ·
            intro w'
            go_simp
            with_reducible rfl
           rotate_left
           ·
            simp only [Act.put, XSq.p1, XSq.p2, XSq.p3, i64_w, i32_w]
            rfl
           refine pure_ (i := 9) (N := some 50) (v := ?_) (a' := ?_) (XSq.bA 35 1023) rfl rfl (any_of HT_.out (by kernel_rfl)) (fun _ _ _ h => h) (Or.inl ⟨by rfl, ?_⟩) ?_ ?_
           rotate_left
           ·
            intro w'
            go_simp
            with_reducible rfl
           rotate_left
           ·
            simp only [Act.put, XSq.p1, XSq.p2, XSq.p3, i64_w, i32_w]
            rfl
           refine pure_ (i := 10) (N := some 51) (v := ?_) (a' := ?_) (XSq.bA 35 2047) rfl rfl (any_of HT_.out (by kernel_rfl)) (fun _ _ _ h => h) (Or.inl ⟨by rfl, ?_⟩) ?_ ?_
           rotate_left
           ·
            intro w'
            go_simp
            with_reducible rfl
           rotate_left
           ·
            simp only [Act.put, XSq.p1, XSq.p2, XSq.p3, i64_w, i32_w]
            rfl
           refine pure_ (i := 11) (N := some 52) (v := undef) (a' := ?_) (XSq.bA 35 4095) rfl rfl (any_of HT_.out (by kernel_rfl)) (fun _ _ _ h => h) (Or.inr ⟨by rfl, rfl⟩) ?_ ?_
           rotate_left
           ·
            simp only [Act.put, XSq.p1, XSq.p2, XSq.p3, i64_w, i32_w]
            rfl
           refine pure_ (i := 12) (N := some 53) (v := undef) (a' := ?_) (XSq.bA 35 8191) rfl rfl (any_of HT_.out (by kernel_rfl)) (fun _ _ _ h => h) (Or.inr ⟨by rfl, rfl⟩) ?_ ?_
           rotate_left
           ·
            simp only [Act.put, XSq.p1, XSq.p2, XSq.p3, i64_w, i32_w]
            rfl
           refine pure_ (i := 13) (N := some 54) (v := undef) (a' := ?_) (XSq.bA 35 16383) rfl rfl (any_of HT_.out (by kernel_rfl)) (fun _ _ _ h => h) (Or.inr ⟨by rfl, rfl⟩) ?_ ?_
           rotate_left
           ·
            simp only [Act.put, XSq.p1, XSq.p2, XSq.p3, i64_w, i32_w]
            rfl
           refine pure_ (i := 14) (N := some 55) (v := undef) (a' := ?_) (XSq.bA 35 32767) rfl rfl (any_of HT_.out (by kernel_rfl)) (fun _ _ _ h => h) (Or.inr ⟨by rfl, rfl⟩) ?_ ?_
           rotate_left
           ·
            simp only [Act.put, XSq.p1, XSq.p2, XSq.p3, i64_w, i32_w]
            rfl
           refine pure_ (i := 15) (N := some 56) (v := undef) (a' := ?_) (XSq.bA 35 65535) rfl rfl (any_of HT_.out (by kernel_rfl)) (fun _ _ _ h => h) (Or.inr ⟨by rfl, rfl⟩) ?_ ?_
           rotate_left
           ·
            simp only [Act.put, XSq.p1, XSq.p2, XSq.p3, i64_w, i32_w]
            rfl
           refine pure_ (i := 16) (N := some 57) (v := undef) (a' := ?_) (XSq.bA 35 131071) rfl rfl (any_of HT_.out (by kernel_rfl)) (fun _ _ _ h => h) (Or.inr ⟨by rfl, rfl⟩) ?_ ?_
           rotate_left
           ·
            simp only [Act.put, XSq.p1, XSq.p2, XSq.p3, i64_w, i32_w]
            rfl
           refine pure_ (i := 17) (N := some 58) (v := undef) (a' := ?_) (XSq.bA 35 262143) rfl rfl (any_of HT_.out (by kernel_rfl)) (fun _ _ _ h => h) (Or.inr ⟨by rfl, rfl⟩) ?_ ?_
           rotate_left
           ·
            simp only [Act.put, XSq.p1, XSq.p2, XSq.p3, i64_w, i32_w]
            rfl
           refine pure_ (i := 18) (N := some 59) (v := undef) (a' := ?_) (XSq.bA 35 524287) rfl rfl (any_of HT_.out (by kernel_rfl)) (fun _ _ _ h => h) (Or.inr ⟨by rfl, rfl⟩) ?_ ?_
           rotate_left
           ·
            simp only [Act.put, XSq.p1, XSq.p2, XSq.p3, i64_w, i32_w]
            rfl
           refine pure_ (i := 19) (N := some 60) (v := ?_) (a' := ?_) (XSq.bA 35 1048575) rfl rfl (any_of HT_.out (by kernel_rfl)) (fun _ _ _ h => h) (Or.inl ⟨by rfl, ?_⟩) ?_ ?_
           rotate_left
           ·
            intro w'
            go_simp
            with_reducible rfl
           rotate_left
           ·
            simp only [Act.put, XSq.p1, XSq.p2, XSq.p3, i64_w, i32_w]
            rfl
           refine pure_ (i := 20) (N := some 61) (v := ?_) (a' := ?_) (XSq.bA 35 2097151) rfl rfl (any_of HT_.out (by kernel_rfl)) (fun _ _ _ h => h) (Or.inl ⟨by rfl, ?_⟩) ?_ ?_
           rotate_left
           ·
            intro w'
            go_simp
            with_reducible rfl
           rotate_left
           ·
            simp only [Act.put, XSq.p1, XSq.p2, XSq.p3, i64_w, i32_w]
            rfl
           refine pure_ (i := 21) (N := some 62) (v := undef) (a' := ?_) (XSq.bA 35 4194303) rfl rfl (any_of HT_.out (by kernel_rfl)) (fun _ _ _ h => h) (Or.inr ⟨by rfl, rfl⟩) ?_ ?_
           rotate_left
           ·
            simp only [Act.put, XSq.p1, XSq.p2, XSq.p3, i64_w, i32_w]
            rfl
           refine pure_ (i := 22) (N := some 63) (v := undef) (a' := ?_) (XSq.bA 35 8388607) rfl rfl (any_of HT_.out (by kernel_rfl)) (fun _ _ _ h => h) (Or.inr ⟨by rfl, rfl⟩) ?_ ?_
           rotate_left
           ·
            simp only [Act.put, XSq.p1, XSq.p2, XSq.p3, i64_w, i32_w]
            rfl
           refine pure_ (i := 23) (N := some 64) (v := undef) (a' := ?_) (XSq.bA 35 16777215) rfl rfl (any_of HT_.out (by kernel_rfl)) (fun _ _ _ h => h) (Or.inr ⟨by rfl, rfl⟩) ?_ ?_
           rotate_left
           ·
            simp only [Act.put, XSq.p1, XSq.p2, XSq.p3, i64_w, i32_w]
            rfl
           refine pure_ (i := 24) (N := some 65) (v := undef) (a' := ?_) (XSq.bA 35 33554431) rfl rfl (any_of HT_.out (by kernel_rfl)) (fun _ _ _ h => h) (Or.inr ⟨by rfl, rfl⟩) ?_ ?_
           rotate_left
           ·
            simp only [Act.put, XSq.p1, XSq.p2, XSq.p3, i64_w, i32_w]
            rfl
           refine pure_ (i := 25) (N := some 66) (v := undef) (a' := ?_) (XSq.bA 35 67108863) rfl rfl (any_of HT_.out (by kernel_rfl)) (fun _ _ _ h => h) (Or.inr ⟨by rfl, rfl⟩) ?_ ?_
           rotate_left
           ·
            simp only [Act.put, XSq.p1, XSq.p2, XSq.p3, i64_w, i32_w]
            rfl
           refine pure_ (i := 26) (N := some 67) (v := undef) (a' := ?_) (XSq.bA 35 134217727) rfl rfl (any_of HT_.out (by kernel_rfl)) (fun _ _ _ h => h) (Or.inr ⟨by rfl, rfl⟩) ?_ ?_
           rotate_left
           ·
            simp only [Act.put, XSq.p1, XSq.p2, XSq.p3, i64_w, i32_w]
            rfl
           refine pure_ (i := 27) (N := some 68) (v := undef) (a' := ?_) (XSq.bA 35 268435455) rfl rfl (any_of HT_.out (by kernel_rfl)) (fun _ _ _ h => h) (Or.inr ⟨by rfl, rfl⟩) ?_ ?_
           rotate_left
           ·
            simp only [Act.put, XSq.p1, XSq.p2, XSq.p3, i64_w, i32_w]
            rfl
           refine pure_ (i := 28) (N := some 69) (v := undef) (a' := ?_) (XSq.bA 35 536870911) rfl rfl (any_of HT_.out (by kernel_rfl)) (fun _ _ _ h => h) (Or.inr ⟨by rfl, rfl⟩) ?_ ?_
           rotate_left
           ·
            simp only [Act.put, XSq.p1, XSq.p2, XSq.p3, i64_w, i32_w]
            rfl
           refine pure_ (i := 29) (N := some 70) (v := undef) (a' := ?_) (XSq.bA 35 1073741823) rfl rfl (any_of HT_.out (by kernel_rfl)) (fun _ _ _ h => h) (Or.inr ⟨by rfl, rfl⟩) ?_ ?_
           rotate_left
           ·
            simp only [Act.put, XSq.p1, XSq.p2, XSq.p3, i64_w, i32_w]
            rfl
           refine pure_ (i := 30) (N := some 71) (v := undef) (a' := ?_) (XSq.bA 35 2147483647) rfl rfl (any_of HT_.out (by kernel_rfl)) (fun _ _ _ h => h) (Or.inr ⟨by rfl, rfl⟩) ?_ ?_
           rotate_left
           ·
            simp only [Act.put, XSq.p1, XSq.p2, XSq.p3, i64_w, i32_w]
            rfl
           refine pure_ (i := 31) (N := some 72) (v := undef) (a' := ?_) (XSq.bA 35 4294967295) rfl rfl (any_of HT_.out (by kernel_rfl)) (fun _ _ _ h => h) (Or.inr ⟨by rfl, rfl⟩) ?_ ?_
           rotate_left
           ·
            simp only [Act.put, XSq.p1, XSq.p2, XSq.p3, i64_w, i32_w]
            rfl
           refine pure_ (i := 32) (N := some 73) (v := undef) (a' := ?_) (XSq.bA 35 8589934591) rfl rfl (any_of HT_.out (by kernel_rfl)) (fun _ _ _ h => h) (Or.inr ⟨by rfl, rfl⟩) ?_ ?_
           rotate_left
           ·
            simp only [Act.put, XSq.p1, XSq.p2, XSq.p3, i64_w, i32_w]
            rfl
           refine pure_ (i := 33) (N := some 74) (v := undef) (a' := ?_) (XSq.bA 35 17179869183) rfl rfl (any_of HT_.out (by kernel_rfl)) (fun _ _ _ h => h) (Or.inr ⟨by rfl, rfl⟩) ?_ ?_
           rotate_left
           ·
            simp only [Act.put, XSq.p1, XSq.p2, XSq.p3, i64_w, i32_w]
            rfl
           refine pure_ (i := 34) (N := some 75) (v := ?_) (a' := ?_) (XSq.bA 35 34359738367) rfl rfl (any_of HT_.out (by kernel_rfl)) (fun _ _ _ h => h) (Or.inl ⟨by rfl, ?_⟩) ?_ ?_
           rotate_left
           ·
            intro w'
            go_simp
            with_reducible rfl
           rotate_left
           ·
            simp only [Act.put, XSq.p1, XSq.p2, XSq.p3, i64_w, i32_w]
            rfl
           refine done_ (done_of HT_.out (by kernel_rfl)) ?_
           try go_wp2
           go_ret
           exact ⟨by first | rfl | (simp [errW_none, errW_some] <;> rfl) | (simp [*, errW_none, errW_some] <;> rfl), by repeat (first | (with_reducible first | exact HB.out | apply below_alloc | apply pw_below_drewN | apply below_drew1 | refine below_set ?_ GE107.out | refine below_set ?_ GE113.out) | exact HB.out)⟩
         ·
          replace c23 := Bool.eq_false_iff.mpr c23; subst c23
          have H1 : (some false) = some r := by rw [if_neg (show ¬ (false = true) by decide)] at H; exact H
          clear H; have H := H1; clear H1; obtain rfl := Option.some.inj H; have p112 : 0 ≤ (x36_2 : Int) := of_decide_eq_true (by first | (with_reducible assumption) | assumption); have q112 : x36_2 < (l0_1.length : Int) := of_decide_eq_true (by first | (with_reducible assumption) | assumption); obtain ⟨ad112, e112, hx112_0, hx112_1, hx112_2⟩ := at_T60 HR0_1.out x36_2 p112 q112; cases e112; replace hx112_0 := (HB.out.cell (World.block_lt_of_cell? w _ hx112_0)).trans hx112_0; replace hx112_1 := (HB.out.cell (World.block_lt_of_cell? w _ hx112_1)).trans hx112_1; replace hx112_2 := (HB.out.cell (World.block_lt_of_cell? w _ hx112_2)).trans hx112_2; replace p112 := eq_true p112; replace q112 := eq_true q112
          try go_wp2_with (first | ((with_reducible refine gate_dst (N := 4) rfl ?_); (try (refine gate_guard (by rfl) ?_; dsimp only)); refine box_event ?hg (N := 4) ?hd (cs := #[.int .i64 0, .int .i64 0, .int .i64 0]) (t := 60) ?hr ?_; (case hd => rfl); (case hg => rfl); (case hr => first | (go_simp; done) | (go_simp; rfl)); intro gb113 hg w61 hbox hb; have BK113 := Aside0.mk (hbox); have GW113 := XSq.gw hg (XSq.bB HB); have GE113 := XSq.gw hg (XSq.bB HB); have NB107_113 := XSq.nl hg (XSq.bq BK107); have NB113_107 := XSq.nr hg (XSq.bq BK107); replace BK107 := XSq.bb BK107 hb; replace HB := Aside0.mk (below_step (XSq.bB HB) hb); clear hb hbox hg; have hnb62 := NB113_107.out; have hnc62 := NB107_113.out; have hcz63_0 := XSq.ck BK113 0; have hcz63_1 := XSq.ck BK113 1; have hcz63_2 := XSq.ck BK113 2; have hfz63_0 := blk_frozen BK113.out 0; have hfz63_1 := blk_frozen BK113.out 1; have hfz63_2 := blk_frozen BK113.out 2))
          have n0_ : Aside0 ((((w61.setCell ⟨gb113, 0, none⟩ (.int .i64 ((rd_T60 l0_1 x36_2).f0))).setCell ⟨gb113, 1, none⟩ (.int .i64 ((rd_T60 l0_1 x36_2).f1))).setCell ⟨gb113, 2, none⟩ (.int .i64 ((rd_T60 l0_1 x36_2).f2))).heap[gb107]? = some (.cells #[.string a0_0, .slice (some ad112) l0_1.length c0_1, .int .i64 a0_2, .int .i64 a0_3, .int .i64 a0_4] 28 (0, 0))) := ⟨by (with_reducible repeat (first | refine blk_drewN ?_ _ | refine blk_drew ?_ | refine blk_alloc ?_ _)); refine blk_far ?_ NB107_113.out _; (with_reducible repeat (first | refine blk_drewN ?_ _ | refine blk_drew ?_ | refine blk_alloc ?_ _)); refine blk_far ?_ NB107_113.out _; (with_reducible repeat (first | refine blk_drewN ?_ _ | refine blk_drew ?_ | refine blk_alloc ?_ _)); refine blk_far ?_ NB107_113.out _; (with_reducible repeat (first | refine blk_drewN ?_ _ | refine blk_drew ?_ | refine blk_alloc ?_ _)); exact BK107.out⟩; have n1_ : Aside0 ((((w61.setCell ⟨gb113, 0, none⟩ (.int .i64 ((rd_T60 l0_1 x36_2).f0))).setCell ⟨gb113, 1, none⟩ (.int .i64 ((rd_T60 l0_1 x36_2).f1))).setCell ⟨gb113, 2, none⟩ (.int .i64 ((rd_T60 l0_1 x36_2).f2))).heap[gb113]? = some (.cells #[.int .i64 ((rd_T60 l0_1 x36_2).f0), .int .i64 ((rd_T60 l0_1 x36_2).f1), .int .i64 ((rd_T60 l0_1 x36_2).f2)] 60 (0, 0))) := ⟨by (with_reducible repeat (first | refine blk_drewN ?_ _ | refine blk_drew ?_ | refine blk_alloc ?_ _)); refine blk_put (cs := #[.int .i64 ((rd_T60 l0_1 x36_2).f0), .int .i64 ((rd_T60 l0_1 x36_2).f1), .int .i64 0]) ?_ 2 _ rfl; (with_reducible repeat (first | refine blk_drewN ?_ _ | refine blk_drew ?_ | refine blk_alloc ?_ _)); refine blk_put (cs := #[.int .i64 ((rd_T60 l0_1 x36_2).f0), .int .i64 0, .int .i64 0]) ?_ 1 _ rfl; (with_reducible repeat (first | refine blk_drewN ?_ _ | refine blk_drew ?_ | refine blk_alloc ?_ _)); refine blk_put (cs := #[.int .i64 0, .int .i64 0, .int .i64 0]) ?_ 0 _ rfl; (with_reducible repeat (first | refine blk_drewN ?_ _ | refine blk_drew ?_ | refine blk_alloc ?_ _)); exact BK113.out⟩; have n2_ : Aside0 (Below w.heap.size w (((w61.setCell ⟨gb113, 0, none⟩ (.int .i64 ((rd_T60 l0_1 x36_2).f0))).setCell ⟨gb113, 1, none⟩ (.int .i64 ((rd_T60 l0_1 x36_2).f1))).setCell ⟨gb113, 2, none⟩ (.int .i64 ((rd_T60 l0_1 x36_2).f2)))) := ⟨by repeat (first | (with_reducible first | exact HB.out | apply below_alloc | apply pw_below_drewN | apply below_drew1 | refine below_set ?_ GE107.out | refine below_set ?_ GE113.out) | exact HB.out)⟩
          (try clear BK107)
          (try clear BK113)
          (try clear HB)
          generalize (((w61.setCell ⟨gb113, 0, none⟩ (.int .i64 ((rd_T60 l0_1 x36_2).f0))).setCell ⟨gb113, 1, none⟩ (.int .i64 ((rd_T60 l0_1 x36_2).f1))).setCell ⟨gb113, 2, none⟩ (.int .i64 ((rd_T60 l0_1 x36_2).f2))) = w64 at n0_ n1_ n2_ ⊢
          have BK107 := n0_; have BK113 := n1_; have HB := n2_; clear n0_ n1_ n2_; replace BK107 := Aside0.mk (blk_drew BK107.out); replace BK113 := Aside0.mk (blk_drew BK113.out); replace HB := Aside0.mk (below_drew1 HB.out)
          refine start_ (n := 35) (S := fun w' => w'.cell? ⟨gb113, 0, none⟩ = some (.int .i64 ((rd_T60 l0_1 x36_2).f0)) ∧ w'.cell? ⟨gb113, 1, none⟩ = some (.int .i64 ((rd_T60 l0_1 x36_2).f1)) ∧ w'.cell? ⟨gb113, 2, none⟩ = some (.int .i64 ((rd_T60 l0_1 x36_2).f2))) (ds := []) #[false, false, false, false, false, false, false, false, false, false, false, false, false, false, false, false, false, false, false, false, false, false, false, false, false, false, false, false, false, false, false, false, false, false, false] (by kernel_rfl) rfl rfl ⟨(blk_cell BK113.out 0).trans rfl, (blk_cell BK113.out 1).trans rfl, (blk_cell BK113.out 2).trans rfl⟩ (fun hHeld => ?_); refine with_tabW spec_enGood.tab6 spec_enGood.bits6 (fun HT_ HW_ => ?_)
          generalize w64.drew = w65 at BK107 BK113 HB hHeld ⊢
          refine pure_ (i := 0) (N := some 41) (v := ?_) (a' := ?_) (XSq.bA 35 1) rfl rfl (any_of HT_.out (by kernel_rfl)) (fun _ _ _ h => h) (Or.inl ⟨by rfl, ?_⟩) ?_ ?_
          rotate_left
          ·
           intro w'
           go_simp
           with_reducible rfl
          rotate_left
          ·
           simp only [Act.put, XSq.p1, XSq.p2, XSq.p3, i64_w, i32_w]
           rfl
          refine take_ (i := 1) (N := some 42) (v := ?_) (a' := ?_) (XSq.bA 35 3) rfl rfl (take_ofW HT_.out HW_.out (by kernel_rfl)) (fun _ _ _ h => h) (Or.inl ⟨by rfl, ?_⟩) hHeld ?_ ?_
          rotate_left
          ·
           rintro w' ⟨s0, s1, s2⟩
           go_simp
           with_reducible rfl
          rotate_left
          ·
           simp only [Act.put, XSq.p1, XSq.p2, XSq.p3, i64_w, i32_w]
           rfl
          refine one_ (i := 2) (N := some 43) (XSq.bA 35 7) rfl rfl (one_of HT_.out (by kernel_rfl)) (by decide) (fun K hK => ?_)
          refine goes_ Tryd.func46 (by kernel_rfl) rfl #[.int .i64 ((rd_T60 l0_1 x36_2).f0)] (by rfl) rfl rfl (by (try simp only [List.map_toArray, List.map_cons, List.map_nil]); first | done | rfl | (simp only [List.length_drop, List.length_take]; rfl)) ?_
          with_reducible refine (spec_enFar.calls ((rd_T60 l0_1 x36_2).f0) false _ A22.out).mono ?_
          rintro e w' ⟨rfl, ⟨nd, rfl⟩⟩
          refine ⟨_, rfl, ?_⟩
          refine hK.out _ _ ⟨(blk_cell BK113.out 0).trans rfl, (blk_cell BK113.out 1).trans rfl, (blk_cell BK113.out 2).trans rfl⟩ (fun hHeld => ?_)
          clear hK K
          refine norm_ (a' := ?_) ?_ ?_
          rotate_left
          ·
           show Act.put _ (some 43) _ = _
           simp only [Act.put, XSq.p1, XSq.p2, XSq.p3, i64_w, i32_w]
           rfl
          refine pure_ (i := 3) (N := some 44) (v := ?_) (a' := ?_) (XSq.bA 35 15) rfl rfl (any_of HT_.out (by kernel_rfl)) (fun _ _ _ h => h) (Or.inl ⟨by rfl, ?_⟩) ?_ ?_
          rotate_left
          ·
           intro w'
           go_simp
           with_reducible rfl
          rotate_left
          ·
           simp only [Act.put, XSq.p1, XSq.p2, XSq.p3, i64_w, i32_w]
           rfl
          refine pure_ (i := 4) (N := some 45) (v := ?_) (a' := ?_) (XSq.bA 35 31) rfl rfl (any_of HT_.out (by kernel_rfl)) (fun _ _ _ h => h) (Or.inl ⟨by rfl, ?_⟩) ?_ ?_
          rotate_left
          ·
           intro w'
           go_simp
           with_reducible rfl
          rotate_left
          ·
           simp only [Act.put, XSq.p1, XSq.p2, XSq.p3, i64_w, i32_w]
           rfl
          refine pure_ (i := 5) (N := some 46) (v := undef) (a' := ?_) (XSq.bA 35 63) rfl rfl (any_of HT_.out (by kernel_rfl)) (fun _ _ _ h => h) (Or.inr ⟨by rfl, rfl⟩) ?_ ?_
          rotate_left
          ·
           simp only [Act.put, XSq.p1, XSq.p2, XSq.p3, i64_w, i32_w]
           rfl
          refine pure_ (i := 6) (N := some 47) (v := undef) (a' := ?_) (XSq.bA 35 127) rfl rfl (any_of HT_.out (by kernel_rfl)) (fun _ _ _ h => h) (Or.inr ⟨by rfl, rfl⟩) ?_ ?_
          rotate_left
          ·
           simp only [Act.put, XSq.p1, XSq.p2, XSq.p3, i64_w, i32_w]
           rfl
          refine pure_ (i := 7) (N := some 48) (v := undef) (a' := ?_) (XSq.bA 35 255) rfl rfl (any_of HT_.out (by kernel_rfl)) (fun _ _ _ h => h) (Or.inr ⟨by rfl, rfl⟩) ?_ ?_
          rotate_left
          ·
           simp only [Act.put, XSq.p1, XSq.p2, XSq.p3, i64_w, i32_w]
           rfl
          refine pure_ (i := 8) (N := some 49) (v := undef) (a' := ?_) (XSq.bA 35 511) rfl rfl (any_of HT_.out (by kernel_rfl)) (fun _ _ _ h => h) (Or.inr ⟨by rfl, rfl⟩) ?_ ?_
          rotate_left
          ·
           simp only [Act.put, XSq.p1, XSq.p2, XSq.p3, i64_w, i32_w]
           rfl
          refine pure_ (i := 9) (N := some 50) (v := ?_) (a' := ?_) (XSq.bA 35 1023) rfl rfl (any_of HT_.out (by kernel_rfl)) (fun _ _ _ h => h) (Or.inl ⟨by rfl, ?_⟩) ?_ ?_
          rotate_left
          ·
           intro w'
           go_simp
           with_reducible rfl
          rotate_left
          ·
           simp only [Act.put, XSq.p1, XSq.p2, XSq.p3, i64_w, i32_w]
           rfl
          refine pure_ (i := 10) (N := some 51) (v := ?_) (a' := ?_) (XSq.bA 35 2047) rfl rfl (any_of HT_.out (by kernel_rfl)) (fun _ _ _ h => h) (Or.inl ⟨by rfl, ?_⟩) ?_ ?_
          rotate_left
          ·
           intro w'
           go_simp
           with_reducible rfl
          rotate_left
          ·
           simp only [Act.put, XSq.p1, XSq.p2, XSq.p3, i64_w, i32_w]
           rfl
          refine pure_ (i := 11) (N := some 52) (v := undef) (a' := ?_) (XSq.bA 35 4095) rfl rfl (any_of HT_.out (by kernel_rfl)) (fun _ _ _ h => h) (Or.inr ⟨by rfl, rfl⟩) ?_ ?_
          rotate_left
          ·
           simp only [Act.put, XSq.p1, XSq.p2, XSq.p3, i64_w, i32_w]
           rfl
          refine pure_ (i := 12) (N := some 53) (v := undef) (a' := ?_) (XSq.bA 35 8191) rfl rfl (any_of HT_.out (by kernel_rfl)) (fun _ _ _ h => h) (Or.inr ⟨by rfl, rfl⟩) ?_ ?_
          rotate_left
          ·
           simp only [Act.put, XSq.p1, XSq.p2, XSq.p3, i64_w, i32_w]
           rfl
          refine pure_ (i := 13) (N := some 54) (v := undef) (a' := ?_) (XSq.bA 35 16383) rfl rfl (any_of HT_.out (by kernel_rfl)) (fun _ _ _ h => h) (Or.inr ⟨by rfl, rfl⟩) ?_ ?_
          rotate_left
          ·
           simp only [Act.put, XSq.p1, XSq.p2, XSq.p3, i64_w, i32_w]
           rfl
          refine pure_ (i := 14) (N := some 55) (v := undef) (a' := ?_) (XSq.bA 35 32767) rfl rfl (any_of HT_.out (by kernel_rfl)) (fun _ _ _ h => h) (Or.inr ⟨by rfl, rfl⟩) ?_ ?_
          rotate_left
          ·
           simp only [Act.put, XSq.p1, XSq.p2, XSq.p3, i64_w, i32_w]
           rfl
          refine pure_ (i := 15) (N := some 56) (v := undef) (a' := ?_) (XSq.bA 35 65535) rfl rfl (any_of HT_.out (by kernel_rfl)) (fun _ _ _ h => h) (Or.inr ⟨by rfl, rfl⟩) ?_ ?_
          rotate_left
          ·
           simp only [Act.put, XSq.p1, XSq.p2, XSq.p3, i64_w, i32_w]
           rfl
          refine pure_ (i := 16) (N := some 57) (v := undef) (a' := ?_) (XSq.bA 35 131071) rfl rfl (any_of HT_.out (by kernel_rfl)) (fun _ _ _ h => h) (Or.inr ⟨by rfl, rfl⟩) ?_ ?_
          rotate_left
          ·
           simp only [Act.put, XSq.p1, XSq.p2, XSq.p3, i64_w, i32_w]
           rfl
          refine pure_ (i := 17) (N := some 58) (v := undef) (a' := ?_) (XSq.bA 35 262143) rfl rfl (any_of HT_.out (by kernel_rfl)) (fun _ _ _ h => h) (Or.inr ⟨by rfl, rfl⟩) ?_ ?_
          rotate_left
          ·
           simp only [Act.put, XSq.p1, XSq.p2, XSq.p3, i64_w, i32_w]
           rfl
          refine pure_ (i := 18) (N := some 59) (v := undef) (a' := ?_) (XSq.bA 35 524287) rfl rfl (any_of HT_.out (by kernel_rfl)) (fun _ _ _ h => h) (Or.inr ⟨by rfl, rfl⟩) ?_ ?_
          rotate_left
          ·
           simp only [Act.put, XSq.p1, XSq.p2, XSq.p3, i64_w, i32_w]
           rfl
          refine pure_ (i := 19) (N := some 60) (v := ?_) (a' := ?_) (XSq.bA 35 1048575) rfl rfl (any_of HT_.out (by kernel_rfl)) (fun _ _ _ h => h) (Or.inl ⟨by rfl, ?_⟩) ?_ ?_
          rotate_left
          ·
           intro w'
           go_simp
           with_reducible rfl
          rotate_left
          ·
           simp only [Act.put, XSq.p1, XSq.p2, XSq.p3, i64_w, i32_w]
           rfl
          refine pure_ (i := 20) (N := some 61) (v := ?_) (a' := ?_) (XSq.bA 35 2097151) rfl rfl (any_of HT_.out (by kernel_rfl)) (fun _ _ _ h => h) (Or.inl ⟨by rfl, ?_⟩) ?_ ?_
          rotate_left
          ·
           intro w'
           go_simp
           with_reducible rfl
          rotate_left
          ·
           simp only [Act.put, XSq.p1, XSq.p2, XSq.p3, i64_w, i32_w]
           rfl
          refine pure_ (i := 21) (N := some 62) (v := undef) (a' := ?_) (XSq.bA 35 4194303) rfl rfl (any_of HT_.out (by kernel_rfl)) (fun _ _ _ h => h) (Or.inr ⟨by rfl, rfl⟩) ?_ ?_
          rotate_left
          ·
           simp only [Act.put, XSq.p1, XSq.p2, XSq.p3, i64_w, i32_w]
           rfl
          refine pure_ (i := 22) (N := some 63) (v := undef) (a' := ?_) (XSq.bA 35 8388607) rfl rfl (any_of HT_.out (by kernel_rfl)) (fun _ _ _ h => h) (Or.inr ⟨by rfl, rfl⟩) ?_ ?_
          rotate_left
          ·
           simp only [Act.put, XSq.p1, XSq.p2, XSq.p3, i64_w, i32_w]
           rfl
          refine pure_ (i := 23) (N := some 64) (v := undef) (a' := ?_) (XSq.bA 35 16777215) rfl rfl (any_of HT_.out (by kernel_rfl)) (fun _ _ _ h => h) (Or.inr ⟨by rfl, rfl⟩) ?_ ?_
          rotate_left
          ·
           simp only [Act.put, XSq.p1, XSq.p2, XSq.p3, i64_w, i32_w]
           rfl
          refine pure_ (i := 24) (N := some 65) (v := undef) (a' := ?_) (XSq.bA 35 33554431) rfl rfl (any_of HT_.out (by kernel_rfl)) (fun _ _ _ h => h) (Or.inr ⟨by rfl, rfl⟩) ?_ ?_
          rotate_left
          ·
           simp only [Act.put, XSq.p1, XSq.p2, XSq.p3, i64_w, i32_w]
           rfl
          refine pure_ (i := 25) (N := some 66) (v := undef) (a' := ?_) (XSq.bA 35 67108863) rfl rfl (any_of HT_.out (by kernel_rfl)) (fun _ _ _ h => h) (Or.inr ⟨by rfl, rfl⟩) ?_ ?_
          rotate_left
          ·
           simp only [Act.put, XSq.p1, XSq.p2, XSq.p3, i64_w, i32_w]
           rfl
          refine pure_ (i := 26) (N := some 67) (v := undef) (a' := ?_) (XSq.bA 35 134217727) rfl rfl (any_of HT_.out (by kernel_rfl)) (fun _ _ _ h => h) (Or.inr ⟨by rfl, rfl⟩) ?_ ?_
          rotate_left
          ·
           simp only [Act.put, XSq.p1, XSq.p2, XSq.p3, i64_w, i32_w]
           rfl
          refine pure_ (i := 27) (N := some 68) (v := undef) (a' := ?_) (XSq.bA 35 268435455) rfl rfl (any_of HT_.out (by kernel_rfl)) (fun _ _ _ h => h) (Or.inr ⟨by rfl, rfl⟩) ?_ ?_
          rotate_left
          ·
           simp only [Act.put, XSq.p1, XSq.p2, XSq.p3, i64_w, i32_w]
           rfl
          refine pure_ (i := 28) (N := some 69) (v := undef) (a' := ?_) (XSq.bA 35 536870911) rfl rfl (any_of HT_.out (by kernel_rfl)) (fun _ _ _ h => h) (Or.inr ⟨by rfl, rfl⟩) ?_ ?_
          rotate_left
          ·
           simp only [Act.put, XSq.p1, XSq.p2, XSq.p3, i64_w, i32_w]
           rfl
          refine pure_ (i := 29) (N := some 70) (v := undef) (a' := ?_) (XSq.bA 35 1073741823) rfl rfl (any_of HT_.out (by kernel_rfl)) (fun _ _ _ h => h) (Or.inr ⟨by rfl, rfl⟩) ?_ ?_
          rotate_left
          ·
           simp only [Act.put, XSq.p1, XSq.p2, XSq.p3, i64_w, i32_w]
           rfl
          refine pure_ (i := 30) (N := some 71) (v := undef) (a' := ?_) (XSq.bA 35 2147483647) rfl rfl (any_of HT_.out (by kernel_rfl)) (fun _ _ _ h => h) (Or.inr ⟨by rfl, rfl⟩) ?_ ?_
          rotate_left
          ·
           simp only [Act.put, XSq.p1, XSq.p2, XSq.p3, i64_w, i32_w]
           rfl
          refine pure_ (i := 31) (N := some 72) (v := undef) (a' := ?_) (XSq.bA 35 4294967295) rfl rfl (any_of HT_.out (by kernel_rfl)) (fun _ _ _ h => h) (Or.inr ⟨by rfl, rfl⟩) ?_ ?_
          rotate_left
          ·
           simp only [Act.put, XSq.p1, XSq.p2, XSq.p3, i64_w, i32_w]
           rfl
          refine pure_ (i := 32) (N := some 73) (v := undef) (a' := ?_) (XSq.bA 35 8589934591) rfl rfl (any_of HT_.out (by kernel_rfl)) (fun _ _ _ h => h) (Or.inr ⟨by rfl, rfl⟩) ?_ ?_
          rotate_left
          ·
           simp only [Act.put, XSq.p1, XSq.p2, XSq.p3, i64_w, i32_w]
           rfl
          refine pure_ (i := 33) (N := some 74) (v := undef) (a' := ?_) (XSq.bA 35 17179869183) rfl rfl (any_of HT_.out (by kernel_rfl)) (fun _ _ _ h => h) (Or.inr ⟨by rfl, rfl⟩) ?_ ?_
          rotate_left
          ·
           simp only [Act.put, XSq.p1, XSq.p2, XSq.p3, i64_w, i32_w]
           rfl
          refine pure_ (i := 34) (N := some 75) (v := ?_) (a' := ?_) (XSq.bA 35 34359738367) rfl rfl (any_of HT_.out (by kernel_rfl)) (fun _ _ _ h => h) (Or.inl ⟨by rfl, ?_⟩) ?_ ?_
          rotate_left
          ·
           intro w'
           go_simp
           with_reducible rfl
          rotate_left
          ·
           simp only [Act.put, XSq.p1, XSq.p2, XSq.p3, i64_w, i32_w]
           rfl
          refine done_ (done_of HT_.out (by kernel_rfl)) ?_
          try go_wp2
          go_ret
          exact ⟨by first | rfl | (simp [errW_none, errW_some] <;> rfl) | (simp [*, errW_none, errW_some] <;> rfl), by repeat (first | (with_reducible first | exact HB.out | apply below_alloc | apply pw_below_drewN | apply below_drew1 | refine below_set ?_ GE107.out | refine below_set ?_ GE113.out) | exact HB.out)⟩
        ·
         rw [if_neg c21] at H
         exact absurd H (by simp)
       ·
        rw [if_neg c20] at H
        exact absurd H (by simp)
      ·
       rw [if_neg c19] at H
       have c19b0 : decide (x36_2 < (l0_1.length : Int)) = false := decide_eq_false c19; clear c19; obtain rfl := Option.some.inj H
       go_wp2
       go_ret
       exact ⟨by first | rfl | (simp [errW_none, errW_some] <;> rfl) | (simp [*, errW_none, errW_some] <;> rfl), by repeat (first | (with_reducible first | exact HB.out | apply below_alloc | apply pw_below_drewN | apply below_drew1 | refine below_set ?_ GE107.out) | exact HB.out)⟩

end Go.Proofs.YtfhplgiblknfcaaDoor.PFnExactPlainBefore
