-- Made by wip/tools/xkit.py (a program of this session's) with the kit's printer.
import Derived.Test.YtfhplgiblknfcaaDoorPFnExactPlainBeforex0
import Derived.Test.YtfhplgiblknfcaaDoorPFnExactPlainBeforex1
import Derived.Test.YtfhplgiblknfcaaDoorPFnExactPlainBeforex2
namespace Go.Proofs.YtfhplgiblknfcaaDoor.PFnExactPlainBefore
open Go.RowKit Go.Proofs.YtfhplgiblknfcaaDoorW.PrintWords Go.Proofs.YtfhplgiblknfcaaDoorW.PrintLast Go.Proofs.YtfhplgiblknfcaaDoorW.PrintMore
attribute [local go_sem] max2_int min2_int max_two min_two max_three min_three max_four min_four   -- for this text's walks alone
set_option linter.unusedVariables false
set_option linter.unusedSimpArgs false

/-! ### spec_enSteps: function 15 -/
def spec_enSteps.f (k : Nat) (a0_0 : ByteArray) (l0_1 : List (S60)) (a0_2 : Int) (a0_3 : Int) (a0_4 : Int) (a1 : Int) : Option (Bool) := (spec_enGood.f k a0_0 l0_1 a0_2 a0_3 a0_4).bind fun t120 => (if t120 = true then ((spec_l1In.f a1 0 1000).bind fun t121 => (some t121)) else (some false))
theorem spec_enSteps.mono : ∀ a0 a1 a2 a3 a4 a5 k, LeO (spec_enSteps.f k a0 a1 a2 a3 a4 a5) (spec_enSteps.f (k + 1) a0 a1 a2 a3 a4 a5) := by
  intro a0 a1 a2 a3 a4 a5 k
  unfold spec_enSteps.f
  repeat' first
      | (with_reducible exact spec_enGood.mono _ _ _ _ _ _)
      | (with_reducible exact LeO.refl _)
      | (with_reducible exact LeO.none _)
      | (with_reducible refine LeO.ite ?_ ?_)
      | (with_reducible refine LeO.bind ?_ (fun _ => ?_))
      | exact spec_enGood.mono _ _ _ _ _ _
      | exact LeO.none _
      | refine LeO.ite ?_ ?_
      | refine LeO.bind ?_ (fun _ => ?_)
set_option maxHeartbeats 8000000 in
set_option maxRecDepth 100000 in
theorem spec_enSteps.calls (k : Nat) (a0_0 : ByteArray) (A0_1 : Option Addr) (c0_1 : Nat) (l0_1 : List (S60)) (a0_2 : Int) (a0_3 : Int) (a0_4 : Int) (a1 : Int) (r : Bool) (w : World) (hr0_1 : Kd.C k60 w A0_1 l0_1.length l0_1) (hc0_1 : l0_1.length ≤ c0_1) (h : spec_enSteps.f k a0_0 l0_1 a0_2 a0_3 a0_4 a1 = some r) :
    Calls Tryd.prog 15 #[.agg #[.string a0_0, .slice A0_1 l0_1.length c0_1, .int .i64 a0_2, .int .i64 a0_3, .int .i64 a0_4], .int .i64 a1] w fun e w' => e = .returned (.bool r) ∧ Below w.heap.size w w' := by
  have hu28 := Tryd.underlying28
  have HR0_1 := Aside0.mk hr0_1
  have HC0_1 := Aside0.mk hc0_1
  clear hr0_1 hc0_1
  have HB := Aside0.mk (Below.refl w.heap.size w)
  have H : ((spec_enGood.f k a0_0 l0_1 a0_2 a0_3 a0_4).bind fun t120 => (if t120 = true then ((spec_l1In.f a1 0 1000).bind fun t121 => (some t121)) else (some false))) = some r := h
  clear h
  replace H := Option.bind_eq_some_iff.mp H
  obtain ⟨t120, A30, H⟩ := H
  replace H : (if t120 = true then ((spec_l1In.f a1 0 1000).bind fun t121 => (some t121)) else (some false)) = some r := H
  have A3 := Aside0.mk A30
  clear A30
  by_cases c4 : t120 = true
  · subst c4
    have H1 : ((spec_l1In.f a1 0 1000).bind fun t121 => (some t121)) = some r := by rw [if_pos rfl] at H; exact H
    clear H
    have H := H1
    clear H1
    replace H := Option.bind_eq_some_iff.mp H
    obtain ⟨t121, A50, H⟩ := H
    replace H : (some t121) = some r := H
    have A5 := Aside0.mk A50
    clear A50
    obtain rfl := Option.some.inj H
    go_enter Tryd.func15, Tryd.ntmps15
    go_wp2_with (first | ((with_reducible refine gate_dst (N := 2) rfl ?_); refine box_event ?hg (N := 2) ?hd (cs := #[.string a0_0, .slice A0_1 l0_1.length c0_1, .int .i64 a0_2, .int .i64 a0_3, .int .i64 a0_4]) (t := 28) ?hr ?_; (case hd => rfl); (case hg => rfl); (case hr => first | (go_simp; done) | (go_simp; rfl)); intro gb119 hg w6 hbox hb; have n0_ := Aside0.mk (below_step (XSq.bB HB) hb); have n1_ := Aside0.mk (hbox); have n2_ := Aside0.mk ((by rw [hg]; exact (below_size (XSq.bB HB)) : w.heap.size ≤ gb119)); have n3_ := Aside0.mk ((by rw [hg]; exact (below_size (XSq.bB HB)) : w.heap.size ≤ gb119)); clear HB; have HB := n0_; have BK119 := n1_; have GW119 := n2_; have GE119 := n3_; clear n0_ n1_ n2_ n3_; clear hb hbox hg; have hcz7_0 := XSq.ck BK119 0; have hcz7_1 := XSq.ck BK119 1; have hcz7_2 := XSq.ck BK119 2; have hcz7_3 := XSq.ck BK119 3; have hcz7_4 := XSq.ck BK119 4; have hfz7_0 := blk_frozen BK119.out 0; have hfz7_1 := blk_frozen BK119.out 1; have hfz7_2 := blk_frozen BK119.out 2; have hfz7_3 := blk_frozen BK119.out 3; have hfz7_4 := blk_frozen BK119.out 4) | ((with_reducible refine gate_callee (f := 29) rfl ?_); refine goesL_ (some 6) rfl rfl Tryd.func29 (by kernel_rfl) rfl #[.agg #[.string a0_0, .slice A0_1 l0_1.length c0_1, .int .i64 a0_2, .int .i64 a0_3, .int .i64 a0_4]] rfl (by (try simp only [List.map_toArray, List.map_cons, List.map_nil]); first | done | rfl | (simp only [List.length_drop, List.length_take]; rfl)) ?_; (with_reducible refine (spec_enGood.calls k a0_0 _ _ l0_1 a0_2 a0_3 a0_4 true _ ?side1 ?side2 A3.out).mono ?_); (case side1 => repeat (first | exact (Kd.C_below HR0_1.out HB.out) | (with_reducible refine Kd.C_alloc ?_ _) | (with_reducible refine Kd.C_drewN ?_ _) | (with_reducible refine Kd.C_drew ?_))); (case side2 => exact HC0_1.out); rintro e w8 ⟨rfl, hb⟩; refine ⟨_, rfl, ?_⟩; have n0_ := Aside0.mk (blk_below (g := gb119) (o := .cells #[.string a0_0, .slice A0_1 l0_1.length c0_1, .int .i64 a0_2, .int .i64 a0_3, .int .i64 a0_4] 28 (0, 0)) (XSq.bq BK119) hb); have n1_ := Aside0.mk (below_step (XSq.bB HB) hb); clear BK119; clear HB; have BK119 := n0_; have HB := n1_; clear n0_ n1_; (try clear hb); (try clear hb2); (try clear hk); (try clear hi)) | (go_at_call 27; (with_reducible refine (spec_l1In.calls a1 0 1000 t121 _ A5.out).mono ?_); rintro e w' ⟨rfl, ⟨nd, rfl⟩⟩))
    go_ret
    exact ⟨by first | rfl | (simp [errW_none, errW_some] <;> rfl) | (simp [*, errW_none, errW_some] <;> rfl), by repeat (first | (with_reducible first | exact HB.out | apply below_alloc | apply pw_below_drewN | apply below_drew1 | refine below_set ?_ GE119.out) | exact HB.out)⟩
  · replace c4 := Bool.eq_false_iff.mpr c4
    subst c4
    have H1 : (some false) = some r := by rw [if_neg (show ¬ (false = true) by decide)] at H; exact H
    clear H
    have H := H1
    clear H1
    obtain rfl := Option.some.inj H
    go_enter Tryd.func15, Tryd.ntmps15
    go_wp2_with (first | ((with_reducible refine gate_dst (N := 2) rfl ?_); refine box_event ?hg (N := 2) ?hd (cs := #[.string a0_0, .slice A0_1 l0_1.length c0_1, .int .i64 a0_2, .int .i64 a0_3, .int .i64 a0_4]) (t := 28) ?hr ?_; (case hd => rfl); (case hg => rfl); (case hr => first | (go_simp; done) | (go_simp; rfl)); intro gb119 hg w9 hbox hb; have n0_ := Aside0.mk (below_step (XSq.bB HB) hb); have n1_ := Aside0.mk (hbox); have n2_ := Aside0.mk ((by rw [hg]; exact (below_size (XSq.bB HB)) : w.heap.size ≤ gb119)); have n3_ := Aside0.mk ((by rw [hg]; exact (below_size (XSq.bB HB)) : w.heap.size ≤ gb119)); clear HB; have HB := n0_; have BK119 := n1_; have GW119 := n2_; have GE119 := n3_; clear n0_ n1_ n2_ n3_; clear hb hbox hg; have hcz10_0 := XSq.ck BK119 0; have hcz10_1 := XSq.ck BK119 1; have hcz10_2 := XSq.ck BK119 2; have hcz10_3 := XSq.ck BK119 3; have hcz10_4 := XSq.ck BK119 4; have hfz10_0 := blk_frozen BK119.out 0; have hfz10_1 := blk_frozen BK119.out 1; have hfz10_2 := blk_frozen BK119.out 2; have hfz10_3 := blk_frozen BK119.out 3; have hfz10_4 := blk_frozen BK119.out 4) | ((with_reducible refine gate_callee (f := 29) rfl ?_); refine goesL_ (some 6) rfl rfl Tryd.func29 (by kernel_rfl) rfl #[.agg #[.string a0_0, .slice A0_1 l0_1.length c0_1, .int .i64 a0_2, .int .i64 a0_3, .int .i64 a0_4]] rfl (by (try simp only [List.map_toArray, List.map_cons, List.map_nil]); first | done | rfl | (simp only [List.length_drop, List.length_take]; rfl)) ?_; (with_reducible refine (spec_enGood.calls k a0_0 _ _ l0_1 a0_2 a0_3 a0_4 false _ ?side1 ?side2 A3.out).mono ?_); (case side1 => repeat (first | exact (Kd.C_below HR0_1.out HB.out) | (with_reducible refine Kd.C_alloc ?_ _) | (with_reducible refine Kd.C_drewN ?_ _) | (with_reducible refine Kd.C_drew ?_))); (case side2 => exact HC0_1.out); rintro e w11 ⟨rfl, hb⟩; refine ⟨_, rfl, ?_⟩; have n0_ := Aside0.mk (blk_below (g := gb119) (o := .cells #[.string a0_0, .slice A0_1 l0_1.length c0_1, .int .i64 a0_2, .int .i64 a0_3, .int .i64 a0_4] 28 (0, 0)) (XSq.bq BK119) hb); have n1_ := Aside0.mk (below_step (XSq.bB HB) hb); clear BK119; clear HB; have BK119 := n0_; have HB := n1_; clear n0_ n1_; (try clear hb); (try clear hb2); (try clear hk); (try clear hi)))
    go_ret
    exact ⟨by first | rfl | (simp [errW_none, errW_some] <;> rfl) | (simp [*, errW_none, errW_some] <;> rfl), by repeat (first | (with_reducible first | exact HB.out | apply below_alloc | apply pw_below_drewN | apply below_drew1 | refine below_set ?_ GE119.out) | exact HB.out)⟩

/-! ### spec_enOwn: function 16 -/
def spec_enOwn.f (a0_0 : ByteArray) (l0_1 : List (S60)) (a0_2 : Int) (a0_3 : Int) (a0_4 : Int) : Option (ByteArray × (List (S60)) × Int × Int × Int) := (some (([] : List (S60)) : List (S60))).bind fun y124 => (if y124.length + l0_1.length < 5864062014805 then (some (a0_0, (y124 ++ l0_1), a0_2, a0_3, a0_4)) else (none))
set_option maxHeartbeats 8000000 in
set_option maxRecDepth 100000 in
theorem spec_enOwn.calls (a0_0 : ByteArray) (A0_1 : Option Addr) (c0_1 : Nat) (l0_1 : List (S60)) (a0_2 : Int) (a0_3 : Int) (a0_4 : Int) (r1 : ByteArray) (r2 : List (S60)) (r3 : Int) (r4 : Int) (r5 : Int) (w : World) (hr0_1 : Kd.C k60 w A0_1 l0_1.length l0_1) (hc0_1 : l0_1.length ≤ c0_1) (h : spec_enOwn.f a0_0 l0_1 a0_2 a0_3 a0_4 = some (r1, r2, r3, r4, r5)) :
    Calls Tryd.prog 16 #[.agg #[.string a0_0, .slice A0_1 l0_1.length c0_1, .int .i64 a0_2, .int .i64 a0_3, .int .i64 a0_4]] w fun e w' => ∃ v1_ : Value, e = .returned (.agg #[.string r1, v1_, .int .i64 r3, .int .i64 r4, .int .i64 r5]) ∧ Kd.R k60 60 w' w.heap.size (fun _ => True) v1_ r2 ∧ Below w.heap.size w w' := by
  have hu28 := Tryd.underlying28
  have HR0_1 := Aside0.mk hr0_1
  have HC0_1 := Aside0.mk hc0_1
  clear hr0_1 hc0_1
  have HB := Aside0.mk (Below.refl w.heap.size w)
  have H : ((some (([] : List (S60)) : List (S60))).bind fun y124 => (if y124.length + l0_1.length < 5864062014805 then (some (a0_0, (y124 ++ l0_1), a0_2, a0_3, a0_4)) else (none))) = some (r1, r2, r3, r4, r5) := h
  clear h
  obtain ⟨y124, hy124⟩ : ∃ y_ : List (S60), y_ = (([] : List (S60))) := ⟨_, rfl⟩
  replace H : (if y124.length + l0_1.length < 5864062014805 then (some (a0_0, (y124 ++ l0_1), a0_2, a0_3, a0_4)) else (none)) = some (r1, r2, r3, r4, r5) := by first | (rw [hy124]; with_reducible exact H) | (have H2_ := (Option.bind_some _ _).symm.trans H; rw [hy124]; with_reducible exact H2_) | (have H2_ := (Option.bind_some _ _).symm.trans H; with_reducible exact H2_) | with_reducible exact H | (rw [hy124]; exact H) | exact H
  have Ny124 := Aside0.mk hy124
  clear hy124
  by_cases c2 : y124.length + l0_1.length < 5864062014805
  · rw [if_pos c2] at H
    have LMc2 := Aside0.mk c2
    clear c2
    obtain ⟨y127, hy127⟩ : ∃ y_ : List (S60), y_ = (y124 ++ l0_1) := ⟨_, rfl⟩
    replace H : (some (a0_0, y127, a0_2, a0_3, a0_4)) = some (r1, r2, r3, r4, r5) := by first | (rw [hy127]; with_reducible exact H) | (have H2_ := (Option.bind_some _ _).symm.trans H; rw [hy127]; with_reducible exact H2_) | (have H2_ := (Option.bind_some _ _).symm.trans H; with_reducible exact H2_) | with_reducible exact H | (rw [hy127]; exact H) | exact H
    have Ny127 := Aside0.mk hy127
    clear hy127
    simp only [Option.some.injEq, Prod.mk.injEq] at H
    obtain ⟨rfl, rfl, rfl, rfl, rfl⟩ := H
    go_enter Tryd.func16, Tryd.ntmps16
    go_wp2_with (first | ((with_reducible refine gate_dst (N := 1) rfl ?_); refine box_event ?hg (N := 1) ?hd (cs := #[.string a0_0, .slice A0_1 l0_1.length c0_1, .int .i64 a0_2, .int .i64 a0_3, .int .i64 a0_4]) (t := 28) ?hr ?_; (case hd => rfl); (case hg => rfl); (case hr => first | (go_simp; done) | (go_simp; rfl)); intro gb122 hg w3 hbox hb; have n0_ := Aside0.mk (below_step (XSq.bB HB) hb); have n1_ := Aside0.mk (hbox); have n2_ := Aside0.mk ((by rw [hg]; exact (below_size (XSq.bB HB)) : w.heap.size ≤ gb122)); have n3_ := Aside0.mk ((by rw [hg]; exact (below_size (XSq.bB HB)) : w.heap.size ≤ gb122)); clear HB; have HB := n0_; have BK122 := n1_; have GW122 := n2_; have GE122 := n3_; clear n0_ n1_ n2_ n3_; clear hb hbox hg) | ((with_reducible refine gate_dst (N := 2) rfl ?_); refine box_event ?hg (N := 2) ?hd (cs := #[.string (⟨#[]⟩ : ByteArray), .slice none 0 0, .int .i64 0, .int .i64 0, .int .i64 0]) (t := 28) ?hr ?_; (case hd => rfl); (case hg => rfl); (case hr => first | (go_simp; done) | (go_simp; rfl)); intro gb123 hg w4 hbox hb; have n0_ := Aside0.mk (blk_below (g := gb122) (o := .cells #[.string a0_0, .slice A0_1 l0_1.length c0_1, .int .i64 a0_2, .int .i64 a0_3, .int .i64 a0_4] 28 (0, 0)) (XSq.bq BK122) hb); have n1_ := Aside0.mk (below_step (XSq.bB HB) hb); have n2_ := Aside0.mk (hbox); have n3_ := Aside0.mk ((by rw [hg]; exact (below_size (XSq.bB HB)) : w.heap.size ≤ gb123)); have n4_ := Aside0.mk ((by rw [hg]; exact (below_size (XSq.bB HB)) : w.heap.size ≤ gb123)); have n5_ := Aside0.mk ((by rw [hg]; exact Nat.ne_of_lt (blk_lt (g := gb122) (o := .cells #[.string a0_0, .slice A0_1 l0_1.length c0_1, .int .i64 a0_2, .int .i64 a0_3, .int .i64 a0_4] 28 (0, 0)) (XSq.bq BK122)) : gb122 ≠ gb123)); have n6_ := Aside0.mk ((by rw [hg]; exact Nat.ne_of_gt (blk_lt (g := gb122) (o := .cells #[.string a0_0, .slice A0_1 l0_1.length c0_1, .int .i64 a0_2, .int .i64 a0_3, .int .i64 a0_4] 28 (0, 0)) (XSq.bq BK122)) : gb123 ≠ gb122)); clear BK122; clear HB; have BK122 := n0_; have HB := n1_; have BK123 := n2_; have GW123 := n3_; have GE123 := n4_; have NB122_123 := n5_; have NB123_122 := n6_; clear n0_ n1_ n2_ n3_ n4_ n5_ n6_; clear hb hbox hg) | ((with_reducible refine gate_dst (N := 3) rfl ?_); refine Kd.R_lit k60 _ 60 ?hg (N := 3) ?hd (xs := ([] : List (S60))) (inner := []) (ok := fun _ => True) (okp := fun _ => True) ?hr ?hp (fun _ hk => hk) trivial (Below.refl _ _) (Nat.le_refl _) (by simp) ?_; (case hd => rfl); (case hg => rfl); (case hr => first | (go_simp; done) | (go_simp; rfl)); (case hp => exact (Reps.none _ _)); intro v125 w5 ho6 hb hg_ hnew_; clear hg_ hnew_; (first | rw [← Ny124.out] at ho6 | (simp only [Int.reduceToNat] at ho6; rw [← Ny124.out] at ho6)); have n0_ := Aside0.mk (Kd.R_lower ho6 (below_size (XSq.bB HB))); have n1_ := Aside0.mk (blk_below (g := gb122) (o := .cells #[.string a0_0, .slice A0_1 l0_1.length c0_1, .int .i64 a0_2, .int .i64 a0_3, .int .i64 a0_4] 28 (0, 0)) (XSq.bq BK122) hb); have n2_ := Aside0.mk (blk_below (g := gb123) (o := .cells #[.string (⟨#[]⟩ : ByteArray), .slice none 0 0, .int .i64 0, .int .i64 0, .int .i64 0] 28 (0, 0)) (XSq.bq BK123) hb); have n3_ := Aside0.mk (below_step (XSq.bB HB) hb); clear BK122; clear BK123; clear HB; have HO126 := n0_; have BK122 := n1_; have BK123 := n2_; have HB := n3_; clear n0_ n1_ n2_ n3_; clear hb ho6; have hnb7 := NB122_123.out; have hnc7 := NB123_122.out; have hcz8_0 := XSq.ck BK122 0; have hcz8_1 := XSq.ck BK122 1; have hcz8_2 := XSq.ck BK122 2; have hcz8_3 := XSq.ck BK122 3; have hcz8_4 := XSq.ck BK122 4; have hfz8_0 := blk_frozen BK122.out 0; have hfz8_1 := blk_frozen BK122.out 1; have hfz8_2 := blk_frozen BK122.out 2; have hfz8_3 := blk_frozen BK122.out 3; have hfz8_4 := blk_frozen BK122.out 4) | ((with_reducible refine gate_builtin (b := .append) (xs := #[.tmp 3, .tmp 5]) rfl ?_); at_builtin; refine Kd.R_append_rows k60 (w0 := w) w.heap.size rfl (.tmp 3) (.tmp 5) 26 60 (.agg #[(.int .i64 0), (.int .i64 0), (.int .i64 0)]) 24 rfl Tryd.underlying26 info60 rfl (by decide) (by omega) v125 y124 l0_1 _ _ _ (fun _ => True) (fun _ => False) rfl rfl ?aO ?aR (fun _ _ h => h) (fun _ h => h.elim) ?aF ?aB ?aS ?aL ?_; (case aR => repeat (first | exact (Kd.C_below HR0_1.out HB.out) | (with_reducible refine Kd.C_alloc ?_ _) | (with_reducible refine Kd.C_drewN ?_ _) | (with_reducible refine Kd.C_drew ?_))); (case aB => exact (XSq.bB HB)); (case aF => exact (fun _ _ => trivial)); (case aO => exact (by (with_reducible repeat (first | apply Kd.R_alloc | apply Kd.R_drewN | apply Kd.R_drew)); exact HO126.out)); (case aS => exact (below_size (XSq.bB HB))); (case aL => have := LMc2.out; omega); intro v128 w9 ho hb hg hat; rw [← Ny127.out] at ho; have n0_ := Aside0.mk (blk_grown (g := gb122) (o := .cells #[.string a0_0, .slice A0_1 l0_1.length c0_1, .int .i64 a0_2, .int .i64 a0_3, .int .i64 a0_4] 28 (0, 0)) (XSq.bq BK122) hg (Kd.R_ne HO126.out BK122.out (by decide))); have n1_ := Aside0.mk (blk_grown (g := gb123) (o := .cells #[.string (⟨#[]⟩ : ByteArray), .slice none 0 0, .int .i64 0, .int .i64 0, .int .i64 0] 28 (0, 0)) (XSq.bq BK123) hg (Kd.R_ne HO126.out BK123.out (by decide))); have n2_ := Aside0.mk (hb); have n3_ := Aside0.mk (ho); clear BK122; clear BK123; clear HB; clear HO126; have BK122 := n0_; have BK123 := n1_; have HB := n2_; have HO129 := n3_; clear n0_ n1_ n2_ n3_; clear ho hb hg hat; obtain ⟨Ao10, co10, eo10⟩ := Kd.R_slice HO129.out; subst eo10; have hcz11_0 := XSq.ck BK122 0; have hcz11_1 := XSq.ck BK122 1; have hcz11_2 := XSq.ck BK122 2; have hcz11_3 := XSq.ck BK122 3; have hcz11_4 := XSq.ck BK122 4; have hfz11_0 := blk_frozen BK122.out 0; have hfz11_1 := blk_frozen BK122.out 1; have hfz11_2 := blk_frozen BK122.out 2; have hfz11_3 := blk_frozen BK122.out 3; have hfz11_4 := blk_frozen BK122.out 4; have hcz12_0 := XSq.ck BK123 0; have hcz12_1 := XSq.ck BK123 1; have hcz12_2 := XSq.ck BK123 2; have hcz12_3 := XSq.ck BK123 3; have hcz12_4 := XSq.ck BK123 4; have hfz12_0 := blk_frozen BK123.out 0; have hfz12_1 := blk_frozen BK123.out 1; have hfz12_2 := blk_frozen BK123.out 2; have hfz12_3 := blk_frozen BK123.out 3; have hfz12_4 := blk_frozen BK123.out 4))
    refine bodyPost_ret (results_cell_row rfl _ _ gb123 28 #[.string a0_0, .slice Ao10 y127.length co10, .int .i64 a0_2, .int .i64 a0_3, .int .i64 a0_4] (0, 0) _ rfl (by (with_reducible repeat (first | refine blk_drewN ?_ _ | refine blk_drew ?_ | refine blk_alloc ?_ _)); refine blk_put (cs := #[.string a0_0, .slice Ao10 y127.length co10, .int .i64 a0_2, .int .i64 a0_3, .int .i64 0]) ?_ 4 _ rfl; (with_reducible repeat (first | refine blk_drewN ?_ _ | refine blk_drew ?_ | refine blk_alloc ?_ _)); refine blk_put (cs := #[.string a0_0, .slice Ao10 y127.length co10, .int .i64 a0_2, .int .i64 0, .int .i64 0]) ?_ 3 _ rfl; (with_reducible repeat (first | refine blk_drewN ?_ _ | refine blk_drew ?_ | refine blk_alloc ?_ _)); refine blk_put (cs := #[.string a0_0, .slice Ao10 y127.length co10, .int .i64 0, .int .i64 0, .int .i64 0]) ?_ 2 _ rfl; (with_reducible repeat (first | refine blk_drewN ?_ _ | refine blk_drew ?_ | refine blk_alloc ?_ _)); refine blk_put (cs := #[.string a0_0, .slice none 0 0, .int .i64 0, .int .i64 0, .int .i64 0]) ?_ 1 _ rfl; (with_reducible repeat (first | refine blk_drewN ?_ _ | refine blk_drew ?_ | refine blk_alloc ?_ _)); refine blk_put (cs := #[.string (⟨#[]⟩ : ByteArray), .slice none 0 0, .int .i64 0, .int .i64 0, .int .i64 0]) ?_ 0 _ rfl; (with_reducible repeat (first | refine blk_drewN ?_ _ | refine blk_drew ?_ | refine blk_alloc ?_ _)); refine blk_far ?_ NB123_122.out _; (with_reducible repeat (first | refine blk_drewN ?_ _ | refine blk_drew ?_ | refine blk_alloc ?_ _)); exact BK123.out) Tryd.underlying28 rfl (by kernel_rfl)) rfl ?_
    exact ⟨_, by first | rfl | (simp [errW_none, errW_some] <;> rfl) | (simp [*, errW_none, errW_some] <;> rfl), by (with_reducible repeat (first | apply Kd.R_alloc | apply Kd.R_drewN | apply Kd.R_drew)); exact Kd.R_mono (Kd.R_far (p := ⟨gb123, 4, none⟩) (Kd.R_far (p := ⟨gb123, 3, none⟩) (Kd.R_far (p := ⟨gb123, 2, none⟩) (Kd.R_far (p := ⟨gb123, 1, none⟩) (Kd.R_far (p := ⟨gb123, 0, none⟩) (Kd.R_far (p := ⟨gb122, 1, none⟩) (Kd.R_types (Kd.R_types HO129.out BK122.out (by decide)) BK123.out (by decide)) (fun _ hk => hk.1.2) (.slice Ao10 y127.length co10)) (fun _ hk => hk.2) (.string a0_0)) (fun _ hk => hk.2) (.slice Ao10 y127.length co10)) (fun _ hk => hk.2) (.int .i64 a0_2)) (fun _ hk => hk.2) (.int .i64 a0_3)) (fun _ hk => hk.2) (.int .i64 a0_4)) (fun _ hk => trivial), by repeat (first | (with_reducible first | exact HB.out | apply below_alloc | apply pw_below_drewN | apply below_drew1 | refine below_set ?_ GE122.out | refine below_set ?_ GE123.out) | exact HB.out)⟩
  · rw [if_neg c2] at H
    exact absurd H (by simp)

/-! ### spec_enAt: function 47 -/
def spec_enAt.l0 : Nat → List (S60) → Int → Int → Int → Int → Option (Int × Bool)
  | 0, _, _, _, _, _ => none
  | k + 1, x0, x1, x2, x8, x9 => if x8 < x9 then (if 0 ≤ (wrap64 (Int.tdiv (wrap64 (x8 + x9)) 2)) then (if (wrap64 (Int.tdiv (wrap64 (x8 + x9)) 2)) < (x0.length : Int) then ((spec_enLess.f ((rd_T60 x0 (wrap64 (Int.tdiv (wrap64 (x8 + x9)) 2))).f0) ((rd_T60 x0 (wrap64 (Int.tdiv (wrap64 (x8 + x9)) 2))).f1) ((rd_T60 x0 (wrap64 (Int.tdiv (wrap64 (x8 + x9)) 2))).f2) x1 x2 0).bind fun t131 => (if t131 = true then (spec_enAt.l0 k x0 x1 x2 (wrap64 ((wrap64 (Int.tdiv (wrap64 (x8 + x9)) 2)) + 1)) x9) else (spec_enAt.l0 k x0 x1 x2 x8 (wrap64 (Int.tdiv (wrap64 (x8 + x9)) 2))))) else (none)) else (none)) else (if x8 < (x0.length : Int) then (if 0 ≤ x8 then (if ((rd_T60 x0 x8).f0) = x1 then (some (x8, (((rd_T60 x0 x8).f1) == x2))) else (some (x8, false))) else (none)) else (some (x8, false)))
def spec_enAt.f (k : Nat) (l0 : List (S60)) (a1 : Int) (a2 : Int) : Option (Int × Bool) := spec_enAt.l0 k l0 a1 a2 0 (l0.length : Int)
theorem spec_enAt.mono_l : ∀ k, (∀ y0 y1 y2 y3 y4, LeO (spec_enAt.l0 k y0 y1 y2 y3 y4) (spec_enAt.l0 (k + 1) y0 y1 y2 y3 y4))
  | 0 => fun _ _ _ _ _ r h => by simp [spec_enAt.l0] at h
  | k + 1 => by
    have ih0 := spec_enAt.mono_l k
    · intro y0 y1 y2 y3 y4
      unfold spec_enAt.l0
      repeat' first
      | (with_reducible exact ih0 _ _ _ _ _)
      | (with_reducible exact LeO.refl _)
      | (with_reducible exact LeO.none _)
      | (with_reducible refine LeO.ite ?_ ?_)
      | (with_reducible refine LeO.bind ?_ (fun _ => ?_))
      | exact ih0 _ _ _ _ _
      | exact LeO.none _
      | refine LeO.ite ?_ ?_
      | refine LeO.bind ?_ (fun _ => ?_)
theorem spec_enAt.mono : ∀ a0 a1 a2 k, LeO (spec_enAt.f k a0 a1 a2) (spec_enAt.f (k + 1) a0 a1 a2) := by
  intro a0 a1 a2 k
  have ih0 := spec_enAt.mono_l k
  unfold spec_enAt.f
  repeat' first
      | (with_reducible exact ih0 _ _ _ _ _)
      | (with_reducible exact LeO.refl _)
      | (with_reducible exact LeO.none _)
      | (with_reducible refine LeO.ite ?_ ?_)
      | (with_reducible refine LeO.bind ?_ (fun _ => ?_))
      | exact ih0 _ _ _ _ _
      | exact LeO.none _
      | refine LeO.ite ?_ ?_
      | refine LeO.bind ?_ (fun _ => ?_)
set_option maxHeartbeats 8000000 in
set_option maxRecDepth 100000 in
theorem spec_enAt.calls (k : Nat) (A0 : Option Addr) (c0 : Nat) (l0 : List (S60)) (a1 : Int) (a2 : Int) (r1 : Int) (r2 : Bool) (w : World) (hr0 : Kd.C k60 w A0 l0.length l0) (hc0 : l0.length ≤ c0) (h : spec_enAt.f k l0 a1 a2 = some (r1, r2)) :
    Calls Tryd.prog 47 #[.slice A0 l0.length c0, .int .i64 a1, .int .i64 a2] w fun e w' => e = .returned (.tuple #[.int .i64 r1, .bool r2]) ∧ Below w.heap.size w w' := by
  have hu60 := Tryd.underlying60
  have HR0 := Aside0.mk hr0
  have HC0 := Aside0.mk hc0
  clear hr0 hc0
  have HB := Aside0.mk (Below.refl w.heap.size w)
  have H : (spec_enAt.l0 k l0 a1 a2 0 (l0.length : Int)) = some (r1, r2) := h
  clear h
  have H' := Aside0.mk H
  clear H
  go_enter Tryd.func47, Tryd.ntmps47
  go_wp2
  repeat (go_quiet (fail); try go_wp2)
  go_loopg [8, 9] k (fun kq v8 v9 w' => ∃ (x8_1 : Int) (x9_1 : Int), v8 = .int .i64 x8_1 ∧ v9 = .int .i64 x9_1 ∧ Aside0 (spec_enAt.l0 kq l0 a1 a2 x8_1 x9_1 = some (r1, r2)) ∧ Aside0 (kq ≤ k) ∧ Aside0 (Below w.heap.size w w'))
  case atStart => exact ⟨(0), ((l0.length : Int)), (by first | rfl | (simp; done) | (simp [*]; done)), (by first | rfl | (simp; done) | (simp [*]; done)), H', ⟨Nat.le_refl _⟩, ⟨by repeat (first | (with_reducible first | exact HB.out | apply below_alloc | apply pw_below_drewN | apply below_drew1) | exact HB.out)⟩⟩
  case round =>
    clear H'
    obtain ⟨x8_1, x9_1, rfl, rfl, HA, HK1, HB⟩ := hrel
    cases gk with
    | zero => exact absurd HA.out (by simp [spec_enAt.l0])
    | succ k1 =>
      have H := HA.out
      clear HA
      simp only [spec_enAt.l0] at H
      by_cases c4 : x8_1 < x9_1
      · rw [if_pos c4] at H
        have c4b0 : decide (x8_1 < x9_1) = true := decide_eq_true c4
        clear c4
        obtain ⟨ji5, hji5⟩ : ∃ j_ : Int, (wrap64 (Int.tdiv (wrap64 (x8_1 + x9_1)) 2)) = j_ := ⟨_, rfl⟩
        replace H : (if 0 ≤ (ji5) then (if (ji5) < (l0.length : Int) then ((spec_enLess.f ((rd_T60 l0 (ji5)).f0) ((rd_T60 l0 (ji5)).f1) ((rd_T60 l0 (ji5)).f2) a1 a2 0).bind fun t131 => (if t131 = true then (spec_enAt.l0 k1 l0 a1 a2 (wrap64 ((ji5) + 1)) x9_1) else (spec_enAt.l0 k1 l0 a1 a2 x8_1 ji5))) else (none)) else (none)) = some (r1, r2) := by first | (rw [hji5] at H; exact H) | (simp only [hji5] at H ⊢; exact H)
        have hji5w : (IntKind.i64.wrap (Int.tdiv (wrap64 (x8_1 + x9_1)) 2)) = ji5 := (i64_w _).trans hji5
        by_cases c6 : 0 ≤ (ji5)
        · rw [if_pos c6] at H
          have c6b0 : decide (0 ≤ (ji5)) = true := decide_eq_true c6
          clear c6
          by_cases c7 : (ji5) < (l0.length : Int)
          · rw [if_pos c7] at H
            have c7b0 : decide ((ji5) < (l0.length : Int)) = true := decide_eq_true c7
            clear c7
            replace H := Option.bind_eq_some_iff.mp H
            obtain ⟨t131, A80, H⟩ := H
            replace H : (if t131 = true then (spec_enAt.l0 k1 l0 a1 a2 (wrap64 ((ji5) + 1)) x9_1) else (spec_enAt.l0 k1 l0 a1 a2 x8_1 ji5)) = some (r1, r2) := H
            have A8 := Aside0.mk A80
            clear A80
            by_cases c9 : t131 = true
            · subst c9
              have H1 : (spec_enAt.l0 k1 l0 a1 a2 (wrap64 ((ji5) + 1)) x9_1) = some (r1, r2) := by rw [if_pos rfl] at H; exact H
              clear H
              have H := H1
              clear H1
              have H' := Aside0.mk H
              clear H
              have p130 : 0 ≤ ((ji5) : Int) := of_decide_eq_true (by first | (with_reducible assumption) | assumption)
              have q130 : (ji5) < (l0.length : Int) := of_decide_eq_true (by first | (with_reducible assumption) | assumption)
              obtain ⟨ad130, e130, hx130_0, hx130_1, hx130_2⟩ := at_T60 HR0.out (ji5) p130 q130
              cases e130
              replace hx130_0 := (HB.out.cell (World.block_lt_of_cell? w _ hx130_0)).trans hx130_0
              replace hx130_1 := (HB.out.cell (World.block_lt_of_cell? w _ hx130_1)).trans hx130_1
              replace hx130_2 := (HB.out.cell (World.block_lt_of_cell? w _ hx130_2)).trans hx130_2
              replace p130 := eq_true p130
              replace q130 := eq_true q130
              go_wp2_with (first | (go_at_call 49; (with_reducible refine (spec_enLess.calls ((rd_T60 l0 (ji5)).f0) ((rd_T60 l0 (ji5)).f1) ((rd_T60 l0 (ji5)).f2) a1 a2 0 true _ A8.out).mono ?_); rintro e w10 ⟨rfl, hb⟩; have n0_ := Aside0.mk (below_step (XSq.bB HB) hb); clear HB; have HB := n0_; clear n0_; (try clear hb); (try clear hb2); (try clear hk); (try clear hi)))
              repeat (go_quiet (first | (go_at_call 49; (with_reducible refine (spec_enLess.calls ((rd_T60 l0 (ji5)).f0) ((rd_T60 l0 (ji5)).f1) ((rd_T60 l0 (ji5)).f2) a1 a2 0 true _ A8.out).mono ?_); rintro e w10 ⟨rfl, hb⟩; have n0_ := Aside0.mk (below_step (XSq.bB HB) hb); clear HB; have HB := n0_; clear n0_; (try clear hb); (try clear hb2); (try clear hk); (try clear hi))); try go_wp2_with (first | (go_at_call 49; (with_reducible refine (spec_enLess.calls ((rd_T60 l0 (ji5)).f0) ((rd_T60 l0 (ji5)).f1) ((rd_T60 l0 (ji5)).f2) a1 a2 0 true _ A8.out).mono ?_); rintro e w10 ⟨rfl, hb⟩; have n0_ := Aside0.mk (below_step (XSq.bB HB) hb); clear HB; have HB := n0_; clear n0_; (try clear hb); (try clear hb2); (try clear hk); (try clear hi))))
              go_roundg k1
              case measure => have := HK1.out; omega
              case rel => exact ⟨(wrap64 ((ji5) + 1)), (x9_1), (by first | rfl | (simp; done) | (simp only [← hji5] <;> (first | rfl | simp)) | (simp [*]; done)), (by first | rfl | (simp; done) | (simp [*]; done)), H', ⟨by have := HK1.out; omega⟩, ⟨by repeat (first | (with_reducible first | exact HB.out | apply below_alloc | apply pw_below_drewN | apply below_drew1) | exact HB.out)⟩⟩
            · replace c9 := Bool.eq_false_iff.mpr c9
              subst c9
              have H1 : (spec_enAt.l0 k1 l0 a1 a2 x8_1 ji5) = some (r1, r2) := by rw [if_neg (show ¬ (false = true) by decide)] at H; exact H
              clear H
              have H := H1
              clear H1
              have H' := Aside0.mk H
              clear H
              have p130 : 0 ≤ ((ji5) : Int) := of_decide_eq_true (by first | (with_reducible assumption) | assumption)
              have q130 : (ji5) < (l0.length : Int) := of_decide_eq_true (by first | (with_reducible assumption) | assumption)
              obtain ⟨ad130, e130, hx130_0, hx130_1, hx130_2⟩ := at_T60 HR0.out (ji5) p130 q130
              cases e130
              replace hx130_0 := (HB.out.cell (World.block_lt_of_cell? w _ hx130_0)).trans hx130_0
              replace hx130_1 := (HB.out.cell (World.block_lt_of_cell? w _ hx130_1)).trans hx130_1
              replace hx130_2 := (HB.out.cell (World.block_lt_of_cell? w _ hx130_2)).trans hx130_2
              replace p130 := eq_true p130
              replace q130 := eq_true q130
              go_wp2_with (first | (go_at_call 49; (with_reducible refine (spec_enLess.calls ((rd_T60 l0 (ji5)).f0) ((rd_T60 l0 (ji5)).f1) ((rd_T60 l0 (ji5)).f2) a1 a2 0 false _ A8.out).mono ?_); rintro e w11 ⟨rfl, hb⟩; have n0_ := Aside0.mk (below_step (XSq.bB HB) hb); clear HB; have HB := n0_; clear n0_; (try clear hb); (try clear hb2); (try clear hk); (try clear hi)))
              repeat (go_quiet (first | (go_at_call 49; (with_reducible refine (spec_enLess.calls ((rd_T60 l0 (ji5)).f0) ((rd_T60 l0 (ji5)).f1) ((rd_T60 l0 (ji5)).f2) a1 a2 0 false _ A8.out).mono ?_); rintro e w11 ⟨rfl, hb⟩; have n0_ := Aside0.mk (below_step (XSq.bB HB) hb); clear HB; have HB := n0_; clear n0_; (try clear hb); (try clear hb2); (try clear hk); (try clear hi))); try go_wp2_with (first | (go_at_call 49; (with_reducible refine (spec_enLess.calls ((rd_T60 l0 (ji5)).f0) ((rd_T60 l0 (ji5)).f1) ((rd_T60 l0 (ji5)).f2) a1 a2 0 false _ A8.out).mono ?_); rintro e w11 ⟨rfl, hb⟩; have n0_ := Aside0.mk (below_step (XSq.bB HB) hb); clear HB; have HB := n0_; clear n0_; (try clear hb); (try clear hb2); (try clear hk); (try clear hi))))
              go_roundg k1
              case measure => have := HK1.out; omega
              case rel => exact ⟨(x8_1), (ji5), (by first | rfl | (simp; done) | (simp [*]; done)), (by first | rfl | (simp; done) | (simp only [← hji5] <;> (first | rfl | simp)) | (simp [*]; done)), H', ⟨by have := HK1.out; omega⟩, ⟨by repeat (first | (with_reducible first | exact HB.out | apply below_alloc | apply pw_below_drewN | apply below_drew1) | exact HB.out)⟩⟩
          · rw [if_neg c7] at H
            exact absurd H (by simp)
        · rw [if_neg c6] at H
          exact absurd H (by simp)
      · rw [if_neg c4] at H
        have c4b0 : decide (x8_1 < x9_1) = false := decide_eq_false c4
        clear c4
        by_cases c12 : x8_1 < (l0.length : Int)
        · rw [if_pos c12] at H
          have c12b0 : decide (x8_1 < (l0.length : Int)) = true := decide_eq_true c12
          clear c12
          by_cases c13 : 0 ≤ x8_1
          · rw [if_pos c13] at H
            have c13b0 : decide (0 ≤ x8_1) = true := decide_eq_true c13
            clear c13
            by_cases c14 : ((rd_T60 l0 x8_1).f0) = a1
            · rw [if_pos c14] at H
              have c14b0 : (((rd_T60 l0 x8_1).f0) == a1) = true := beq_iff_eq.mpr c14
              have c14b1 : (((rd_T60 l0 x8_1).f0) != a1) = false := bne_eq_false_iff_eq.mpr c14
              clear c14
              simp only [Option.some.injEq, Prod.mk.injEq] at H
              obtain ⟨rfl, rfl⟩ := H
              have p132 : 0 ≤ (x8_1 : Int) := of_decide_eq_true (by first | (with_reducible assumption) | assumption)
              have q132 : x8_1 < (l0.length : Int) := of_decide_eq_true (by first | (with_reducible assumption) | assumption)
              obtain ⟨ad132, e132, hx132_0, hx132_1, hx132_2⟩ := at_T60 HR0.out x8_1 p132 q132
              cases e132
              replace hx132_0 := (HB.out.cell (World.block_lt_of_cell? w _ hx132_0)).trans hx132_0
              replace hx132_1 := (HB.out.cell (World.block_lt_of_cell? w _ hx132_1)).trans hx132_1
              replace hx132_2 := (HB.out.cell (World.block_lt_of_cell? w _ hx132_2)).trans hx132_2
              replace p132 := eq_true p132
              replace q132 := eq_true q132
              have p133 : 0 ≤ (x8_1 : Int) := of_decide_eq_true (by first | (with_reducible assumption) | assumption)
              have q133 : x8_1 < (l0.length : Int) := of_decide_eq_true (by first | (with_reducible assumption) | assumption)
              obtain ⟨ad133, e133, hx133_0, hx133_1, hx133_2⟩ := at_T60 HR0.out x8_1 p133 q133
              obtain rfl : ad132 = ad133 := (by injection e133)
              replace hx133_0 := (HB.out.cell (World.block_lt_of_cell? w _ hx133_0)).trans hx133_0
              replace hx133_1 := (HB.out.cell (World.block_lt_of_cell? w _ hx133_1)).trans hx133_1
              replace hx133_2 := (HB.out.cell (World.block_lt_of_cell? w _ hx133_2)).trans hx133_2
              replace p133 := eq_true p133
              replace q133 := eq_true q133
              go_wp2
              repeat (go_quiet (fail); try go_wp2)
              go_ret2
              exact ⟨by first | rfl | (simp [errW_none, errW_some] <;> rfl) | (simp [*, errW_none, errW_some] <;> rfl), by repeat (first | (with_reducible first | exact HB.out | apply below_alloc | apply pw_below_drewN | apply below_drew1) | exact HB.out)⟩
            · rw [if_neg c14] at H
              have c14b0 : (((rd_T60 l0 x8_1).f0) == a1) = false := beq_eq_false_iff_ne.mpr c14
              have c14b1 : (((rd_T60 l0 x8_1).f0) != a1) = true := bne_iff_ne.mpr c14
              simp only [Option.some.injEq, Prod.mk.injEq] at H
              obtain ⟨rfl, rfl⟩ := H
              have p132 : 0 ≤ (x8_1 : Int) := of_decide_eq_true (by first | (with_reducible assumption) | assumption)
              have q132 : x8_1 < (l0.length : Int) := of_decide_eq_true (by first | (with_reducible assumption) | assumption)
              obtain ⟨ad132, e132, hx132_0, hx132_1, hx132_2⟩ := at_T60 HR0.out x8_1 p132 q132
              cases e132
              replace hx132_0 := (HB.out.cell (World.block_lt_of_cell? w _ hx132_0)).trans hx132_0
              replace hx132_1 := (HB.out.cell (World.block_lt_of_cell? w _ hx132_1)).trans hx132_1
              replace hx132_2 := (HB.out.cell (World.block_lt_of_cell? w _ hx132_2)).trans hx132_2
              replace p132 := eq_true p132
              replace q132 := eq_true q132
              go_wp2
              repeat (go_quiet (fail); try go_wp2)
              go_ret2
              exact ⟨by first | rfl | (simp [errW_none, errW_some] <;> rfl) | (simp [*, errW_none, errW_some] <;> rfl), by repeat (first | (with_reducible first | exact HB.out | apply below_alloc | apply pw_below_drewN | apply below_drew1) | exact HB.out)⟩
          · rw [if_neg c13] at H
            exact absurd H (by simp)
        · rw [if_neg c12] at H
          have c12b0 : decide (x8_1 < (l0.length : Int)) = false := decide_eq_false c12
          clear c12
          simp only [Option.some.injEq, Prod.mk.injEq] at H
          obtain ⟨rfl, rfl⟩ := H
          go_wp2
          repeat (go_quiet (fail); try go_wp2)
          go_ret2
          exact ⟨by first | rfl | (simp [errW_none, errW_some] <;> rfl) | (simp [*, errW_none, errW_some] <;> rfl), by repeat (first | (with_reducible first | exact HB.out | apply below_alloc | apply pw_below_drewN | apply below_drew1) | exact HB.out)⟩

/-! ### spec_enPaint: function 28 -/
def spec_enPaint.f (k : Nat) (l0 : List (S60)) (a1 : Int) (a2 : Int) (a3 : Int) : Option ((List (S60))) := (spec_enAt.f k l0 a1 a2).bind fun bt134 => ((some (([] : List (S60)) : List (S60))).bind fun y136 => (if 0 ≤ bt134.1 then (if bt134.1 ≤ (l0.length : Int) then ((some (l0.take (bt134.1 : Int).toNat : List (S60))).bind fun y139 => (if y136.length + y139.length < 5864062014805 then ((some (y136 ++ y139 : List (S60))).bind fun y143 => (if a3 > 0 then (if y143.length < 5864062014805 then ((some (y143 ++ [(⟨a1, a2, a3⟩ : S60)] : List (S60))).bind fun y146 => (if bt134.2 = true then (if 0 ≤ (wrap64 (bt134.1 + 1)) then (if (wrap64 (bt134.1 + 1)) ≤ (l0.length : Int) then ((some (l0.drop ((wrap64 (bt134.1 + 1)) : Int).toNat : List (S60))).bind fun y149 => (if y146.length + y149.length < 5864062014805 then (some (y146 ++ y149)) else (none))) else (none)) else (none)) else ((some (l0.drop (bt134.1 : Int).toNat : List (S60))).bind fun y156 => (if y146.length + y156.length < 5864062014805 then (some (y146 ++ y156)) else (none))))) else (none)) else (if bt134.2 = true then (if 0 ≤ (wrap64 (bt134.1 + 1)) then (if (wrap64 (bt134.1 + 1)) ≤ (l0.length : Int) then ((some (l0.drop ((wrap64 (bt134.1 + 1)) : Int).toNat : List (S60))).bind fun y163 => (if y143.length + y163.length < 5864062014805 then (some (y143 ++ y163)) else (none))) else (none)) else (none)) else ((some (l0.drop (bt134.1 : Int).toNat : List (S60))).bind fun y170 => (if y143.length + y170.length < 5864062014805 then (some (y143 ++ y170)) else (none)))))) else (none))) else (none)) else (none)))
theorem spec_enPaint.mono : ∀ a0 a1 a2 a3 k, LeO (spec_enPaint.f k a0 a1 a2 a3) (spec_enPaint.f (k + 1) a0 a1 a2 a3) := by
  intro a0 a1 a2 a3 k
  unfold spec_enPaint.f
  repeat' first
      | (with_reducible exact spec_enAt.mono _ _ _ _)
      | (with_reducible exact LeO.refl _)
      | (with_reducible exact LeO.none _)
      | (with_reducible refine LeO.ite ?_ ?_)
      | (with_reducible refine LeO.bind ?_ (fun _ => ?_))
      | exact spec_enAt.mono _ _ _ _
      | exact LeO.none _
      | refine LeO.ite ?_ ?_
      | refine LeO.bind ?_ (fun _ => ?_)
set_option maxHeartbeats 8000000 in
set_option maxRecDepth 100000 in
theorem spec_enPaint.calls (k : Nat) (A0 : Option Addr) (c0 : Nat) (l0 : List (S60)) (a1 : Int) (a2 : Int) (a3 : Int) (r : List (S60)) (w : World) (hr0 : Kd.C k60 w A0 l0.length l0) (hc0 : l0.length ≤ c0) (h : spec_enPaint.f k l0 a1 a2 a3 = some r) :
  Calls Tryd.prog 28 #[.slice A0 l0.length c0, .int .i64 a1, .int .i64 a2, .int .i64 a3] w fun e w' => ∃ v0_ : Value, e = .returned (v0_) ∧ Kd.R k60 60 w' w.heap.size (fun _ => True) v0_ r ∧ Below w.heap.size w w' := by
 have hu60 := Tryd.underlying60
 have HR0 := Aside0.mk hr0
 have HC0 := Aside0.mk hc0
 clear hr0 hc0
 have HB := Aside0.mk (Below.refl w.heap.size w)
 have H : ((spec_enAt.f k l0 a1 a2).bind fun bt134 => ((some (([] : List (S60)) : List (S60))).bind fun y136 => (if 0 ≤ bt134.1 then (if bt134.1 ≤ (l0.length : Int) then ((some (l0.take (bt134.1 : Int).toNat : List (S60))).bind fun y139 => (if y136.length + y139.length < 5864062014805 then ((some (y136 ++ y139 : List (S60))).bind fun y143 => (if a3 > 0 then (if y143.length < 5864062014805 then ((some (y143 ++ [(⟨a1, a2, a3⟩ : S60)] : List (S60))).bind fun y146 => (if bt134.2 = true then (if 0 ≤ (wrap64 (bt134.1 + 1)) then (if (wrap64 (bt134.1 + 1)) ≤ (l0.length : Int) then ((some (l0.drop ((wrap64 (bt134.1 + 1)) : Int).toNat : List (S60))).bind fun y149 => (if y146.length + y149.length < 5864062014805 then (some (y146 ++ y149)) else (none))) else (none)) else (none)) else ((some (l0.drop (bt134.1 : Int).toNat : List (S60))).bind fun y156 => (if y146.length + y156.length < 5864062014805 then (some (y146 ++ y156)) else (none))))) else (none)) else (if bt134.2 = true then (if 0 ≤ (wrap64 (bt134.1 + 1)) then (if (wrap64 (bt134.1 + 1)) ≤ (l0.length : Int) then ((some (l0.drop ((wrap64 (bt134.1 + 1)) : Int).toNat : List (S60))).bind fun y163 => (if y143.length + y163.length < 5864062014805 then (some (y143 ++ y163)) else (none))) else (none)) else (none)) else ((some (l0.drop (bt134.1 : Int).toNat : List (S60))).bind fun y170 => (if y143.length + y170.length < 5864062014805 then (some (y143 ++ y170)) else (none)))))) else (none))) else (none)) else (none)))) = some r := h
 clear h
 replace H := Option.bind_eq_some_iff.mp H
 obtain ⟨⟨t134, t135⟩, A50, H⟩ := H
 replace H : ((some (([] : List (S60)) : List (S60))).bind fun y136 => (if 0 ≤ t134 then (if t134 ≤ (l0.length : Int) then ((some (l0.take (t134 : Int).toNat : List (S60))).bind fun y139 => (if y136.length + y139.length < 5864062014805 then ((some (y136 ++ y139 : List (S60))).bind fun y143 => (if a3 > 0 then (if y143.length < 5864062014805 then ((some (y143 ++ [(⟨a1, a2, a3⟩ : S60)] : List (S60))).bind fun y146 => (if t135 = true then (if 0 ≤ (wrap64 (t134 + 1)) then (if (wrap64 (t134 + 1)) ≤ (l0.length : Int) then ((some (l0.drop ((wrap64 (t134 + 1)) : Int).toNat : List (S60))).bind fun y149 => (if y146.length + y149.length < 5864062014805 then (some (y146 ++ y149)) else (none))) else (none)) else (none)) else ((some (l0.drop (t134 : Int).toNat : List (S60))).bind fun y156 => (if y146.length + y156.length < 5864062014805 then (some (y146 ++ y156)) else (none))))) else (none)) else (if t135 = true then (if 0 ≤ (wrap64 (t134 + 1)) then (if (wrap64 (t134 + 1)) ≤ (l0.length : Int) then ((some (l0.drop ((wrap64 (t134 + 1)) : Int).toNat : List (S60))).bind fun y163 => (if y143.length + y163.length < 5864062014805 then (some (y143 ++ y163)) else (none))) else (none)) else (none)) else ((some (l0.drop (t134 : Int).toNat : List (S60))).bind fun y170 => (if y143.length + y170.length < 5864062014805 then (some (y143 ++ y170)) else (none)))))) else (none))) else (none)) else (none))) = some r := H
 have A5 := Aside0.mk A50
 clear A50
 obtain ⟨y136, hy136⟩ : ∃ y_ : List (S60), y_ = (([] : List (S60))) := ⟨_, rfl⟩
 replace H : (if 0 ≤ t134 then (if t134 ≤ (l0.length : Int) then ((some (l0.take (t134 : Int).toNat : List (S60))).bind fun y139 => (if y136.length + y139.length < 5864062014805 then ((some (y136 ++ y139 : List (S60))).bind fun y143 => (if a3 > 0 then (if y143.length < 5864062014805 then ((some (y143 ++ [(⟨a1, a2, a3⟩ : S60)] : List (S60))).bind fun y146 => (if t135 = true then (if 0 ≤ (wrap64 (t134 + 1)) then (if (wrap64 (t134 + 1)) ≤ (l0.length : Int) then ((some (l0.drop ((wrap64 (t134 + 1)) : Int).toNat : List (S60))).bind fun y149 => (if y146.length + y149.length < 5864062014805 then (some (y146 ++ y149)) else (none))) else (none)) else (none)) else ((some (l0.drop (t134 : Int).toNat : List (S60))).bind fun y156 => (if y146.length + y156.length < 5864062014805 then (some (y146 ++ y156)) else (none))))) else (none)) else (if t135 = true then (if 0 ≤ (wrap64 (t134 + 1)) then (if (wrap64 (t134 + 1)) ≤ (l0.length : Int) then ((some (l0.drop ((wrap64 (t134 + 1)) : Int).toNat : List (S60))).bind fun y163 => (if y143.length + y163.length < 5864062014805 then (some (y143 ++ y163)) else (none))) else (none)) else (none)) else ((some (l0.drop (t134 : Int).toNat : List (S60))).bind fun y170 => (if y143.length + y170.length < 5864062014805 then (some (y143 ++ y170)) else (none)))))) else (none))) else (none)) else (none)) = some r := by first | (rw [hy136]; with_reducible exact H) | (have H2_ := (Option.bind_some _ _).symm.trans H; rw [hy136]; with_reducible exact H2_) | (have H2_ := (Option.bind_some _ _).symm.trans H; with_reducible exact H2_) | with_reducible exact H | (rw [hy136]; exact H) | exact H
 have Ny136 := Aside0.mk hy136
 clear hy136
 by_cases c6 : 0 ≤ t134
 ·
  rw [if_pos c6] at H
  have c6b0 := eq_true c6; have c6b1 : decide (0 ≤ t134) = true := decide_eq_true c6; clear c6
  by_cases c7 : t134 ≤ (l0.length : Int)
  ·
   rw [if_pos c7] at H
   have c7b0 := eq_true c7; have c7b1 : decide (t134 ≤ (l0.length : Int)) = true := decide_eq_true c7; clear c7; obtain ⟨y139, hy139⟩ : ∃ y_ : List (S60), y_ = (l0.take (t134 : Int).toNat) := ⟨_, rfl⟩
   replace H : (if y136.length + y139.length < 5864062014805 then ((some (y136 ++ y139 : List (S60))).bind fun y143 => (if a3 > 0 then (if y143.length < 5864062014805 then ((some (y143 ++ [(⟨a1, a2, a3⟩ : S60)] : List (S60))).bind fun y146 => (if t135 = true then (if 0 ≤ (wrap64 (t134 + 1)) then (if (wrap64 (t134 + 1)) ≤ (l0.length : Int) then ((some (l0.drop ((wrap64 (t134 + 1)) : Int).toNat : List (S60))).bind fun y149 => (if y146.length + y149.length < 5864062014805 then (some (y146 ++ y149)) else (none))) else (none)) else (none)) else ((some (l0.drop (t134 : Int).toNat : List (S60))).bind fun y156 => (if y146.length + y156.length < 5864062014805 then (some (y146 ++ y156)) else (none))))) else (none)) else (if t135 = true then (if 0 ≤ (wrap64 (t134 + 1)) then (if (wrap64 (t134 + 1)) ≤ (l0.length : Int) then ((some (l0.drop ((wrap64 (t134 + 1)) : Int).toNat : List (S60))).bind fun y163 => (if y143.length + y163.length < 5864062014805 then (some (y143 ++ y163)) else (none))) else (none)) else (none)) else ((some (l0.drop (t134 : Int).toNat : List (S60))).bind fun y170 => (if y143.length + y170.length < 5864062014805 then (some (y143 ++ y170)) else (none)))))) else (none)) = some r := by first | (rw [hy139]; with_reducible exact H) | (have H2_ := (Option.bind_some _ _).symm.trans H; rw [hy139]; with_reducible exact H2_) | (have H2_ := (Option.bind_some _ _).symm.trans H; with_reducible exact H2_) | with_reducible exact H | (rw [hy139]; exact H) | exact H
   have Ny139 := Aside0.mk hy139; clear hy139
   by_cases c8 : y136.length + y139.length < 5864062014805
   ·
    rw [if_pos c8] at H
    have LMc8 := Aside0.mk c8; clear c8; obtain ⟨y143, hy143⟩ : ∃ y_ : List (S60), y_ = (y136 ++ y139) := ⟨_, rfl⟩
    replace H : (if a3 > 0 then (if y143.length < 5864062014805 then ((some (y143 ++ [(⟨a1, a2, a3⟩ : S60)] : List (S60))).bind fun y146 => (if t135 = true then (if 0 ≤ (wrap64 (t134 + 1)) then (if (wrap64 (t134 + 1)) ≤ (l0.length : Int) then ((some (l0.drop ((wrap64 (t134 + 1)) : Int).toNat : List (S60))).bind fun y149 => (if y146.length + y149.length < 5864062014805 then (some (y146 ++ y149)) else (none))) else (none)) else (none)) else ((some (l0.drop (t134 : Int).toNat : List (S60))).bind fun y156 => (if y146.length + y156.length < 5864062014805 then (some (y146 ++ y156)) else (none))))) else (none)) else (if t135 = true then (if 0 ≤ (wrap64 (t134 + 1)) then (if (wrap64 (t134 + 1)) ≤ (l0.length : Int) then ((some (l0.drop ((wrap64 (t134 + 1)) : Int).toNat : List (S60))).bind fun y163 => (if y143.length + y163.length < 5864062014805 then (some (y143 ++ y163)) else (none))) else (none)) else (none)) else ((some (l0.drop (t134 : Int).toNat : List (S60))).bind fun y170 => (if y143.length + y170.length < 5864062014805 then (some (y143 ++ y170)) else (none))))) = some r := by first | (rw [hy143]; with_reducible exact H) | (have H2_ := (Option.bind_some _ _).symm.trans H; rw [hy143]; with_reducible exact H2_) | (have H2_ := (Option.bind_some _ _).symm.trans H; with_reducible exact H2_) | with_reducible exact H | (rw [hy143]; exact H) | exact H
    have Ny143 := Aside0.mk hy143; clear hy143
    by_cases c9 : a3 > 0
    ·
     rw [if_pos c9] at H
     have c9b0 : decide (0 < a3) = true := decide_eq_true c9; clear c9
     by_cases c10 : y143.length < 5864062014805
     ·
      rw [if_pos c10] at H
      have LMc10 := Aside0.mk c10; clear c10; obtain ⟨y146, hy146⟩ : ∃ y_ : List (S60), y_ = (y143 ++ [(⟨a1, a2, a3⟩ : S60)]) := ⟨_, rfl⟩
      replace H : (if t135 = true then (if 0 ≤ (wrap64 (t134 + 1)) then (if (wrap64 (t134 + 1)) ≤ (l0.length : Int) then ((some (l0.drop ((wrap64 (t134 + 1)) : Int).toNat : List (S60))).bind fun y149 => (if y146.length + y149.length < 5864062014805 then (some (y146 ++ y149)) else (none))) else (none)) else (none)) else ((some (l0.drop (t134 : Int).toNat : List (S60))).bind fun y156 => (if y146.length + y156.length < 5864062014805 then (some (y146 ++ y156)) else (none)))) = some r := by first | (rw [hy146]; with_reducible exact H) | (have H2_ := (Option.bind_some _ _).symm.trans H; rw [hy146]; with_reducible exact H2_) | (have H2_ := (Option.bind_some _ _).symm.trans H; with_reducible exact H2_) | with_reducible exact H | (rw [hy146]; exact H) | exact H
      have Ny146 := Aside0.mk hy146; clear hy146
      by_cases c11 : t135 = true
      ·
       subst c11
       have H1 : (if 0 ≤ (wrap64 (t134 + 1)) then (if (wrap64 (t134 + 1)) ≤ (l0.length : Int) then ((some (l0.drop ((wrap64 (t134 + 1)) : Int).toNat : List (S60))).bind fun y149 => (if y146.length + y149.length < 5864062014805 then (some (y146 ++ y149)) else (none))) else (none)) else (none)) = some r := by rw [if_pos rfl] at H; exact H
       clear H; have H := H1; clear H1; obtain ⟨ji12, hji12⟩ : ∃ j_ : Int, (wrap64 (t134 + 1)) = j_ := ⟨_, rfl⟩
       replace H : (if 0 ≤ (ji12) then (if (ji12) ≤ (l0.length : Int) then ((some (l0.drop ((ji12) : Int).toNat : List (S60))).bind fun y149 => (if y146.length + y149.length < 5864062014805 then (some (y146 ++ y149)) else (none))) else (none)) else (none)) = some r := by first | (rw [hji12] at H; exact H) | (simp only [hji12] at H ⊢; exact H)
       (try rw [hji12] at A5)
       have hji12w : (IntKind.i64.wrap (t134 + 1)) = ji12 := (i64_w _).trans hji12
       by_cases c13 : 0 ≤ (ji12)
       ·
        rw [if_pos c13] at H
        have c13b0 := eq_true c13; have c13b1 : decide (0 ≤ (ji12)) = true := decide_eq_true c13; clear c13
        by_cases c14 : (ji12) ≤ (l0.length : Int)
        ·
         rw [if_pos c14] at H
         have c14b0 := eq_true c14; have c14b1 : decide ((ji12) ≤ (l0.length : Int)) = true := decide_eq_true c14; clear c14; obtain ⟨y149, hy149⟩ : ∃ y_ : List (S60), y_ = (l0.drop ((ji12) : Int).toNat) := ⟨_, rfl⟩
         replace H : (if y146.length + y149.length < 5864062014805 then (some (y146 ++ y149)) else (none)) = some r := by first | (rw [hy149]; with_reducible exact H) | (have H2_ := (Option.bind_some _ _).symm.trans H; rw [hy149]; with_reducible exact H2_) | (have H2_ := (Option.bind_some _ _).symm.trans H; with_reducible exact H2_) | with_reducible exact H | (rw [hy149]; exact H) | exact H
         have Ny149 := Aside0.mk hy149; clear hy149
         by_cases c15 : y146.length + y149.length < 5864062014805
         ·
          rw [if_pos c15] at H
          have LMc15 := Aside0.mk c15; clear c15; obtain ⟨y153, hy153⟩ : ∃ y_ : List (S60), y_ = (y146 ++ y149) := ⟨_, rfl⟩
          replace H : (some y153) = some r := by first | (rw [hy153]; with_reducible exact H) | (have H2_ := (Option.bind_some _ _).symm.trans H; rw [hy153]; with_reducible exact H2_) | (have H2_ := (Option.bind_some _ _).symm.trans H; with_reducible exact H2_) | with_reducible exact H | (rw [hy153]; exact H) | exact H
          have Ny153 := Aside0.mk hy153; clear hy153; obtain rfl := Option.some.inj H
          go_enter Tryd.func28, Tryd.ntmps28
          go_wp2_with (first | ((with_reducible refine gate_callee (f := 47) rfl ?_); refine goesL_ (some 16) rfl rfl Tryd.func47 (by kernel_rfl) rfl #[.slice A0 l0.length c0, .int .i64 a1, .int .i64 a2] rfl (by (try simp only [List.map_toArray, List.map_cons, List.map_nil]); first | done | rfl | (simp only [List.length_drop, List.length_take]; rfl)) ?_; (with_reducible refine (spec_enAt.calls k _ _ l0 a1 a2 t134 true _ ?side1 ?side2 A5.out).mono ?_); (case side1 => repeat (first | exact HR0.out | (with_reducible refine Kd.C_alloc ?_ _) | (with_reducible refine Kd.C_drewN ?_ _) | (with_reducible refine Kd.C_drew ?_))); (case side2 => exact HC0.out); rintro e w16 ⟨rfl, hb⟩; refine ⟨_, rfl, ?_⟩; replace HB := Aside0.mk (below_step (XSq.bB HB) hb); clear hb; (try clear hb2); (try clear hk); (try clear hi)) | ((with_reducible refine gate_dst (N := 19) rfl ?_); refine Kd.R_lit k60 _ 60 ?hg (N := 19) ?hd (xs := ([] : List (S60))) (inner := []) (ok := fun _ => True) (okp := fun _ => True) ?hr ?hp (fun _ hk => hk) trivial (Below.refl _ _) (Nat.le_refl _) (by simp) ?_; (case hd => rfl); (case hg => rfl); (case hr => first | (go_simp; done) | (go_simp; rfl)); (case hp => exact (Reps.none _ _)); intro v137 w17 ho18 hb hg_ hnew_; clear hg_ hnew_; (first | rw [← Ny136.out] at ho18 | (simp only [Int.reduceToNat] at ho18; rw [← Ny136.out] at ho18)); have HO138 := Aside0.mk (Kd.R_lower ho18 (below_size (XSq.bB HB))); replace HB := Aside0.mk (below_step (XSq.bB HB) hb); clear hb ho18; have q19 : (t134 : Int) ≤ ((l0.length : Int) : Int) := of_decide_eq_true (by first | (with_reducible assumption) | assumption); obtain ⟨i019, hi019, _, hsz19, _⟩ := info_parts info60; have hroom19 : l0.length ≤ c0 := HC0.out; have hC19 : Kd.C k60 _ A0 l0.length l0 := HR0.out; have hcut19 := cut_to (P := Tryd.prog) 26 60 .i64 Tryd.underlying26 hi019 A0 l0.length c0 t134 (of_decide_eq_true (by first | (with_reducible assumption) | assumption)) q19 hroom19; have hr19 := Kd.C_take (m := (t134 : Int).toNat) hC19 (by omega); have hy19 : y139.length = (t134 : Int).toNat := (by rw [Ny139.out, List.length_take]; omega); rw [← Ny139.out] at hr19; rw [← hy19] at hcut19; have HR142 := Aside0.mk hr19; have HC142 := Aside0.mk (show y139.length ≤ c0 from by omega); clear hr19 hC19 hroom19 hi019 hsz19; have KY19 := Aside0.mk hy19; clear hy19; replace q19 := eq_true q19) | ((with_reducible refine gate_builtin (b := .append) (xs := #[.tmp 19, .tmp 22]) rfl ?_); at_builtin; refine Kd.R_append_rows k60 (w0 := w) w.heap.size rfl (.tmp 19) (.tmp 22) 26 60 (.agg #[(.int .i64 0), (.int .i64 0), (.int .i64 0)]) 24 rfl Tryd.underlying26 info60 rfl (by decide) (by omega) v137 y136 y139 _ _ _ (fun _ => True) (fun _ => False) rfl rfl ?aO ?aR (fun _ _ h => h) (fun _ h => h.elim) ?aF ?aB ?aS ?aL ?_; (case aR => repeat (first | exact (Kd.C_below HR142.out HB.out) | (with_reducible refine Kd.C_alloc ?_ _) | (with_reducible refine Kd.C_drewN ?_ _) | (with_reducible refine Kd.C_drew ?_))); (case aB => exact (XSq.bB HB)); (case aF => exact (fun _ _ => trivial)); (case aO => exact (XSq.pR HO138)); (case aS => exact (below_size (XSq.bB HB))); (case aL => have := LMc8.out; omega); intro v144 w20 ho hb hg hat; rw [← Ny143.out] at ho; have HO145 := Aside0.mk (ho); replace HB := Aside0.mk (hb); clear HO138; clear ho hb hg hat) | ((with_reducible refine gate_builtin (b := .append) (xs := #[.tmp 26, .tmp 31]) rfl ?_); at_builtin; refine Kd.R_append k60 (w0 := w) w.heap.size rfl (.tmp 26) (.tmp 31) 26 60 (.agg #[(.int .i64 0), (.int .i64 0), (.int .i64 0)]) 24 rfl Tryd.underlying26 info60 rfl (by decide) (by omega) v144 y143 (⟨a1, a2, a3⟩ : S60) [.int .i64 a1, .int .i64 a2, .int .i64 a3] (fun _ => True) (fun _ => False) rfl rfl ?aP (fun _ hk => hk.elim) ?aF ?aO ?aB ?aS ?aL ?_; (case aP => exact k60_mkM _ _ _ (⟨a1, a2, a3⟩ : S60)); (case aB => exact (XSq.bB HB)); (case aF => exact (fun _ _ => trivial)); (case aO => exact (XSq.pR HO145)); (case aS => exact (below_size (XSq.bB HB))); (case aL => have := LMc10.out; omega); intro v147 w21 ho hb hg hat; rw [← Ny146.out] at ho; have HO148 := Aside0.mk (ho); replace HB := Aside0.mk (hb); clear HO145; clear ho hb hg hat; have q22 : ((ji12) : Int) ≤ ((l0.length : Int) : Int) := of_decide_eq_true (by first | (with_reducible assumption) | assumption); obtain ⟨i022, hi022, _, hsz22, _⟩ := info_parts info60; have hroom22 : l0.length ≤ c0 := HC0.out; have hC22 : Kd.C k60 _ A0 l0.length l0 := HR0.out; have q022 : (0 : Int) ≤ ((ji12) : Int) := of_decide_eq_true (by first | (with_reducible assumption) | assumption); have hcut22 := cut_from (P := Tryd.prog) 26 60 .i64 Tryd.underlying26 hi022 3 hsz22 A0 l0.length c0 (ji12) q022 q22; have hr22 := Kd.C_drop (m := ((ji12) : Int).toNat) (c := c0) hC22 (by omega) hroom22; obtain ⟨A22, hA22⟩ : ∃ A1, A1 = (if c0 = ((ji12) : Int).toNat then A0 else (A0 : Option Addr).map (·.add (((ji12) : Int).toNat * 3))) := ⟨_, rfl⟩; obtain ⟨c22, hc22⟩ : ∃ c1, c1 = c0 - ((ji12) : Int).toNat := ⟨_, rfl⟩; have hy22 : y149.length = l0.length - ((ji12) : Int).toNat := (by rw [Ny149.out, List.length_drop] <;> omega); rw [show (l0).drop ((ji12) : Int).toNat = y149 from Ny149.out.symm] at hr22; replace hr22 : Kd.C k60 _ A22 y149.length y149 := (by rw [hA22]; exact hr22); rw [← hy22, ← hA22, ← hc22] at hcut22; have HR152 := Aside0.mk hr22; have HC152 := Aside0.mk (show y149.length ≤ c22 from by rw [hy22, hc22]; exact Nat.sub_le_sub_right hroom22 _); clear hr22 hC22 hroom22 hi022 hsz22 hc22; have KY22 := Aside0.mk hy22; have KA22 := Aside0.mk hA22; clear hy22 hA22; replace q22 := eq_true q22) | ((with_reducible refine gate_builtin (b := .append) (xs := #[.tmp 36, .tmp 39]) rfl ?_); at_builtin; refine Kd.R_append_rows k60 (w0 := w) w.heap.size rfl (.tmp 36) (.tmp 39) 26 60 (.agg #[(.int .i64 0), (.int .i64 0), (.int .i64 0)]) 24 rfl Tryd.underlying26 info60 rfl (by decide) (by omega) v147 y146 y149 _ _ _ (fun _ => True) (fun _ => False) rfl rfl ?aO ?aR (fun _ _ h => h) (fun _ h => h.elim) ?aF ?aB ?aS ?aL ?_; (case aR => repeat (first | exact (Kd.C_below HR152.out HB.out) | (with_reducible refine Kd.C_alloc ?_ _) | (with_reducible refine Kd.C_drewN ?_ _) | (with_reducible refine Kd.C_drew ?_))); (case aB => exact (XSq.bB HB)); (case aF => exact (fun _ _ => trivial)); (case aO => exact (XSq.pR HO148)); (case aS => exact (below_size (XSq.bB HB))); (case aL => have := LMc15.out; omega); intro v154 w23 ho hb hg hat; rw [← Ny153.out] at ho; have HO155 := Aside0.mk (ho); replace HB := Aside0.mk (hb); clear HO148; clear ho hb hg hat))
          go_ret
          exact ⟨_, by first | rfl | (simp [errW_none, errW_some] <;> rfl) | (simp only [← hji12]; first | rfl | (simp [errW_none, errW_some] <;> rfl)) | (simp [*, errW_none, errW_some] <;> rfl), by (with_reducible repeat (first | apply Kd.R_alloc | apply Kd.R_drewN | apply Kd.R_drew)); exact HO155.out, by repeat (first | (with_reducible first | exact HB.out | apply below_alloc | apply pw_below_drewN | apply below_drew1) | exact HB.out)⟩
         ·
          rw [if_neg c15] at H
          exact absurd H (by simp)
        ·
         rw [if_neg c14] at H
         exact absurd H (by simp)
       ·
        rw [if_neg c13] at H
        exact absurd H (by simp)
      ·
       replace c11 := Bool.eq_false_iff.mpr c11; subst c11
       have H1 : ((some (l0.drop (t134 : Int).toNat : List (S60))).bind fun y156 => (if y146.length + y156.length < 5864062014805 then (some (y146 ++ y156)) else (none))) = some r := by rw [if_neg (show ¬ (false = true) by decide)] at H; exact H
       clear H; have H := H1; clear H1; have c24b0 := eq_true (of_decide_eq_true (by first | (with_reducible assumption) | assumption) : 0 ≤ t134); have c25b0 := eq_true (of_decide_eq_true (by first | (with_reducible assumption) | assumption) : t134 ≤ (l0.length : Int)); obtain ⟨y156, hy156⟩ : ∃ y_ : List (S60), y_ = (l0.drop (t134 : Int).toNat) := ⟨_, rfl⟩
       replace H : (if y146.length + y156.length < 5864062014805 then (some (y146 ++ y156)) else (none)) = some r := by first | (rw [hy156]; with_reducible exact H) | (have H2_ := (Option.bind_some _ _).symm.trans H; rw [hy156]; with_reducible exact H2_) | (have H2_ := (Option.bind_some _ _).symm.trans H; with_reducible exact H2_) | with_reducible exact H | (rw [hy156]; exact H) | exact H
       have Ny156 := Aside0.mk hy156; clear hy156
       by_cases c26 : y146.length + y156.length < 5864062014805
       ·
        rw [if_pos c26] at H
        have LMc26 := Aside0.mk c26; clear c26; obtain ⟨y160, hy160⟩ : ∃ y_ : List (S60), y_ = (y146 ++ y156) := ⟨_, rfl⟩
        replace H : (some y160) = some r := by first | (rw [hy160]; with_reducible exact H) | (have H2_ := (Option.bind_some _ _).symm.trans H; rw [hy160]; with_reducible exact H2_) | (have H2_ := (Option.bind_some _ _).symm.trans H; with_reducible exact H2_) | with_reducible exact H | (rw [hy160]; exact H) | exact H
        have Ny160 := Aside0.mk hy160; clear hy160; obtain rfl := Option.some.inj H
        go_enter Tryd.func28, Tryd.ntmps28
        go_wp2_with (first | ((with_reducible refine gate_callee (f := 47) rfl ?_); refine goesL_ (some 16) rfl rfl Tryd.func47 (by kernel_rfl) rfl #[.slice A0 l0.length c0, .int .i64 a1, .int .i64 a2] rfl (by (try simp only [List.map_toArray, List.map_cons, List.map_nil]); first | done | rfl | (simp only [List.length_drop, List.length_take]; rfl)) ?_; (with_reducible refine (spec_enAt.calls k _ _ l0 a1 a2 t134 false _ ?side1 ?side2 A5.out).mono ?_); (case side1 => repeat (first | exact HR0.out | (with_reducible refine Kd.C_alloc ?_ _) | (with_reducible refine Kd.C_drewN ?_ _) | (with_reducible refine Kd.C_drew ?_))); (case side2 => exact HC0.out); rintro e w27 ⟨rfl, hb⟩; refine ⟨_, rfl, ?_⟩; replace HB := Aside0.mk (below_step (XSq.bB HB) hb); clear hb; (try clear hb2); (try clear hk); (try clear hi)) | ((with_reducible refine gate_dst (N := 19) rfl ?_); refine Kd.R_lit k60 _ 60 ?hg (N := 19) ?hd (xs := ([] : List (S60))) (inner := []) (ok := fun _ => True) (okp := fun _ => True) ?hr ?hp (fun _ hk => hk) trivial (Below.refl _ _) (Nat.le_refl _) (by simp) ?_; (case hd => rfl); (case hg => rfl); (case hr => first | (go_simp; done) | (go_simp; rfl)); (case hp => exact (Reps.none _ _)); intro v137 w28 ho29 hb hg_ hnew_; clear hg_ hnew_; (first | rw [← Ny136.out] at ho29 | (simp only [Int.reduceToNat] at ho29; rw [← Ny136.out] at ho29)); have HO138 := Aside0.mk (Kd.R_lower ho29 (below_size (XSq.bB HB))); replace HB := Aside0.mk (below_step (XSq.bB HB) hb); clear hb ho29; have q30 : (t134 : Int) ≤ ((l0.length : Int) : Int) := of_decide_eq_true (by first | (with_reducible assumption) | assumption); obtain ⟨i030, hi030, _, hsz30, _⟩ := info_parts info60; have hroom30 : l0.length ≤ c0 := HC0.out; have hC30 : Kd.C k60 _ A0 l0.length l0 := HR0.out; have hcut30 := cut_to (P := Tryd.prog) 26 60 .i64 Tryd.underlying26 hi030 A0 l0.length c0 t134 (of_decide_eq_true (by first | (with_reducible assumption) | assumption)) q30 hroom30; have hr30 := Kd.C_take (m := (t134 : Int).toNat) hC30 (by omega); have hy30 : y139.length = (t134 : Int).toNat := (by rw [Ny139.out, List.length_take]; omega); rw [← Ny139.out] at hr30; rw [← hy30] at hcut30; have HR142 := Aside0.mk hr30; have HC142 := Aside0.mk (show y139.length ≤ c0 from by omega); clear hr30 hC30 hroom30 hi030 hsz30; have KY30 := Aside0.mk hy30; clear hy30; replace q30 := eq_true q30) | ((with_reducible refine gate_builtin (b := .append) (xs := #[.tmp 19, .tmp 22]) rfl ?_); at_builtin; refine Kd.R_append_rows k60 (w0 := w) w.heap.size rfl (.tmp 19) (.tmp 22) 26 60 (.agg #[(.int .i64 0), (.int .i64 0), (.int .i64 0)]) 24 rfl Tryd.underlying26 info60 rfl (by decide) (by omega) v137 y136 y139 _ _ _ (fun _ => True) (fun _ => False) rfl rfl ?aO ?aR (fun _ _ h => h) (fun _ h => h.elim) ?aF ?aB ?aS ?aL ?_; (case aR => repeat (first | exact (Kd.C_below HR142.out HB.out) | (with_reducible refine Kd.C_alloc ?_ _) | (with_reducible refine Kd.C_drewN ?_ _) | (with_reducible refine Kd.C_drew ?_))); (case aB => exact (XSq.bB HB)); (case aF => exact (fun _ _ => trivial)); (case aO => exact (XSq.pR HO138)); (case aS => exact (below_size (XSq.bB HB))); (case aL => have := LMc8.out; omega); intro v144 w31 ho hb hg hat; rw [← Ny143.out] at ho; have HO145 := Aside0.mk (ho); replace HB := Aside0.mk (hb); clear HO138; clear ho hb hg hat) | ((with_reducible refine gate_builtin (b := .append) (xs := #[.tmp 26, .tmp 31]) rfl ?_); at_builtin; refine Kd.R_append k60 (w0 := w) w.heap.size rfl (.tmp 26) (.tmp 31) 26 60 (.agg #[(.int .i64 0), (.int .i64 0), (.int .i64 0)]) 24 rfl Tryd.underlying26 info60 rfl (by decide) (by omega) v144 y143 (⟨a1, a2, a3⟩ : S60) [.int .i64 a1, .int .i64 a2, .int .i64 a3] (fun _ => True) (fun _ => False) rfl rfl ?aP (fun _ hk => hk.elim) ?aF ?aO ?aB ?aS ?aL ?_; (case aP => exact k60_mkM _ _ _ (⟨a1, a2, a3⟩ : S60)); (case aB => exact (XSq.bB HB)); (case aF => exact (fun _ _ => trivial)); (case aO => exact (XSq.pR HO145)); (case aS => exact (below_size (XSq.bB HB))); (case aL => have := LMc10.out; omega); intro v147 w32 ho hb hg hat; rw [← Ny146.out] at ho; have HO148 := Aside0.mk (ho); replace HB := Aside0.mk (hb); clear HO145; clear ho hb hg hat; have q33 : (t134 : Int) ≤ ((l0.length : Int) : Int) := of_decide_eq_true (by first | (with_reducible assumption) | assumption); obtain ⟨i033, hi033, _, hsz33, _⟩ := info_parts info60; have hroom33 : l0.length ≤ c0 := HC0.out; have hC33 : Kd.C k60 _ A0 l0.length l0 := HR0.out; have q033 : (0 : Int) ≤ (t134 : Int) := of_decide_eq_true (by first | (with_reducible assumption) | assumption); have hcut33 := cut_from (P := Tryd.prog) 26 60 .i64 Tryd.underlying26 hi033 3 hsz33 A0 l0.length c0 t134 q033 q33; have hr33 := Kd.C_drop (m := (t134 : Int).toNat) (c := c0) hC33 (by omega) hroom33; obtain ⟨A33, hA33⟩ : ∃ A1, A1 = (if c0 = (t134 : Int).toNat then A0 else (A0 : Option Addr).map (·.add ((t134 : Int).toNat * 3))) := ⟨_, rfl⟩; obtain ⟨c33, hc33⟩ : ∃ c1, c1 = c0 - (t134 : Int).toNat := ⟨_, rfl⟩; have hy33 : y156.length = l0.length - (t134 : Int).toNat := (by rw [Ny156.out, List.length_drop] <;> omega); rw [show (l0).drop (t134 : Int).toNat = y156 from Ny156.out.symm] at hr33; replace hr33 : Kd.C k60 _ A33 y156.length y156 := (by rw [hA33]; exact hr33); rw [← hy33, ← hA33, ← hc33] at hcut33; have HR159 := Aside0.mk hr33; have HC159 := Aside0.mk (show y156.length ≤ c33 from by rw [hy33, hc33]; exact Nat.sub_le_sub_right hroom33 _); clear hr33 hC33 hroom33 hi033 hsz33 hc33; have KY33 := Aside0.mk hy33; have KA33 := Aside0.mk hA33; clear hy33 hA33; replace q33 := eq_true q33) | ((with_reducible refine gate_builtin (b := .append) (xs := #[.tmp 36, .tmp 39]) rfl ?_); at_builtin; refine Kd.R_append_rows k60 (w0 := w) w.heap.size rfl (.tmp 36) (.tmp 39) 26 60 (.agg #[(.int .i64 0), (.int .i64 0), (.int .i64 0)]) 24 rfl Tryd.underlying26 info60 rfl (by decide) (by omega) v147 y146 y156 _ _ _ (fun _ => True) (fun _ => False) rfl rfl ?aO ?aR (fun _ _ h => h) (fun _ h => h.elim) ?aF ?aB ?aS ?aL ?_; (case aR => repeat (first | exact (Kd.C_below HR159.out HB.out) | (with_reducible refine Kd.C_alloc ?_ _) | (with_reducible refine Kd.C_drewN ?_ _) | (with_reducible refine Kd.C_drew ?_))); (case aB => exact (XSq.bB HB)); (case aF => exact (fun _ _ => trivial)); (case aO => exact (XSq.pR HO148)); (case aS => exact (below_size (XSq.bB HB))); (case aL => have := LMc26.out; omega); intro v161 w34 ho hb hg hat; rw [← Ny160.out] at ho; have HO162 := Aside0.mk (ho); replace HB := Aside0.mk (hb); clear HO148; clear ho hb hg hat))
        go_ret
        exact ⟨_, by first | rfl | (simp [errW_none, errW_some] <;> rfl) | (simp [*, errW_none, errW_some] <;> rfl), by (with_reducible repeat (first | apply Kd.R_alloc | apply Kd.R_drewN | apply Kd.R_drew)); exact HO162.out, by repeat (first | (with_reducible first | exact HB.out | apply below_alloc | apply pw_below_drewN | apply below_drew1) | exact HB.out)⟩
       ·
        rw [if_neg c26] at H
        exact absurd H (by simp)
     ·
      rw [if_neg c10] at H
      exact absurd H (by simp)
    ·
     rw [if_neg c9] at H
     have c9b0 : decide (0 < a3) = false := decide_eq_false c9; clear c9
     by_cases c35 : t135 = true
     ·
      subst c35
      have H1 : (if 0 ≤ (wrap64 (t134 + 1)) then (if (wrap64 (t134 + 1)) ≤ (l0.length : Int) then ((some (l0.drop ((wrap64 (t134 + 1)) : Int).toNat : List (S60))).bind fun y163 => (if y143.length + y163.length < 5864062014805 then (some (y143 ++ y163)) else (none))) else (none)) else (none)) = some r := by rw [if_pos rfl] at H; exact H
      clear H; have H := H1; clear H1; obtain ⟨ji36, hji36⟩ : ∃ j_ : Int, (wrap64 (t134 + 1)) = j_ := ⟨_, rfl⟩
      replace H : (if 0 ≤ (ji36) then (if (ji36) ≤ (l0.length : Int) then ((some (l0.drop ((ji36) : Int).toNat : List (S60))).bind fun y163 => (if y143.length + y163.length < 5864062014805 then (some (y143 ++ y163)) else (none))) else (none)) else (none)) = some r := by first | (rw [hji36] at H; exact H) | (simp only [hji36] at H ⊢; exact H)
      (try rw [hji36] at A5)
      have hji36w : (IntKind.i64.wrap (t134 + 1)) = ji36 := (i64_w _).trans hji36
      by_cases c37 : 0 ≤ (ji36)
      ·
       rw [if_pos c37] at H
       have c37b0 := eq_true c37; have c37b1 : decide (0 ≤ (ji36)) = true := decide_eq_true c37; clear c37
       by_cases c38 : (ji36) ≤ (l0.length : Int)
       ·
        rw [if_pos c38] at H
        have c38b0 := eq_true c38; have c38b1 : decide ((ji36) ≤ (l0.length : Int)) = true := decide_eq_true c38; clear c38; obtain ⟨y163, hy163⟩ : ∃ y_ : List (S60), y_ = (l0.drop ((ji36) : Int).toNat) := ⟨_, rfl⟩
        replace H : (if y143.length + y163.length < 5864062014805 then (some (y143 ++ y163)) else (none)) = some r := by first | (rw [hy163]; with_reducible exact H) | (have H2_ := (Option.bind_some _ _).symm.trans H; rw [hy163]; with_reducible exact H2_) | (have H2_ := (Option.bind_some _ _).symm.trans H; with_reducible exact H2_) | with_reducible exact H | (rw [hy163]; exact H) | exact H
        have Ny163 := Aside0.mk hy163; clear hy163
        by_cases c39 : y143.length + y163.length < 5864062014805
        ·
         rw [if_pos c39] at H
         have LMc39 := Aside0.mk c39; clear c39; obtain ⟨y167, hy167⟩ : ∃ y_ : List (S60), y_ = (y143 ++ y163) := ⟨_, rfl⟩
         replace H : (some y167) = some r := by first | (rw [hy167]; with_reducible exact H) | (have H2_ := (Option.bind_some _ _).symm.trans H; rw [hy167]; with_reducible exact H2_) | (have H2_ := (Option.bind_some _ _).symm.trans H; with_reducible exact H2_) | with_reducible exact H | (rw [hy167]; exact H) | exact H
         have Ny167 := Aside0.mk hy167; clear hy167; obtain rfl := Option.some.inj H
         go_enter Tryd.func28, Tryd.ntmps28
         go_wp2_with (first | ((with_reducible refine gate_callee (f := 47) rfl ?_); refine goesL_ (some 16) rfl rfl Tryd.func47 (by kernel_rfl) rfl #[.slice A0 l0.length c0, .int .i64 a1, .int .i64 a2] rfl (by (try simp only [List.map_toArray, List.map_cons, List.map_nil]); first | done | rfl | (simp only [List.length_drop, List.length_take]; rfl)) ?_; (with_reducible refine (spec_enAt.calls k _ _ l0 a1 a2 t134 true _ ?side1 ?side2 A5.out).mono ?_); (case side1 => repeat (first | exact HR0.out | (with_reducible refine Kd.C_alloc ?_ _) | (with_reducible refine Kd.C_drewN ?_ _) | (with_reducible refine Kd.C_drew ?_))); (case side2 => exact HC0.out); rintro e w40 ⟨rfl, hb⟩; refine ⟨_, rfl, ?_⟩; replace HB := Aside0.mk (below_step (XSq.bB HB) hb); clear hb; (try clear hb2); (try clear hk); (try clear hi)) | ((with_reducible refine gate_dst (N := 19) rfl ?_); refine Kd.R_lit k60 _ 60 ?hg (N := 19) ?hd (xs := ([] : List (S60))) (inner := []) (ok := fun _ => True) (okp := fun _ => True) ?hr ?hp (fun _ hk => hk) trivial (Below.refl _ _) (Nat.le_refl _) (by simp) ?_; (case hd => rfl); (case hg => rfl); (case hr => first | (go_simp; done) | (go_simp; rfl)); (case hp => exact (Reps.none _ _)); intro v137 w41 ho42 hb hg_ hnew_; clear hg_ hnew_; (first | rw [← Ny136.out] at ho42 | (simp only [Int.reduceToNat] at ho42; rw [← Ny136.out] at ho42)); have HO138 := Aside0.mk (Kd.R_lower ho42 (below_size (XSq.bB HB))); replace HB := Aside0.mk (below_step (XSq.bB HB) hb); clear hb ho42; have q43 : (t134 : Int) ≤ ((l0.length : Int) : Int) := of_decide_eq_true (by first | (with_reducible assumption) | assumption); obtain ⟨i043, hi043, _, hsz43, _⟩ := info_parts info60; have hroom43 : l0.length ≤ c0 := HC0.out; have hC43 : Kd.C k60 _ A0 l0.length l0 := HR0.out; have hcut43 := cut_to (P := Tryd.prog) 26 60 .i64 Tryd.underlying26 hi043 A0 l0.length c0 t134 (of_decide_eq_true (by first | (with_reducible assumption) | assumption)) q43 hroom43; have hr43 := Kd.C_take (m := (t134 : Int).toNat) hC43 (by omega); have hy43 : y139.length = (t134 : Int).toNat := (by rw [Ny139.out, List.length_take]; omega); rw [← Ny139.out] at hr43; rw [← hy43] at hcut43; have HR142 := Aside0.mk hr43; have HC142 := Aside0.mk (show y139.length ≤ c0 from by omega); clear hr43 hC43 hroom43 hi043 hsz43; have KY43 := Aside0.mk hy43; clear hy43; replace q43 := eq_true q43) | ((with_reducible refine gate_builtin (b := .append) (xs := #[.tmp 19, .tmp 22]) rfl ?_); at_builtin; refine Kd.R_append_rows k60 (w0 := w) w.heap.size rfl (.tmp 19) (.tmp 22) 26 60 (.agg #[(.int .i64 0), (.int .i64 0), (.int .i64 0)]) 24 rfl Tryd.underlying26 info60 rfl (by decide) (by omega) v137 y136 y139 _ _ _ (fun _ => True) (fun _ => False) rfl rfl ?aO ?aR (fun _ _ h => h) (fun _ h => h.elim) ?aF ?aB ?aS ?aL ?_; (case aR => repeat (first | exact (Kd.C_below HR142.out HB.out) | (with_reducible refine Kd.C_alloc ?_ _) | (with_reducible refine Kd.C_drewN ?_ _) | (with_reducible refine Kd.C_drew ?_))); (case aB => exact (XSq.bB HB)); (case aF => exact (fun _ _ => trivial)); (case aO => exact (XSq.pR HO138)); (case aS => exact (below_size (XSq.bB HB))); (case aL => have := LMc8.out; omega); intro v144 w44 ho hb hg hat; rw [← Ny143.out] at ho; have HO145 := Aside0.mk (ho); replace HB := Aside0.mk (hb); clear HO138; clear ho hb hg hat; have q45 : ((ji36) : Int) ≤ ((l0.length : Int) : Int) := of_decide_eq_true (by first | (with_reducible assumption) | assumption); obtain ⟨i045, hi045, _, hsz45, _⟩ := info_parts info60; have hroom45 : l0.length ≤ c0 := HC0.out; have hC45 : Kd.C k60 _ A0 l0.length l0 := HR0.out; have q045 : (0 : Int) ≤ ((ji36) : Int) := of_decide_eq_true (by first | (with_reducible assumption) | assumption); have hcut45 := cut_from (P := Tryd.prog) 26 60 .i64 Tryd.underlying26 hi045 3 hsz45 A0 l0.length c0 (ji36) q045 q45; have hr45 := Kd.C_drop (m := ((ji36) : Int).toNat) (c := c0) hC45 (by omega) hroom45; obtain ⟨A45, hA45⟩ : ∃ A1, A1 = (if c0 = ((ji36) : Int).toNat then A0 else (A0 : Option Addr).map (·.add (((ji36) : Int).toNat * 3))) := ⟨_, rfl⟩; obtain ⟨c45, hc45⟩ : ∃ c1, c1 = c0 - ((ji36) : Int).toNat := ⟨_, rfl⟩; have hy45 : y163.length = l0.length - ((ji36) : Int).toNat := (by rw [Ny163.out, List.length_drop] <;> omega); rw [show (l0).drop ((ji36) : Int).toNat = y163 from Ny163.out.symm] at hr45; replace hr45 : Kd.C k60 _ A45 y163.length y163 := (by rw [hA45]; exact hr45); rw [← hy45, ← hA45, ← hc45] at hcut45; have HR166 := Aside0.mk hr45; have HC166 := Aside0.mk (show y163.length ≤ c45 from by rw [hy45, hc45]; exact Nat.sub_le_sub_right hroom45 _); clear hr45 hC45 hroom45 hi045 hsz45 hc45; have KY45 := Aside0.mk hy45; have KA45 := Aside0.mk hA45; clear hy45 hA45; replace q45 := eq_true q45) | ((with_reducible refine gate_builtin (b := .append) (xs := #[.tmp 36, .tmp 39]) rfl ?_); at_builtin; refine Kd.R_append_rows k60 (w0 := w) w.heap.size rfl (.tmp 36) (.tmp 39) 26 60 (.agg #[(.int .i64 0), (.int .i64 0), (.int .i64 0)]) 24 rfl Tryd.underlying26 info60 rfl (by decide) (by omega) v144 y143 y163 _ _ _ (fun _ => True) (fun _ => False) rfl rfl ?aO ?aR (fun _ _ h => h) (fun _ h => h.elim) ?aF ?aB ?aS ?aL ?_; (case aR => repeat (first | exact (Kd.C_below HR166.out HB.out) | (with_reducible refine Kd.C_alloc ?_ _) | (with_reducible refine Kd.C_drewN ?_ _) | (with_reducible refine Kd.C_drew ?_))); (case aB => exact (XSq.bB HB)); (case aF => exact (fun _ _ => trivial)); (case aO => exact (XSq.pR HO145)); (case aS => exact (below_size (XSq.bB HB))); (case aL => have := LMc39.out; omega); intro v168 w46 ho hb hg hat; rw [← Ny167.out] at ho; have HO169 := Aside0.mk (ho); replace HB := Aside0.mk (hb); clear HO145; clear ho hb hg hat))
         go_ret
         exact ⟨_, by first | rfl | (simp [errW_none, errW_some] <;> rfl) | (simp only [← hji36]; first | rfl | (simp [errW_none, errW_some] <;> rfl)) | (simp [*, errW_none, errW_some] <;> rfl), by (with_reducible repeat (first | apply Kd.R_alloc | apply Kd.R_drewN | apply Kd.R_drew)); exact HO169.out, by repeat (first | (with_reducible first | exact HB.out | apply below_alloc | apply pw_below_drewN | apply below_drew1) | exact HB.out)⟩
        ·
         rw [if_neg c39] at H
         exact absurd H (by simp)
       ·
        rw [if_neg c38] at H
        exact absurd H (by simp)
      ·
       rw [if_neg c37] at H
       exact absurd H (by simp)
     ·
      replace c35 := Bool.eq_false_iff.mpr c35; subst c35
      have H1 : ((some (l0.drop (t134 : Int).toNat : List (S60))).bind fun y170 => (if y143.length + y170.length < 5864062014805 then (some (y143 ++ y170)) else (none))) = some r := by rw [if_neg (show ¬ (false = true) by decide)] at H; exact H
      clear H; have H := H1; clear H1; have c47b0 := eq_true (of_decide_eq_true (by first | (with_reducible assumption) | assumption) : 0 ≤ t134); have c48b0 := eq_true (of_decide_eq_true (by first | (with_reducible assumption) | assumption) : t134 ≤ (l0.length : Int)); obtain ⟨y170, hy170⟩ : ∃ y_ : List (S60), y_ = (l0.drop (t134 : Int).toNat) := ⟨_, rfl⟩
      replace H : (if y143.length + y170.length < 5864062014805 then (some (y143 ++ y170)) else (none)) = some r := by first | (rw [hy170]; with_reducible exact H) | (have H2_ := (Option.bind_some _ _).symm.trans H; rw [hy170]; with_reducible exact H2_) | (have H2_ := (Option.bind_some _ _).symm.trans H; with_reducible exact H2_) | with_reducible exact H | (rw [hy170]; exact H) | exact H
      have Ny170 := Aside0.mk hy170; clear hy170
      by_cases c49 : y143.length + y170.length < 5864062014805
      ·
       rw [if_pos c49] at H
       have LMc49 := Aside0.mk c49; clear c49; obtain ⟨y174, hy174⟩ : ∃ y_ : List (S60), y_ = (y143 ++ y170) := ⟨_, rfl⟩
       replace H : (some y174) = some r := by first | (rw [hy174]; with_reducible exact H) | (have H2_ := (Option.bind_some _ _).symm.trans H; rw [hy174]; with_reducible exact H2_) | (have H2_ := (Option.bind_some _ _).symm.trans H; with_reducible exact H2_) | with_reducible exact H | (rw [hy174]; exact H) | exact H
       have Ny174 := Aside0.mk hy174; clear hy174; obtain rfl := Option.some.inj H
       go_enter Tryd.func28, Tryd.ntmps28
       go_wp2_with (first | ((with_reducible refine gate_callee (f := 47) rfl ?_); refine goesL_ (some 16) rfl rfl Tryd.func47 (by kernel_rfl) rfl #[.slice A0 l0.length c0, .int .i64 a1, .int .i64 a2] rfl (by (try simp only [List.map_toArray, List.map_cons, List.map_nil]); first | done | rfl | (simp only [List.length_drop, List.length_take]; rfl)) ?_; (with_reducible refine (spec_enAt.calls k _ _ l0 a1 a2 t134 false _ ?side1 ?side2 A5.out).mono ?_); (case side1 => repeat (first | exact HR0.out | (with_reducible refine Kd.C_alloc ?_ _) | (with_reducible refine Kd.C_drewN ?_ _) | (with_reducible refine Kd.C_drew ?_))); (case side2 => exact HC0.out); rintro e w50 ⟨rfl, hb⟩; refine ⟨_, rfl, ?_⟩; replace HB := Aside0.mk (below_step (XSq.bB HB) hb); clear hb; (try clear hb2); (try clear hk); (try clear hi)) | ((with_reducible refine gate_dst (N := 19) rfl ?_); refine Kd.R_lit k60 _ 60 ?hg (N := 19) ?hd (xs := ([] : List (S60))) (inner := []) (ok := fun _ => True) (okp := fun _ => True) ?hr ?hp (fun _ hk => hk) trivial (Below.refl _ _) (Nat.le_refl _) (by simp) ?_; (case hd => rfl); (case hg => rfl); (case hr => first | (go_simp; done) | (go_simp; rfl)); (case hp => exact (Reps.none _ _)); intro v137 w51 ho52 hb hg_ hnew_; clear hg_ hnew_; (first | rw [← Ny136.out] at ho52 | (simp only [Int.reduceToNat] at ho52; rw [← Ny136.out] at ho52)); have HO138 := Aside0.mk (Kd.R_lower ho52 (below_size (XSq.bB HB))); replace HB := Aside0.mk (below_step (XSq.bB HB) hb); clear hb ho52; have q53 : (t134 : Int) ≤ ((l0.length : Int) : Int) := of_decide_eq_true (by first | (with_reducible assumption) | assumption); obtain ⟨i053, hi053, _, hsz53, _⟩ := info_parts info60; have hroom53 : l0.length ≤ c0 := HC0.out; have hC53 : Kd.C k60 _ A0 l0.length l0 := HR0.out; have hcut53 := cut_to (P := Tryd.prog) 26 60 .i64 Tryd.underlying26 hi053 A0 l0.length c0 t134 (of_decide_eq_true (by first | (with_reducible assumption) | assumption)) q53 hroom53; have hr53 := Kd.C_take (m := (t134 : Int).toNat) hC53 (by omega); have hy53 : y139.length = (t134 : Int).toNat := (by rw [Ny139.out, List.length_take]; omega); rw [← Ny139.out] at hr53; rw [← hy53] at hcut53; have HR142 := Aside0.mk hr53; have HC142 := Aside0.mk (show y139.length ≤ c0 from by omega); clear hr53 hC53 hroom53 hi053 hsz53; have KY53 := Aside0.mk hy53; clear hy53; replace q53 := eq_true q53) | ((with_reducible refine gate_builtin (b := .append) (xs := #[.tmp 19, .tmp 22]) rfl ?_); at_builtin; refine Kd.R_append_rows k60 (w0 := w) w.heap.size rfl (.tmp 19) (.tmp 22) 26 60 (.agg #[(.int .i64 0), (.int .i64 0), (.int .i64 0)]) 24 rfl Tryd.underlying26 info60 rfl (by decide) (by omega) v137 y136 y139 _ _ _ (fun _ => True) (fun _ => False) rfl rfl ?aO ?aR (fun _ _ h => h) (fun _ h => h.elim) ?aF ?aB ?aS ?aL ?_; (case aR => repeat (first | exact (Kd.C_below HR142.out HB.out) | (with_reducible refine Kd.C_alloc ?_ _) | (with_reducible refine Kd.C_drewN ?_ _) | (with_reducible refine Kd.C_drew ?_))); (case aB => exact (XSq.bB HB)); (case aF => exact (fun _ _ => trivial)); (case aO => exact (XSq.pR HO138)); (case aS => exact (below_size (XSq.bB HB))); (case aL => have := LMc8.out; omega); intro v144 w54 ho hb hg hat; rw [← Ny143.out] at ho; have HO145 := Aside0.mk (ho); replace HB := Aside0.mk (hb); clear HO138; clear ho hb hg hat; have q55 : (t134 : Int) ≤ ((l0.length : Int) : Int) := of_decide_eq_true (by first | (with_reducible assumption) | assumption); obtain ⟨i055, hi055, _, hsz55, _⟩ := info_parts info60; have hroom55 : l0.length ≤ c0 := HC0.out; have hC55 : Kd.C k60 _ A0 l0.length l0 := HR0.out; have q055 : (0 : Int) ≤ (t134 : Int) := of_decide_eq_true (by first | (with_reducible assumption) | assumption); have hcut55 := cut_from (P := Tryd.prog) 26 60 .i64 Tryd.underlying26 hi055 3 hsz55 A0 l0.length c0 t134 q055 q55; have hr55 := Kd.C_drop (m := (t134 : Int).toNat) (c := c0) hC55 (by omega) hroom55; obtain ⟨A55, hA55⟩ : ∃ A1, A1 = (if c0 = (t134 : Int).toNat then A0 else (A0 : Option Addr).map (·.add ((t134 : Int).toNat * 3))) := ⟨_, rfl⟩; obtain ⟨c55, hc55⟩ : ∃ c1, c1 = c0 - (t134 : Int).toNat := ⟨_, rfl⟩; have hy55 : y170.length = l0.length - (t134 : Int).toNat := (by rw [Ny170.out, List.length_drop] <;> omega); rw [show (l0).drop (t134 : Int).toNat = y170 from Ny170.out.symm] at hr55; replace hr55 : Kd.C k60 _ A55 y170.length y170 := (by rw [hA55]; exact hr55); rw [← hy55, ← hA55, ← hc55] at hcut55; have HR173 := Aside0.mk hr55; have HC173 := Aside0.mk (show y170.length ≤ c55 from by rw [hy55, hc55]; exact Nat.sub_le_sub_right hroom55 _); clear hr55 hC55 hroom55 hi055 hsz55 hc55; have KY55 := Aside0.mk hy55; have KA55 := Aside0.mk hA55; clear hy55 hA55; replace q55 := eq_true q55) | ((with_reducible refine gate_builtin (b := .append) (xs := #[.tmp 36, .tmp 39]) rfl ?_); at_builtin; refine Kd.R_append_rows k60 (w0 := w) w.heap.size rfl (.tmp 36) (.tmp 39) 26 60 (.agg #[(.int .i64 0), (.int .i64 0), (.int .i64 0)]) 24 rfl Tryd.underlying26 info60 rfl (by decide) (by omega) v144 y143 y170 _ _ _ (fun _ => True) (fun _ => False) rfl rfl ?aO ?aR (fun _ _ h => h) (fun _ h => h.elim) ?aF ?aB ?aS ?aL ?_; (case aR => repeat (first | exact (Kd.C_below HR173.out HB.out) | (with_reducible refine Kd.C_alloc ?_ _) | (with_reducible refine Kd.C_drewN ?_ _) | (with_reducible refine Kd.C_drew ?_))); (case aB => exact (XSq.bB HB)); (case aF => exact (fun _ _ => trivial)); (case aO => exact (XSq.pR HO145)); (case aS => exact (below_size (XSq.bB HB))); (case aL => have := LMc49.out; omega); intro v175 w56 ho hb hg hat; rw [← Ny174.out] at ho; have HO176 := Aside0.mk (ho); replace HB := Aside0.mk (hb); clear HO145; clear ho hb hg hat))
       go_ret
       exact ⟨_, by first | rfl | (simp [errW_none, errW_some] <;> rfl) | (simp [*, errW_none, errW_some] <;> rfl), by (with_reducible repeat (first | apply Kd.R_alloc | apply Kd.R_drewN | apply Kd.R_drew)); exact HO176.out, by repeat (first | (with_reducible first | exact HB.out | apply below_alloc | apply pw_below_drewN | apply below_drew1) | exact HB.out)⟩
      ·
       rw [if_neg c49] at H
       exact absurd H (by simp)
   ·
    rw [if_neg c8] at H
    exact absurd H (by simp)
  ·
   rw [if_neg c7] at H
   exact absurd H (by simp)
 ·
  rw [if_neg c6] at H
  exact absurd H (by simp)

/-- A state of type 28 at block g of W; what its slices lead to came in by w0. -/
def IsS28 (w0 W : World) (g : Nat) (f0 : ByteArray) (f1 : List (S60)) (f2 : Int) (f3 : Int) (f4 : Int) : Prop := ∃ A1 c1, W.heap[g]? = some (.cells #[.string f0, .slice A1 f1.length c1, .int .i64 f2, .int .i64 f3, .int .i64 f4] 28 (0, 0)) ∧ w0.heap.size ≤ g ∧ Kd.C k60 w0 A1 f1.length f1
theorem IsS28.grown {w0 W : World} {g : Nat} {f0 : ByteArray} {f1 : List (S60)} {f2 : Int} {f3 : Int} {f4 : Int} {W1 : World} {row : Option Nat} (h : IsS28 w0 W g f0 f1 f2 f3 f4) (hw : W.grownBy W1 row) (hne : some g ≠ row) : IsS28 w0 W1 g f0 f1 f2 f3 f4 := by
 obtain ⟨A1, c1, hb, hg, hr1⟩ := h
 exact ⟨A1, c1, blk_grown hb hw hne, hg, hr1⟩
theorem IsS28.kept {w0 W : World} {g : Nat} {f0 : ByteArray} {f1 : List (S60)} {f2 : Int} {f3 : Int} {f4 : Int} {W1 : World} {S : Nat → Prop} (h : IsS28 w0 W g f0 f1 f2 f3 f4) (hk : Kept W W1 S) (hne : ¬ S g) : IsS28 w0 W1 g f0 f1 f2 f3 f4 := by
 obtain ⟨A1, c1, hb, hg, hr1⟩ := h
 exact ⟨A1, c1, blk_kept hb hk hne, hg, hr1⟩
theorem IsS28.below {w0 W : World} {g : Nat} {f0 : ByteArray} {f1 : List (S60)} {f2 : Int} {f3 : Int} {f4 : Int} {W1 : World} (h : IsS28 w0 W g f0 f1 f2 f3 f4) (hw : Below W.heap.size W W1) : IsS28 w0 W1 g f0 f1 f2 f3 f4 := h.grown (grown_of_below hw none) (by simp)
theorem IsS28.alloc {w0 W : World} {g : Nat} {f0 : ByteArray} {f1 : List (S60)} {f2 : Int} {f3 : Int} {f4 : Int} (h : IsS28 w0 W g f0 f1 f2 f3 f4) (o : Obj) : IsS28 w0 (W.alloc o) g f0 f1 f2 f3 f4 := h.below (below_alloc (Below.refl _ _) o)
theorem IsS28.drewN {w0 W : World} {g : Nat} {f0 : ByteArray} {f1 : List (S60)} {f2 : Int} {f3 : Int} {f4 : Int} (h : IsS28 w0 W g f0 f1 f2 f3 f4) (m : Nat) : IsS28 w0 (W.drewN m) g f0 f1 f2 f3 f4 := h
theorem IsS28.drew {w0 W : World} {g : Nat} {f0 : ByteArray} {f1 : List (S60)} {f2 : Int} {f3 : Int} {f4 : Int} (h : IsS28 w0 W g f0 f1 f2 f3 f4) : IsS28 w0 W.drew g f0 f1 f2 f3 f4 := h
theorem IsS28.at_ {w0 W : World} {g : Nat} {f0 : ByteArray} {f1 : List (S60)} {f2 : Int} {f3 : Int} {f4 : Int} {w' : World} {m : Nat} (hq : W.drewN m = w') (h : IsS28 w0 W g f0 f1 f2 f3 f4) : IsS28 w0 w' g f0 f1 f2 f3 f4 := by subst hq; exact IsS28.drewN h m
theorem IsS28.apart {w0 W : World} {g : Nat} {f0 : ByteArray} {f1 : List (S60)} {f2 : Int} {f3 : Int} {f4 : Int} {α : Type} {d : Kd α} {e : Nat} {base : Nat} {ok : Nat → Prop} {v : Value} {xs : List α} (h : IsS28 w0 W g f0 f1 f2 f3 f4) (ho : d.R e W base ok v xs) (ht : ∀ q, q ∈ e :: d.E → q ≠ 28) : d.R e W base (fun k => ok k ∧ k ≠ g) v xs := by
 obtain ⟨A1, c1, hb, hg, hr1⟩ := h
 exact Kd.R_types ho hb ht
theorem IsS28.own_ne {w0 W : World} {g : Nat} {f0 : ByteArray} {f1 : List (S60)} {f2 : Int} {f3 : Int} {f4 : Int} {α : Type} {d : Kd α} {e : Nat} {base : Nat} {ok : Nat → Prop} {v : Value} {xs : List α} (h : IsS28 w0 W g f0 f1 f2 f3 f4) (ho : d.R e W base ok v xs) (ht : e ≠ 28) : some g ≠ v.ownBlock := by
 obtain ⟨A1, c1, hb, hg, hr1⟩ := h
 exact Kd.R_ne ho hb ht
theorem IsS28.lt {w0 W : World} {g : Nat} {f0 : ByteArray} {f1 : List (S60)} {f2 : Int} {f3 : Int} {f4 : Int} (h : IsS28 w0 W g f0 f1 f2 f3 f4) : g < W.heap.size := by
 obtain ⟨A1, c1, hb, hg, hr1⟩ := h
 exact blk_lt hb
theorem IsS28.ge {w0 W : World} {g : Nat} {f0 : ByteArray} {f1 : List (S60)} {f2 : Int} {f3 : Int} {f4 : Int} (h : IsS28 w0 W g f0 f1 f2 f3 f4) : w0.heap.size ≤ g := by
 obtain ⟨A1, c1, hb, hg, hr1⟩ := h
 exact hg
theorem IsS28.far {w0 W : World} {g : Nat} {f0 : ByteArray} {f1 : List (S60)} {f2 : Int} {f3 : Int} {f4 : Int} {p : Addr} (h : IsS28 w0 W g f0 f1 f2 f3 f4) (hne : g ≠ p.block) (u : Value) : IsS28 w0 (W.setCell p u) g f0 f1 f2 f3 f4 := by
 obtain ⟨A1, c1, hb, hg, hr1⟩ := h
 exact ⟨A1, c1, blk_far hb hne u, hg, hr1⟩
theorem cellS28_0 {W : World} {g : Nat} {A1 : Option Addr} {c1 : Nat} {f0 : ByteArray} {f1 : List (S60)} {f2 : Int} {f3 : Int} {f4 : Int} (h : W.heap[g]? = some (.cells #[.string f0, .slice A1 f1.length c1, .int .i64 f2, .int .i64 f3, .int .i64 f4] 28 (0, 0))) : W.cell? ⟨g, 0, none⟩ = some (.string f0) := (blk_cell h 0).trans rfl
theorem IsS28.set_0 {w0 W : World} {g : Nat} {f0 : ByteArray} {f1 : List (S60)} {f2 : Int} {f3 : Int} {f4 : Int} (h : IsS28 w0 W g f0 f1 f2 f3 f4) (x : ByteArray) : IsS28 w0 (W.setCell ⟨g, 0, none⟩ (.string x)) g x f1 f2 f3 f4 := by
 obtain ⟨A1, c1, hb, hg, hr1⟩ := h
 exact ⟨A1, c1, by simpa using blk_set hb 0 (.string x), hg, hr1⟩
theorem cellS28_1 {W : World} {g : Nat} {A1 : Option Addr} {c1 : Nat} {f0 : ByteArray} {f1 : List (S60)} {f2 : Int} {f3 : Int} {f4 : Int} (h : W.heap[g]? = some (.cells #[.string f0, .slice A1 f1.length c1, .int .i64 f2, .int .i64 f3, .int .i64 f4] 28 (0, 0))) : W.cell? ⟨g, 1, none⟩ = some (.slice A1 f1.length c1) := (blk_cell h 1).trans rfl
theorem cellS28_2 {W : World} {g : Nat} {A1 : Option Addr} {c1 : Nat} {f0 : ByteArray} {f1 : List (S60)} {f2 : Int} {f3 : Int} {f4 : Int} (h : W.heap[g]? = some (.cells #[.string f0, .slice A1 f1.length c1, .int .i64 f2, .int .i64 f3, .int .i64 f4] 28 (0, 0))) : W.cell? ⟨g, 2, none⟩ = some (.int .i64 f2) := (blk_cell h 2).trans rfl
theorem IsS28.set_2 {w0 W : World} {g : Nat} {f0 : ByteArray} {f1 : List (S60)} {f2 : Int} {f3 : Int} {f4 : Int} (h : IsS28 w0 W g f0 f1 f2 f3 f4) (x : Int) : IsS28 w0 (W.setCell ⟨g, 2, none⟩ (.int .i64 x)) g f0 f1 x f3 f4 := by
 obtain ⟨A1, c1, hb, hg, hr1⟩ := h
 exact ⟨A1, c1, by simpa using blk_set hb 2 (.int .i64 x), hg, hr1⟩
theorem cellS28_3 {W : World} {g : Nat} {A1 : Option Addr} {c1 : Nat} {f0 : ByteArray} {f1 : List (S60)} {f2 : Int} {f3 : Int} {f4 : Int} (h : W.heap[g]? = some (.cells #[.string f0, .slice A1 f1.length c1, .int .i64 f2, .int .i64 f3, .int .i64 f4] 28 (0, 0))) : W.cell? ⟨g, 3, none⟩ = some (.int .i64 f3) := (blk_cell h 3).trans rfl
theorem IsS28.set_3 {w0 W : World} {g : Nat} {f0 : ByteArray} {f1 : List (S60)} {f2 : Int} {f3 : Int} {f4 : Int} (h : IsS28 w0 W g f0 f1 f2 f3 f4) (x : Int) : IsS28 w0 (W.setCell ⟨g, 3, none⟩ (.int .i64 x)) g f0 f1 f2 x f4 := by
 obtain ⟨A1, c1, hb, hg, hr1⟩ := h
 exact ⟨A1, c1, by simpa using blk_set hb 3 (.int .i64 x), hg, hr1⟩
theorem cellS28_4 {W : World} {g : Nat} {A1 : Option Addr} {c1 : Nat} {f0 : ByteArray} {f1 : List (S60)} {f2 : Int} {f3 : Int} {f4 : Int} (h : W.heap[g]? = some (.cells #[.string f0, .slice A1 f1.length c1, .int .i64 f2, .int .i64 f3, .int .i64 f4] 28 (0, 0))) : W.cell? ⟨g, 4, none⟩ = some (.int .i64 f4) := (blk_cell h 4).trans rfl
theorem IsS28.set_4 {w0 W : World} {g : Nat} {f0 : ByteArray} {f1 : List (S60)} {f2 : Int} {f3 : Int} {f4 : Int} (h : IsS28 w0 W g f0 f1 f2 f3 f4) (x : Int) : IsS28 w0 (W.setCell ⟨g, 4, none⟩ (.int .i64 x)) g f0 f1 f2 f3 x := by
 obtain ⟨A1, c1, hb, hg, hr1⟩ := h
 exact ⟨A1, c1, by simpa using blk_set hb 4 (.int .i64 x), hg, hr1⟩
theorem IsS28.new (w0 W : World) (A1 : Option Addr) (c1 : Nat) (f0 : ByteArray) (f1 : List (S60)) (f2 : Int) (f3 : Int) (f4 : Int) (hB : Below w0.heap.size w0 W) (hr1 : Kd.C k60 w0 A1 f1.length f1) : IsS28 w0 (W.alloc (.cells #[.string f0, .slice A1 f1.length c1, .int .i64 f2, .int .i64 f3, .int .i64 f4] 28)) W.heap.size f0 f1 f2 f3 f4 := ⟨A1, c1, by simpa using heap_alloc_new W _, hB.size, hr1⟩

/-! ### spec_enGo: function 35 -/
def spec_enGo.f (s0_0 : ByteArray) (s0_1 : List (S60)) (s0_2 : Int) (s0_3 : Int) (s0_4 : Int) (a1 : Int) : Option (ByteArray × Int × Int × Int) := if s0_4 = 0 then (some (s0_0, s0_2, wrap64 (s0_3 - a1), s0_4)) else (if s0_4 = 1 then (some (s0_0, wrap64 (s0_2 + a1), s0_3, s0_4)) else (if s0_4 = 2 then (some (s0_0, s0_2, wrap64 (s0_3 + a1), s0_4)) else (some (s0_0, wrap64 (s0_2 - a1), s0_3, s0_4))))
set_option maxHeartbeats 8000000 in
set_option maxRecDepth 100000 in
theorem spec_enGo.calls (g : Nat) (s0_0 : ByteArray) (s0_1 : List (S60)) (s0_2 : Int) (s0_3 : Int) (s0_4 : Int) (a1 : Int) (r1 : ByteArray) (r2 : Int) (r3 : Int) (r4 : Int) (w0 w : World) (hI : IsS28 w0 w g s0_0 s0_1 s0_2 s0_3 s0_4) (hB : Below w0.heap.size w0 w) (h : spec_enGo.f s0_0 s0_1 s0_2 s0_3 s0_4 a1 = some (r1, r2, r3, r4)) :
    Calls Tryd.prog 35 #[.pointer (some ⟨g, 0, none⟩), .int .i64 a1] w fun e w' => e = .returned (.tuple #[]) ∧ IsS28 w0 w' g r1 s0_1 r2 r3 r4 ∧ Below w0.heap.size w0 w' ∧ KeepBut w w' g none := by
  have HI0 := Aside0.mk hI
  have HK := Aside0.mk (KeepBut.refl w g none)
  have HL := Aside0.mk hB.size
  clear hI
  have HW0 := Aside0.mk hB.size
  have HB := Aside0.mk hB
  clear hB
  have H : (if s0_4 = 0 then (some (s0_0, s0_2, wrap64 (s0_3 - a1), s0_4)) else (if s0_4 = 1 then (some (s0_0, wrap64 (s0_2 + a1), s0_3, s0_4)) else (if s0_4 = 2 then (some (s0_0, s0_2, wrap64 (s0_3 + a1), s0_4)) else (some (s0_0, wrap64 (s0_2 - a1), s0_3, s0_4))))) = some (r1, r2, r3, r4) := h
  clear h
  by_cases c3 : s0_4 = 0
  · rw [if_pos c3] at H
    have c3b0 : (s0_4 == 0) = true := beq_iff_eq.mpr c3
    have c3b1 : (s0_4 != 0) = false := bne_eq_false_iff_eq.mpr c3
    clear c3
    simp only [Option.some.injEq, Prod.mk.injEq] at H
    obtain ⟨rfl, rfl, rfl, rfl⟩ := H
    obtain ⟨ASz4_1, cSz4_1, HGz4, hgz4, HSz4_1⟩ := HI0.out
    have hcz4_0 := cellS28_0 HGz4
    have hcz4_1 := cellS28_1 HGz4
    have hcz4_2 := cellS28_2 HGz4
    have hcz4_3 := cellS28_3 HGz4
    have hcz4_4 := cellS28_4 HGz4
    have hfz4_0 := blk_frozen HGz4 0
    have hfz4_2 := blk_frozen HGz4 2
    have hfz4_3 := blk_frozen HGz4 3
    have hfz4_4 := blk_frozen HGz4 4
    clear HGz4 hgz4
    go_enter Tryd.func35, Tryd.ntmps35
    go_wp2
    first | go_end0 | ((try simp only [Exit.inBlock, Exit.then]); refine bodyPost_ret (results_none rfl _ _ _) rfl ?_)
    exact ⟨by first | rfl | (simp [errW_none, errW_some] <;> rfl) | (simp [*, errW_none, errW_some] <;> rfl), by repeat (first | (with_reducible first | exact HI0.out | apply IsS28.alloc | apply IsS28.drewN | apply IsS28.drew | apply IsS28.set_0 | apply IsS28.set_2 | apply IsS28.set_3 | apply IsS28.set_4) | exact HI0.out), by repeat (first | (with_reducible first | exact HB.out | apply below_alloc | apply pw_below_drewN | apply below_drew1 | refine below_set ?_ (IsS28.ge HI0.out)) | exact HB.out), by repeat (first | (with_reducible first | exact HK.out | apply KeepBut.set_ | apply keep_drewN | apply keep_drew | apply keep_alloc) | exact HK.out)⟩
  · rw [if_neg c3] at H
    have c3b0 : (s0_4 == 0) = false := beq_eq_false_iff_ne.mpr c3
    have c3b1 : (s0_4 != 0) = true := bne_iff_ne.mpr c3
    by_cases c5 : s0_4 = 1
    · rw [if_pos c5] at H
      have c5b0 : (s0_4 == 1) = true := beq_iff_eq.mpr c5
      have c5b1 : (s0_4 != 1) = false := bne_eq_false_iff_eq.mpr c5
      clear c5
      simp only [Option.some.injEq, Prod.mk.injEq] at H
      obtain ⟨rfl, rfl, rfl, rfl⟩ := H
      obtain ⟨ASz6_1, cSz6_1, HGz6, hgz6, HSz6_1⟩ := HI0.out
      have hcz6_0 := cellS28_0 HGz6
      have hcz6_1 := cellS28_1 HGz6
      have hcz6_2 := cellS28_2 HGz6
      have hcz6_3 := cellS28_3 HGz6
      have hcz6_4 := cellS28_4 HGz6
      have hfz6_0 := blk_frozen HGz6 0
      have hfz6_2 := blk_frozen HGz6 2
      have hfz6_3 := blk_frozen HGz6 3
      have hfz6_4 := blk_frozen HGz6 4
      clear HGz6 hgz6
      go_enter Tryd.func35, Tryd.ntmps35
      go_wp2
      first | go_end0 | ((try simp only [Exit.inBlock, Exit.then]); refine bodyPost_ret (results_none rfl _ _ _) rfl ?_)
      exact ⟨by first | rfl | (simp [errW_none, errW_some] <;> rfl) | (simp [*, errW_none, errW_some] <;> rfl), by repeat (first | (with_reducible first | exact HI0.out | apply IsS28.alloc | apply IsS28.drewN | apply IsS28.drew | apply IsS28.set_0 | apply IsS28.set_2 | apply IsS28.set_3 | apply IsS28.set_4) | exact HI0.out), by repeat (first | (with_reducible first | exact HB.out | apply below_alloc | apply pw_below_drewN | apply below_drew1 | refine below_set ?_ (IsS28.ge HI0.out)) | exact HB.out), by repeat (first | (with_reducible first | exact HK.out | apply KeepBut.set_ | apply keep_drewN | apply keep_drew | apply keep_alloc) | exact HK.out)⟩
    · rw [if_neg c5] at H
      have c5b0 : (s0_4 == 1) = false := beq_eq_false_iff_ne.mpr c5
      have c5b1 : (s0_4 != 1) = true := bne_iff_ne.mpr c5
      by_cases c7 : s0_4 = 2
      · rw [if_pos c7] at H
        have c7b0 : (s0_4 == 2) = true := beq_iff_eq.mpr c7
        have c7b1 : (s0_4 != 2) = false := bne_eq_false_iff_eq.mpr c7
        clear c7
        simp only [Option.some.injEq, Prod.mk.injEq] at H
        obtain ⟨rfl, rfl, rfl, rfl⟩ := H
        obtain ⟨ASz8_1, cSz8_1, HGz8, hgz8, HSz8_1⟩ := HI0.out
        have hcz8_0 := cellS28_0 HGz8
        have hcz8_1 := cellS28_1 HGz8
        have hcz8_2 := cellS28_2 HGz8
        have hcz8_3 := cellS28_3 HGz8
        have hcz8_4 := cellS28_4 HGz8
        have hfz8_0 := blk_frozen HGz8 0
        have hfz8_2 := blk_frozen HGz8 2
        have hfz8_3 := blk_frozen HGz8 3
        have hfz8_4 := blk_frozen HGz8 4
        clear HGz8 hgz8
        go_enter Tryd.func35, Tryd.ntmps35
        go_wp2
        first | go_end0 | ((try simp only [Exit.inBlock, Exit.then]); refine bodyPost_ret (results_none rfl _ _ _) rfl ?_)
        exact ⟨by first | rfl | (simp [errW_none, errW_some] <;> rfl) | (simp [*, errW_none, errW_some] <;> rfl), by repeat (first | (with_reducible first | exact HI0.out | apply IsS28.alloc | apply IsS28.drewN | apply IsS28.drew | apply IsS28.set_0 | apply IsS28.set_2 | apply IsS28.set_3 | apply IsS28.set_4) | exact HI0.out), by repeat (first | (with_reducible first | exact HB.out | apply below_alloc | apply pw_below_drewN | apply below_drew1 | refine below_set ?_ (IsS28.ge HI0.out)) | exact HB.out), by repeat (first | (with_reducible first | exact HK.out | apply KeepBut.set_ | apply keep_drewN | apply keep_drew | apply keep_alloc) | exact HK.out)⟩
      · rw [if_neg c7] at H
        have c7b0 : (s0_4 == 2) = false := beq_eq_false_iff_ne.mpr c7
        have c7b1 : (s0_4 != 2) = true := bne_iff_ne.mpr c7
        simp only [Option.some.injEq, Prod.mk.injEq] at H
        obtain ⟨rfl, rfl, rfl, rfl⟩ := H
        obtain ⟨ASz9_1, cSz9_1, HGz9, hgz9, HSz9_1⟩ := HI0.out
        have hcz9_0 := cellS28_0 HGz9
        have hcz9_1 := cellS28_1 HGz9
        have hcz9_2 := cellS28_2 HGz9
        have hcz9_3 := cellS28_3 HGz9
        have hcz9_4 := cellS28_4 HGz9
        have hfz9_0 := blk_frozen HGz9 0
        have hfz9_2 := blk_frozen HGz9 2
        have hfz9_3 := blk_frozen HGz9 3
        have hfz9_4 := blk_frozen HGz9 4
        clear HGz9 hgz9
        go_enter Tryd.func35, Tryd.ntmps35
        go_wp2
        first | go_end0 | ((try simp only [Exit.inBlock, Exit.then]); refine bodyPost_ret (results_none rfl _ _ _) rfl ?_)
        exact ⟨by first | rfl | (simp [errW_none, errW_some] <;> rfl) | (simp [*, errW_none, errW_some] <;> rfl), by repeat (first | (with_reducible first | exact HI0.out | apply IsS28.alloc | apply IsS28.drewN | apply IsS28.drew | apply IsS28.set_0 | apply IsS28.set_2 | apply IsS28.set_3 | apply IsS28.set_4) | exact HI0.out), by repeat (first | (with_reducible first | exact HB.out | apply below_alloc | apply pw_below_drewN | apply below_drew1 | refine below_set ?_ (IsS28.ge HI0.out)) | exact HB.out), by repeat (first | (with_reducible first | exact HK.out | apply KeepBut.set_ | apply keep_drewN | apply keep_drew | apply keep_alloc) | exact HK.out)⟩
def IsT28 (A1 : Option Addr) (c1 : Nat) (w0 W : World) (g : Nat) (f0 : ByteArray) (f1 : List (S60)) (f2 : Int) (f3 : Int) (f4 : Int) : Prop := W.heap[g]? = some (.cells #[.string f0, .slice A1 f1.length c1, .int .i64 f2, .int .i64 f3, .int .i64 f4] 28 (0, 0)) ∧ w0.heap.size ≤ g
theorem IsT28.alloc {A1 : Option Addr} {c1 : Nat} {w0 W : World} {g : Nat} {f0 : ByteArray} {f1 : List (S60)} {f2 : Int} {f3 : Int} {f4 : Int} (h : IsT28 A1 c1 w0 W g f0 f1 f2 f3 f4) (o : Obj) : IsT28 A1 c1 w0 (W.alloc o) g f0 f1 f2 f3 f4 := ⟨blk_below h.1 (below_alloc (Below.refl _ _) o), h.2⟩
theorem IsT28.drewN {A1 : Option Addr} {c1 : Nat} {w0 W : World} {g : Nat} {f0 : ByteArray} {f1 : List (S60)} {f2 : Int} {f3 : Int} {f4 : Int} (h : IsT28 A1 c1 w0 W g f0 f1 f2 f3 f4) (m : Nat) : IsT28 A1 c1 w0 (W.drewN m) g f0 f1 f2 f3 f4 := h
theorem IsT28.drew {A1 : Option Addr} {c1 : Nat} {w0 W : World} {g : Nat} {f0 : ByteArray} {f1 : List (S60)} {f2 : Int} {f3 : Int} {f4 : Int} (h : IsT28 A1 c1 w0 W g f0 f1 f2 f3 f4) : IsT28 A1 c1 w0 W.drew g f0 f1 f2 f3 f4 := h
theorem IsT28.ge {A1 : Option Addr} {c1 : Nat} {w0 W : World} {g : Nat} {f0 : ByteArray} {f1 : List (S60)} {f2 : Int} {f3 : Int} {f4 : Int} (h : IsT28 A1 c1 w0 W g f0 f1 f2 f3 f4) : w0.heap.size ≤ g := h.2
theorem IsT28.set_0 {A1 : Option Addr} {c1 : Nat} {w0 W : World} {g : Nat} {f0 : ByteArray} {f1 : List (S60)} {f2 : Int} {f3 : Int} {f4 : Int} (h : IsT28 A1 c1 w0 W g f0 f1 f2 f3 f4) (x : ByteArray) : IsT28 A1 c1 w0 (W.setCell ⟨g, 0, none⟩ (.string x)) g x f1 f2 f3 f4 := ⟨by simpa using blk_set h.1 0 (.string x), h.2⟩
theorem IsT28.set_2 {A1 : Option Addr} {c1 : Nat} {w0 W : World} {g : Nat} {f0 : ByteArray} {f1 : List (S60)} {f2 : Int} {f3 : Int} {f4 : Int} (h : IsT28 A1 c1 w0 W g f0 f1 f2 f3 f4) (x : Int) : IsT28 A1 c1 w0 (W.setCell ⟨g, 2, none⟩ (.int .i64 x)) g f0 f1 x f3 f4 := ⟨by simpa using blk_set h.1 2 (.int .i64 x), h.2⟩
theorem IsT28.set_3 {A1 : Option Addr} {c1 : Nat} {w0 W : World} {g : Nat} {f0 : ByteArray} {f1 : List (S60)} {f2 : Int} {f3 : Int} {f4 : Int} (h : IsT28 A1 c1 w0 W g f0 f1 f2 f3 f4) (x : Int) : IsT28 A1 c1 w0 (W.setCell ⟨g, 3, none⟩ (.int .i64 x)) g f0 f1 f2 x f4 := ⟨by simpa using blk_set h.1 3 (.int .i64 x), h.2⟩
theorem IsT28.set_4 {A1 : Option Addr} {c1 : Nat} {w0 W : World} {g : Nat} {f0 : ByteArray} {f1 : List (S60)} {f2 : Int} {f3 : Int} {f4 : Int} (h : IsT28 A1 c1 w0 W g f0 f1 f2 f3 f4) (x : Int) : IsT28 A1 c1 w0 (W.setCell ⟨g, 4, none⟩ (.int .i64 x)) g f0 f1 f2 f3 x := ⟨by simpa using blk_set h.1 4 (.int .i64 x), h.2⟩
set_option maxHeartbeats 8000000 in
set_option maxRecDepth 100000 in
theorem spec_enGo.calls2 (A1 : Option Addr) (c1 : Nat) (g : Nat) (s0_0 : ByteArray) (s0_1 : List (S60)) (s0_2 : Int) (s0_3 : Int) (s0_4 : Int) (a1 : Int) (r1 : ByteArray) (r2 : Int) (r3 : Int) (r4 : Int) (w0 w : World) (hI : IsT28 A1 c1 w0 w g s0_0 s0_1 s0_2 s0_3 s0_4) (hB : Below w0.heap.size w0 w) (h : spec_enGo.f s0_0 s0_1 s0_2 s0_3 s0_4 a1 = some (r1, r2, r3, r4)) :
    Calls Tryd.prog 35 #[.pointer (some ⟨g, 0, none⟩), .int .i64 a1] w fun e w' => e = .returned (.tuple #[]) ∧ IsT28 A1 c1 w0 w' g r1 s0_1 r2 r3 r4 ∧ Below w0.heap.size w0 w' ∧ KeepBut w w' g none := by
  have HI0 := Aside0.mk hI
  have HK := Aside0.mk (KeepBut.refl w g none)
  have HL := Aside0.mk hB.size
  clear hI
  have HW0 := Aside0.mk hB.size
  have HB := Aside0.mk hB
  clear hB
  have H : (if s0_4 = 0 then (some (s0_0, s0_2, wrap64 (s0_3 - a1), s0_4)) else (if s0_4 = 1 then (some (s0_0, wrap64 (s0_2 + a1), s0_3, s0_4)) else (if s0_4 = 2 then (some (s0_0, s0_2, wrap64 (s0_3 + a1), s0_4)) else (some (s0_0, wrap64 (s0_2 - a1), s0_3, s0_4))))) = some (r1, r2, r3, r4) := h
  clear h
  by_cases c3 : s0_4 = 0
  · rw [if_pos c3] at H
    have c3b0 : (s0_4 == 0) = true := beq_iff_eq.mpr c3
    have c3b1 : (s0_4 != 0) = false := bne_eq_false_iff_eq.mpr c3
    clear c3
    simp only [Option.some.injEq, Prod.mk.injEq] at H
    obtain ⟨rfl, rfl, rfl, rfl⟩ := H
    obtain ⟨HGz4, hgz4⟩ := HI0.out
    have hcz4_0 := cellS28_0 HGz4
    have hcz4_1 := cellS28_1 HGz4
    have hcz4_2 := cellS28_2 HGz4
    have hcz4_3 := cellS28_3 HGz4
    have hcz4_4 := cellS28_4 HGz4
    have hfz4_0 := blk_frozen HGz4 0
    have hfz4_2 := blk_frozen HGz4 2
    have hfz4_3 := blk_frozen HGz4 3
    have hfz4_4 := blk_frozen HGz4 4
    clear HGz4 hgz4
    go_enter Tryd.func35, Tryd.ntmps35
    go_wp2
    first | go_end0 | ((try simp only [Exit.inBlock, Exit.then]); refine bodyPost_ret (results_none rfl _ _ _) rfl ?_)
    exact ⟨by first | rfl | (simp [errW_none, errW_some] <;> rfl) | (simp [*, errW_none, errW_some] <;> rfl), by repeat (first | (with_reducible first | exact HI0.out | apply IsT28.alloc | apply IsT28.drewN | apply IsT28.drew | apply IsT28.set_0 | apply IsT28.set_2 | apply IsT28.set_3 | apply IsT28.set_4) | exact HI0.out), by repeat (first | (with_reducible first | exact HB.out | apply below_alloc | apply pw_below_drewN | apply below_drew1 | refine below_set ?_ (IsT28.ge HI0.out)) | exact HB.out), by repeat (first | (with_reducible first | exact HK.out | apply KeepBut.set_ | apply keep_drewN | apply keep_drew | apply keep_alloc) | exact HK.out)⟩
  · rw [if_neg c3] at H
    have c3b0 : (s0_4 == 0) = false := beq_eq_false_iff_ne.mpr c3
    have c3b1 : (s0_4 != 0) = true := bne_iff_ne.mpr c3
    by_cases c5 : s0_4 = 1
    · rw [if_pos c5] at H
      have c5b0 : (s0_4 == 1) = true := beq_iff_eq.mpr c5
      have c5b1 : (s0_4 != 1) = false := bne_eq_false_iff_eq.mpr c5
      clear c5
      simp only [Option.some.injEq, Prod.mk.injEq] at H
      obtain ⟨rfl, rfl, rfl, rfl⟩ := H
      obtain ⟨HGz6, hgz6⟩ := HI0.out
      have hcz6_0 := cellS28_0 HGz6
      have hcz6_1 := cellS28_1 HGz6
      have hcz6_2 := cellS28_2 HGz6
      have hcz6_3 := cellS28_3 HGz6
      have hcz6_4 := cellS28_4 HGz6
      have hfz6_0 := blk_frozen HGz6 0
      have hfz6_2 := blk_frozen HGz6 2
      have hfz6_3 := blk_frozen HGz6 3
      have hfz6_4 := blk_frozen HGz6 4
      clear HGz6 hgz6
      go_enter Tryd.func35, Tryd.ntmps35
      go_wp2
      first | go_end0 | ((try simp only [Exit.inBlock, Exit.then]); refine bodyPost_ret (results_none rfl _ _ _) rfl ?_)
      exact ⟨by first | rfl | (simp [errW_none, errW_some] <;> rfl) | (simp [*, errW_none, errW_some] <;> rfl), by repeat (first | (with_reducible first | exact HI0.out | apply IsT28.alloc | apply IsT28.drewN | apply IsT28.drew | apply IsT28.set_0 | apply IsT28.set_2 | apply IsT28.set_3 | apply IsT28.set_4) | exact HI0.out), by repeat (first | (with_reducible first | exact HB.out | apply below_alloc | apply pw_below_drewN | apply below_drew1 | refine below_set ?_ (IsT28.ge HI0.out)) | exact HB.out), by repeat (first | (with_reducible first | exact HK.out | apply KeepBut.set_ | apply keep_drewN | apply keep_drew | apply keep_alloc) | exact HK.out)⟩
    · rw [if_neg c5] at H
      have c5b0 : (s0_4 == 1) = false := beq_eq_false_iff_ne.mpr c5
      have c5b1 : (s0_4 != 1) = true := bne_iff_ne.mpr c5
      by_cases c7 : s0_4 = 2
      · rw [if_pos c7] at H
        have c7b0 : (s0_4 == 2) = true := beq_iff_eq.mpr c7
        have c7b1 : (s0_4 != 2) = false := bne_eq_false_iff_eq.mpr c7
        clear c7
        simp only [Option.some.injEq, Prod.mk.injEq] at H
        obtain ⟨rfl, rfl, rfl, rfl⟩ := H
        obtain ⟨HGz8, hgz8⟩ := HI0.out
        have hcz8_0 := cellS28_0 HGz8
        have hcz8_1 := cellS28_1 HGz8
        have hcz8_2 := cellS28_2 HGz8
        have hcz8_3 := cellS28_3 HGz8
        have hcz8_4 := cellS28_4 HGz8
        have hfz8_0 := blk_frozen HGz8 0
        have hfz8_2 := blk_frozen HGz8 2
        have hfz8_3 := blk_frozen HGz8 3
        have hfz8_4 := blk_frozen HGz8 4
        clear HGz8 hgz8
        go_enter Tryd.func35, Tryd.ntmps35
        go_wp2
        first | go_end0 | ((try simp only [Exit.inBlock, Exit.then]); refine bodyPost_ret (results_none rfl _ _ _) rfl ?_)
        exact ⟨by first | rfl | (simp [errW_none, errW_some] <;> rfl) | (simp [*, errW_none, errW_some] <;> rfl), by repeat (first | (with_reducible first | exact HI0.out | apply IsT28.alloc | apply IsT28.drewN | apply IsT28.drew | apply IsT28.set_0 | apply IsT28.set_2 | apply IsT28.set_3 | apply IsT28.set_4) | exact HI0.out), by repeat (first | (with_reducible first | exact HB.out | apply below_alloc | apply pw_below_drewN | apply below_drew1 | refine below_set ?_ (IsT28.ge HI0.out)) | exact HB.out), by repeat (first | (with_reducible first | exact HK.out | apply KeepBut.set_ | apply keep_drewN | apply keep_drew | apply keep_alloc) | exact HK.out)⟩
      · rw [if_neg c7] at H
        have c7b0 : (s0_4 == 2) = false := beq_eq_false_iff_ne.mpr c7
        have c7b1 : (s0_4 != 2) = true := bne_iff_ne.mpr c7
        simp only [Option.some.injEq, Prod.mk.injEq] at H
        obtain ⟨rfl, rfl, rfl, rfl⟩ := H
        obtain ⟨HGz9, hgz9⟩ := HI0.out
        have hcz9_0 := cellS28_0 HGz9
        have hcz9_1 := cellS28_1 HGz9
        have hcz9_2 := cellS28_2 HGz9
        have hcz9_3 := cellS28_3 HGz9
        have hcz9_4 := cellS28_4 HGz9
        have hfz9_0 := blk_frozen HGz9 0
        have hfz9_2 := blk_frozen HGz9 2
        have hfz9_3 := blk_frozen HGz9 3
        have hfz9_4 := blk_frozen HGz9 4
        clear HGz9 hgz9
        go_enter Tryd.func35, Tryd.ntmps35
        go_wp2
        first | go_end0 | ((try simp only [Exit.inBlock, Exit.then]); refine bodyPost_ret (results_none rfl _ _ _) rfl ?_)
        exact ⟨by first | rfl | (simp [errW_none, errW_some] <;> rfl) | (simp [*, errW_none, errW_some] <;> rfl), by repeat (first | (with_reducible first | exact HI0.out | apply IsT28.alloc | apply IsT28.drewN | apply IsT28.drew | apply IsT28.set_0 | apply IsT28.set_2 | apply IsT28.set_3 | apply IsT28.set_4) | exact HI0.out), by repeat (first | (with_reducible first | exact HB.out | apply below_alloc | apply pw_below_drewN | apply below_drew1 | refine below_set ?_ (IsT28.ge HI0.out)) | exact HB.out), by repeat (first | (with_reducible first | exact HK.out | apply KeepBut.set_ | apply keep_drewN | apply keep_drew | apply keep_alloc) | exact HK.out)⟩
/-! ### spec_l1Mod: function 36 -/
def spec_l1Mod.f (a0 : Int) (a1 : Int) : Option (Int) := if a1 = 0 then (none) else (some (Int.tmod (wrap64 ((Int.tmod a0 a1) + a1)) a1))
set_option maxHeartbeats 8000000 in
set_option maxRecDepth 100000 in
theorem spec_l1Mod.calls (a0 : Int) (a1 : Int) (r : Int) (w : World) (h : spec_l1Mod.f a0 a1 = some r) :
    Calls Tryd.prog 36 #[.int .i64 a0, .int .i64 a1] w fun e w' => e = .returned (.int .i64 r) ∧ Drawn0 w w' := by
  have H : (if a1 = 0 then (none) else (some (Int.tmod (wrap64 ((Int.tmod a0 a1) + a1)) a1))) = some r := h
  clear h
  by_cases c3 : a1 = 0
  · rw [if_pos c3] at H
    exact absurd H (by simp)
  · rw [if_neg c3] at H
    have c3b0 : (a1 == 0) = false := beq_eq_false_iff_ne.mpr c3
    have c3b1 : (a1 != 0) = true := bne_iff_ne.mpr c3
    obtain rfl := Option.some.inj H
    go_enter Tryd.func36, Tryd.ntmps36
    go_wp2
    go_ret
    exact ⟨by first | rfl | (simp; done) | (simp [*]; done), by repeat (first | exact Drawn0.refl _ | apply Drawn0.step)⟩

/-! ### spec_enColour: function 37 -/
def spec_enColour.f (k : Nat) (a0_0 : ByteArray) (l0_1 : List (S60)) (a0_2 : Int) (a0_3 : Int) (a0_4 : Int) (a1 : Int) (a2 : Int) : Option (Int) := (spec_enAt.f k l0_1 a1 a2).bind fun bt178 => (if bt178.2 = true then (if 0 ≤ bt178.1 then (if bt178.1 < (l0_1.length : Int) then (some ((rd_T60 l0_1 bt178.1).f2)) else (none)) else (none)) else (some 0))
theorem spec_enColour.mono : ∀ a0 a1 a2 a3 a4 a5 a6 k, LeO (spec_enColour.f k a0 a1 a2 a3 a4 a5 a6) (spec_enColour.f (k + 1) a0 a1 a2 a3 a4 a5 a6) := by
  intro a0 a1 a2 a3 a4 a5 a6 k
  unfold spec_enColour.f
  repeat' first
      | (with_reducible exact spec_enAt.mono _ _ _ _)
      | (with_reducible exact LeO.refl _)
      | (with_reducible exact LeO.none _)
      | (with_reducible refine LeO.ite ?_ ?_)
      | (with_reducible refine LeO.bind ?_ (fun _ => ?_))
      | exact spec_enAt.mono _ _ _ _
      | exact LeO.none _
      | refine LeO.ite ?_ ?_
      | refine LeO.bind ?_ (fun _ => ?_)
set_option maxHeartbeats 8000000 in
set_option maxRecDepth 100000 in
theorem spec_enColour.calls (k : Nat) (a0_0 : ByteArray) (A0_1 : Option Addr) (c0_1 : Nat) (l0_1 : List (S60)) (a0_2 : Int) (a0_3 : Int) (a0_4 : Int) (a1 : Int) (a2 : Int) (r : Int) (w : World) (hr0_1 : Kd.C k60 w A0_1 l0_1.length l0_1) (hc0_1 : l0_1.length ≤ c0_1) (h : spec_enColour.f k a0_0 l0_1 a0_2 a0_3 a0_4 a1 a2 = some r) :
    Calls Tryd.prog 37 #[.agg #[.string a0_0, .slice A0_1 l0_1.length c0_1, .int .i64 a0_2, .int .i64 a0_3, .int .i64 a0_4], .int .i64 a1, .int .i64 a2] w fun e w' => e = .returned (.int .i64 r) ∧ Below w.heap.size w w' := by
  have hu28 := Tryd.underlying28
  have HR0_1 := Aside0.mk hr0_1
  have HC0_1 := Aside0.mk hc0_1
  clear hr0_1 hc0_1
  have HB := Aside0.mk (Below.refl w.heap.size w)
  have H : ((spec_enAt.f k l0_1 a1 a2).bind fun bt178 => (if bt178.2 = true then (if 0 ≤ bt178.1 then (if bt178.1 < (l0_1.length : Int) then (some ((rd_T60 l0_1 bt178.1).f2)) else (none)) else (none)) else (some 0))) = some r := h
  clear h
  replace H := Option.bind_eq_some_iff.mp H
  obtain ⟨⟨t178, t179⟩, A40, H⟩ := H
  replace H : (if t179 = true then (if 0 ≤ t178 then (if t178 < (l0_1.length : Int) then (some ((rd_T60 l0_1 t178).f2)) else (none)) else (none)) else (some 0)) = some r := H
  have A4 := Aside0.mk A40
  clear A40
  by_cases c5 : t179 = true
  · subst c5
    have H1 : (if 0 ≤ t178 then (if t178 < (l0_1.length : Int) then (some ((rd_T60 l0_1 t178).f2)) else (none)) else (none)) = some r := by rw [if_pos rfl] at H; exact H
    clear H
    have H := H1
    clear H1
    by_cases c6 : 0 ≤ t178
    · rw [if_pos c6] at H
      have c6b0 : decide (0 ≤ t178) = true := decide_eq_true c6
      clear c6
      by_cases c7 : t178 < (l0_1.length : Int)
      · rw [if_pos c7] at H
        have c7b0 : decide (t178 < (l0_1.length : Int)) = true := decide_eq_true c7
        clear c7
        obtain rfl := Option.some.inj H
        go_enter Tryd.func37, Tryd.ntmps37
        go_wp2_with (first | ((with_reducible refine gate_dst (N := 3) rfl ?_); refine box_event ?hg (N := 3) ?hd (cs := #[.string a0_0, .slice A0_1 l0_1.length c0_1, .int .i64 a0_2, .int .i64 a0_3, .int .i64 a0_4]) (t := 28) ?hr ?_; (case hd => rfl); (case hg => rfl); (case hr => first | (go_simp; done) | (go_simp; rfl)); intro gb177 hg w8 hbox hb; have n0_ := Aside0.mk (below_step (XSq.bB HB) hb); have n1_ := Aside0.mk (hbox); have n2_ := Aside0.mk ((by rw [hg]; exact (below_size (XSq.bB HB)) : w.heap.size ≤ gb177)); have n3_ := Aside0.mk ((by rw [hg]; exact (below_size (XSq.bB HB)) : w.heap.size ≤ gb177)); clear HB; have HB := n0_; have BK177 := n1_; have GW177 := n2_; have GE177 := n3_; clear n0_ n1_ n2_ n3_; clear hb hbox hg; have hcz9_0 := XSq.ck BK177 0; have hcz9_1 := XSq.ck BK177 1; have hcz9_2 := XSq.ck BK177 2; have hcz9_3 := XSq.ck BK177 3; have hcz9_4 := XSq.ck BK177 4; have hfz9_0 := blk_frozen BK177.out 0; have hfz9_1 := blk_frozen BK177.out 1; have hfz9_2 := blk_frozen BK177.out 2; have hfz9_3 := blk_frozen BK177.out 3; have hfz9_4 := blk_frozen BK177.out 4) | ((with_reducible refine gate_callee (f := 47) rfl ?_); refine goesL_ (some 14) rfl rfl Tryd.func47 (by kernel_rfl) rfl #[.slice A0_1 l0_1.length c0_1, .int .i64 a1, .int .i64 a2] rfl (by (try simp only [List.map_toArray, List.map_cons, List.map_nil]); first | done | rfl | (simp only [List.length_drop, List.length_take]; rfl)) ?_; (with_reducible refine (spec_enAt.calls k _ _ l0_1 a1 a2 t178 true _ ?side1 ?side2 A4.out).mono ?_); (case side1 => repeat (first | exact (Kd.C_below HR0_1.out HB.out) | (with_reducible refine Kd.C_alloc ?_ _) | (with_reducible refine Kd.C_drewN ?_ _) | (with_reducible refine Kd.C_drew ?_))); (case side2 => exact HC0_1.out); rintro e w10 ⟨rfl, hb⟩; refine ⟨_, rfl, ?_⟩; have n0_ := Aside0.mk (blk_below (g := gb177) (o := .cells #[.string a0_0, .slice A0_1 l0_1.length c0_1, .int .i64 a0_2, .int .i64 a0_3, .int .i64 a0_4] 28 (0, 0)) (XSq.bq BK177) hb); have n1_ := Aside0.mk (below_step (XSq.bB HB) hb); clear BK177; clear HB; have BK177 := n0_; have HB := n1_; clear n0_ n1_; (try clear hb); (try clear hb2); (try clear hk); (try clear hi); have hcz11_0 := XSq.ck BK177 0; have hcz11_1 := XSq.ck BK177 1; have hcz11_2 := XSq.ck BK177 2; have hcz11_3 := XSq.ck BK177 3; have hcz11_4 := XSq.ck BK177 4; have hfz11_0 := blk_frozen BK177.out 0; have hfz11_1 := blk_frozen BK177.out 1; have hfz11_2 := blk_frozen BK177.out 2; have hfz11_3 := blk_frozen BK177.out 3; have hfz11_4 := blk_frozen BK177.out 4; have p180 : 0 ≤ (t178 : Int) := of_decide_eq_true (by first | (with_reducible assumption) | assumption); have q180 : t178 < (l0_1.length : Int) := of_decide_eq_true (by first | (with_reducible assumption) | assumption); obtain ⟨ad180, e180, hx180_0, hx180_1, hx180_2⟩ := at_T60 HR0_1.out t178 p180 q180; cases e180; replace hx180_0 := (HB.out.cell (World.block_lt_of_cell? w _ hx180_0)).trans hx180_0; replace hx180_1 := (HB.out.cell (World.block_lt_of_cell? w _ hx180_1)).trans hx180_1; replace hx180_2 := (HB.out.cell (World.block_lt_of_cell? w _ hx180_2)).trans hx180_2; replace p180 := eq_true p180; replace q180 := eq_true q180))
        go_ret
        exact ⟨by first | rfl | (simp [errW_none, errW_some] <;> rfl) | (simp [*, errW_none, errW_some] <;> rfl), by repeat (first | (with_reducible first | exact HB.out | apply below_alloc | apply pw_below_drewN | apply below_drew1 | refine below_set ?_ GE177.out) | exact HB.out)⟩
      · rw [if_neg c7] at H
        exact absurd H (by simp)
    · rw [if_neg c6] at H
      exact absurd H (by simp)
  · replace c5 := Bool.eq_false_iff.mpr c5
    subst c5
    have H1 : (some 0) = some r := by rw [if_neg (show ¬ (false = true) by decide)] at H; exact H
    clear H
    have H := H1
    clear H1
    obtain rfl := Option.some.inj H
    go_enter Tryd.func37, Tryd.ntmps37
    go_wp2_with (first | ((with_reducible refine gate_dst (N := 3) rfl ?_); refine box_event ?hg (N := 3) ?hd (cs := #[.string a0_0, .slice A0_1 l0_1.length c0_1, .int .i64 a0_2, .int .i64 a0_3, .int .i64 a0_4]) (t := 28) ?hr ?_; (case hd => rfl); (case hg => rfl); (case hr => first | (go_simp; done) | (go_simp; rfl)); intro gb177 hg w12 hbox hb; have n0_ := Aside0.mk (below_step (XSq.bB HB) hb); have n1_ := Aside0.mk (hbox); have n2_ := Aside0.mk ((by rw [hg]; exact (below_size (XSq.bB HB)) : w.heap.size ≤ gb177)); have n3_ := Aside0.mk ((by rw [hg]; exact (below_size (XSq.bB HB)) : w.heap.size ≤ gb177)); clear HB; have HB := n0_; have BK177 := n1_; have GW177 := n2_; have GE177 := n3_; clear n0_ n1_ n2_ n3_; clear hb hbox hg; have hcz13_0 := XSq.ck BK177 0; have hcz13_1 := XSq.ck BK177 1; have hcz13_2 := XSq.ck BK177 2; have hcz13_3 := XSq.ck BK177 3; have hcz13_4 := XSq.ck BK177 4; have hfz13_0 := blk_frozen BK177.out 0; have hfz13_1 := blk_frozen BK177.out 1; have hfz13_2 := blk_frozen BK177.out 2; have hfz13_3 := blk_frozen BK177.out 3; have hfz13_4 := blk_frozen BK177.out 4) | ((with_reducible refine gate_callee (f := 47) rfl ?_); refine goesL_ (some 14) rfl rfl Tryd.func47 (by kernel_rfl) rfl #[.slice A0_1 l0_1.length c0_1, .int .i64 a1, .int .i64 a2] rfl (by (try simp only [List.map_toArray, List.map_cons, List.map_nil]); first | done | rfl | (simp only [List.length_drop, List.length_take]; rfl)) ?_; (with_reducible refine (spec_enAt.calls k _ _ l0_1 a1 a2 t178 false _ ?side1 ?side2 A4.out).mono ?_); (case side1 => repeat (first | exact (Kd.C_below HR0_1.out HB.out) | (with_reducible refine Kd.C_alloc ?_ _) | (with_reducible refine Kd.C_drewN ?_ _) | (with_reducible refine Kd.C_drew ?_))); (case side2 => exact HC0_1.out); rintro e w14 ⟨rfl, hb⟩; refine ⟨_, rfl, ?_⟩; have n0_ := Aside0.mk (blk_below (g := gb177) (o := .cells #[.string a0_0, .slice A0_1 l0_1.length c0_1, .int .i64 a0_2, .int .i64 a0_3, .int .i64 a0_4] 28 (0, 0)) (XSq.bq BK177) hb); have n1_ := Aside0.mk (below_step (XSq.bB HB) hb); clear BK177; clear HB; have BK177 := n0_; have HB := n1_; clear n0_ n1_; (try clear hb); (try clear hb2); (try clear hk); (try clear hi)))
    go_ret
    exact ⟨by first | rfl | (simp [errW_none, errW_some] <;> rfl) | (simp [*, errW_none, errW_some] <;> rfl), by repeat (first | (with_reducible first | exact HB.out | apply below_alloc | apply pw_below_drewN | apply below_drew1 | refine below_set ?_ GE177.out) | exact HB.out)⟩

/-! ### spec_woTurn: function 38 -/
def spec_woTurn.f (a0 : Int) : Option (Int) := if a0 = 82 then (some 1) else (if a0 = 85 then (some 2) else (if a0 = 76 then (some 3) else (some 0)))
set_option maxHeartbeats 8000000 in
set_option maxRecDepth 100000 in
theorem spec_woTurn.calls (a0 : Int) (r : Int) (w : World) (h : spec_woTurn.f a0 = some r) :
    Calls Tryd.prog 38 #[.int .u8 a0] w fun e w' => e = .returned (.int .i64 r) ∧ Drawn0 w w' := by
  have H : (if a0 = 82 then (some 1) else (if a0 = 85 then (some 2) else (if a0 = 76 then (some 3) else (some 0)))) = some r := h
  clear h
  by_cases c2 : a0 = 82
  · rw [if_pos c2] at H
    have c2b0 : (a0 == 82) = true := beq_iff_eq.mpr c2
    have c2b1 : (a0 != 82) = false := bne_eq_false_iff_eq.mpr c2
    clear c2
    obtain rfl := Option.some.inj H
    go_enter Tryd.func38, Tryd.ntmps38
    go_wp2
    go_ret
    exact ⟨by first | rfl | (simp; done) | (simp [*]; done), by repeat (first | exact Drawn0.refl _ | apply Drawn0.step)⟩
  · rw [if_neg c2] at H
    have c2b0 : (a0 == 82) = false := beq_eq_false_iff_ne.mpr c2
    have c2b1 : (a0 != 82) = true := bne_iff_ne.mpr c2
    by_cases c3 : a0 = 85
    · rw [if_pos c3] at H
      have c3b0 : (a0 == 85) = true := beq_iff_eq.mpr c3
      have c3b1 : (a0 != 85) = false := bne_eq_false_iff_eq.mpr c3
      clear c3
      obtain rfl := Option.some.inj H
      go_enter Tryd.func38, Tryd.ntmps38
      go_wp2
      go_ret
      exact ⟨by first | rfl | (simp; done) | (simp [*]; done), by repeat (first | exact Drawn0.refl _ | apply Drawn0.step)⟩
    · rw [if_neg c3] at H
      have c3b0 : (a0 == 85) = false := beq_eq_false_iff_ne.mpr c3
      have c3b1 : (a0 != 85) = true := bne_iff_ne.mpr c3
      by_cases c4 : a0 = 76
      · rw [if_pos c4] at H
        have c4b0 : (a0 == 76) = true := beq_iff_eq.mpr c4
        have c4b1 : (a0 != 76) = false := bne_eq_false_iff_eq.mpr c4
        clear c4
        obtain rfl := Option.some.inj H
        go_enter Tryd.func38, Tryd.ntmps38
        go_wp2
        go_ret
        exact ⟨by first | rfl | (simp; done) | (simp [*]; done), by repeat (first | exact Drawn0.refl _ | apply Drawn0.step)⟩
      · rw [if_neg c4] at H
        have c4b0 : (a0 == 76) = false := beq_eq_false_iff_ne.mpr c4
        have c4b1 : (a0 != 76) = true := bne_iff_ne.mpr c4
        obtain rfl := Option.some.inj H
        go_enter Tryd.func38, Tryd.ntmps38
        go_wp2
        go_ret
        exact ⟨by first | rfl | (simp; done) | (simp [*]; done), by repeat (first | exact Drawn0.refl _ | apply Drawn0.step)⟩

end Go.Proofs.YtfhplgiblknfcaaDoor.PFnExactPlainBefore
