-- Made by wip/tools/xkit.py (a program of this session's) with the kit's printer.
import Derived.Test.YtfhplgiblknfcaaDoorPFnExactPlainBeforex0
import Derived.Test.YtfhplgiblknfcaaDoorPFnExactPlainBeforex5
import Derived.Test.YtfhplgiblknfcaaDoorPFnExactPlainBeforex6
namespace Go.Proofs.YtfhplgiblknfcaaDoor.PFnExactPlainBefore
open Go.RowKit Go.Proofs.YtfhplgiblknfcaaDoorW.PrintWords Go.Proofs.YtfhplgiblknfcaaDoorW.PrintLast Go.Proofs.YtfhplgiblknfcaaDoorW.PrintMore
attribute [local go_sem] max2_int min2_int max_two min_two max_three min_three max_four min_four   -- for this text's walks alone
set_option linter.unusedVariables false
set_option linter.unusedSimpArgs false

/-! ### impl_isRun: function 19 -/
def impl_isRun.f (k : Nat) (a0_0 : ByteArray) (l0_1 : List (S60)) (a0_2 : Int) (a0_3 : Int) (a0_4 : Int) (a1 : Int) : Option (Bool) := (impl_IsPlain.f k a0_0 l0_1 a0_2 a0_3 a0_4).bind fun t254 => (if t254 = true then ((impl_within.f a1 0 1000).bind fun t255 => (some t255)) else (some false))
theorem impl_isRun.mono : ∀ a0 a1 a2 a3 a4 a5 k, LeO (impl_isRun.f k a0 a1 a2 a3 a4 a5) (impl_isRun.f (k + 1) a0 a1 a2 a3 a4 a5) := by
  intro a0 a1 a2 a3 a4 a5 k
  unfold impl_isRun.f
  repeat' first
      | (with_reducible exact impl_IsPlain.mono _ _ _ _ _ _)
      | (with_reducible exact LeO.refl _)
      | (with_reducible exact LeO.none _)
      | (with_reducible refine LeO.ite ?_ ?_)
      | (with_reducible refine LeO.bind ?_ (fun _ => ?_))
      | exact impl_IsPlain.mono _ _ _ _ _ _
      | exact LeO.none _
      | refine LeO.ite ?_ ?_
      | refine LeO.bind ?_ (fun _ => ?_)
set_option maxHeartbeats 8000000 in
set_option maxRecDepth 100000 in
theorem impl_isRun.calls (k : Nat) (a0_0 : ByteArray) (A0_1 : Option Addr) (c0_1 : Nat) (l0_1 : List (S60)) (a0_2 : Int) (a0_3 : Int) (a0_4 : Int) (a1 : Int) (r : Bool) (w : World) (hr0_1 : Kd.C k60 w A0_1 l0_1.length l0_1) (hc0_1 : l0_1.length ≤ c0_1) (h : impl_isRun.f k a0_0 l0_1 a0_2 a0_3 a0_4 a1 = some r) :
    Calls Tryd.prog 19 #[.agg #[.string a0_0, .slice A0_1 l0_1.length c0_1, .int .i64 a0_2, .int .i64 a0_3, .int .i64 a0_4], .int .i64 a1] w fun e w' => e = .returned (.bool r) ∧ Below w.heap.size w w' := by
  have hu28 := Tryd.underlying28
  have HR0_1 := Aside0.mk hr0_1
  have HC0_1 := Aside0.mk hc0_1
  clear hr0_1 hc0_1
  have HB := Aside0.mk (Below.refl w.heap.size w)
  have H : ((impl_IsPlain.f k a0_0 l0_1 a0_2 a0_3 a0_4).bind fun t254 => (if t254 = true then ((impl_within.f a1 0 1000).bind fun t255 => (some t255)) else (some false))) = some r := h
  clear h
  replace H := Option.bind_eq_some_iff.mp H
  obtain ⟨t254, A30, H⟩ := H
  replace H : (if t254 = true then ((impl_within.f a1 0 1000).bind fun t255 => (some t255)) else (some false)) = some r := H
  have A3 := Aside0.mk A30
  clear A30
  by_cases c4 : t254 = true
  · subst c4
    have H1 : ((impl_within.f a1 0 1000).bind fun t255 => (some t255)) = some r := by rw [if_pos rfl] at H; exact H
    clear H
    have H := H1
    clear H1
    replace H := Option.bind_eq_some_iff.mp H
    obtain ⟨t255, A50, H⟩ := H
    replace H : (some t255) = some r := H
    have A5 := Aside0.mk A50
    clear A50
    obtain rfl := Option.some.inj H
    go_enter Tryd.func19, Tryd.ntmps19
    go_wp2_with (first | ((with_reducible refine gate_dst (N := 2) rfl ?_); refine box_event ?hg (N := 2) ?hd (cs := #[.string a0_0, .slice A0_1 l0_1.length c0_1, .int .i64 a0_2, .int .i64 a0_3, .int .i64 a0_4]) (t := 28) ?hr ?_; (case hd => rfl); (case hg => rfl); (case hr => first | (go_simp; done) | (go_simp; rfl)); intro gb253 hg w6 hbox hb; have n0_ := Aside0.mk (below_step (XSq.bB HB) hb); have n1_ := Aside0.mk (hbox); have n2_ := Aside0.mk ((by rw [hg]; exact (below_size (XSq.bB HB)) : w.heap.size ≤ gb253)); have n3_ := Aside0.mk ((by rw [hg]; exact (below_size (XSq.bB HB)) : w.heap.size ≤ gb253)); clear HB; have HB := n0_; have BK253 := n1_; have GW253 := n2_; have GE253 := n3_; clear n0_ n1_ n2_ n3_; clear hb hbox hg; have hcz7_0 := XSq.ck BK253 0; have hcz7_1 := XSq.ck BK253 1; have hcz7_2 := XSq.ck BK253 2; have hcz7_3 := XSq.ck BK253 3; have hcz7_4 := XSq.ck BK253 4; have hfz7_0 := blk_frozen BK253.out 0; have hfz7_1 := blk_frozen BK253.out 1; have hfz7_2 := blk_frozen BK253.out 2; have hfz7_3 := blk_frozen BK253.out 3; have hfz7_4 := blk_frozen BK253.out 4) | ((with_reducible refine gate_callee (f := 30) rfl ?_); refine goesL_ (some 6) rfl rfl Tryd.func30 (by kernel_rfl) rfl #[.agg #[.string a0_0, .slice A0_1 l0_1.length c0_1, .int .i64 a0_2, .int .i64 a0_3, .int .i64 a0_4]] rfl (by (try simp only [List.map_toArray, List.map_cons, List.map_nil]); first | done | rfl | (simp only [List.length_drop, List.length_take]; rfl)) ?_; (with_reducible refine (impl_IsPlain.calls k a0_0 _ _ l0_1 a0_2 a0_3 a0_4 true _ ?side1 ?side2 A3.out).mono ?_); (case side1 => repeat (first | exact (Kd.C_below HR0_1.out HB.out) | (with_reducible refine Kd.C_alloc ?_ _) | (with_reducible refine Kd.C_drewN ?_ _) | (with_reducible refine Kd.C_drew ?_))); (case side2 => exact HC0_1.out); rintro e w8 ⟨rfl, hb⟩; refine ⟨_, rfl, ?_⟩; have n0_ := Aside0.mk (blk_below (g := gb253) (o := .cells #[.string a0_0, .slice A0_1 l0_1.length c0_1, .int .i64 a0_2, .int .i64 a0_3, .int .i64 a0_4] 28 (0, 0)) (XSq.bq BK253) hb); have n1_ := Aside0.mk (below_step (XSq.bB HB) hb); clear BK253; clear HB; have BK253 := n0_; have HB := n1_; clear n0_ n1_; (try clear hb); (try clear hb2); (try clear hk); (try clear hi)) | (go_at_call 32; (with_reducible refine (impl_within.calls a1 0 1000 t255 _ A5.out).mono ?_); rintro e w' ⟨rfl, ⟨nd, rfl⟩⟩))
    go_ret
    exact ⟨by first | rfl | (simp [errW_none, errW_some] <;> rfl) | (simp [*, errW_none, errW_some] <;> rfl), by repeat (first | (with_reducible first | exact HB.out | apply below_alloc | apply pw_below_drewN | apply below_drew1 | refine below_set ?_ GE253.out) | exact HB.out)⟩
  · replace c4 := Bool.eq_false_iff.mpr c4
    subst c4
    have H1 : (some false) = some r := by rw [if_neg (show ¬ (false = true) by decide)] at H; exact H
    clear H
    have H := H1
    clear H1
    obtain rfl := Option.some.inj H
    go_enter Tryd.func19, Tryd.ntmps19
    go_wp2_with (first | ((with_reducible refine gate_dst (N := 2) rfl ?_); refine box_event ?hg (N := 2) ?hd (cs := #[.string a0_0, .slice A0_1 l0_1.length c0_1, .int .i64 a0_2, .int .i64 a0_3, .int .i64 a0_4]) (t := 28) ?hr ?_; (case hd => rfl); (case hg => rfl); (case hr => first | (go_simp; done) | (go_simp; rfl)); intro gb253 hg w9 hbox hb; have n0_ := Aside0.mk (below_step (XSq.bB HB) hb); have n1_ := Aside0.mk (hbox); have n2_ := Aside0.mk ((by rw [hg]; exact (below_size (XSq.bB HB)) : w.heap.size ≤ gb253)); have n3_ := Aside0.mk ((by rw [hg]; exact (below_size (XSq.bB HB)) : w.heap.size ≤ gb253)); clear HB; have HB := n0_; have BK253 := n1_; have GW253 := n2_; have GE253 := n3_; clear n0_ n1_ n2_ n3_; clear hb hbox hg; have hcz10_0 := XSq.ck BK253 0; have hcz10_1 := XSq.ck BK253 1; have hcz10_2 := XSq.ck BK253 2; have hcz10_3 := XSq.ck BK253 3; have hcz10_4 := XSq.ck BK253 4; have hfz10_0 := blk_frozen BK253.out 0; have hfz10_1 := blk_frozen BK253.out 1; have hfz10_2 := blk_frozen BK253.out 2; have hfz10_3 := blk_frozen BK253.out 3; have hfz10_4 := blk_frozen BK253.out 4) | ((with_reducible refine gate_callee (f := 30) rfl ?_); refine goesL_ (some 6) rfl rfl Tryd.func30 (by kernel_rfl) rfl #[.agg #[.string a0_0, .slice A0_1 l0_1.length c0_1, .int .i64 a0_2, .int .i64 a0_3, .int .i64 a0_4]] rfl (by (try simp only [List.map_toArray, List.map_cons, List.map_nil]); first | done | rfl | (simp only [List.length_drop, List.length_take]; rfl)) ?_; (with_reducible refine (impl_IsPlain.calls k a0_0 _ _ l0_1 a0_2 a0_3 a0_4 false _ ?side1 ?side2 A3.out).mono ?_); (case side1 => repeat (first | exact (Kd.C_below HR0_1.out HB.out) | (with_reducible refine Kd.C_alloc ?_ _) | (with_reducible refine Kd.C_drewN ?_ _) | (with_reducible refine Kd.C_drew ?_))); (case side2 => exact HC0_1.out); rintro e w11 ⟨rfl, hb⟩; refine ⟨_, rfl, ?_⟩; have n0_ := Aside0.mk (blk_below (g := gb253) (o := .cells #[.string a0_0, .slice A0_1 l0_1.length c0_1, .int .i64 a0_2, .int .i64 a0_3, .int .i64 a0_4] 28 (0, 0)) (XSq.bq BK253) hb); have n1_ := Aside0.mk (below_step (XSq.bB HB) hb); clear BK253; clear HB; have BK253 := n0_; have HB := n1_; clear n0_ n1_; (try clear hb); (try clear hb2); (try clear hk); (try clear hi)))
    go_ret
    exact ⟨by first | rfl | (simp [errW_none, errW_some] <;> rfl) | (simp [*, errW_none, errW_some] <;> rfl), by repeat (first | (with_reducible first | exact HB.out | apply below_alloc | apply pw_below_drewN | apply below_drew1 | refine below_set ?_ GE253.out) | exact HB.out)⟩

/-! ### impl_ahead: function 40 -/
def impl_ahead.f (a0 : Int) : Option (Int × Int) := (some (([0, 1, 0, (-1)] : List Int) : List Int)).bind fun y256 => (if 0 ≤ a0 then (if a0 < (y256.length : Int) then ((some (([(-1), 0, 1, 0] : List Int) : List Int)).bind fun y260 => (if a0 < (y260.length : Int) then (some (rd y256 a0, rd y260 a0)) else (none))) else (none)) else (none))
def impl_ahead.T1 : Bool × List (List Nat × List Nat) := (true, [([], []), ([], []), ([0, 1], [0, 1]), ([2], [2]), ([], []), ([], []), ([4, 5], [4, 5]), ([6], [6]), ([3, 0, 1, 2, 3], [3]), ([7, 8, 0, 1, 2, 3, 4, 5, 6, 7, 8], [7])])
def impl_ahead.B1 : List Nat := [0, 0, 3, 7, 0, 0, 48, 112, 15, 511]
theorem impl_ahead.tab1 : rtab .any (opsOf Tryd.f40 1) = impl_ahead.T1 := by kernel_rfl
theorem impl_ahead.bits1 : waitsOk impl_ahead.T1.2 impl_ahead.B1 = true := by kernel_rfl
set_option maxHeartbeats 8000000 in
set_option maxRecDepth 100000 in
theorem impl_ahead.calls (a0 : Int) (r1 : Int) (r2 : Int) (w : World) (h : impl_ahead.f a0 = some (r1, r2)) :
    Calls Tryd.prog 40 #[.int .i64 a0] w fun e w' => e = .returned (.tuple #[.int .i64 r1, .int .i64 r2]) ∧ Below w.heap.size w w' := by
  have HB := Aside0.mk (Below.refl w.heap.size w)
  have H : ((some (([0, 1, 0, (-1)] : List Int) : List Int)).bind fun y256 => (if 0 ≤ a0 then (if a0 < (y256.length : Int) then ((some (([(-1), 0, 1, 0] : List Int) : List Int)).bind fun y260 => (if a0 < (y260.length : Int) then (some (rd y256 a0, rd y260 a0)) else (none))) else (none)) else (none))) = some (r1, r2) := h
  clear h
  obtain ⟨y256, hy256⟩ : ∃ y_ : List Int, y_ = (([0, 1, 0, (-1)] : List Int)) := ⟨_, rfl⟩
  replace H : (if 0 ≤ a0 then (if a0 < (y256.length : Int) then ((some (([(-1), 0, 1, 0] : List Int) : List Int)).bind fun y260 => (if a0 < (y260.length : Int) then (some (rd y256 a0, rd y260 a0)) else (none))) else (none)) else (none)) = some (r1, r2) := by first | (rw [hy256]; with_reducible exact H) | (have H2_ := (Option.bind_some _ _).symm.trans H; rw [hy256]; with_reducible exact H2_) | (have H2_ := (Option.bind_some _ _).symm.trans H; with_reducible exact H2_) | with_reducible exact H | (rw [hy256]; exact H) | exact H
  have Ny256 := Aside0.mk hy256
  clear hy256
  by_cases c2 : 0 ≤ a0
  · rw [if_pos c2] at H
    have c2b0 : decide (0 ≤ a0) = true := decide_eq_true c2
    clear c2
    by_cases c3 : a0 < (y256.length : Int)
    · rw [if_pos c3] at H
      have c3b0 : decide (a0 < (y256.length : Int)) = true := decide_eq_true c3
      clear c3
      obtain ⟨y260, hy260⟩ : ∃ y_ : List Int, y_ = (([(-1), 0, 1, 0] : List Int)) := ⟨_, rfl⟩
      replace H : (if a0 < (y260.length : Int) then (some (rd y256 a0, rd y260 a0)) else (none)) = some (r1, r2) := by first | (rw [hy260]; with_reducible exact H) | (have H2_ := (Option.bind_some _ _).symm.trans H; rw [hy260]; with_reducible exact H2_) | (have H2_ := (Option.bind_some _ _).symm.trans H; with_reducible exact H2_) | with_reducible exact H | (rw [hy260]; exact H) | exact H
      have Ny260 := Aside0.mk hy260
      clear hy260
      by_cases c4 : a0 < (y260.length : Int)
      · rw [if_pos c4] at H
        have c4b0 : decide (a0 < (y260.length : Int)) = true := decide_eq_true c4
        clear c4
        simp only [Option.some.injEq, Prod.mk.injEq] at H
        obtain ⟨rfl, rfl⟩ := H
        go_enter Tryd.func40, Tryd.ntmps40
        try go_wp2
        have pi259 : (0 ≤ (a0 : Int)) = True := eq_true (of_decide_eq_true (by first | (with_reducible assumption) | assumption))
        have qi259 : (a0 < (y256.length : Int)) = True := eq_true (of_decide_eq_true (by first | (with_reducible assumption) | assumption))
        have pi263 : (0 ≤ (a0 : Int)) = True := eq_true (of_decide_eq_true (by first | (with_reducible assumption) | assumption))
        have qi263 : (a0 < (y260.length : Int)) = True := eq_true (of_decide_eq_true (by first | (with_reducible assumption) | assumption))
        have n0_ := Aside0.mk (below_drew1 HB.out)
        clear HB
        have HB := n0_
        clear n0_
        refine start_ (n := 10) (S := fun w' => True) (ds := []) #[false, false, false, false, false, false, false, false, false, false] (by kernel_rfl) rfl rfl trivial (fun hHeld => ?_); refine with_tabW impl_ahead.tab1 impl_ahead.bits1 (fun HT_ HW_ => ?_)
        generalize w.drew = w5 at HB hHeld ⊢
        refine pure_ (i := 1) (N := some 5) (v := ?_) (a' := ?_) (XSq.bA 10 2) rfl rfl (any_of HT_.out (by kernel_rfl)) (fun _ _ _ h => h) (Or.inl ⟨by rfl, ?_⟩) ?_ ?_
        rotate_left
        · intro w'
          go_simp
          with_reducible rfl
        rotate_left
        · simp only [Act.put, XSq.p1, XSq.p2, XSq.p3, i64_w, i32_w]
          rfl
        refine pure_ (i := 5) (N := some 9) (v := ?_) (a' := ?_) (XSq.bA 10 34) rfl rfl (any_of HT_.out (by kernel_rfl)) (fun _ _ _ h => h) (Or.inl ⟨by rfl, ?_⟩) ?_ ?_
        rotate_left
        · intro w'
          go_simp
          with_reducible rfl
        rotate_left
        · simp only [Act.put, XSq.p1, XSq.p2, XSq.p3, i64_w, i32_w]
          rfl
        refine inv_at [0, 2, 3, 4, 6, 7, 8, 9] (fun a0_ b a w' => ∃ (v257 : Value) (adz_v257 : Addr) (v261 : Value) (adz_v261 : Addr) (m2_ : Value) (m6_ : Value), a = putSel a0_ b [(0, 4, v257), (2, 6, m2_), (3, 7, .int .i64 (rd y256 a0)), (4, 8, v261), (6, 10, m6_), (7, 11, .int .i64 (rd y260 a0)), (8, 2, .int .i64 (rd y256 a0)), (9, 3, .int .i64 (rd y260 a0))] ∧ (Below w.heap.size w w') ∧ (b 0 = true → Kd.R (Kd.int .i64) 3 w' w.heap.size (fun _ => True) v257 y256) ∧ (b 0 = true → ∃ c_, (v257 : Value) = .slice (some adz_v257) y256.length c_) ∧ (b 4 = true → Kd.R (Kd.int .i64) 3 w' w.heap.size (fun _ => True) v261 y260) ∧ (b 4 = true → ∃ c_, (v261 : Value) = .slice (some adz_v261) y260.length c_) ∧ (b 2 = true → (m2_ : Value) = .pointer (some (adz_v257.add (a0).toNat))) ∧ (b 6 = true → (m6_ : Value) = .pointer (some (adz_v261.add (a0).toNat)))) HT_.out HW_.out (by kernel_rfl) (by kernel_rfl) ?_ ?_ ?_
        · exact ⟨.bool false, ⟨0, 0, none⟩, .bool false, ⟨0, 0, none⟩, .bool false, .bool false, by simp only [putSel, Bool.false_eq_true, if_false], HB.out, fun h_ => absurd h_ (by decide), fun h_ => absurd h_ (by decide), fun h_ => absurd h_ (by decide), fun h_ => absurd h_ (by decide), fun h_ => absurd h_ (by decide), fun h_ => absurd h_ (by decide)⟩
        · skip
          clear HB
          refine steps_cons ?_ ?_
          · rintro b a w' ⟨v257, adz_v257, v261, adz_v261, m2_, m6_, ha, Q_HB, Q_HO258, Q_HA_HO258, Q_HO262, Q_HA_HO262, Q_X2_, Q_X6_⟩ hb_ hon hoff
            refine ⟨_, rfl, fun K hK => ?_⟩
            replace ha := Aside0.mk ha
            have HB := Aside0.mk Q_HB
            refine Kd.R_lit_step (Kd.int .i64) _ 3 ?hg (N := 4) ?hd (xs := ([0, 1, 0, (-1)] : List Int)) (inner := [.int .i64 0, .int .i64 1, .int .i64 0, .int .i64 (-1)]) (ok := fun _ => True) (okp := fun _ => True) ?hr ?hp (fun _ hk => hk) trivial (Below.refl _ _) (Nat.le_refl _) (by simp) ?_; (case hd => rfl); (case hg => rfl); (case hr => first | (go_simp; done) | (go_simp; rfl)); (case hp => exact (Reps.one (show Kd.M (Kd.int .i64) _ _ _ 0 [.int .i64 0] from rfl) (Reps.one (show Kd.M (Kd.int .i64) _ _ _ 1 [.int .i64 1] from rfl) (Reps.one (show Kd.M (Kd.int .i64) _ _ _ 0 [.int .i64 0] from rfl) (Reps.one (show Kd.M (Kd.int .i64) _ _ _ (-1) [.int .i64 (-1)] from rfl) (Reps.none _ _))))))
            intro v257 w6 ho7 hb hg_ hnew_
            clear hg_ hnew_
            (first | rw [← Ny256.out] at ho7 | (simp only [Int.reduceToNat] at ho7; rw [← Ny256.out] at ho7))
            have n0_ := Aside0.mk (Kd.R_lower ho7 (below_size (XSq.bB HB)))
            have n1_ := Aside0.mk (below_step (XSq.bB HB) hb)
            have z_HO262 := fun (h0_ : b 4 = true) => (show Kd.R (Kd.int .i64) 3 w6 w.heap.size (fun _ => True) v261 y260 from by first | exact (Kd.R_elder' (by (with_reducible repeat (first | apply Kd.R_alloc | apply Kd.R_drewN | apply Kd.R_drew)); exact (Q_HO262 h0_)) (Kd.R_base ho7) hb) | exact Kd.R_mono (Kd.R_elder' (by (with_reducible repeat (first | apply Kd.R_alloc | apply Kd.R_drewN | apply Kd.R_drew)); exact (Q_HO262 h0_)) (Kd.R_base ho7) hb) (fun _ h_ => by first | trivial | exact h_ | exact h_.1))
            clear HB
            have HO258 := n0_
            have HB := n1_
            clear n0_ n1_
            clear hb ho7
            obtain ⟨Ao8, co8, eo8⟩ := Kd.R_slice HO258.out
            subst eo8
            obtain ⟨ado8, fo8, _⟩ := Kd.at_int (Kd.R_reads' HO258.out).2.2 0 (by decide) (by rw [Ny256.out]; simp)
            cases fo8
            refine hK.out _ _ ⟨.slice (some ado8) y256.length co8, ado8, v261, adz_v261, m2_, m6_, (by rw [ha.out]; exact putSel_upk 0 hb_ rfl rfl rfl), (XSq.bB HB), fun _ => (by (with_reducible repeat (first | apply Kd.R_alloc | apply Kd.R_drewN | apply Kd.R_drew)); exact HO258.out), fun _ => ⟨_, rfl⟩, z_HO262, Q_HA_HO262, fun h0_ => absurd ((hoff 2 (by kernel_rfl)).symm.trans h0_) (by decide), Q_X6_⟩
          refine steps_cons ?_ ?_
          · rintro b a w' ⟨v257, adz_v257, v261, adz_v261, m2_, m6_, ha, Q_HB, Q_HO258, Q_HA_HO258, Q_HO262, Q_HA_HO262, Q_X2_, Q_X6_⟩ hb_ hon hoff
            refine ⟨_, rfl, fun K hK => ?_⟩
            have e4 : a.tmps[4]? = some (v257) := by rw [ha]; exact putSel_on (e := (0, 4, v257)) 0 rfl rfl (hon 0 (by kernel_rfl)) rfl
            have e5 : a.tmps[5]? = some (.int .i64 a0) := by rw [ha]; exact (putSel_off rfl).trans rfl
            replace ha := Aside0.mk ha
            have HB := Aside0.mk Q_HB
            have HO258 := Aside0.mk (Q_HO258 (hon 0 (by kernel_rfl)))
            have HA_HO258 := Aside0.mk (Q_HA_HO258 (hon 0 (by kernel_rfl)))
            obtain ⟨c_, hv_⟩ := HA_HO258.out
            rw [hv_] at e4
            refine value_ (w1 := w') (v := .pointer (some (adz_v257.add (a0).toNat))) (by rfl) rfl ?_ ?_
            · go_simp
              (try simp only [i64_w])
              try rfl
            refine hK.out _ _ ⟨v257, adz_v257, v261, adz_v261, (.pointer (some (adz_v257.add (a0).toNat))), m6_, (by rw [ha.out]; exact putSel_upk 1 hb_ rfl rfl rfl), Q_HB, Q_HO258, Q_HA_HO258, Q_HO262, Q_HA_HO262, fun _ => rfl, Q_X6_⟩
          refine steps_cons ?_ ?_
          · rintro b a w' ⟨v257, adz_v257, v261, adz_v261, m2_, m6_, ha, Q_HB, Q_HO258, Q_HA_HO258, Q_HO262, Q_HA_HO262, Q_X2_, Q_X6_⟩ hb_ hon hoff
            refine ⟨_, rfl, fun K hK => ?_⟩
            have e6 : a.tmps[6]? = some (m2_) := by rw [ha]; exact putSel_on (e := (2, 6, m2_)) 1 rfl rfl (hon 2 (by kernel_rfl)) rfl
            rw [Q_X2_ (hon 2 (by kernel_rfl))] at e6
            replace ha := Aside0.mk ha
            have HB := Aside0.mk Q_HB
            have HO258 := Aside0.mk (Q_HO258 (hon 0 (by kernel_rfl)))
            have HA_HO258 := Aside0.mk (Q_HA_HO258 (hon 0 (by kernel_rfl)))
            obtain ⟨c_, hv_⟩ := HA_HO258.out
            have hF_ := HO258.out
            rw [hv_] at hF_
            obtain ⟨ad_, ea_, hx_⟩ := Kd.at_int (Kd.R_reads' hF_).2.2 a0 (of_eq_true pi259) (of_eq_true qi259)
            cases ea_
            refine value_ (w1 := w') (v := .int .i64 (rd y256 a0)) (by rfl) rfl ?_ ?_
            · go_simp
              (try simp only [i64_w])
              try rfl
            refine hK.out _ _ ⟨v257, adz_v257, v261, adz_v261, m2_, m6_, (by rw [ha.out]; exact putSel_upk 2 hb_ rfl rfl rfl), Q_HB, Q_HO258, Q_HA_HO258, Q_HO262, Q_HA_HO262, Q_X2_, Q_X6_⟩
          refine steps_cons ?_ ?_
          · rintro b a w' ⟨v257, adz_v257, v261, adz_v261, m2_, m6_, ha, Q_HB, Q_HO258, Q_HA_HO258, Q_HO262, Q_HA_HO262, Q_X2_, Q_X6_⟩ hb_ hon hoff
            refine ⟨_, rfl, fun K hK => ?_⟩
            replace ha := Aside0.mk ha
            have HB := Aside0.mk Q_HB
            refine Kd.R_lit_step (Kd.int .i64) _ 3 ?hg (N := 8) ?hd (xs := ([(-1), 0, 1, 0] : List Int)) (inner := [.int .i64 (-1), .int .i64 0, .int .i64 1, .int .i64 0]) (ok := fun _ => True) (okp := fun _ => True) ?hr ?hp (fun _ hk => hk) trivial (Below.refl _ _) (Nat.le_refl _) (by simp) ?_; (case hd => rfl); (case hg => rfl); (case hr => first | (go_simp; done) | (go_simp; rfl)); (case hp => exact (Reps.one (show Kd.M (Kd.int .i64) _ _ _ (-1) [.int .i64 (-1)] from rfl) (Reps.one (show Kd.M (Kd.int .i64) _ _ _ 0 [.int .i64 0] from rfl) (Reps.one (show Kd.M (Kd.int .i64) _ _ _ 1 [.int .i64 1] from rfl) (Reps.one (show Kd.M (Kd.int .i64) _ _ _ 0 [.int .i64 0] from rfl) (Reps.none _ _))))))
            intro v261 w6 ho7 hb hg_ hnew_
            clear hg_ hnew_
            (first | rw [← Ny260.out] at ho7 | (simp only [Int.reduceToNat] at ho7; rw [← Ny260.out] at ho7))
            have n0_ := Aside0.mk (Kd.R_lower ho7 (below_size (XSq.bB HB)))
            have n1_ := Aside0.mk (below_step (XSq.bB HB) hb)
            have z_HO258 := fun (h0_ : b 0 = true) => (show Kd.R (Kd.int .i64) 3 w6 w.heap.size (fun _ => True) v257 y256 from by first | exact (Kd.R_elder' (by (with_reducible repeat (first | apply Kd.R_alloc | apply Kd.R_drewN | apply Kd.R_drew)); exact (Q_HO258 h0_)) (Kd.R_base ho7) hb) | exact Kd.R_mono (Kd.R_elder' (by (with_reducible repeat (first | apply Kd.R_alloc | apply Kd.R_drewN | apply Kd.R_drew)); exact (Q_HO258 h0_)) (Kd.R_base ho7) hb) (fun _ h_ => by first | trivial | exact h_ | exact h_.1))
            clear HB
            have HO262 := n0_
            have HB := n1_
            clear n0_ n1_
            clear hb ho7
            obtain ⟨Ao8, co8, eo8⟩ := Kd.R_slice HO262.out
            subst eo8
            obtain ⟨ado8, fo8, _⟩ := Kd.at_int (Kd.R_reads' HO262.out).2.2 0 (by decide) (by rw [Ny260.out]; simp)
            cases fo8
            refine hK.out _ _ ⟨v257, adz_v257, .slice (some ado8) y260.length co8, ado8, m2_, m6_, (by rw [ha.out]; exact putSel_upk 3 hb_ rfl rfl rfl), (XSq.bB HB), z_HO258, Q_HA_HO258, fun _ => (by (with_reducible repeat (first | apply Kd.R_alloc | apply Kd.R_drewN | apply Kd.R_drew)); exact HO262.out), fun _ => ⟨_, rfl⟩, Q_X2_, fun h0_ => absurd ((hoff 6 (by kernel_rfl)).symm.trans h0_) (by decide)⟩
          refine steps_cons ?_ ?_
          · rintro b a w' ⟨v257, adz_v257, v261, adz_v261, m2_, m6_, ha, Q_HB, Q_HO258, Q_HA_HO258, Q_HO262, Q_HA_HO262, Q_X2_, Q_X6_⟩ hb_ hon hoff
            refine ⟨_, rfl, fun K hK => ?_⟩
            have e8 : a.tmps[8]? = some (v261) := by rw [ha]; exact putSel_on (e := (4, 8, v261)) 3 rfl rfl (hon 4 (by kernel_rfl)) rfl
            have e9 : a.tmps[9]? = some (.int .i64 a0) := by rw [ha]; exact (putSel_off rfl).trans rfl
            replace ha := Aside0.mk ha
            have HB := Aside0.mk Q_HB
            have HO262 := Aside0.mk (Q_HO262 (hon 4 (by kernel_rfl)))
            have HA_HO262 := Aside0.mk (Q_HA_HO262 (hon 4 (by kernel_rfl)))
            obtain ⟨c_, hv_⟩ := HA_HO262.out
            rw [hv_] at e8
            refine value_ (w1 := w') (v := .pointer (some (adz_v261.add (a0).toNat))) (by rfl) rfl ?_ ?_
            · go_simp
              (try simp only [i64_w])
              try rfl
            refine hK.out _ _ ⟨v257, adz_v257, v261, adz_v261, m2_, (.pointer (some (adz_v261.add (a0).toNat))), (by rw [ha.out]; exact putSel_upk 4 hb_ rfl rfl rfl), Q_HB, Q_HO258, Q_HA_HO258, Q_HO262, Q_HA_HO262, Q_X2_, fun _ => rfl⟩
          refine steps_cons ?_ ?_
          · rintro b a w' ⟨v257, adz_v257, v261, adz_v261, m2_, m6_, ha, Q_HB, Q_HO258, Q_HA_HO258, Q_HO262, Q_HA_HO262, Q_X2_, Q_X6_⟩ hb_ hon hoff
            refine ⟨_, rfl, fun K hK => ?_⟩
            have e10 : a.tmps[10]? = some (m6_) := by rw [ha]; exact putSel_on (e := (6, 10, m6_)) 4 rfl rfl (hon 6 (by kernel_rfl)) rfl
            rw [Q_X6_ (hon 6 (by kernel_rfl))] at e10
            replace ha := Aside0.mk ha
            have HB := Aside0.mk Q_HB
            have HO262 := Aside0.mk (Q_HO262 (hon 4 (by kernel_rfl)))
            have HA_HO262 := Aside0.mk (Q_HA_HO262 (hon 4 (by kernel_rfl)))
            obtain ⟨c_, hv_⟩ := HA_HO262.out
            have hF_ := HO262.out
            rw [hv_] at hF_
            obtain ⟨ad_, ea_, hx_⟩ := Kd.at_int (Kd.R_reads' hF_).2.2 a0 (of_eq_true pi263) (of_eq_true qi263)
            cases ea_
            refine value_ (w1 := w') (v := .int .i64 (rd y260 a0)) (by rfl) rfl ?_ ?_
            · go_simp
              (try simp only [i64_w])
              try rfl
            refine hK.out _ _ ⟨v257, adz_v257, v261, adz_v261, m2_, m6_, (by rw [ha.out]; exact putSel_upk 5 hb_ rfl rfl rfl), Q_HB, Q_HO258, Q_HA_HO258, Q_HO262, Q_HA_HO262, Q_X2_, Q_X6_⟩
          refine steps_cons ?_ ?_
          · rintro b a w' ⟨v257, adz_v257, v261, adz_v261, m2_, m6_, ha, Q_HB, Q_HO258, Q_HA_HO258, Q_HO262, Q_HA_HO262, Q_X2_, Q_X6_⟩ hb_ hon hoff
            refine ⟨_, rfl, fun K hK => ?_⟩
            have e7 : a.tmps[7]? = some (.int .i64 (rd y256 a0)) := by rw [ha]; exact putSel_on (e := (3, 7, .int .i64 (rd y256 a0))) 2 rfl rfl (hon 3 (by kernel_rfl)) rfl
            replace ha := Aside0.mk ha
            have HB := Aside0.mk Q_HB
            have HO258 := Aside0.mk (Q_HO258 (hon 0 (by kernel_rfl)))
            have HA_HO258 := Aside0.mk (Q_HA_HO258 (hon 0 (by kernel_rfl)))
            refine value_ (w1 := w') (v := .int .i64 (rd y256 a0)) (by rfl) rfl ?_ ?_
            · go_simp
              (try simp only [i64_w])
              try rfl
            refine hK.out _ _ ⟨v257, adz_v257, v261, adz_v261, m2_, m6_, (by rw [ha.out]; exact putSel_upk 6 hb_ rfl rfl rfl), Q_HB, Q_HO258, Q_HA_HO258, Q_HO262, Q_HA_HO262, Q_X2_, Q_X6_⟩
          refine steps_cons ?_ ?_
          · rintro b a w' ⟨v257, adz_v257, v261, adz_v261, m2_, m6_, ha, Q_HB, Q_HO258, Q_HA_HO258, Q_HO262, Q_HA_HO262, Q_X2_, Q_X6_⟩ hb_ hon hoff
            refine ⟨_, rfl, fun K hK => ?_⟩
            have e11 : a.tmps[11]? = some (.int .i64 (rd y260 a0)) := by rw [ha]; exact putSel_on (e := (7, 11, .int .i64 (rd y260 a0))) 5 rfl rfl (hon 7 (by kernel_rfl)) rfl
            replace ha := Aside0.mk ha
            have HB := Aside0.mk Q_HB
            have HO258 := Aside0.mk (Q_HO258 (hon 0 (by kernel_rfl)))
            have HA_HO258 := Aside0.mk (Q_HA_HO258 (hon 0 (by kernel_rfl)))
            have HO262 := Aside0.mk (Q_HO262 (hon 4 (by kernel_rfl)))
            have HA_HO262 := Aside0.mk (Q_HA_HO262 (hon 4 (by kernel_rfl)))
            refine value_ (w1 := w') (v := .int .i64 (rd y260 a0)) (by rfl) rfl ?_ ?_
            · go_simp
              (try simp only [i64_w])
              try rfl
            refine hK.out _ _ ⟨v257, adz_v257, v261, adz_v261, m2_, m6_, (by rw [ha.out]; exact putSel_upk 7 hb_ rfl rfl rfl), Q_HB, Q_HO258, Q_HA_HO258, Q_HO262, Q_HA_HO262, Q_X2_, Q_X6_⟩
          exact steps_nil
        rintro b a w12 hall ⟨v257, adz_v257, v261, adz_v261, m2_, m6_, ha, Q_HB, Q_HO258, Q_HA_HO258, Q_HO262, Q_HA_HO262, Q_X2_, Q_X6_⟩
        clear HB
        have hb0_ := hall 0 (by kernel_rfl)
        have hb2_ := hall 2 (by kernel_rfl)
        have hb3_ := hall 3 (by kernel_rfl)
        have hb4_ := hall 4 (by kernel_rfl)
        have hb6_ := hall 6 (by kernel_rfl)
        have hb7_ := hall 7 (by kernel_rfl)
        have hb8_ := hall 8 (by kernel_rfl)
        have hb9_ := hall 9 (by kernel_rfl)
        subst ha
        obtain rfl := Q_X2_ hb2_
        obtain rfl := Q_X6_ hb6_
        simp only [putSel, hb0_, hb2_, hb3_, hb4_, hb6_, hb7_, hb8_, hb9_, if_true, Act.put, List.setIfInBounds_toArray, List.set_cons_zero, List.set_cons_succ]
        have HB := Aside0.mk Q_HB
        clear Q_HB
        have HO258 := Aside0.mk (Q_HO258 hb0_)
        clear Q_HO258
        have HA_HO258 := Aside0.mk (Q_HA_HO258 hb0_)
        clear Q_HA_HO258
        have HO262 := Aside0.mk (Q_HO262 hb4_)
        clear Q_HO262
        have HA_HO262 := Aside0.mk (Q_HA_HO262 hb4_)
        clear Q_HA_HO262
        clear hall hb0_ hb2_ hb3_ hb4_ hb6_ hb7_ hb8_ hb9_
        obtain ⟨co13, eo13⟩ := HA_HO258.out
        clear HA_HO258
        subst eo13
        obtain ⟨co14, eo14⟩ := HA_HO262.out
        clear HA_HO262
        subst eo14
        try go_wp2
        go_ret2
        exact ⟨by first | rfl | (simp [errW_none, errW_some] <;> rfl) | (simp [*, errW_none, errW_some] <;> rfl), by repeat (first | (with_reducible first | exact HB.out | apply below_alloc | apply pw_below_drewN | apply below_drew1) | exact HB.out)⟩
      · rw [if_neg c4] at H
        exact absurd H (by simp)
    · rw [if_neg c3] at H
      exact absurd H (by simp)
  · rw [if_neg c2] at H
    exact absurd H (by simp)

/-! ### impl_quarters: function 41 -/
def impl_quarters.f (a0 : Int) : Option (Int) := if a0 = 76 then (some 3) else (if a0 = 82 then (some 1) else (if a0 = 85 then (some 2) else (some 0)))
set_option maxHeartbeats 8000000 in
set_option maxRecDepth 100000 in
theorem impl_quarters.calls (a0 : Int) (r : Int) (w : World) (h : impl_quarters.f a0 = some r) :
    Calls Tryd.prog 41 #[.int .u8 a0] w fun e w' => e = .returned (.int .i64 r) ∧ Drawn0 w w' := by
  have H : (if a0 = 76 then (some 3) else (if a0 = 82 then (some 1) else (if a0 = 85 then (some 2) else (some 0)))) = some r := h
  clear h
  by_cases c2 : a0 = 76
  · rw [if_pos c2] at H
    have c2b0 : (a0 == 76) = true := beq_iff_eq.mpr c2
    have c2b1 : (a0 != 76) = false := bne_eq_false_iff_eq.mpr c2
    clear c2
    obtain rfl := Option.some.inj H
    go_enter Tryd.func41, Tryd.ntmps41
    go_wp2
    go_ret
    exact ⟨by first | rfl | (simp; done) | (simp [*]; done), by repeat (first | exact Drawn0.refl _ | apply Drawn0.step)⟩
  · rw [if_neg c2] at H
    have c2b0 : (a0 == 76) = false := beq_eq_false_iff_ne.mpr c2
    have c2b1 : (a0 != 76) = true := bne_iff_ne.mpr c2
    by_cases c3 : a0 = 82
    · rw [if_pos c3] at H
      have c3b0 : (a0 == 82) = true := beq_iff_eq.mpr c3
      have c3b1 : (a0 != 82) = false := bne_eq_false_iff_eq.mpr c3
      clear c3
      obtain rfl := Option.some.inj H
      go_enter Tryd.func41, Tryd.ntmps41
      go_wp2
      go_ret
      exact ⟨by first | rfl | (simp; done) | (simp [*]; done), by repeat (first | exact Drawn0.refl _ | apply Drawn0.step)⟩
    · rw [if_neg c3] at H
      have c3b0 : (a0 == 82) = false := beq_eq_false_iff_ne.mpr c3
      have c3b1 : (a0 != 82) = true := bne_iff_ne.mpr c3
      by_cases c4 : a0 = 85
      · rw [if_pos c4] at H
        have c4b0 : (a0 == 85) = true := beq_iff_eq.mpr c4
        have c4b1 : (a0 != 85) = false := bne_eq_false_iff_eq.mpr c4
        clear c4
        obtain rfl := Option.some.inj H
        go_enter Tryd.func41, Tryd.ntmps41
        go_wp2
        go_ret
        exact ⟨by first | rfl | (simp; done) | (simp [*]; done), by repeat (first | exact Drawn0.refl _ | apply Drawn0.step)⟩
      · rw [if_neg c4] at H
        have c4b0 : (a0 == 85) = false := beq_eq_false_iff_ne.mpr c4
        have c4b1 : (a0 != 85) = true := bne_iff_ne.mpr c4
        obtain rfl := Option.some.inj H
        go_enter Tryd.func41, Tryd.ntmps41
        go_wp2
        go_ret
        exact ⟨by first | rfl | (simp; done) | (simp [*]; done), by repeat (first | exact Drawn0.refl _ | apply Drawn0.step)⟩

end Go.Proofs.YtfhplgiblknfcaaDoor.PFnExactPlainBefore
