-- Made by wip/tools/xkit.py (a program of this session's) with the kit's printer.
import Derived.Test.YtecoeknjnhffbaaPFnExactRingRoutex0
import Derived.Test.YtecoeknjnhffbaaPFnExactRingRoutex1
import Derived.Test.YtecoeknjnhffbaaPFnExactRingRoutex2
namespace Go.Proofs.Ytecoeknjnhffbaa.PFnExactRingRoute
open Go.RowKit Go.Proofs.YtecoeknjnhffbaaW.PrintWords Go.Proofs.YtecoeknjnhffbaaW.PrintLast Go.Proofs.YtecoeknjnhffbaaW.PrintMore
attribute [local go_sem] max2_int min2_int max_two min_two max_three min_three max_four min_four   -- for this text's walks alone
set_option linter.unusedVariables false
set_option linter.unusedSimpArgs false

/-! ### laws_heldIntSS: function 46 -/
def laws_heldIntSS.l0 : Nat → List (List Int) → Int → Int → Option (Int)
  | 0, _, _, _ => none
  | k + 1, x0, x1, x5 => if x5 < (x0.length : Int) then (if 0 ≤ x5 then ((laws_heldIntS.f k (rd_L1 x0 x5) x1).bind fun t148 => (if t148 < 0 then (some (-1)) else (laws_heldIntSS.l0 k x0 t148 (wrap64 (x5 + 1))))) else (none)) else (some x1)
def laws_heldIntSS.f (k : Nat) (l0 : List (List Int)) (a1 : Int) : Option (Int) := laws_heldIntSS.l0 k l0 a1 0
theorem laws_heldIntSS.mono_l : ∀ k, (∀ y0 y1 y2, LeO (laws_heldIntSS.l0 k y0 y1 y2) (laws_heldIntSS.l0 (k + 1) y0 y1 y2))
  | 0 => fun _ _ _ r h => by simp [laws_heldIntSS.l0] at h
  | k + 1 => by
    have ih0 := laws_heldIntSS.mono_l k
    · intro y0 y1 y2
      unfold laws_heldIntSS.l0
      repeat' first
      | (with_reducible exact ih0 _ _ _)
      | (with_reducible exact laws_heldIntS.mono _ _ _)
      | (with_reducible exact LeO.refl _)
      | (with_reducible exact LeO.none _)
      | (with_reducible refine LeO.ite ?_ ?_)
      | (with_reducible refine LeO.bind ?_ (fun _ => ?_))
      | exact ih0 _ _ _
      | exact laws_heldIntS.mono _ _ _
      | exact LeO.none _
      | refine LeO.ite ?_ ?_
      | refine LeO.bind ?_ (fun _ => ?_)
theorem laws_heldIntSS.mono : ∀ a0 a1 k, LeO (laws_heldIntSS.f k a0 a1) (laws_heldIntSS.f (k + 1) a0 a1) := by
  intro a0 a1 k
  have ih0 := laws_heldIntSS.mono_l k
  unfold laws_heldIntSS.f
  repeat' first
      | (with_reducible exact ih0 _ _ _)
      | (with_reducible exact laws_heldIntS.mono _ _ _)
      | (with_reducible exact LeO.refl _)
      | (with_reducible exact LeO.none _)
      | (with_reducible refine LeO.ite ?_ ?_)
      | (with_reducible refine LeO.bind ?_ (fun _ => ?_))
      | exact ih0 _ _ _
      | exact laws_heldIntS.mono _ _ _
      | exact LeO.none _
      | refine LeO.ite ?_ ?_
      | refine LeO.bind ?_ (fun _ => ?_)
set_option maxHeartbeats 8000000 in
set_option maxRecDepth 100000 in
theorem laws_heldIntSS.calls (k : Nat) (A0 : Option Addr) (c0 : Nat) (l0 : List (List Int)) (a1 : Int) (r : Int) (w : World) (hr0 : Kd.C (Kd.slice 3 (Kd.int .i64)) w A0 l0.length l0) (hc0 : l0.length ≤ c0) (h : laws_heldIntSS.f k l0 a1 = some r) :
    Calls Try.prog 46 #[.slice A0 l0.length c0, .int .i64 a1] w fun e w' => e = .returned (.int .i64 r) ∧ Drawn0 w w' := by
  have HR0 := Aside0.mk hr0
  have HC0 := Aside0.mk hc0
  clear hr0 hc0
  have H : (laws_heldIntSS.l0 k l0 a1 0) = some r := h
  clear h
  have H' := Aside0.mk H
  clear H
  go_enter Try.func46, Try.ntmps46
  go_wp2
  go_loopg [1, 5] k (fun kq v1 v5 w' => ∃ (x1_1 : Int) (x5_1 : Int), v1 = .int .i64 x1_1 ∧ v5 = .int .i64 x5_1 ∧ Aside0 (laws_heldIntSS.l0 kq l0 x1_1 x5_1 = some r) ∧ Aside0 (kq ≤ k) ∧ Drawn0 w w')
  case atStart => exact ⟨(a1), (0), (by first | rfl | (simp; done) | (simp [*]; done)), (by first | rfl | (simp; done) | (simp [*]; done)), H', ⟨Nat.le_refl _⟩, by repeat (first | exact Drawn0.refl _ | apply Drawn0.step)⟩
  case round =>
    clear H'
    try clear p2
    obtain ⟨x1_1, x5_1, rfl, rfl, HA, HK1, ⟨m1, rfl⟩⟩ := hrel
    cases gk with
    | zero => exact absurd HA.out (by simp [laws_heldIntSS.l0])
    | succ k1 =>
      have H := HA.out
      clear HA
      simp only [laws_heldIntSS.l0] at H
      by_cases c3 : x5_1 < (l0.length : Int)
      · rw [if_pos c3] at H
        have c3b0 : decide (x5_1 < (l0.length : Int)) = true := decide_eq_true c3
        clear c3
        by_cases c4 : 0 ≤ x5_1
        · rw [if_pos c4] at H
          have c4b0 : decide (0 ≤ x5_1) = true := decide_eq_true c4
          clear c4
          replace H := Option.bind_eq_some_iff.mp H
          obtain ⟨t148, A50, H⟩ := H
          replace H : (if t148 < 0 then (some (-1)) else (laws_heldIntSS.l0 k1 l0 t148 (wrap64 (x5_1 + 1)))) = some r := H
          have A5 := Aside0.mk A50
          clear A50
          by_cases c6 : t148 < 0
          · rw [if_pos c6] at H
            have c6b0 : decide (t148 < 0) = true := decide_eq_true c6
            clear c6
            obtain rfl := Option.some.inj H
            have p147 : 0 ≤ (x5_1 : Int) := of_decide_eq_true (by first | (with_reducible assumption) | assumption)
            have q147 : x5_1 < (l0.length : Int) := of_decide_eq_true (by first | (with_reducible assumption) | assumption)
            obtain ⟨ad147, A147_0, c147_0, e147, hx147_0, hl147_0, hi147_0⟩ := at_L1 HR0.out x5_1 p147 q147
            cases e147
            have HR147_0 := Aside0.mk hi147_0
            have HC147_0 := Aside0.mk hl147_0
            clear hi147_0 hl147_0
            replace p147 := eq_true p147
            replace q147 := eq_true q147
            go_wp2_with (first | ((with_reducible refine gate_callee (f := 37) rfl ?_); refine goesL_ (some 17) rfl rfl Try.func37 (by kernel_rfl) rfl #[.slice A147_0 (rd_L1 l0 x5_1).length c147_0, .int .i64 x1_1] rfl (by (try simp only [List.map_toArray, List.map_cons, List.map_nil]); first | done | rfl | (simp only [List.length_drop, List.length_take]; rfl)) ?_; (with_reducible refine (laws_heldIntS.calls k1 _ _ (rd_L1 l0 x5_1) x1_1 t148 _ ?side1 ?side2 A5.out).mono ?_); (case side1 => repeat (first | exact HR147_0.out | (with_reducible refine Kd.C_alloc ?_ _) | (with_reducible refine Kd.C_drewN ?_ _) | (with_reducible refine Kd.C_drew ?_))); (case side2 => exact HC147_0.out); rintro e w' ⟨rfl, ⟨nd, rfl⟩⟩; refine ⟨_, rfl, ?_⟩))
            go_ret
            exact ⟨by first | rfl | (simp; done) | (simp [*]; done), by repeat (first | exact Drawn0.refl _ | apply Drawn0.step)⟩
          · rw [if_neg c6] at H
            have c6b0 : decide (t148 < 0) = false := decide_eq_false c6
            clear c6
            have H' := Aside0.mk H
            clear H
            have p147 : 0 ≤ (x5_1 : Int) := of_decide_eq_true (by first | (with_reducible assumption) | assumption)
            have q147 : x5_1 < (l0.length : Int) := of_decide_eq_true (by first | (with_reducible assumption) | assumption)
            obtain ⟨ad147, A147_0, c147_0, e147, hx147_0, hl147_0, hi147_0⟩ := at_L1 HR0.out x5_1 p147 q147
            cases e147
            have HR147_0 := Aside0.mk hi147_0
            have HC147_0 := Aside0.mk hl147_0
            clear hi147_0 hl147_0
            replace p147 := eq_true p147
            replace q147 := eq_true q147
            go_wp2_with (first | ((with_reducible refine gate_callee (f := 37) rfl ?_); refine goesL_ (some 17) rfl rfl Try.func37 (by kernel_rfl) rfl #[.slice A147_0 (rd_L1 l0 x5_1).length c147_0, .int .i64 x1_1] rfl (by (try simp only [List.map_toArray, List.map_cons, List.map_nil]); first | done | rfl | (simp only [List.length_drop, List.length_take]; rfl)) ?_; (with_reducible refine (laws_heldIntS.calls k1 _ _ (rd_L1 l0 x5_1) x1_1 t148 _ ?side1 ?side2 A5.out).mono ?_); (case side1 => repeat (first | exact HR147_0.out | (with_reducible refine Kd.C_alloc ?_ _) | (with_reducible refine Kd.C_drewN ?_ _) | (with_reducible refine Kd.C_drew ?_))); (case side2 => exact HC147_0.out); rintro e w' ⟨rfl, ⟨nd, rfl⟩⟩; refine ⟨_, rfl, ?_⟩))
            go_roundg k1
            case measure => have := HK1.out; omega
            case rel => exact ⟨(t148), (wrap64 (x5_1 + 1)), (by first | rfl | (simp; done) | (simp [*]; done)), (by first | rfl | (simp; done) | (simp [*]; done)), H', ⟨by have := HK1.out; omega⟩, by repeat (first | exact Drawn0.refl _ | apply Drawn0.step)⟩
        · rw [if_neg c4] at H
          exact absurd H (by simp)
      · rw [if_neg c3] at H
        have c3b0 : decide (x5_1 < (l0.length : Int)) = false := decide_eq_false c3
        clear c3
        obtain rfl := Option.some.inj H
        go_wp2
        go_ret
        exact ⟨by first | rfl | (simp; done) | (simp [*]; done), by repeat (first | exact Drawn0.refl _ | apply Drawn0.step)⟩

/-! ### laws_heldRoute: function 22 -/
def laws_heldRoute.f (k : Nat) (l0_0 : List (List Int)) (l0_1 : List Int) (a1 : Int) : Option (Int) := (laws_heldIntSS.f k l0_0 a1).bind fun t150 => (if t150 < 0 then (some (-1)) else ((laws_heldIntS.f k l0_1 t150).bind fun t151 => (if t151 < 0 then (some (-1)) else (some t151))))
theorem laws_heldRoute.mono : ∀ a0 a1 a2 k, LeO (laws_heldRoute.f k a0 a1 a2) (laws_heldRoute.f (k + 1) a0 a1 a2) := by
  intro a0 a1 a2 k
  unfold laws_heldRoute.f
  repeat' first
      | (with_reducible exact laws_heldIntS.mono _ _ _)
      | (with_reducible exact laws_heldIntSS.mono _ _ _)
      | (with_reducible exact LeO.refl _)
      | (with_reducible exact LeO.none _)
      | (with_reducible refine LeO.ite ?_ ?_)
      | (with_reducible refine LeO.bind ?_ (fun _ => ?_))
      | exact laws_heldIntS.mono _ _ _
      | exact laws_heldIntSS.mono _ _ _
      | exact LeO.none _
      | refine LeO.ite ?_ ?_
      | refine LeO.bind ?_ (fun _ => ?_)
set_option maxHeartbeats 8000000 in
set_option maxRecDepth 100000 in
theorem laws_heldRoute.calls (k : Nat) (A0_0 : Option Addr) (c0_0 : Nat) (l0_0 : List (List Int)) (A0_1 : Option Addr) (c0_1 : Nat) (l0_1 : List Int) (a1 : Int) (r : Int) (w : World) (hr0_0 : Kd.C (Kd.slice 3 (Kd.int .i64)) w A0_0 l0_0.length l0_0) (hc0_0 : l0_0.length ≤ c0_0) (hr0_1 : Kd.C (Kd.int .i64) w A0_1 l0_1.length l0_1) (hc0_1 : l0_1.length ≤ c0_1) (h : laws_heldRoute.f k l0_0 l0_1 a1 = some r) :
    Calls Try.prog 22 #[.agg #[.slice A0_0 l0_0.length c0_0, .slice A0_1 l0_1.length c0_1], .int .i64 a1] w fun e w' => e = .returned (.int .i64 r) ∧ Below w.heap.size w w' := by
  have hu28 := Try.underlying28
  have HR0_0 := Aside0.mk hr0_0
  have HC0_0 := Aside0.mk hc0_0
  clear hr0_0 hc0_0
  have HR0_1 := Aside0.mk hr0_1
  have HC0_1 := Aside0.mk hc0_1
  clear hr0_1 hc0_1
  have HB := Aside0.mk (Below.refl w.heap.size w)
  have H : ((laws_heldIntSS.f k l0_0 a1).bind fun t150 => (if t150 < 0 then (some (-1)) else ((laws_heldIntS.f k l0_1 t150).bind fun t151 => (if t151 < 0 then (some (-1)) else (some t151))))) = some r := h
  clear h
  replace H := Option.bind_eq_some_iff.mp H
  obtain ⟨t150, A30, H⟩ := H
  replace H : (if t150 < 0 then (some (-1)) else ((laws_heldIntS.f k l0_1 t150).bind fun t151 => (if t151 < 0 then (some (-1)) else (some t151)))) = some r := H
  have A3 := Aside0.mk A30
  clear A30
  by_cases c4 : t150 < 0
  · rw [if_pos c4] at H
    have c4b0 : decide (t150 < 0) = true := decide_eq_true c4
    clear c4
    obtain rfl := Option.some.inj H
    go_enter Try.func22, Try.ntmps22
    go_wp2_with (first | ((with_reducible refine gate_dst (N := 2) rfl ?_); refine box_event ?hg (N := 2) ?hd (cs := #[.slice A0_0 l0_0.length c0_0, .slice A0_1 l0_1.length c0_1]) (t := 28) ?hr ?_; (case hd => rfl); (case hg => rfl); (case hr => first | (go_simp; done) | (go_simp; rfl)); intro gb149 hg w5 hbox hb; have n0_ := Aside0.mk (below_step (XSq.bB HB) hb); have n1_ := Aside0.mk (hbox); have n2_ := Aside0.mk ((by rw [hg]; exact (below_size (XSq.bB HB)) : w.heap.size ≤ gb149)); have n3_ := Aside0.mk ((by rw [hg]; exact (below_size (XSq.bB HB)) : w.heap.size ≤ gb149)); clear HB; have HB := n0_; have BK149 := n1_; have GW149 := n2_; have GE149 := n3_; clear n0_ n1_ n2_ n3_; clear hb hbox hg; have hcz6_0 : w5.cell? ⟨gb149, 0, none⟩ = some (.slice A0_0 l0_0.length c0_0) := (blk_cell BK149.out 0).trans rfl; have hcz6_1 : w5.cell? ⟨gb149, 1, none⟩ = some (.slice A0_1 l0_1.length c0_1) := (blk_cell BK149.out 1).trans rfl; have hfz6_0 := blk_frozen BK149.out 0; have hfz6_1 := blk_frozen BK149.out 1) | ((with_reducible refine gate_callee (f := 46) rfl ?_); refine goesL_ (some 8) rfl rfl Try.func46 (by kernel_rfl) rfl #[.slice A0_0 l0_0.length c0_0, .int .i64 a1] rfl (by (try simp only [List.map_toArray, List.map_cons, List.map_nil]); first | done | rfl | (simp only [List.length_drop, List.length_take]; rfl)) ?_; (with_reducible refine (laws_heldIntSS.calls k _ _ l0_0 a1 t150 _ ?side1 ?side2 A3.out).mono ?_); (case side1 => repeat (first | exact (Kd.C_below HR0_0.out HB.out) | (with_reducible refine Kd.C_alloc ?_ _) | (with_reducible refine Kd.C_drewN ?_ _) | (with_reducible refine Kd.C_drew ?_))); (case side2 => exact HC0_0.out); rintro e w' ⟨rfl, ⟨nd, rfl⟩⟩; refine ⟨_, rfl, ?_⟩))
    go_ret
    exact ⟨by first | rfl | (simp [errW_none, errW_some] <;> rfl) | (simp [*, errW_none, errW_some] <;> rfl), by repeat (first | (with_reducible first | exact HB.out | apply below_alloc | apply pw_below_drewN | apply below_drew1 | refine below_set ?_ GE149.out) | exact HB.out)⟩
  · rw [if_neg c4] at H
    have c4b0 : decide (t150 < 0) = false := decide_eq_false c4
    clear c4
    replace H := Option.bind_eq_some_iff.mp H
    obtain ⟨t151, A70, H⟩ := H
    replace H : (if t151 < 0 then (some (-1)) else (some t151)) = some r := H
    have A7 := Aside0.mk A70
    clear A70
    by_cases c8 : t151 < 0
    · rw [if_pos c8] at H
      have c8b0 : decide (t151 < 0) = true := decide_eq_true c8
      clear c8
      obtain rfl := Option.some.inj H
      go_enter Try.func22, Try.ntmps22
      go_wp2_with (first | ((with_reducible refine gate_dst (N := 2) rfl ?_); refine box_event ?hg (N := 2) ?hd (cs := #[.slice A0_0 l0_0.length c0_0, .slice A0_1 l0_1.length c0_1]) (t := 28) ?hr ?_; (case hd => rfl); (case hg => rfl); (case hr => first | (go_simp; done) | (go_simp; rfl)); intro gb149 hg w9 hbox hb; have n0_ := Aside0.mk (below_step (XSq.bB HB) hb); have n1_ := Aside0.mk (hbox); have n2_ := Aside0.mk ((by rw [hg]; exact (below_size (XSq.bB HB)) : w.heap.size ≤ gb149)); have n3_ := Aside0.mk ((by rw [hg]; exact (below_size (XSq.bB HB)) : w.heap.size ≤ gb149)); clear HB; have HB := n0_; have BK149 := n1_; have GW149 := n2_; have GE149 := n3_; clear n0_ n1_ n2_ n3_; clear hb hbox hg; have hcz10_0 : w9.cell? ⟨gb149, 0, none⟩ = some (.slice A0_0 l0_0.length c0_0) := (blk_cell BK149.out 0).trans rfl; have hcz10_1 : w9.cell? ⟨gb149, 1, none⟩ = some (.slice A0_1 l0_1.length c0_1) := (blk_cell BK149.out 1).trans rfl; have hfz10_0 := blk_frozen BK149.out 0; have hfz10_1 := blk_frozen BK149.out 1) | ((with_reducible refine gate_callee (f := 46) rfl ?_); refine goesL_ (some 8) rfl rfl Try.func46 (by kernel_rfl) rfl #[.slice A0_0 l0_0.length c0_0, .int .i64 a1] rfl (by (try simp only [List.map_toArray, List.map_cons, List.map_nil]); first | done | rfl | (simp only [List.length_drop, List.length_take]; rfl)) ?_; (with_reducible refine (laws_heldIntSS.calls k _ _ l0_0 a1 t150 _ ?side1 ?side2 A3.out).mono ?_); (case side1 => repeat (first | exact (Kd.C_below HR0_0.out HB.out) | (with_reducible refine Kd.C_alloc ?_ _) | (with_reducible refine Kd.C_drewN ?_ _) | (with_reducible refine Kd.C_drew ?_))); (case side2 => exact HC0_0.out); rintro e w' ⟨rfl, ⟨nd, rfl⟩⟩; refine ⟨_, rfl, ?_⟩) | ((with_reducible refine gate_callee (f := 37) rfl ?_); refine goesL_ (some 14) rfl rfl Try.func37 (by kernel_rfl) rfl #[.slice A0_1 l0_1.length c0_1, .int .i64 t150] rfl (by (try simp only [List.map_toArray, List.map_cons, List.map_nil]); first | done | rfl | (simp only [List.length_drop, List.length_take]; rfl)) ?_; (with_reducible refine (laws_heldIntS.calls k _ _ l0_1 t150 t151 _ ?side1 ?side2 A7.out).mono ?_); (case side1 => repeat (first | exact (Kd.C_below HR0_1.out (XSq.bB HB)) | (with_reducible refine Kd.C_alloc ?_ _) | (with_reducible refine Kd.C_drewN ?_ _) | (with_reducible refine Kd.C_drew ?_))); (case side2 => exact HC0_1.out); rintro e w' ⟨rfl, ⟨nd, rfl⟩⟩; refine ⟨_, rfl, ?_⟩))
      go_ret
      exact ⟨by first | rfl | (simp [errW_none, errW_some] <;> rfl) | (simp [*, errW_none, errW_some] <;> rfl), by repeat (first | (with_reducible first | exact HB.out | apply below_alloc | apply pw_below_drewN | apply below_drew1 | refine below_set ?_ GE149.out) | exact HB.out)⟩
    · rw [if_neg c8] at H
      have c8b0 : decide (t151 < 0) = false := decide_eq_false c8
      clear c8
      obtain rfl := Option.some.inj H
      go_enter Try.func22, Try.ntmps22
      go_wp2_with (first | ((with_reducible refine gate_dst (N := 2) rfl ?_); refine box_event ?hg (N := 2) ?hd (cs := #[.slice A0_0 l0_0.length c0_0, .slice A0_1 l0_1.length c0_1]) (t := 28) ?hr ?_; (case hd => rfl); (case hg => rfl); (case hr => first | (go_simp; done) | (go_simp; rfl)); intro gb149 hg w11 hbox hb; have n0_ := Aside0.mk (below_step (XSq.bB HB) hb); have n1_ := Aside0.mk (hbox); have n2_ := Aside0.mk ((by rw [hg]; exact (below_size (XSq.bB HB)) : w.heap.size ≤ gb149)); have n3_ := Aside0.mk ((by rw [hg]; exact (below_size (XSq.bB HB)) : w.heap.size ≤ gb149)); clear HB; have HB := n0_; have BK149 := n1_; have GW149 := n2_; have GE149 := n3_; clear n0_ n1_ n2_ n3_; clear hb hbox hg; have hcz12_0 : w11.cell? ⟨gb149, 0, none⟩ = some (.slice A0_0 l0_0.length c0_0) := (blk_cell BK149.out 0).trans rfl; have hcz12_1 : w11.cell? ⟨gb149, 1, none⟩ = some (.slice A0_1 l0_1.length c0_1) := (blk_cell BK149.out 1).trans rfl; have hfz12_0 := blk_frozen BK149.out 0; have hfz12_1 := blk_frozen BK149.out 1) | ((with_reducible refine gate_callee (f := 46) rfl ?_); refine goesL_ (some 8) rfl rfl Try.func46 (by kernel_rfl) rfl #[.slice A0_0 l0_0.length c0_0, .int .i64 a1] rfl (by (try simp only [List.map_toArray, List.map_cons, List.map_nil]); first | done | rfl | (simp only [List.length_drop, List.length_take]; rfl)) ?_; (with_reducible refine (laws_heldIntSS.calls k _ _ l0_0 a1 t150 _ ?side1 ?side2 A3.out).mono ?_); (case side1 => repeat (first | exact (Kd.C_below HR0_0.out HB.out) | (with_reducible refine Kd.C_alloc ?_ _) | (with_reducible refine Kd.C_drewN ?_ _) | (with_reducible refine Kd.C_drew ?_))); (case side2 => exact HC0_0.out); rintro e w' ⟨rfl, ⟨nd, rfl⟩⟩; refine ⟨_, rfl, ?_⟩) | ((with_reducible refine gate_callee (f := 37) rfl ?_); refine goesL_ (some 14) rfl rfl Try.func37 (by kernel_rfl) rfl #[.slice A0_1 l0_1.length c0_1, .int .i64 t150] rfl (by (try simp only [List.map_toArray, List.map_cons, List.map_nil]); first | done | rfl | (simp only [List.length_drop, List.length_take]; rfl)) ?_; (with_reducible refine (laws_heldIntS.calls k _ _ l0_1 t150 t151 _ ?side1 ?side2 A7.out).mono ?_); (case side1 => repeat (first | exact (Kd.C_below HR0_1.out (XSq.bB HB)) | (with_reducible refine Kd.C_alloc ?_ _) | (with_reducible refine Kd.C_drewN ?_ _) | (with_reducible refine Kd.C_drew ?_))); (case side2 => exact HC0_1.out); rintro e w' ⟨rfl, ⟨nd, rfl⟩⟩; refine ⟨_, rfl, ?_⟩))
      go_ret
      exact ⟨by first | rfl | (simp [errW_none, errW_some] <;> rfl) | (simp [*, errW_none, errW_some] <;> rfl), by repeat (first | (with_reducible first | exact HB.out | apply below_alloc | apply pw_below_drewN | apply below_drew1 | refine below_set ?_ GE149.out) | exact HB.out)⟩

/-! ### laws_FnExactRingRoute: function 4, by hand -/
def laws_FnExactRingRoute.f (k : Nat) (a1 : Int) : Option Bool := (spec_RingRoute.f k a1).bind fun s => (impl_RingRoute.f k a1).bind fun g => (laws_eqRoute.f k g.1 g.2.1 s.1 s.2.1).bind fun e1 => (laws_markRoute.f k g.1 g.2.1 1).bind fun m2 => (laws_heldRoute.f k m2.2.1 m2.2.2 1).bind fun q => if e1 = true ∧ g.2.2 = s.2.2 ∧ 0 ≤ q ∧ q = m2.1 then some true else none
set_option maxHeartbeats 16000000 in
set_option maxRecDepth 100000 in
theorem laws_FnExactRingRoute.calls (k : Nat) (a1 : Int) (r : Bool) (w : World) (h : laws_FnExactRingRoute.f k a1 = some r) :
    Calls Try.prog 4 #[.int .i64 a1] w fun e w' => e = .returned (.bool r) ∧ Below w.heap.size w w' := by
  have huR := Try.underlying28
  have HB := Aside0.mk (Below.refl w.heap.size w)
  refine (fun (hT_ : True) => ?_) trivial
  · clear hT_
    have h_ := Option.bind_eq_some_iff.1 h
    clear h
    obtain ⟨⟨s1, s2, s3⟩, B2_, h⟩ := h_
    have B2 := Aside0.mk B2_
    clear B2_
    have h_ := Option.bind_eq_some_iff.1 h
    clear h
    obtain ⟨⟨g1, g2, g3⟩, B3_, h⟩ := h_
    have B3 := Aside0.mk B3_
    clear B3_
    have h_ := Option.bind_eq_some_iff.1 h
    clear h
    obtain ⟨e1, B4_, h⟩ := h_
    have B4 := Aside0.mk B4_
    clear B4_
    have h_ := Option.bind_eq_some_iff.1 h
    clear h
    obtain ⟨⟨m1, m2, m3⟩, B7_, h⟩ := h_
    have B7 := Aside0.mk B7_
    clear B7_
    have h_ := Option.bind_eq_some_iff.1 h
    clear h
    obtain ⟨q, B8_, h⟩ := h_
    have B8 := Aside0.mk B8_
    clear B8_
    by_cases hc : e1 = true ∧ g3 = s3 ∧ 0 ≤ q ∧ q = m1
    · replace h := (if_pos hc).symm.trans h
      obtain rfl := Option.some.inj h
      obtain ⟨rfl, rfl, hq0, rfl⟩ := hc
      have hq0b : decide (q < 0) = false := decide_eq_false (by omega)
      have hqqb : (q != q) = false := by simp
      clear hq0 h
      have hbb0 : (g3 != g3) = false := by simp
      have tok1 := trivial
      have tok2 := trivial
      have tok3 := trivial
      have tok4 := trivial
      go_enter Try.func4, Try.ntmps4
      have tok5 := trivial
      have tok6 := trivial
      have tok7 := trivial
      have tok8 := trivial
      have tok9 := trivial
      have tok10 := trivial
      go_wp2_with (first | (go_at_call 19; (with_reducible refine (spec_RingRoute.calls k a1 s1 s2 g3 _  B2.out).mono ?_); rintro e w1_ ⟨v1_, v2_, rfl, hs, hr, hb⟩; obtain ⟨AS1, cS1, rfl⟩ := Kd.S_slice hs; obtain ⟨AS2, cS2, rfl⟩ := Kd.R_slice hr; have S := Aside0.mk (XRoute.Rt.made (n := w.heap.size) hs hr (below_size (HB.out))); clear hs hr; have hq : Below w.heap.size w w1_ := below_step (Below.refl _ _) hb; replace HB := Aside0.mk (below_step HB.out hq); clear hq hb) | (have tk := tok3; go_at_call 20; (with_reducible refine (impl_RingRoute.calls k a1 g1 g2 g3 _  B3.out).mono ?_); rintro e w3_ ⟨v1_, v2_, rfl, hs, hr, hb⟩; obtain ⟨AG1, cG1, rfl⟩ := Kd.S_slice hs; obtain ⟨AG2, cG2, rfl⟩ := Kd.R_slice hr; have G := Aside0.mk (XRoute.Rt.made (n := w.heap.size) hs hr (below_size (below_alloc (HB.out) _))); clear hs hr; have LSG := Aside0.mk (XRoute.sepR S.out.le (below_alloc (Below.refl _ _) _) hb); have LKSG := Aside0.mk (XRoute.sepN hb); have LG := Aside0.mk hb.size; have hq : Below w1_.heap.size w1_ w3_ := below_step (below_alloc (Below.refl _ _) _) hb; replace S := Aside0.mk (XRoute.Rt.below S.out hq); have KS := Aside0.mk (show w3_.heap[w1_.heap.size]? = some (.cells #[(.slice AS1 s1.length cS1), (.slice AS2 s2.length cS2)] 28 (0, 0)) from blk_below (blk_new _ _) hb); replace HB := Aside0.mk (below_step HB.out hq); clear hq hb; have hcz5_ : w3_.cell? ⟨w1_.heap.size, 0, none⟩ = some ((.slice AS1 s1.length cS1)) := (blk_cell KS.out 0).trans rfl; have hcz6_ : ∀ o_, (w3_.alloc o_).cell? ⟨w1_.heap.size, 0, none⟩ = some ((.slice AS1 s1.length cS1)) := fun o_ => (blk_cell (blk_alloc KS.out o_) 0).trans rfl; have hcz7_ : w3_.cell? ⟨w1_.heap.size, 1, none⟩ = some ((.slice AS2 s2.length cS2)) := (blk_cell KS.out 1).trans rfl; have hcz8_ : ∀ o_, (w3_.alloc o_).cell? ⟨w1_.heap.size, 1, none⟩ = some ((.slice AS2 s2.length cS2)) := fun o_ => (blk_cell (blk_alloc KS.out o_) 1).trans rfl; clear tk tok3) | (have tk := tok4; go_at_call 18; (with_reducible refine (laws_eqRoute.calls k _ _ g1 _ _ g2 _ _ s1 _ _ s2 true _ ?s10_0 ?s10_1 ?s10_2 ?s10_3 ?s10_4 ?s10_5 ?s10_6 ?s10_7 B4.out).mono ?_); (case s10_0 => repeat (first | exact (Kd.S_reads' G.out.s).2.2 | (with_reducible refine Kd.C_alloc ?_ _) | (with_reducible refine Kd.C_drewN ?_ _) | (with_reducible refine Kd.C_drew ?_))); (case s10_1 => exact (Kd.S_reads' G.out.s).2.1); (case s10_2 => repeat (first | exact (Kd.R_reads' G.out.r).2.2 | (with_reducible refine Kd.C_alloc ?_ _) | (with_reducible refine Kd.C_drewN ?_ _) | (with_reducible refine Kd.C_drew ?_))); (case s10_3 => exact (Kd.R_reads' G.out.r).2.1); (case s10_4 => repeat (first | exact (Kd.S_reads' S.out.s).2.2 | (with_reducible refine Kd.C_alloc ?_ _) | (with_reducible refine Kd.C_drewN ?_ _) | (with_reducible refine Kd.C_drew ?_))); (case s10_5 => exact (Kd.S_reads' S.out.s).2.1); (case s10_6 => repeat (first | exact (Kd.R_reads' S.out.r).2.2 | (with_reducible refine Kd.C_alloc ?_ _) | (with_reducible refine Kd.C_drewN ?_ _) | (with_reducible refine Kd.C_drew ?_))); (case s10_7 => exact (Kd.R_reads' S.out.r).2.1); rintro e w9_ ⟨rfl, hb⟩; have hq : Below w3_.heap.size w3_ w9_ := below_step (below_alloc (Below.refl _ _) _) hb; replace S := Aside0.mk (XRoute.Rt.below S.out hq); replace G := Aside0.mk (XRoute.Rt.below G.out hq); replace KS := Aside0.mk (show w9_.heap[w1_.heap.size]? = some (.cells #[(.slice AS1 s1.length cS1), (.slice AS2 s2.length cS2)] 28 (0, 0)) from blk_below KS.out hq); have KG := Aside0.mk (show w9_.heap[w3_.heap.size]? = some (.cells #[(.slice AG1 g1.length cG1), (.slice AG2 g2.length cG2)] 28 (0, 0)) from blk_below (blk_new _ _) hb); replace HB := Aside0.mk (below_step HB.out hq); clear hq hb; clear hcz5_ hcz6_ hcz7_ hcz8_; have hcz11_ : w9_.cell? ⟨w1_.heap.size, 0, none⟩ = some ((.slice AS1 s1.length cS1)) := (blk_cell KS.out 0).trans rfl; have hcz12_ : ∀ o_, (w9_.alloc o_).cell? ⟨w1_.heap.size, 0, none⟩ = some ((.slice AS1 s1.length cS1)) := fun o_ => (blk_cell (blk_alloc KS.out o_) 0).trans rfl; have hcz13_ : w9_.cell? ⟨w1_.heap.size, 1, none⟩ = some ((.slice AS2 s2.length cS2)) := (blk_cell KS.out 1).trans rfl; have hcz14_ : ∀ o_, (w9_.alloc o_).cell? ⟨w1_.heap.size, 1, none⟩ = some ((.slice AS2 s2.length cS2)) := fun o_ => (blk_cell (blk_alloc KS.out o_) 1).trans rfl; have hcz15_ : w9_.cell? ⟨w3_.heap.size, 0, none⟩ = some ((.slice AG1 g1.length cG1)) := (blk_cell KG.out 0).trans rfl; have hcz16_ : ∀ o_, (w9_.alloc o_).cell? ⟨w3_.heap.size, 0, none⟩ = some ((.slice AG1 g1.length cG1)) := fun o_ => (blk_cell (blk_alloc KG.out o_) 0).trans rfl; have hcz17_ : w9_.cell? ⟨w3_.heap.size, 1, none⟩ = some ((.slice AG2 g2.length cG2)) := (blk_cell KG.out 1).trans rfl; have hcz18_ : ∀ o_, (w9_.alloc o_).cell? ⟨w3_.heap.size, 1, none⟩ = some ((.slice AG2 g2.length cG2)) := fun o_ => (blk_cell (blk_alloc KG.out o_) 1).trans rfl; clear tk tok4) | (have tk := tok7; go_at_call 21; (with_reducible refine (laws_markRoute.calls k _ _ _ _ g1 g2 1 q m2 m3 w _ HB.out G.out.s G.out.r (fun _ h1_ h2_ => absurd h2_.2 h1_.2) B7.out).mono ?_); rintro e w19_ ⟨rfl, hs, hr, hb, hkp⟩; replace S := Aside0.mk (XRoute.Rt.kept S.out hkp (fun k_ h1_ h2_ h3_ => by have h4_ := h3_.elim (fun z => z.1) (fun z => z.1); have := LSG.out; have := LKSG.out; have := LG.out; omega)); replace KS := Aside0.mk (show w19_.heap[w1_.heap.size]? = some (.cells #[(.slice AS1 s1.length cS1), (.slice AS2 s2.length cS2)] 28 (0, 0)) from blk_kept KS.out hkp (fun h3_ => by have h4_ := h3_.elim (fun z => z.1) (fun z => z.1); have := LSG.out; have := LKSG.out; have := LG.out; omega)); replace KG := Aside0.mk (show w19_.heap[w3_.heap.size]? = some (.cells #[(.slice AG1 g1.length cG1), (.slice AG2 g2.length cG2)] 28 (0, 0)) from blk_kept KG.out hkp (fun h3_ => by have h4_ := h3_.elim (fun z => z.1) (fun z => z.1); have := LSG.out; have := LKSG.out; have := LG.out; omega)); replace G := Aside0.mk (show XRoute.Rt 3 23 w19_ w.heap.size _ _ _ _ m2 m3 from ⟨hs, hr, Nat.le_trans G.out.le hkp.1⟩); replace HB := Aside0.mk hb; clear hb hkp hs hr; clear hcz11_ hcz12_ hcz13_ hcz14_ hcz15_ hcz16_ hcz17_ hcz18_; have hcz20_ : w19_.cell? ⟨w1_.heap.size, 0, none⟩ = some ((.slice AS1 s1.length cS1)) := (blk_cell KS.out 0).trans rfl; have hcz21_ : ∀ o_, (w19_.alloc o_).cell? ⟨w1_.heap.size, 0, none⟩ = some ((.slice AS1 s1.length cS1)) := fun o_ => (blk_cell (blk_alloc KS.out o_) 0).trans rfl; have hcz22_ : w19_.cell? ⟨w1_.heap.size, 1, none⟩ = some ((.slice AS2 s2.length cS2)) := (blk_cell KS.out 1).trans rfl; have hcz23_ : ∀ o_, (w19_.alloc o_).cell? ⟨w1_.heap.size, 1, none⟩ = some ((.slice AS2 s2.length cS2)) := fun o_ => (blk_cell (blk_alloc KS.out o_) 1).trans rfl; have hcz24_ : w19_.cell? ⟨w3_.heap.size, 0, none⟩ = some ((.slice AG1 g1.length cG1)) := (blk_cell KG.out 0).trans rfl; have hcz25_ : ∀ o_, (w19_.alloc o_).cell? ⟨w3_.heap.size, 0, none⟩ = some ((.slice AG1 g1.length cG1)) := fun o_ => (blk_cell (blk_alloc KG.out o_) 0).trans rfl; have hcz26_ : w19_.cell? ⟨w3_.heap.size, 1, none⟩ = some ((.slice AG2 g2.length cG2)) := (blk_cell KG.out 1).trans rfl; have hcz27_ : ∀ o_, (w19_.alloc o_).cell? ⟨w3_.heap.size, 1, none⟩ = some ((.slice AG2 g2.length cG2)) := fun o_ => (blk_cell (blk_alloc KG.out o_) 1).trans rfl; clear tk tok7) | (have tk := tok8; go_at_call 22; refine calls_of_args (args' := #[.agg #[.slice AG1 m2.length cG1, .slice AG2 m3.length cG2], .int .i64 1]) (by rw [show g1.length = m2.length from (Kd.S_reads' G.out.s).1, show g2.length = m3.length from (Kd.R_reads' G.out.r).1]) ?_; (with_reducible refine (laws_heldRoute.calls k _ _ m2 _ _ m3 1 q _ ?s29_0 ?s29_1 ?s29_2 ?s29_3 B8.out).mono ?_); (case s29_0 => repeat (first | exact (Kd.S_reads' G.out.s).2.2 | (with_reducible refine Kd.C_alloc ?_ _) | (with_reducible refine Kd.C_drewN ?_ _) | (with_reducible refine Kd.C_drew ?_))); (case s29_1 => have e_ := (Kd.S_reads' G.out.s); have := e_.1; have := e_.2.1; omega); (case s29_2 => repeat (first | exact (Kd.R_reads' G.out.r).2.2 | (with_reducible refine Kd.C_alloc ?_ _) | (with_reducible refine Kd.C_drewN ?_ _) | (with_reducible refine Kd.C_drew ?_))); (case s29_3 => have e_ := (Kd.R_reads' G.out.r); have := e_.1; have := e_.2.1; omega); rintro e w28_ ⟨rfl, hb⟩; have hq : Below w19_.heap.size w19_ w28_ := below_step (Below.refl _ _) hb; replace S := Aside0.mk (XRoute.Rt.below S.out hq); replace G := Aside0.mk (XRoute.Rt.below G.out hq); replace KS := Aside0.mk (show w28_.heap[w1_.heap.size]? = some (.cells #[(.slice AS1 s1.length cS1), (.slice AS2 s2.length cS2)] 28 (0, 0)) from blk_below KS.out hq); replace KG := Aside0.mk (show w28_.heap[w3_.heap.size]? = some (.cells #[(.slice AG1 g1.length cG1), (.slice AG2 g2.length cG2)] 28 (0, 0)) from blk_below KG.out hq); replace HB := Aside0.mk (below_step HB.out hq); clear hq hb; clear hcz20_ hcz21_ hcz22_ hcz23_ hcz24_ hcz25_ hcz26_ hcz27_; have hcz30_ : w28_.cell? ⟨w1_.heap.size, 0, none⟩ = some ((.slice AS1 s1.length cS1)) := (blk_cell KS.out 0).trans rfl; have hcz31_ : ∀ o_, (w28_.alloc o_).cell? ⟨w1_.heap.size, 0, none⟩ = some ((.slice AS1 s1.length cS1)) := fun o_ => (blk_cell (blk_alloc KS.out o_) 0).trans rfl; have hcz32_ : w28_.cell? ⟨w1_.heap.size, 1, none⟩ = some ((.slice AS2 s2.length cS2)) := (blk_cell KS.out 1).trans rfl; have hcz33_ : ∀ o_, (w28_.alloc o_).cell? ⟨w1_.heap.size, 1, none⟩ = some ((.slice AS2 s2.length cS2)) := fun o_ => (blk_cell (blk_alloc KS.out o_) 1).trans rfl; have hcz34_ : w28_.cell? ⟨w3_.heap.size, 0, none⟩ = some ((.slice AG1 g1.length cG1)) := (blk_cell KG.out 0).trans rfl; have hcz35_ : ∀ o_, (w28_.alloc o_).cell? ⟨w3_.heap.size, 0, none⟩ = some ((.slice AG1 g1.length cG1)) := fun o_ => (blk_cell (blk_alloc KG.out o_) 0).trans rfl; have hcz36_ : w28_.cell? ⟨w3_.heap.size, 1, none⟩ = some ((.slice AG2 g2.length cG2)) := (blk_cell KG.out 1).trans rfl; have hcz37_ : ∀ o_, (w28_.alloc o_).cell? ⟨w3_.heap.size, 1, none⟩ = some ((.slice AG2 g2.length cG2)) := fun o_ => (blk_cell (blk_alloc KG.out o_) 1).trans rfl; clear tk tok8) | (go_at_call 20; (with_reducible refine (impl_RingRoute.calls k a1 g1 g2 g3 _  B3.out).mono ?_); rintro e w38_ ⟨v1_, v2_, rfl, hs, hr, hb⟩; obtain ⟨AH1, cH1, rfl⟩ := Kd.S_slice hs; obtain ⟨AH2, cH2, rfl⟩ := Kd.R_slice hr; have H := Aside0.mk (XRoute.Rt.made (n := w.heap.size) hs hr (below_size (HB.out))); clear hs hr; have hq : Below w28_.heap.size w28_ w38_ := below_step (Below.refl _ _) hb; replace S := Aside0.mk (XRoute.Rt.below S.out hq); replace G := Aside0.mk (XRoute.Rt.below G.out hq); replace KS := Aside0.mk (show w38_.heap[w1_.heap.size]? = some (.cells #[(.slice AS1 s1.length cS1), (.slice AS2 s2.length cS2)] 28 (0, 0)) from blk_below KS.out hq); replace KG := Aside0.mk (show w38_.heap[w3_.heap.size]? = some (.cells #[(.slice AG1 g1.length cG1), (.slice AG2 g2.length cG2)] 28 (0, 0)) from blk_below KG.out hq); replace HB := Aside0.mk (below_step HB.out hq); clear hq hb; clear hcz30_ hcz31_ hcz32_ hcz33_ hcz34_ hcz35_ hcz36_ hcz37_; have hcz40_ : w38_.cell? ⟨w1_.heap.size, 0, none⟩ = some ((.slice AS1 s1.length cS1)) := (blk_cell KS.out 0).trans rfl; have hcz41_ : ∀ o_, (w38_.alloc o_).cell? ⟨w1_.heap.size, 0, none⟩ = some ((.slice AS1 s1.length cS1)) := fun o_ => (blk_cell (blk_alloc KS.out o_) 0).trans rfl; have hcz42_ : w38_.cell? ⟨w1_.heap.size, 1, none⟩ = some ((.slice AS2 s2.length cS2)) := (blk_cell KS.out 1).trans rfl; have hcz43_ : ∀ o_, (w38_.alloc o_).cell? ⟨w1_.heap.size, 1, none⟩ = some ((.slice AS2 s2.length cS2)) := fun o_ => (blk_cell (blk_alloc KS.out o_) 1).trans rfl; have hcz44_ : w38_.cell? ⟨w3_.heap.size, 0, none⟩ = some ((.slice AG1 g1.length cG1)) := (blk_cell KG.out 0).trans rfl; have hcz45_ : ∀ o_, (w38_.alloc o_).cell? ⟨w3_.heap.size, 0, none⟩ = some ((.slice AG1 g1.length cG1)) := fun o_ => (blk_cell (blk_alloc KG.out o_) 0).trans rfl; have hcz46_ : w38_.cell? ⟨w3_.heap.size, 1, none⟩ = some ((.slice AG2 g2.length cG2)) := (blk_cell KG.out 1).trans rfl; have hcz47_ : ∀ o_, (w38_.alloc o_).cell? ⟨w3_.heap.size, 1, none⟩ = some ((.slice AG2 g2.length cG2)) := fun o_ => (blk_cell (blk_alloc KG.out o_) 1).trans rfl) | (have tk := tok9; go_at_call 18; (with_reducible refine (laws_eqRoute.calls k _ _ g1 _ _ g2 _ _ s1 _ _ s2 true _ ?s49_0 ?s49_1 ?s49_2 ?s49_3 ?s49_4 ?s49_5 ?s49_6 ?s49_7 B4.out).mono ?_); (case s49_0 => repeat (first | exact (Kd.S_reads' H.out.s).2.2 | (with_reducible refine Kd.C_alloc ?_ _) | (with_reducible refine Kd.C_drewN ?_ _) | (with_reducible refine Kd.C_drew ?_))); (case s49_1 => exact (Kd.S_reads' H.out.s).2.1); (case s49_2 => repeat (first | exact (Kd.R_reads' H.out.r).2.2 | (with_reducible refine Kd.C_alloc ?_ _) | (with_reducible refine Kd.C_drewN ?_ _) | (with_reducible refine Kd.C_drew ?_))); (case s49_3 => exact (Kd.R_reads' H.out.r).2.1); (case s49_4 => repeat (first | exact (Kd.S_reads' S.out.s).2.2 | (with_reducible refine Kd.C_alloc ?_ _) | (with_reducible refine Kd.C_drewN ?_ _) | (with_reducible refine Kd.C_drew ?_))); (case s49_5 => exact (Kd.S_reads' S.out.s).2.1); (case s49_6 => repeat (first | exact (Kd.R_reads' S.out.r).2.2 | (with_reducible refine Kd.C_alloc ?_ _) | (with_reducible refine Kd.C_drewN ?_ _) | (with_reducible refine Kd.C_drew ?_))); (case s49_7 => exact (Kd.R_reads' S.out.r).2.1); rintro e w48_ ⟨rfl, hb⟩; have hq : Below w38_.heap.size w38_ w48_ := below_step (below_alloc (Below.refl _ _) _) hb; replace S := Aside0.mk (XRoute.Rt.below S.out hq); replace G := Aside0.mk (XRoute.Rt.below G.out hq); replace H := Aside0.mk (XRoute.Rt.below H.out hq); replace KS := Aside0.mk (show w48_.heap[w1_.heap.size]? = some (.cells #[(.slice AS1 s1.length cS1), (.slice AS2 s2.length cS2)] 28 (0, 0)) from blk_below KS.out hq); replace KG := Aside0.mk (show w48_.heap[w3_.heap.size]? = some (.cells #[(.slice AG1 g1.length cG1), (.slice AG2 g2.length cG2)] 28 (0, 0)) from blk_below KG.out hq); have KH := Aside0.mk (show w48_.heap[w38_.heap.size]? = some (.cells #[(.slice AH1 g1.length cH1), (.slice AH2 g2.length cH2)] 28 (0, 0)) from blk_below (blk_new _ _) hb); replace HB := Aside0.mk (below_step HB.out hq); clear hq hb; clear hcz40_ hcz41_ hcz42_ hcz43_ hcz44_ hcz45_ hcz46_ hcz47_; have hcz50_ : w48_.cell? ⟨w1_.heap.size, 0, none⟩ = some ((.slice AS1 s1.length cS1)) := (blk_cell KS.out 0).trans rfl; have hcz51_ : ∀ o_, (w48_.alloc o_).cell? ⟨w1_.heap.size, 0, none⟩ = some ((.slice AS1 s1.length cS1)) := fun o_ => (blk_cell (blk_alloc KS.out o_) 0).trans rfl; have hcz52_ : w48_.cell? ⟨w1_.heap.size, 1, none⟩ = some ((.slice AS2 s2.length cS2)) := (blk_cell KS.out 1).trans rfl; have hcz53_ : ∀ o_, (w48_.alloc o_).cell? ⟨w1_.heap.size, 1, none⟩ = some ((.slice AS2 s2.length cS2)) := fun o_ => (blk_cell (blk_alloc KS.out o_) 1).trans rfl; have hcz54_ : w48_.cell? ⟨w3_.heap.size, 0, none⟩ = some ((.slice AG1 g1.length cG1)) := (blk_cell KG.out 0).trans rfl; have hcz55_ : ∀ o_, (w48_.alloc o_).cell? ⟨w3_.heap.size, 0, none⟩ = some ((.slice AG1 g1.length cG1)) := fun o_ => (blk_cell (blk_alloc KG.out o_) 0).trans rfl; have hcz56_ : w48_.cell? ⟨w3_.heap.size, 1, none⟩ = some ((.slice AG2 g2.length cG2)) := (blk_cell KG.out 1).trans rfl; have hcz57_ : ∀ o_, (w48_.alloc o_).cell? ⟨w3_.heap.size, 1, none⟩ = some ((.slice AG2 g2.length cG2)) := fun o_ => (blk_cell (blk_alloc KG.out o_) 1).trans rfl; have hcz58_ : w48_.cell? ⟨w38_.heap.size, 0, none⟩ = some ((.slice AH1 g1.length cH1)) := (blk_cell KH.out 0).trans rfl; have hcz59_ : ∀ o_, (w48_.alloc o_).cell? ⟨w38_.heap.size, 0, none⟩ = some ((.slice AH1 g1.length cH1)) := fun o_ => (blk_cell (blk_alloc KH.out o_) 0).trans rfl; have hcz60_ : w48_.cell? ⟨w38_.heap.size, 1, none⟩ = some ((.slice AH2 g2.length cH2)) := (blk_cell KH.out 1).trans rfl; have hcz61_ : ∀ o_, (w48_.alloc o_).cell? ⟨w38_.heap.size, 1, none⟩ = some ((.slice AH2 g2.length cH2)) := fun o_ => (blk_cell (blk_alloc KH.out o_) 1).trans rfl; clear tk tok9) | (have tk := tok10; go_at_call 22; refine calls_of_args (args' := #[.agg #[.slice AG1 m2.length cG1, .slice AG2 m3.length cG2], .int .i64 1]) (by rw [show g1.length = m2.length from (Kd.S_reads' G.out.s).1, show g2.length = m3.length from (Kd.R_reads' G.out.r).1]) ?_; (with_reducible refine (laws_heldRoute.calls k _ _ m2 _ _ m3 1 q _ ?s63_0 ?s63_1 ?s63_2 ?s63_3 B8.out).mono ?_); (case s63_0 => repeat (first | exact (Kd.S_reads' G.out.s).2.2 | (with_reducible refine Kd.C_alloc ?_ _) | (with_reducible refine Kd.C_drewN ?_ _) | (with_reducible refine Kd.C_drew ?_))); (case s63_1 => have e_ := (Kd.S_reads' G.out.s); have := e_.1; have := e_.2.1; omega); (case s63_2 => repeat (first | exact (Kd.R_reads' G.out.r).2.2 | (with_reducible refine Kd.C_alloc ?_ _) | (with_reducible refine Kd.C_drewN ?_ _) | (with_reducible refine Kd.C_drew ?_))); (case s63_3 => have e_ := (Kd.R_reads' G.out.r); have := e_.1; have := e_.2.1; omega); rintro e w62_ ⟨rfl, hb⟩; have hq : Below w48_.heap.size w48_ w62_ := below_step (Below.refl _ _) hb; replace S := Aside0.mk (XRoute.Rt.below S.out hq); replace G := Aside0.mk (XRoute.Rt.below G.out hq); replace H := Aside0.mk (XRoute.Rt.below H.out hq); replace KS := Aside0.mk (show w62_.heap[w1_.heap.size]? = some (.cells #[(.slice AS1 s1.length cS1), (.slice AS2 s2.length cS2)] 28 (0, 0)) from blk_below KS.out hq); replace KG := Aside0.mk (show w62_.heap[w3_.heap.size]? = some (.cells #[(.slice AG1 g1.length cG1), (.slice AG2 g2.length cG2)] 28 (0, 0)) from blk_below KG.out hq); replace KH := Aside0.mk (show w62_.heap[w38_.heap.size]? = some (.cells #[(.slice AH1 g1.length cH1), (.slice AH2 g2.length cH2)] 28 (0, 0)) from blk_below KH.out hq); replace HB := Aside0.mk (below_step HB.out hq); clear hq hb; clear hcz50_ hcz51_ hcz52_ hcz53_ hcz54_ hcz55_ hcz56_ hcz57_ hcz58_ hcz59_ hcz60_ hcz61_; have hcz64_ : w62_.cell? ⟨w1_.heap.size, 0, none⟩ = some ((.slice AS1 s1.length cS1)) := (blk_cell KS.out 0).trans rfl; have hcz65_ : ∀ o_, (w62_.alloc o_).cell? ⟨w1_.heap.size, 0, none⟩ = some ((.slice AS1 s1.length cS1)) := fun o_ => (blk_cell (blk_alloc KS.out o_) 0).trans rfl; have hcz66_ : w62_.cell? ⟨w1_.heap.size, 1, none⟩ = some ((.slice AS2 s2.length cS2)) := (blk_cell KS.out 1).trans rfl; have hcz67_ : ∀ o_, (w62_.alloc o_).cell? ⟨w1_.heap.size, 1, none⟩ = some ((.slice AS2 s2.length cS2)) := fun o_ => (blk_cell (blk_alloc KS.out o_) 1).trans rfl; have hcz68_ : w62_.cell? ⟨w3_.heap.size, 0, none⟩ = some ((.slice AG1 g1.length cG1)) := (blk_cell KG.out 0).trans rfl; have hcz69_ : ∀ o_, (w62_.alloc o_).cell? ⟨w3_.heap.size, 0, none⟩ = some ((.slice AG1 g1.length cG1)) := fun o_ => (blk_cell (blk_alloc KG.out o_) 0).trans rfl; have hcz70_ : w62_.cell? ⟨w3_.heap.size, 1, none⟩ = some ((.slice AG2 g2.length cG2)) := (blk_cell KG.out 1).trans rfl; have hcz71_ : ∀ o_, (w62_.alloc o_).cell? ⟨w3_.heap.size, 1, none⟩ = some ((.slice AG2 g2.length cG2)) := fun o_ => (blk_cell (blk_alloc KG.out o_) 1).trans rfl; have hcz72_ : w62_.cell? ⟨w38_.heap.size, 0, none⟩ = some ((.slice AH1 g1.length cH1)) := (blk_cell KH.out 0).trans rfl; have hcz73_ : ∀ o_, (w62_.alloc o_).cell? ⟨w38_.heap.size, 0, none⟩ = some ((.slice AH1 g1.length cH1)) := fun o_ => (blk_cell (blk_alloc KH.out o_) 0).trans rfl; have hcz74_ : w62_.cell? ⟨w38_.heap.size, 1, none⟩ = some ((.slice AH2 g2.length cH2)) := (blk_cell KH.out 1).trans rfl; have hcz75_ : ∀ o_, (w62_.alloc o_).cell? ⟨w38_.heap.size, 1, none⟩ = some ((.slice AH2 g2.length cH2)) := fun o_ => (blk_cell (blk_alloc KH.out o_) 1).trans rfl; clear tk tok10))
      go_ret
      exact ⟨by first | rfl | (simp; done), HB.out⟩
    · exact absurd ((if_neg hc).symm.trans h) (by simp)

end Go.Proofs.Ytecoeknjnhffbaa.PFnExactRingRoute
