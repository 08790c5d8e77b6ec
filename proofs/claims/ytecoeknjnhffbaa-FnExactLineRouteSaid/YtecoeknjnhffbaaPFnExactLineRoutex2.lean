-- Made by wip/tools/xkit.py (a program of this session's) with the kit's printer.
import Derived.Test.YtecoeknjnhffbaaPFnExactLineRoutex0
import Derived.Test.YtecoeknjnhffbaaPFnExactLineRoutex1
namespace Go.Proofs.Ytecoeknjnhffbaa.PFnExactLineRoute
open Go.RowKit Go.Proofs.YtecoeknjnhffbaaW.PrintWords Go.Proofs.YtecoeknjnhffbaaW.PrintLast Go.Proofs.YtecoeknjnhffbaaW.PrintMore
attribute [local go_sem] max2_int min2_int max_two min_two max_three min_three max_four min_four   -- for this text's walks alone
set_option linter.unusedVariables false
set_option linter.unusedSimpArgs false

/-! ### laws_heldRoute: function 22 -/
def laws_heldRoute.f (k : Nat) (l0_0 : List (List Int)) (l0_1 : List Int) (a1 : Int) : Option (Int) := (laws_heldIntSS.f k l0_0 a1).bind fun t115 => (if t115 < 0 then (some (-1)) else ((laws_heldIntS.f k l0_1 t115).bind fun t116 => (if t116 < 0 then (some (-1)) else (some t116))))
theorem laws_heldRoute.mono : ∀ a0 a1 a2 k, LeO (laws_heldRoute.f k a0 a1 a2) (laws_heldRoute.f (k + 1) a0 a1 a2) := by
  intro a0 a1 a2 k
  unfold laws_heldRoute.f
  repeat' first
      | (with_reducible exact laws_heldIntS.mono _ _ _)
      | (with_reducible exact laws_heldIntSS.mono _ _ _)
      | (with_reducible exact LeO.refl _)
      | (with_reducible exact LeO.none _)
      | (with_reducible refine LeO.ite ?_ ?_)
      | (with_reducible refine LeO.bind ?_ (fun _ => ?_))
      | exact laws_heldIntS.mono _ _ _
      | exact laws_heldIntSS.mono _ _ _
      | exact LeO.none _
      | refine LeO.ite ?_ ?_
      | refine LeO.bind ?_ (fun _ => ?_)
set_option maxHeartbeats 8000000 in
set_option maxRecDepth 100000 in
theorem laws_heldRoute.calls (k : Nat) (A0_0 : Option Addr) (c0_0 : Nat) (l0_0 : List (List Int)) (A0_1 : Option Addr) (c0_1 : Nat) (l0_1 : List Int) (a1 : Int) (r : Int) (w : World) (hr0_0 : Kd.C (Kd.slice 3 (Kd.int .i64)) w A0_0 l0_0.length l0_0) (hc0_0 : l0_0.length ≤ c0_0) (hr0_1 : Kd.C (Kd.int .i64) w A0_1 l0_1.length l0_1) (hc0_1 : l0_1.length ≤ c0_1) (h : laws_heldRoute.f k l0_0 l0_1 a1 = some r) :
    Calls Try.prog 22 #[.agg #[.slice A0_0 l0_0.length c0_0, .slice A0_1 l0_1.length c0_1], .int .i64 a1] w fun e w' => e = .returned (.int .i64 r) ∧ Below w.heap.size w w' := by
  have hu28 := Try.underlying28
  have HR0_0 := Aside0.mk hr0_0
  have HC0_0 := Aside0.mk hc0_0
  clear hr0_0 hc0_0
  have HR0_1 := Aside0.mk hr0_1
  have HC0_1 := Aside0.mk hc0_1
  clear hr0_1 hc0_1
  have HB := Aside0.mk (Below.refl w.heap.size w)
  have H : ((laws_heldIntSS.f k l0_0 a1).bind fun t115 => (if t115 < 0 then (some (-1)) else ((laws_heldIntS.f k l0_1 t115).bind fun t116 => (if t116 < 0 then (some (-1)) else (some t116))))) = some r := h
  clear h
  replace H := Option.bind_eq_some_iff.mp H
  obtain ⟨t115, A30, H⟩ := H
  replace H : (if t115 < 0 then (some (-1)) else ((laws_heldIntS.f k l0_1 t115).bind fun t116 => (if t116 < 0 then (some (-1)) else (some t116)))) = some r := H
  have A3 := Aside0.mk A30
  clear A30
  by_cases c4 : t115 < 0
  · rw [if_pos c4] at H
    have c4b0 : decide (t115 < 0) = true := decide_eq_true c4
    clear c4
    obtain rfl := Option.some.inj H
    go_enter Try.func22, Try.ntmps22
    go_wp2_with (first | ((with_reducible refine gate_dst (N := 2) rfl ?_); refine box_event ?hg (N := 2) ?hd (cs := #[.slice A0_0 l0_0.length c0_0, .slice A0_1 l0_1.length c0_1]) (t := 28) ?hr ?_; (case hd => rfl); (case hg => rfl); (case hr => first | (go_simp; done) | (go_simp; rfl)); intro gb114 hg w5 hbox hb; have n0_ := Aside0.mk (below_step (XSq.bB HB) hb); have n1_ := Aside0.mk (hbox); have n2_ := Aside0.mk ((by rw [hg]; exact (below_size (XSq.bB HB)) : w.heap.size ≤ gb114)); have n3_ := Aside0.mk ((by rw [hg]; exact (below_size (XSq.bB HB)) : w.heap.size ≤ gb114)); clear HB; have HB := n0_; have BK114 := n1_; have GW114 := n2_; have GE114 := n3_; clear n0_ n1_ n2_ n3_; clear hb hbox hg; have hcz6_0 : w5.cell? ⟨gb114, 0, none⟩ = some (.slice A0_0 l0_0.length c0_0) := (blk_cell BK114.out 0).trans rfl; have hcz6_1 : w5.cell? ⟨gb114, 1, none⟩ = some (.slice A0_1 l0_1.length c0_1) := (blk_cell BK114.out 1).trans rfl; have hfz6_0 := blk_frozen BK114.out 0; have hfz6_1 := blk_frozen BK114.out 1) | ((with_reducible refine gate_callee (f := 46) rfl ?_); refine goesL_ (some 8) rfl rfl Try.func46 (by kernel_rfl) rfl #[.slice A0_0 l0_0.length c0_0, .int .i64 a1] rfl (by (try simp only [List.map_toArray, List.map_cons, List.map_nil]); first | done | rfl | (simp only [List.length_drop, List.length_take]; rfl)) ?_; (with_reducible refine (laws_heldIntSS.calls k _ _ l0_0 a1 t115 _ ?side1 ?side2 A3.out).mono ?_); (case side1 => repeat (first | exact (Kd.C_below HR0_0.out HB.out) | (with_reducible refine Kd.C_alloc ?_ _) | (with_reducible refine Kd.C_drewN ?_ _) | (with_reducible refine Kd.C_drew ?_))); (case side2 => exact HC0_0.out); rintro e w' ⟨rfl, ⟨nd, rfl⟩⟩; refine ⟨_, rfl, ?_⟩))
    go_ret
    exact ⟨by first | rfl | (simp [errW_none, errW_some] <;> rfl) | (simp [*, errW_none, errW_some] <;> rfl), by repeat (first | (with_reducible first | exact HB.out | apply below_alloc | apply pw_below_drewN | apply below_drew1 | refine below_set ?_ GE114.out) | exact HB.out)⟩
  · rw [if_neg c4] at H
    have c4b0 : decide (t115 < 0) = false := decide_eq_false c4
    clear c4
    replace H := Option.bind_eq_some_iff.mp H
    obtain ⟨t116, A70, H⟩ := H
    replace H : (if t116 < 0 then (some (-1)) else (some t116)) = some r := H
    have A7 := Aside0.mk A70
    clear A70
    by_cases c8 : t116 < 0
    · rw [if_pos c8] at H
      have c8b0 : decide (t116 < 0) = true := decide_eq_true c8
      clear c8
      obtain rfl := Option.some.inj H
      go_enter Try.func22, Try.ntmps22
      go_wp2_with (first | ((with_reducible refine gate_dst (N := 2) rfl ?_); refine box_event ?hg (N := 2) ?hd (cs := #[.slice A0_0 l0_0.length c0_0, .slice A0_1 l0_1.length c0_1]) (t := 28) ?hr ?_; (case hd => rfl); (case hg => rfl); (case hr => first | (go_simp; done) | (go_simp; rfl)); intro gb114 hg w9 hbox hb; have n0_ := Aside0.mk (below_step (XSq.bB HB) hb); have n1_ := Aside0.mk (hbox); have n2_ := Aside0.mk ((by rw [hg]; exact (below_size (XSq.bB HB)) : w.heap.size ≤ gb114)); have n3_ := Aside0.mk ((by rw [hg]; exact (below_size (XSq.bB HB)) : w.heap.size ≤ gb114)); clear HB; have HB := n0_; have BK114 := n1_; have GW114 := n2_; have GE114 := n3_; clear n0_ n1_ n2_ n3_; clear hb hbox hg; have hcz10_0 : w9.cell? ⟨gb114, 0, none⟩ = some (.slice A0_0 l0_0.length c0_0) := (blk_cell BK114.out 0).trans rfl; have hcz10_1 : w9.cell? ⟨gb114, 1, none⟩ = some (.slice A0_1 l0_1.length c0_1) := (blk_cell BK114.out 1).trans rfl; have hfz10_0 := blk_frozen BK114.out 0; have hfz10_1 := blk_frozen BK114.out 1) | ((with_reducible refine gate_callee (f := 46) rfl ?_); refine goesL_ (some 8) rfl rfl Try.func46 (by kernel_rfl) rfl #[.slice A0_0 l0_0.length c0_0, .int .i64 a1] rfl (by (try simp only [List.map_toArray, List.map_cons, List.map_nil]); first | done | rfl | (simp only [List.length_drop, List.length_take]; rfl)) ?_; (with_reducible refine (laws_heldIntSS.calls k _ _ l0_0 a1 t115 _ ?side1 ?side2 A3.out).mono ?_); (case side1 => repeat (first | exact (Kd.C_below HR0_0.out HB.out) | (with_reducible refine Kd.C_alloc ?_ _) | (with_reducible refine Kd.C_drewN ?_ _) | (with_reducible refine Kd.C_drew ?_))); (case side2 => exact HC0_0.out); rintro e w' ⟨rfl, ⟨nd, rfl⟩⟩; refine ⟨_, rfl, ?_⟩) | ((with_reducible refine gate_callee (f := 37) rfl ?_); refine goesL_ (some 14) rfl rfl Try.func37 (by kernel_rfl) rfl #[.slice A0_1 l0_1.length c0_1, .int .i64 t115] rfl (by (try simp only [List.map_toArray, List.map_cons, List.map_nil]); first | done | rfl | (simp only [List.length_drop, List.length_take]; rfl)) ?_; (with_reducible refine (laws_heldIntS.calls k _ _ l0_1 t115 t116 _ ?side1 ?side2 A7.out).mono ?_); (case side1 => repeat (first | exact (Kd.C_below HR0_1.out (XSq.bB HB)) | (with_reducible refine Kd.C_alloc ?_ _) | (with_reducible refine Kd.C_drewN ?_ _) | (with_reducible refine Kd.C_drew ?_))); (case side2 => exact HC0_1.out); rintro e w' ⟨rfl, ⟨nd, rfl⟩⟩; refine ⟨_, rfl, ?_⟩))
      go_ret
      exact ⟨by first | rfl | (simp [errW_none, errW_some] <;> rfl) | (simp [*, errW_none, errW_some] <;> rfl), by repeat (first | (with_reducible first | exact HB.out | apply below_alloc | apply pw_below_drewN | apply below_drew1 | refine below_set ?_ GE114.out) | exact HB.out)⟩
    · rw [if_neg c8] at H
      have c8b0 : decide (t116 < 0) = false := decide_eq_false c8
      clear c8
      obtain rfl := Option.some.inj H
      go_enter Try.func22, Try.ntmps22
      go_wp2_with (first | ((with_reducible refine gate_dst (N := 2) rfl ?_); refine box_event ?hg (N := 2) ?hd (cs := #[.slice A0_0 l0_0.length c0_0, .slice A0_1 l0_1.length c0_1]) (t := 28) ?hr ?_; (case hd => rfl); (case hg => rfl); (case hr => first | (go_simp; done) | (go_simp; rfl)); intro gb114 hg w11 hbox hb; have n0_ := Aside0.mk (below_step (XSq.bB HB) hb); have n1_ := Aside0.mk (hbox); have n2_ := Aside0.mk ((by rw [hg]; exact (below_size (XSq.bB HB)) : w.heap.size ≤ gb114)); have n3_ := Aside0.mk ((by rw [hg]; exact (below_size (XSq.bB HB)) : w.heap.size ≤ gb114)); clear HB; have HB := n0_; have BK114 := n1_; have GW114 := n2_; have GE114 := n3_; clear n0_ n1_ n2_ n3_; clear hb hbox hg; have hcz12_0 : w11.cell? ⟨gb114, 0, none⟩ = some (.slice A0_0 l0_0.length c0_0) := (blk_cell BK114.out 0).trans rfl; have hcz12_1 : w11.cell? ⟨gb114, 1, none⟩ = some (.slice A0_1 l0_1.length c0_1) := (blk_cell BK114.out 1).trans rfl; have hfz12_0 := blk_frozen BK114.out 0; have hfz12_1 := blk_frozen BK114.out 1) | ((with_reducible refine gate_callee (f := 46) rfl ?_); refine goesL_ (some 8) rfl rfl Try.func46 (by kernel_rfl) rfl #[.slice A0_0 l0_0.length c0_0, .int .i64 a1] rfl (by (try simp only [List.map_toArray, List.map_cons, List.map_nil]); first | done | rfl | (simp only [List.length_drop, List.length_take]; rfl)) ?_; (with_reducible refine (laws_heldIntSS.calls k _ _ l0_0 a1 t115 _ ?side1 ?side2 A3.out).mono ?_); (case side1 => repeat (first | exact (Kd.C_below HR0_0.out HB.out) | (with_reducible refine Kd.C_alloc ?_ _) | (with_reducible refine Kd.C_drewN ?_ _) | (with_reducible refine Kd.C_drew ?_))); (case side2 => exact HC0_0.out); rintro e w' ⟨rfl, ⟨nd, rfl⟩⟩; refine ⟨_, rfl, ?_⟩) | ((with_reducible refine gate_callee (f := 37) rfl ?_); refine goesL_ (some 14) rfl rfl Try.func37 (by kernel_rfl) rfl #[.slice A0_1 l0_1.length c0_1, .int .i64 t115] rfl (by (try simp only [List.map_toArray, List.map_cons, List.map_nil]); first | done | rfl | (simp only [List.length_drop, List.length_take]; rfl)) ?_; (with_reducible refine (laws_heldIntS.calls k _ _ l0_1 t115 t116 _ ?side1 ?side2 A7.out).mono ?_); (case side1 => repeat (first | exact (Kd.C_below HR0_1.out (XSq.bB HB)) | (with_reducible refine Kd.C_alloc ?_ _) | (with_reducible refine Kd.C_drewN ?_ _) | (with_reducible refine Kd.C_drew ?_))); (case side2 => exact HC0_1.out); rintro e w' ⟨rfl, ⟨nd, rfl⟩⟩; refine ⟨_, rfl, ?_⟩))
      go_ret
      exact ⟨by first | rfl | (simp [errW_none, errW_some] <;> rfl) | (simp [*, errW_none, errW_some] <;> rfl), by repeat (first | (with_reducible first | exact HB.out | apply below_alloc | apply pw_below_drewN | apply below_drew1 | refine below_set ?_ GE114.out) | exact HB.out)⟩

/-! ### spec_l1In: function 55 -/
def spec_l1In.f (a0 : Int) (a1 : Int) (a2 : Int) : Option (Bool) := if a0 ≥ a1 then (some (decide (a0 ≤ a2))) else (some false)
set_option maxHeartbeats 8000000 in
set_option maxRecDepth 100000 in
theorem spec_l1In.calls (a0 : Int) (a1 : Int) (a2 : Int) (r : Bool) (w : World) (h : spec_l1In.f a0 a1 a2 = some r) :
    Calls Try.prog 55 #[.int .i64 a0, .int .i64 a1, .int .i64 a2] w fun e w' => e = .returned (.bool r) ∧ Drawn0 w w' := by
  have H : (if a0 ≥ a1 then (some (decide (a0 ≤ a2))) else (some false)) = some r := h
  clear h
  by_cases c4 : a0 ≥ a1
  · rw [if_pos c4] at H
    have c4b0 : decide (a1 ≤ a0) = true := decide_eq_true c4
    clear c4
    obtain rfl := Option.some.inj H
    go_enter Try.func55, Try.ntmps55
    go_wp2
    go_ret
    exact ⟨by first | rfl | (simp; done) | (simp [*]; done), by repeat (first | exact Drawn0.refl _ | apply Drawn0.step)⟩
  · rw [if_neg c4] at H
    have c4b0 : decide (a1 ≤ a0) = false := decide_eq_false c4
    clear c4
    obtain rfl := Option.some.inj H
    go_enter Try.func55, Try.ntmps55
    go_wp2
    go_ret
    exact ⟨by first | rfl | (simp; done) | (simp [*]; done), by repeat (first | exact Drawn0.refl _ | apply Drawn0.step)⟩

/-! ### spec_LineRoute: function 23 -/
def spec_LineRoute.l0 : Nat → Int → Int → List (List Int) → List Int → Option ((List (List Int)) × List Int × Bool)
  | 0, _, _, _, _ => none
  | k + 1, x0, x5, x123000, x123001 => if x5 < x0 then (if x5 = 0 then (if x123000.length < 5864062014805 then (spec_LineRoute.l0 k x0 (wrap64 (x5 + 1)) (x123000 ++ [(([1] : List Int))]) x123001) else (none)) else (if x5 = (wrap64 (x0 - 1)) then (if x123000.length < 5864062014805 then (spec_LineRoute.l0 k x0 (wrap64 (x5 + 1)) (x123000 ++ [(([wrap64 (x5 - 1)] : List Int))]) x123001) else (none)) else (if x123000.length < 5864062014805 then (spec_LineRoute.l0 k x0 (wrap64 (x5 + 1)) (x123000 ++ [(([wrap64 (x5 - 1), wrap64 (x5 + 1)] : List Int))]) x123001) else (none)))) else (some (x123000, x123001, true))
def spec_LineRoute.f (k : Nat) (a0 : Int) : Option ((List (List Int)) × List Int × Bool) := (spec_l1In.f a0 2 10).bind fun t118 => (if t118 = true then (if 0 ≤ a0 then (if (a0 : Int).toNat ≤ 35184372088832 then (spec_LineRoute.l0 k a0 0 ([] : List (List Int)) (List.replicate (a0 : Int).toNat 0)) else (none)) else (none)) else (some (([] : List (List Int)), ([] : List Int), false)))
theorem spec_LineRoute.mono_l : ∀ k, (∀ y0 y1 y2 y3, LeO (spec_LineRoute.l0 k y0 y1 y2 y3) (spec_LineRoute.l0 (k + 1) y0 y1 y2 y3))
  | 0 => fun _ _ _ _ r h => by simp [spec_LineRoute.l0] at h
  | k + 1 => by
    have ih0 := spec_LineRoute.mono_l k
    · intro y0 y1 y2 y3
      unfold spec_LineRoute.l0
      repeat' first
      | (with_reducible exact ih0 _ _ _ _)
      | (with_reducible exact LeO.refl _)
      | (with_reducible exact LeO.none _)
      | (with_reducible refine LeO.ite ?_ ?_)
      | (with_reducible refine LeO.bind ?_ (fun _ => ?_))
      | exact ih0 _ _ _ _
      | exact LeO.none _
      | refine LeO.ite ?_ ?_
      | refine LeO.bind ?_ (fun _ => ?_)
theorem spec_LineRoute.mono : ∀ a0 k, LeO (spec_LineRoute.f k a0) (spec_LineRoute.f (k + 1) a0) := by
  intro a0 k
  have ih0 := spec_LineRoute.mono_l k
  unfold spec_LineRoute.f
  repeat' first
      | (with_reducible exact ih0 _ _ _ _)
      | (with_reducible exact LeO.refl _)
      | (with_reducible exact LeO.none _)
      | (with_reducible refine LeO.ite ?_ ?_)
      | (with_reducible refine LeO.bind ?_ (fun _ => ?_))
      | exact ih0 _ _ _ _
      | exact LeO.none _
      | refine LeO.ite ?_ ?_
      | refine LeO.bind ?_ (fun _ => ?_)
set_option maxHeartbeats 8000000 in
set_option maxRecDepth 100000 in
theorem spec_LineRoute.calls (k : Nat) (a0 : Int) (r1 : List (List Int)) (r2 : List Int) (r3 : Bool) (w : World) (h : spec_LineRoute.f k a0 = some (r1, r2, r3)) :
    Calls Try.prog 23 #[.int .i64 a0] w fun e w' => ∃ v0_ v1_ : Value, e = .returned (.tuple #[.agg #[v0_, v1_], .bool r3]) ∧ Kd.S (Kd.slice 3 (Kd.int .i64)) 23 w' w.heap.size (fun k_ => some k_ ≠ (v1_ : Value).ownBlock) v0_ r1 ∧ Kd.R (Kd.int .i64) 3 w' w.heap.size (fun _ => True) v1_ r2 ∧ Below w.heap.size w w' := by
  have hu28 := Try.underlying28
  have HB := Aside0.mk (Below.refl w.heap.size w)
  have H : ((spec_l1In.f a0 2 10).bind fun t118 => (if t118 = true then (if 0 ≤ a0 then (if (a0 : Int).toNat ≤ 35184372088832 then (spec_LineRoute.l0 k a0 0 ([] : List (List Int)) (List.replicate (a0 : Int).toNat 0)) else (none)) else (none)) else (some (([] : List (List Int)), ([] : List Int), false)))) = some (r1, r2, r3) := h
  clear h
  replace H := Option.bind_eq_some_iff.mp H
  obtain ⟨t118, A20, H⟩ := H
  replace H : (if t118 = true then (if 0 ≤ a0 then (if (a0 : Int).toNat ≤ 35184372088832 then (spec_LineRoute.l0 k a0 0 ([] : List (List Int)) (List.replicate (a0 : Int).toNat 0)) else (none)) else (none)) else (some (([] : List (List Int)), ([] : List Int), false))) = some (r1, r2, r3) := H
  have A2 := Aside0.mk A20
  clear A20
  by_cases c3 : t118 = true
  · subst c3
    have H1 : (if 0 ≤ a0 then (if (a0 : Int).toNat ≤ 35184372088832 then (spec_LineRoute.l0 k a0 0 ([] : List (List Int)) (List.replicate (a0 : Int).toNat 0)) else (none)) else (none)) = some (r1, r2, r3) := by rw [if_pos rfl] at H; exact H
    clear H
    have H := H1
    clear H1
    by_cases c4 : 0 ≤ a0
    · rw [if_pos c4] at H
      have c4b0 := eq_true c4
      have c4b1 : decide (0 ≤ a0) = true := decide_eq_true c4
      clear c4
      by_cases c5 : (a0 : Int).toNat ≤ 35184372088832
      · rw [if_pos c5] at H
        have c5b0 := eq_true c5
        have c5b1 : decide ((a0 : Int).toNat ≤ 35184372088832) = true := decide_eq_true c5
        clear c5
        obtain ⟨y119, hy119⟩ : ∃ y_ : List Int, y_ = (List.replicate (a0 : Int).toNat 0) := ⟨_, rfl⟩
        replace H : (spec_LineRoute.l0 k a0 0 ([] : List (List Int)) y119) = some (r1, r2, r3) := by first | (rw [hy119]; with_reducible exact H) | (have H2_ := (Option.bind_some _ _).symm.trans H; rw [hy119]; with_reducible exact H2_) | (have H2_ := (Option.bind_some _ _).symm.trans H; with_reducible exact H2_) | with_reducible exact H | (rw [hy119]; exact H) | exact H
        have Ny119 := Aside0.mk hy119
        clear hy119
        have H' := Aside0.mk H
        clear H
        go_enter Try.func23, Try.ntmps23
        go_wp2_with (first | ((with_reducible refine gate_dst (N := 2) rfl ?_); refine box_event ?hg (N := 2) ?hd (cs := #[.slice none 0 0, .slice none 0 0]) (t := 28) ?hr ?_; (case hd => rfl); (case hg => rfl); (case hr => first | (go_simp; done) | (go_simp; rfl)); intro gb117 hg w6 hbox hb; have n0_ := Aside0.mk (below_step (XSq.bB HB) hb); have n1_ := Aside0.mk (hbox); have n2_ := Aside0.mk ((by rw [hg]; exact (below_size (XSq.bB HB)) : w.heap.size ≤ gb117)); have n3_ := Aside0.mk ((by rw [hg]; exact (below_size (XSq.bB HB)) : w.heap.size ≤ gb117)); clear HB; have HB := n0_; have BK117 := n1_; have GW117 := n2_; have GE117 := n3_; clear n0_ n1_ n2_ n3_; clear hb hbox hg) | ((with_reducible refine gate_callee (f := 55) rfl ?_); refine goesL_ (some 7) rfl rfl Try.func55 (by kernel_rfl) rfl #[.int .i64 a0, .int .i64 2, .int .i64 10] rfl (by (try simp only [List.map_toArray, List.map_cons, List.map_nil]); first | done | rfl | (simp only [List.length_drop, List.length_take]; rfl)) ?_; (with_reducible refine (spec_l1In.calls a0 2 10 true _ A2.out).mono ?_); rintro e w' ⟨rfl, ⟨nd, rfl⟩⟩; refine ⟨_, rfl, ?_⟩; (try (rw [drewN_self w6]; generalize hq_ : World.drewN w6 _ = w6; have n0_ : Aside0 (w6.heap[gb117]? = some (.cells #[.slice none 0 0, .slice none 0 0] 28 (0, 0))) := ⟨by rw [← hq_]; exact (XSq.bq BK117)⟩; have n1_ : Aside0 (Below w.heap.size w w6) := ⟨by rw [← hq_]; exact (XSq.bB HB)⟩; clear BK117 HB hq_; have BK117 := n0_; have HB := n1_; clear n0_ n1_))) | ((with_reducible refine gate_dst (N := 11) rfl ?_); refine Kd.R_make (Kd.int .i64) _ 3 rfl (N := 11) rfl 23 _ _ rfl a0 rfl rfl Try.underlying23 (.int .i64 0) 8 info3 rfl (by decide) (by omega) 0 (ok := fun _ => True) (okp := fun _ => True) rfl (fun _ hk => hk) trivial (of_decide_eq_true (by first | (with_reducible assumption) | assumption)) (Nat.le_trans (Nat.mul_le_mul_right _ (of_decide_eq_true (by first | (with_reducible assumption) | assumption) : a0.toNat ≤ 35184372088832)) (by omega)) (Below.refl _ _) (Nat.le_refl _) ?_; intro v120 w7 ho8 hb hg_ hnew_; clear hg_ hnew_; (first | rw [← Ny119.out] at ho8 | (simp only [Int.reduceToNat] at ho8; rw [← Ny119.out] at ho8)); have n0_ := Aside0.mk (Kd.R_lower ho8 (below_size (XSq.bB HB))); have n1_ := Aside0.mk (blk_below (g := gb117) (o := .cells #[.slice none 0 0, .slice none 0 0] 28 (0, 0)) (XSq.bq BK117) hb); have n2_ := Aside0.mk (below_step (XSq.bB HB) hb); clear BK117; clear HB; have HO121 := n0_; have BK117 := n1_; have HB := n2_; clear n0_ n1_ n2_; clear hb ho8; obtain ⟨Ao9, co9, eo9⟩ := Kd.R_slice HO121.out; subst eo9) | ((with_reducible refine gate_dst (N := 4) rfl ?_); refine box_event ?hg (N := 4) ?hd (cs := #[.slice none 0 0, .slice none 0 0]) (t := 28) ?hr ?_; (case hd => rfl); (case hg => rfl); (case hr => first | (go_simp; done) | (go_simp; rfl)); intro gb122 hg w10 hbox hb; have n0_ := Aside0.mk (Kd.R_below (by (with_reducible repeat (first | apply Kd.R_alloc | apply Kd.R_drewN | apply Kd.R_drew)); exact HO121.out) hb); have n1_ := Aside0.mk (blk_below (g := gb117) (o := .cells #[.slice none 0 0, .slice none 0 0] 28 (0, 0)) (XSq.bq BK117) hb); have n2_ := Aside0.mk (below_step (XSq.bB HB) hb); have n3_ := Aside0.mk (hbox); have n4_ := Aside0.mk ((by rw [hg]; exact (below_size (XSq.bB HB)) : w.heap.size ≤ gb122)); have n5_ := Aside0.mk ((by rw [hg]; exact (below_size (XSq.bB HB)) : w.heap.size ≤ gb122)); have n6_ := Aside0.mk ((by rw [hg]; exact Nat.ne_of_lt (blk_lt (g := gb117) (o := .cells #[.slice none 0 0, .slice none 0 0] 28 (0, 0)) (XSq.bq BK117)) : gb117 ≠ gb122)); have n7_ := Aside0.mk ((by rw [hg]; exact Nat.ne_of_gt (blk_lt (g := gb117) (o := .cells #[.slice none 0 0, .slice none 0 0] 28 (0, 0)) (XSq.bq BK117)) : gb122 ≠ gb117)); clear HO121; clear BK117; clear HB; have HO121 := n0_; have BK117 := n1_; have HB := n2_; have BK122 := n3_; have GW122 := n4_; have GE122 := n5_; have NB117_122 := n6_; have NB122_117 := n7_; clear n0_ n1_ n2_ n3_ n4_ n5_ n6_ n7_; clear hb hbox hg; have hnb11 := NB122_117.out; have hnc11 := NB117_122.out; have hcz12_0 : w10.cell? ⟨gb122, 0, none⟩ = some (.slice none 0 0) := (blk_cell BK122.out 0).trans rfl; have hcz12_1 : w10.cell? ⟨gb122, 1, none⟩ = some (.slice none 0 0) := (blk_cell BK122.out 1).trans rfl; have hfz12_0 := blk_frozen BK122.out 0; have hfz12_1 := blk_frozen BK122.out 1))
        go_loopg [5] k (fun kq v5 w' => ∃ (x5_1 : Int) (x123000_1 : List (List Int)) (u123000 : Value), v5 = .int .i64 x5_1 ∧ Aside0 (spec_LineRoute.l0 kq a0 x5_1 x123000_1 y119 = some (r1, r2, r3)) ∧ Aside0 (kq ≤ k) ∧ Aside0 (Kd.S (Kd.slice 3 (Kd.int .i64)) 23 w' w.heap.size (fun k_ => some k_ ≠ ((.slice Ao9 y119.length co9) : Value).ownBlock) u123000 x123000_1) ∧ Aside0 (Kd.R (Kd.int .i64) 3 w' w.heap.size (fun _ => True) (.slice Ao9 y119.length co9) y119) ∧ Aside0 (w'.heap[gb117]? = some (.cells #[(.slice none 0 0), (.slice none 0 0)] 28 (0, 0))) ∧ Aside0 (w'.heap[gb122]? = some (.cells #[u123000, (.slice Ao9 y119.length co9)] 28 (0, 0))) ∧ Aside0 (Below w.heap.size w w'))
        case atStart => exact ⟨(0), (([] : List (List Int))), (.slice none 0 0), (by first | rfl | (simp; done) | (simp [*]; done)), H', ⟨Nat.le_refl _⟩, ⟨by first | exact Kd.S_nil _ _ _ _ _ | exact Kd.N_nil _ _ _ _ _ | exact Kd.V_nil _ _ _ _ _ | exact Kd.Q_nil _ _ _ _ _ | exact Kd.R_nil _ _ _ _ _⟩, ⟨by (with_reducible repeat (first | apply Kd.R_alloc | apply Kd.R_drewN | apply Kd.R_drew)); exact Kd.R_mono (Kd.R_far (p := ⟨gb122, 1, none⟩) (Kd.R_far (p := ⟨gb122, 0, none⟩) (Kd.R_types HO121.out BK122.out (by decide)) (fun _ hk => hk.2) (.slice none 0 0)) (fun _ hk => hk.2) (.slice Ao9 y119.length co9)) (fun _ hk => trivial)⟩, ⟨by (with_reducible repeat (first | refine blk_drewN ?_ _ | refine blk_drew ?_ | refine blk_alloc ?_ _)); refine blk_far ?_ NB117_122.out _; (with_reducible repeat (first | refine blk_drewN ?_ _ | refine blk_drew ?_ | refine blk_alloc ?_ _)); refine blk_far ?_ NB117_122.out _; (with_reducible repeat (first | refine blk_drewN ?_ _ | refine blk_drew ?_ | refine blk_alloc ?_ _)); exact BK117.out⟩, ⟨by (with_reducible repeat (first | refine blk_drewN ?_ _ | refine blk_drew ?_ | refine blk_alloc ?_ _)); refine blk_put (cs := #[.slice none 0 0, .slice none 0 0]) ?_ 1 _ rfl; (with_reducible repeat (first | refine blk_drewN ?_ _ | refine blk_drew ?_ | refine blk_alloc ?_ _)); refine blk_put (cs := #[.slice none 0 0, .slice none 0 0]) ?_ 0 _ rfl; (with_reducible repeat (first | refine blk_drewN ?_ _ | refine blk_drew ?_ | refine blk_alloc ?_ _)); exact BK122.out⟩, ⟨by repeat (first | (with_reducible first | exact HB.out | apply below_alloc | apply pw_below_drewN | apply below_drew1 | refine below_set ?_ GE117.out | refine below_set ?_ GE122.out) | exact HB.out)⟩⟩
        case round =>
          clear H'
          try clear c1
          try clear c2
          try clear p2
          try clear c3
          try clear c4
          try clear c4b0
          try clear c4b1
          try clear c5
          try clear c5b0
          try clear c5b1
          try clear c11
          try clear hcz12_0
          try clear hcz12_1
          try clear hfz12_0
          try clear hfz12_1
          obtain ⟨x5_1, x123000_1, u123000, rfl, HA, HK1, HO_123000, HO_123001, BK117, BK122, HB⟩ := hrel
          cases gk with
          | zero => exact absurd HA.out (by simp [spec_LineRoute.l0])
          | succ k1 =>
            have H := HA.out
            clear HA
            simp only [spec_LineRoute.l0] at H
            by_cases c13 : x5_1 < a0
            · rw [if_pos c13] at H
              have c13b0 : decide (x5_1 < a0) = true := decide_eq_true c13
              clear c13
              by_cases c14 : x5_1 = 0
              · rw [if_pos c14] at H
                have c14b0 : (x5_1 == 0) = true := beq_iff_eq.mpr c14
                have c14b1 : (x5_1 != 0) = false := bne_eq_false_iff_eq.mpr c14
                clear c14
                obtain ⟨y123, hy123⟩ : ∃ y_ : List Int, y_ = (([1] : List Int)) := ⟨_, rfl⟩
                replace H : (if x123000_1.length < 5864062014805 then (spec_LineRoute.l0 k1 a0 (wrap64 (x5_1 + 1)) (x123000_1 ++ [y123]) y119) else (none)) = some (r1, r2, r3) := by first | (rw [hy123]; with_reducible exact H) | (have H2_ := (Option.bind_some _ _).symm.trans H; rw [hy123]; with_reducible exact H2_) | (have H2_ := (Option.bind_some _ _).symm.trans H; with_reducible exact H2_) | with_reducible exact H | (rw [hy123]; exact H) | exact H
                have Ny123 := Aside0.mk hy123
                clear hy123
                by_cases c15 : x123000_1.length < 5864062014805
                · rw [if_pos c15] at H
                  have LMc15 := Aside0.mk c15
                  clear c15
                  obtain ⟨y126, hy126⟩ : ∃ y_ : List (List Int), y_ = (x123000_1 ++ [y123]) := ⟨_, rfl⟩
                  replace H : (spec_LineRoute.l0 k1 a0 (wrap64 (x5_1 + 1)) y126 y119) = some (r1, r2, r3) := by first | (rw [hy126]; with_reducible exact H) | (have H2_ := (Option.bind_some _ _).symm.trans H; rw [hy126]; with_reducible exact H2_) | (have H2_ := (Option.bind_some _ _).symm.trans H; with_reducible exact H2_) | with_reducible exact H | (rw [hy126]; exact H) | exact H
                  have Ny126 := Aside0.mk hy126
                  clear hy126
                  have H' := Aside0.mk H
                  clear H
                  have hnb16 := NB122_117.out
                  have hnc16 := NB117_122.out
                  have hcz17_0 : wr.cell? ⟨gb122, 0, none⟩ = some (u123000) := (blk_cell BK122.out 0).trans rfl
                  have hcz17_1 : wr.cell? ⟨gb122, 1, none⟩ = some (.slice Ao9 y119.length co9) := (blk_cell BK122.out 1).trans rfl
                  have hfz17_0 := blk_frozen BK122.out 0
                  have hfz17_1 := blk_frozen BK122.out 1
                  go_wp2_with (first | ((with_reducible refine gate_dst (N := 33) rfl ?_); refine Kd.R_lit (Kd.int .i64) _ 3 ?hg (N := 33) ?hd (xs := ([1] : List Int)) (inner := [.int .i64 1]) (ok := fun _ => True) (okp := fun _ => True) ?hr ?hp (fun _ hk => hk) trivial (Below.refl _ _) (Nat.le_refl _) (by simp) ?_; (case hd => rfl); (case hg => rfl); (case hr => first | (go_simp; done) | (go_simp; rfl)); (case hp => exact (Reps.one (show Kd.M (Kd.int .i64) _ _ _ 1 [.int .i64 1] from rfl) (Reps.none _ _))); intro v124 w18 ho19 hb hg_ hnew_; clear hg_ hnew_; (first | rw [← Ny123.out] at ho19 | (simp only [Int.reduceToNat] at ho19; rw [← Ny123.out] at ho19)); have n0_ := Aside0.mk (Kd.S_elder' (by (with_reducible repeat (first | apply Kd.S_alloc | apply Kd.S_drewN | apply Kd.S_drew)); exact HO_123000.out) (Kd.R_base ho19) hb); have n1_ := Aside0.mk (Kd.R_elder' (by (with_reducible repeat (first | apply Kd.R_alloc | apply Kd.R_drewN | apply Kd.R_drew)); exact HO_123001.out) (Kd.R_base ho19) hb); have n2_ := Aside0.mk (Kd.R_lower (Kd.R_new' ho19 (Kd.R_lt (by (with_reducible repeat (first | apply Kd.R_alloc | apply Kd.R_drewN | apply Kd.R_drew)); exact HO_123001.out))) (below_size (XSq.bB HB))); have n3_ := Aside0.mk (blk_below (g := gb117) (o := .cells #[.slice none 0 0, .slice none 0 0] 28 (0, 0)) (XSq.bq BK117) hb); have n4_ := Aside0.mk (blk_below (g := gb122) (o := .cells #[u123000, .slice Ao9 y119.length co9] 28 (0, 0)) (XSq.bq BK122) hb); have n5_ := Aside0.mk (below_step (XSq.bB HB) hb); clear HO_123000; clear HO_123001; clear BK117; clear BK122; clear HB; have HO_123000 := n0_; have HO_123001 := n1_; have HO125 := n2_; have BK117 := n3_; have BK122 := n4_; have HB := n5_; clear n0_ n1_ n2_ n3_ n4_ n5_; clear hb ho19; obtain ⟨Ao21, co21, eo21⟩ := Kd.R_slice HO125.out; subst eo21) | ((with_reducible refine gate_builtin (b := .append) (xs := #[.tmp 32, .tmp 34]) rfl ?_); at_builtin; refine Kd.S_append (Kd.slice 3 (Kd.int .i64)) (w0 := w) w.heap.size rfl (.tmp 32) (.tmp 34) 22 23 (.slice none 0 0) 24 rfl Try.underlying22 info23 rfl (by decide) (by omega) u123000 x123000_1 y123 [.slice Ao21 y123.length co21] (fun k_ => some k_ ≠ (.slice Ao9 y119.length co9 : Value).ownBlock) (fun k_ => some k_ = (.slice Ao21 y123.length co21 : Value).ownBlock) rfl rfl ?aP (fun k_ hk_ => ((Kd.R_mono (ok' := fun k_ => ((fun k_ => some k_ ≠ (.slice Ao9 y119.length co9 : Value).ownBlock)) k_ ∧ some k_ ≠ (u123000 : Value).ownBlock) (Kd.R_apart' (HO125.out) (Kd.S_typed HO_123000.out) (by decide)) (fun k_ hk => ⟨hk.1.2, hk.2⟩))).1 k_ hk_.symm) ?aF ?aO ?aB ?aS ?aL ?_; (case aP => exact Kd.M_row (Kd.R_mono (Kd.R_tight rfl (Kd.R_mono (ok' := fun k_ => ((fun k_ => some k_ ≠ (.slice Ao9 y119.length co9 : Value).ownBlock)) k_ ∧ some k_ ≠ (u123000 : Value).ownBlock) (Kd.R_apart' (HO125.out) (Kd.S_typed HO_123000.out) (by decide)) (fun k_ hk => ⟨hk.1.2, hk.2⟩))) (fun _ h_ => h_))); (case aB => exact (XSq.bB HB)); (case aF => exact (fun k_ hk => Kd.fresh' (Kd.R_lt (by (with_reducible repeat (first | apply Kd.R_alloc | apply Kd.R_drewN | apply Kd.R_drew)); exact HO_123001.out)) k_ hk)); (case aO => exact (by (with_reducible repeat (first | apply Kd.S_alloc | apply Kd.S_drewN | apply Kd.S_drew)); exact Kd.S_mono HO_123000.out (fun k_ hk => ⟨hk.1, fun e_ => hk.2 e_⟩))); (case aS => exact (below_size (XSq.bB HB))); (case aL => have := LMc15.out; omega); intro v127 w20 ho hb hg hat; rw [← Ny126.out] at ho; have n0_ := Aside0.mk (Kd.R_over' (by (with_reducible repeat (first | apply Kd.R_alloc | apply Kd.R_drewN | apply Kd.R_drew)); exact HO_123001.out) (Kd.S_typed (by (with_reducible repeat (first | apply Kd.S_alloc | apply Kd.S_drewN | apply Kd.S_drew)); exact HO_123000.out)) (by decide) hg); have n1_ := Aside0.mk (blk_grown (g := gb117) (o := .cells #[.slice none 0 0, .slice none 0 0] 28 (0, 0)) (XSq.bq BK117) hg (Kd.S_ne HO_123000.out BK117.out (by decide))); have n2_ := Aside0.mk (blk_grown (g := gb122) (o := .cells #[u123000, .slice Ao9 y119.length co9] 28 (0, 0)) (XSq.bq BK122) hg (Kd.S_ne HO_123000.out BK122.out (by decide))); have n3_ := Aside0.mk (hb); have n4_ := Aside0.mk (ho); clear HO_123001; clear BK117; clear BK122; clear HB; clear HO_123000; clear HO125; have HO_123001 := n0_; have BK117 := n1_; have BK122 := n2_; have HB := n3_; have HO128 := n4_; clear n0_ n1_ n2_ n3_ n4_; clear ho hb hg hat; obtain ⟨Ao22, co22, eo22⟩ := Kd.S_slice HO128.out; subst eo22; have hcz23_0 : w20.cell? ⟨gb122, 0, none⟩ = some (u123000) := (blk_cell BK122.out 0).trans rfl; have hcz23_1 : w20.cell? ⟨gb122, 1, none⟩ = some (.slice Ao9 y119.length co9) := (blk_cell BK122.out 1).trans rfl; have hfz23_0 := blk_frozen BK122.out 0; have hfz23_1 := blk_frozen BK122.out 1))
                  go_roundg k1
                  case measure => have := HK1.out; omega
                  case rel => exact ⟨(wrap64 (x5_1 + 1)), (y126), (.slice Ao22 y126.length co22), (by first | rfl | (simp; done) | (simp [*]; done)), H', ⟨by have := HK1.out; omega⟩, ⟨by (with_reducible repeat (first | apply Kd.S_alloc | apply Kd.S_drewN | apply Kd.S_drew)); exact Kd.S_mono (Kd.S_far (p := ⟨gb122, 0, none⟩) (Kd.S_types HO128.out BK122.out (by decide)) (fun _ hk => hk.2) (.slice Ao22 y126.length co22)) (fun _ hk => hk.1)⟩, ⟨by (with_reducible repeat (first | apply Kd.R_alloc | apply Kd.R_drewN | apply Kd.R_drew)); exact Kd.R_mono (Kd.R_far (p := ⟨gb122, 0, none⟩) (Kd.R_types HO_123001.out BK122.out (by decide)) (fun _ hk => hk.2) (.slice Ao22 y126.length co22)) (fun _ hk => trivial)⟩, ⟨by (with_reducible repeat (first | refine blk_drewN ?_ _ | refine blk_drew ?_ | refine blk_alloc ?_ _)); refine blk_far ?_ NB117_122.out _; (with_reducible repeat (first | refine blk_drewN ?_ _ | refine blk_drew ?_ | refine blk_alloc ?_ _)); exact BK117.out⟩, ⟨by (with_reducible repeat (first | refine blk_drewN ?_ _ | refine blk_drew ?_ | refine blk_alloc ?_ _)); refine blk_put (cs := #[u123000, .slice Ao9 y119.length co9]) ?_ 0 _ rfl; (with_reducible repeat (first | refine blk_drewN ?_ _ | refine blk_drew ?_ | refine blk_alloc ?_ _)); exact BK122.out⟩, ⟨by repeat (first | (with_reducible first | exact HB.out | apply below_alloc | apply pw_below_drewN | apply below_drew1 | refine below_set ?_ GE117.out | refine below_set ?_ GE122.out) | exact HB.out)⟩⟩
                · rw [if_neg c15] at H
                  exact absurd H (by simp)
              · rw [if_neg c14] at H
                have c14b0 : (x5_1 == 0) = false := beq_eq_false_iff_ne.mpr c14
                have c14b1 : (x5_1 != 0) = true := bne_iff_ne.mpr c14
                by_cases c24 : x5_1 = (wrap64 (a0 - 1))
                · rw [if_pos c24] at H
                  have c24b0 : (x5_1 == (wrap64 (a0 - 1))) = true := beq_iff_eq.mpr c24
                  have c24b1 : (x5_1 != (wrap64 (a0 - 1))) = false := bne_eq_false_iff_eq.mpr c24
                  clear c24
                  obtain ⟨y129, hy129⟩ : ∃ y_ : List Int, y_ = (([wrap64 (x5_1 - 1)] : List Int)) := ⟨_, rfl⟩
                  replace H : (if x123000_1.length < 5864062014805 then (spec_LineRoute.l0 k1 a0 (wrap64 (x5_1 + 1)) (x123000_1 ++ [y129]) y119) else (none)) = some (r1, r2, r3) := by first | (rw [hy129]; with_reducible exact H) | (have H2_ := (Option.bind_some _ _).symm.trans H; rw [hy129]; with_reducible exact H2_) | (have H2_ := (Option.bind_some _ _).symm.trans H; with_reducible exact H2_) | with_reducible exact H | (rw [hy129]; exact H) | exact H
                  have Ny129 := Aside0.mk hy129
                  clear hy129
                  by_cases c25 : x123000_1.length < 5864062014805
                  · rw [if_pos c25] at H
                    have LMc25 := Aside0.mk c25
                    clear c25
                    obtain ⟨y132, hy132⟩ : ∃ y_ : List (List Int), y_ = (x123000_1 ++ [y129]) := ⟨_, rfl⟩
                    replace H : (spec_LineRoute.l0 k1 a0 (wrap64 (x5_1 + 1)) y132 y119) = some (r1, r2, r3) := by first | (rw [hy132]; with_reducible exact H) | (have H2_ := (Option.bind_some _ _).symm.trans H; rw [hy132]; with_reducible exact H2_) | (have H2_ := (Option.bind_some _ _).symm.trans H; with_reducible exact H2_) | with_reducible exact H | (rw [hy132]; exact H) | exact H
                    have Ny132 := Aside0.mk hy132
                    clear hy132
                    have H' := Aside0.mk H
                    clear H
                    have hnb26 := NB122_117.out
                    have hnc26 := NB117_122.out
                    have hcz27_0 : wr.cell? ⟨gb122, 0, none⟩ = some (u123000) := (blk_cell BK122.out 0).trans rfl
                    have hcz27_1 : wr.cell? ⟨gb122, 1, none⟩ = some (.slice Ao9 y119.length co9) := (blk_cell BK122.out 1).trans rfl
                    have hfz27_0 := blk_frozen BK122.out 0
                    have hfz27_1 := blk_frozen BK122.out 1
                    go_wp2_with (first | ((with_reducible refine gate_dst (N := 45) rfl ?_); refine Kd.R_lit (Kd.int .i64) _ 3 ?hg (N := 45) ?hd (xs := ([wrap64 (x5_1 - 1)] : List Int)) (inner := [.int .i64 (wrap64 (x5_1 - 1))]) (ok := fun _ => True) (okp := fun _ => True) ?hr ?hp (fun _ hk => hk) trivial (Below.refl _ _) (Nat.le_refl _) (by simp) ?_; (case hd => rfl); (case hg => rfl); (case hr => first | (go_simp; done) | (go_simp; rfl)); (case hp => exact (Reps.one (show Kd.M (Kd.int .i64) _ _ _ (wrap64 (x5_1 - 1)) [.int .i64 (wrap64 (x5_1 - 1))] from rfl) (Reps.none _ _))); intro v130 w28 ho29 hb hg_ hnew_; clear hg_ hnew_; (first | rw [← Ny129.out] at ho29 | (simp only [Int.reduceToNat] at ho29; rw [← Ny129.out] at ho29)); have n0_ := Aside0.mk (Kd.S_elder' (by (with_reducible repeat (first | apply Kd.S_alloc | apply Kd.S_drewN | apply Kd.S_drew)); exact HO_123000.out) (Kd.R_base ho29) hb); have n1_ := Aside0.mk (Kd.R_elder' (by (with_reducible repeat (first | apply Kd.R_alloc | apply Kd.R_drewN | apply Kd.R_drew)); exact HO_123001.out) (Kd.R_base ho29) hb); have n2_ := Aside0.mk (Kd.R_lower (Kd.R_new' ho29 (Kd.R_lt (by (with_reducible repeat (first | apply Kd.R_alloc | apply Kd.R_drewN | apply Kd.R_drew)); exact HO_123001.out))) (below_size (XSq.bB HB))); have n3_ := Aside0.mk (blk_below (g := gb117) (o := .cells #[.slice none 0 0, .slice none 0 0] 28 (0, 0)) (XSq.bq BK117) hb); have n4_ := Aside0.mk (blk_below (g := gb122) (o := .cells #[u123000, .slice Ao9 y119.length co9] 28 (0, 0)) (XSq.bq BK122) hb); have n5_ := Aside0.mk (below_step (XSq.bB HB) hb); clear HO_123000; clear HO_123001; clear BK117; clear BK122; clear HB; have HO_123000 := n0_; have HO_123001 := n1_; have HO131 := n2_; have BK117 := n3_; have BK122 := n4_; have HB := n5_; clear n0_ n1_ n2_ n3_ n4_ n5_; clear hb ho29; obtain ⟨Ao31, co31, eo31⟩ := Kd.R_slice HO131.out; subst eo31) | ((with_reducible refine gate_builtin (b := .append) (xs := #[.tmp 42, .tmp 46]) rfl ?_); at_builtin; refine Kd.S_append (Kd.slice 3 (Kd.int .i64)) (w0 := w) w.heap.size rfl (.tmp 42) (.tmp 46) 22 23 (.slice none 0 0) 24 rfl Try.underlying22 info23 rfl (by decide) (by omega) u123000 x123000_1 y129 [.slice Ao31 y129.length co31] (fun k_ => some k_ ≠ (.slice Ao9 y119.length co9 : Value).ownBlock) (fun k_ => some k_ = (.slice Ao31 y129.length co31 : Value).ownBlock) rfl rfl ?aP (fun k_ hk_ => ((Kd.R_mono (ok' := fun k_ => ((fun k_ => some k_ ≠ (.slice Ao9 y119.length co9 : Value).ownBlock)) k_ ∧ some k_ ≠ (u123000 : Value).ownBlock) (Kd.R_apart' (HO131.out) (Kd.S_typed HO_123000.out) (by decide)) (fun k_ hk => ⟨hk.1.2, hk.2⟩))).1 k_ hk_.symm) ?aF ?aO ?aB ?aS ?aL ?_; (case aP => exact Kd.M_row (Kd.R_mono (Kd.R_tight rfl (Kd.R_mono (ok' := fun k_ => ((fun k_ => some k_ ≠ (.slice Ao9 y119.length co9 : Value).ownBlock)) k_ ∧ some k_ ≠ (u123000 : Value).ownBlock) (Kd.R_apart' (HO131.out) (Kd.S_typed HO_123000.out) (by decide)) (fun k_ hk => ⟨hk.1.2, hk.2⟩))) (fun _ h_ => h_))); (case aB => exact (XSq.bB HB)); (case aF => exact (fun k_ hk => Kd.fresh' (Kd.R_lt (by (with_reducible repeat (first | apply Kd.R_alloc | apply Kd.R_drewN | apply Kd.R_drew)); exact HO_123001.out)) k_ hk)); (case aO => exact (by (with_reducible repeat (first | apply Kd.S_alloc | apply Kd.S_drewN | apply Kd.S_drew)); exact Kd.S_mono HO_123000.out (fun k_ hk => ⟨hk.1, fun e_ => hk.2 e_⟩))); (case aS => exact (below_size (XSq.bB HB))); (case aL => have := LMc25.out; omega); intro v133 w30 ho hb hg hat; rw [← Ny132.out] at ho; have n0_ := Aside0.mk (Kd.R_over' (by (with_reducible repeat (first | apply Kd.R_alloc | apply Kd.R_drewN | apply Kd.R_drew)); exact HO_123001.out) (Kd.S_typed (by (with_reducible repeat (first | apply Kd.S_alloc | apply Kd.S_drewN | apply Kd.S_drew)); exact HO_123000.out)) (by decide) hg); have n1_ := Aside0.mk (blk_grown (g := gb117) (o := .cells #[.slice none 0 0, .slice none 0 0] 28 (0, 0)) (XSq.bq BK117) hg (Kd.S_ne HO_123000.out BK117.out (by decide))); have n2_ := Aside0.mk (blk_grown (g := gb122) (o := .cells #[u123000, .slice Ao9 y119.length co9] 28 (0, 0)) (XSq.bq BK122) hg (Kd.S_ne HO_123000.out BK122.out (by decide))); have n3_ := Aside0.mk (hb); have n4_ := Aside0.mk (ho); clear HO_123001; clear BK117; clear BK122; clear HB; clear HO_123000; clear HO131; have HO_123001 := n0_; have BK117 := n1_; have BK122 := n2_; have HB := n3_; have HO134 := n4_; clear n0_ n1_ n2_ n3_ n4_; clear ho hb hg hat; obtain ⟨Ao32, co32, eo32⟩ := Kd.S_slice HO134.out; subst eo32; have hcz33_0 : w30.cell? ⟨gb122, 0, none⟩ = some (u123000) := (blk_cell BK122.out 0).trans rfl; have hcz33_1 : w30.cell? ⟨gb122, 1, none⟩ = some (.slice Ao9 y119.length co9) := (blk_cell BK122.out 1).trans rfl; have hfz33_0 := blk_frozen BK122.out 0; have hfz33_1 := blk_frozen BK122.out 1))
                    go_roundg k1
                    case measure => have := HK1.out; omega
                    case rel => exact ⟨(wrap64 (x5_1 + 1)), (y132), (.slice Ao32 y132.length co32), (by first | rfl | (simp; done) | (simp [*]; done)), H', ⟨by have := HK1.out; omega⟩, ⟨by (with_reducible repeat (first | apply Kd.S_alloc | apply Kd.S_drewN | apply Kd.S_drew)); exact Kd.S_mono (Kd.S_far (p := ⟨gb122, 0, none⟩) (Kd.S_types HO134.out BK122.out (by decide)) (fun _ hk => hk.2) (.slice Ao32 y132.length co32)) (fun _ hk => hk.1)⟩, ⟨by (with_reducible repeat (first | apply Kd.R_alloc | apply Kd.R_drewN | apply Kd.R_drew)); exact Kd.R_mono (Kd.R_far (p := ⟨gb122, 0, none⟩) (Kd.R_types HO_123001.out BK122.out (by decide)) (fun _ hk => hk.2) (.slice Ao32 y132.length co32)) (fun _ hk => trivial)⟩, ⟨by (with_reducible repeat (first | refine blk_drewN ?_ _ | refine blk_drew ?_ | refine blk_alloc ?_ _)); refine blk_far ?_ NB117_122.out _; (with_reducible repeat (first | refine blk_drewN ?_ _ | refine blk_drew ?_ | refine blk_alloc ?_ _)); exact BK117.out⟩, ⟨by (with_reducible repeat (first | refine blk_drewN ?_ _ | refine blk_drew ?_ | refine blk_alloc ?_ _)); refine blk_put (cs := #[u123000, .slice Ao9 y119.length co9]) ?_ 0 _ rfl; (with_reducible repeat (first | refine blk_drewN ?_ _ | refine blk_drew ?_ | refine blk_alloc ?_ _)); exact BK122.out⟩, ⟨by repeat (first | (with_reducible first | exact HB.out | apply below_alloc | apply pw_below_drewN | apply below_drew1 | refine below_set ?_ GE117.out | refine below_set ?_ GE122.out) | exact HB.out)⟩⟩
                  · rw [if_neg c25] at H
                    exact absurd H (by simp)
                · rw [if_neg c24] at H
                  have c24b0 : (x5_1 == (wrap64 (a0 - 1))) = false := beq_eq_false_iff_ne.mpr c24
                  have c24b1 : (x5_1 != (wrap64 (a0 - 1))) = true := bne_iff_ne.mpr c24
                  obtain ⟨y135, hy135⟩ : ∃ y_ : List Int, y_ = (([wrap64 (x5_1 - 1), wrap64 (x5_1 + 1)] : List Int)) := ⟨_, rfl⟩
                  replace H : (if x123000_1.length < 5864062014805 then (spec_LineRoute.l0 k1 a0 (wrap64 (x5_1 + 1)) (x123000_1 ++ [y135]) y119) else (none)) = some (r1, r2, r3) := by first | (rw [hy135]; with_reducible exact H) | (have H2_ := (Option.bind_some _ _).symm.trans H; rw [hy135]; with_reducible exact H2_) | (have H2_ := (Option.bind_some _ _).symm.trans H; with_reducible exact H2_) | with_reducible exact H | (rw [hy135]; exact H) | exact H
                  have Ny135 := Aside0.mk hy135
                  clear hy135
                  by_cases c34 : x123000_1.length < 5864062014805
                  · rw [if_pos c34] at H
                    have LMc34 := Aside0.mk c34
                    clear c34
                    obtain ⟨y138, hy138⟩ : ∃ y_ : List (List Int), y_ = (x123000_1 ++ [y135]) := ⟨_, rfl⟩
                    replace H : (spec_LineRoute.l0 k1 a0 (wrap64 (x5_1 + 1)) y138 y119) = some (r1, r2, r3) := by first | (rw [hy138]; with_reducible exact H) | (have H2_ := (Option.bind_some _ _).symm.trans H; rw [hy138]; with_reducible exact H2_) | (have H2_ := (Option.bind_some _ _).symm.trans H; with_reducible exact H2_) | with_reducible exact H | (rw [hy138]; exact H) | exact H
                    have Ny138 := Aside0.mk hy138
                    clear hy138
                    have H' := Aside0.mk H
                    clear H
                    have hnb35 := NB122_117.out
                    have hnc35 := NB117_122.out
                    have hcz36_0 : wr.cell? ⟨gb122, 0, none⟩ = some (u123000) := (blk_cell BK122.out 0).trans rfl
                    have hcz36_1 : wr.cell? ⟨gb122, 1, none⟩ = some (.slice Ao9 y119.length co9) := (blk_cell BK122.out 1).trans rfl
                    have hfz36_0 := blk_frozen BK122.out 0
                    have hfz36_1 := blk_frozen BK122.out 1
                    go_wp2_with (first | ((with_reducible refine gate_dst (N := 25) rfl ?_); refine Kd.R_lit (Kd.int .i64) _ 3 ?hg (N := 25) ?hd (xs := ([wrap64 (x5_1 - 1), wrap64 (x5_1 + 1)] : List Int)) (inner := [.int .i64 (wrap64 (x5_1 - 1)), .int .i64 (wrap64 (x5_1 + 1))]) (ok := fun _ => True) (okp := fun _ => True) ?hr ?hp (fun _ hk => hk) trivial (Below.refl _ _) (Nat.le_refl _) (by simp) ?_; (case hd => rfl); (case hg => rfl); (case hr => first | (go_simp; done) | (go_simp; rfl)); (case hp => exact (Reps.one (show Kd.M (Kd.int .i64) _ _ _ (wrap64 (x5_1 - 1)) [.int .i64 (wrap64 (x5_1 - 1))] from rfl) (Reps.one (show Kd.M (Kd.int .i64) _ _ _ (wrap64 (x5_1 + 1)) [.int .i64 (wrap64 (x5_1 + 1))] from rfl) (Reps.none _ _)))); intro v136 w37 ho38 hb hg_ hnew_; clear hg_ hnew_; (first | rw [← Ny135.out] at ho38 | (simp only [Int.reduceToNat] at ho38; rw [← Ny135.out] at ho38)); have n0_ := Aside0.mk (Kd.S_elder' (by (with_reducible repeat (first | apply Kd.S_alloc | apply Kd.S_drewN | apply Kd.S_drew)); exact HO_123000.out) (Kd.R_base ho38) hb); have n1_ := Aside0.mk (Kd.R_elder' (by (with_reducible repeat (first | apply Kd.R_alloc | apply Kd.R_drewN | apply Kd.R_drew)); exact HO_123001.out) (Kd.R_base ho38) hb); have n2_ := Aside0.mk (Kd.R_lower (Kd.R_new' ho38 (Kd.R_lt (by (with_reducible repeat (first | apply Kd.R_alloc | apply Kd.R_drewN | apply Kd.R_drew)); exact HO_123001.out))) (below_size (XSq.bB HB))); have n3_ := Aside0.mk (blk_below (g := gb117) (o := .cells #[.slice none 0 0, .slice none 0 0] 28 (0, 0)) (XSq.bq BK117) hb); have n4_ := Aside0.mk (blk_below (g := gb122) (o := .cells #[u123000, .slice Ao9 y119.length co9] 28 (0, 0)) (XSq.bq BK122) hb); have n5_ := Aside0.mk (below_step (XSq.bB HB) hb); clear HO_123000; clear HO_123001; clear BK117; clear BK122; clear HB; have HO_123000 := n0_; have HO_123001 := n1_; have HO137 := n2_; have BK117 := n3_; have BK122 := n4_; have HB := n5_; clear n0_ n1_ n2_ n3_ n4_ n5_; clear hb ho38; obtain ⟨Ao40, co40, eo40⟩ := Kd.R_slice HO137.out; subst eo40) | ((with_reducible refine gate_builtin (b := .append) (xs := #[.tmp 20, .tmp 26]) rfl ?_); at_builtin; refine Kd.S_append (Kd.slice 3 (Kd.int .i64)) (w0 := w) w.heap.size rfl (.tmp 20) (.tmp 26) 22 23 (.slice none 0 0) 24 rfl Try.underlying22 info23 rfl (by decide) (by omega) u123000 x123000_1 y135 [.slice Ao40 y135.length co40] (fun k_ => some k_ ≠ (.slice Ao9 y119.length co9 : Value).ownBlock) (fun k_ => some k_ = (.slice Ao40 y135.length co40 : Value).ownBlock) rfl rfl ?aP (fun k_ hk_ => ((Kd.R_mono (ok' := fun k_ => ((fun k_ => some k_ ≠ (.slice Ao9 y119.length co9 : Value).ownBlock)) k_ ∧ some k_ ≠ (u123000 : Value).ownBlock) (Kd.R_apart' (HO137.out) (Kd.S_typed HO_123000.out) (by decide)) (fun k_ hk => ⟨hk.1.2, hk.2⟩))).1 k_ hk_.symm) ?aF ?aO ?aB ?aS ?aL ?_; (case aP => exact Kd.M_row (Kd.R_mono (Kd.R_tight rfl (Kd.R_mono (ok' := fun k_ => ((fun k_ => some k_ ≠ (.slice Ao9 y119.length co9 : Value).ownBlock)) k_ ∧ some k_ ≠ (u123000 : Value).ownBlock) (Kd.R_apart' (HO137.out) (Kd.S_typed HO_123000.out) (by decide)) (fun k_ hk => ⟨hk.1.2, hk.2⟩))) (fun _ h_ => h_))); (case aB => exact (XSq.bB HB)); (case aF => exact (fun k_ hk => Kd.fresh' (Kd.R_lt (by (with_reducible repeat (first | apply Kd.R_alloc | apply Kd.R_drewN | apply Kd.R_drew)); exact HO_123001.out)) k_ hk)); (case aO => exact (by (with_reducible repeat (first | apply Kd.S_alloc | apply Kd.S_drewN | apply Kd.S_drew)); exact Kd.S_mono HO_123000.out (fun k_ hk => ⟨hk.1, fun e_ => hk.2 e_⟩))); (case aS => exact (below_size (XSq.bB HB))); (case aL => have := LMc34.out; omega); intro v139 w39 ho hb hg hat; rw [← Ny138.out] at ho; have n0_ := Aside0.mk (Kd.R_over' (by (with_reducible repeat (first | apply Kd.R_alloc | apply Kd.R_drewN | apply Kd.R_drew)); exact HO_123001.out) (Kd.S_typed (by (with_reducible repeat (first | apply Kd.S_alloc | apply Kd.S_drewN | apply Kd.S_drew)); exact HO_123000.out)) (by decide) hg); have n1_ := Aside0.mk (blk_grown (g := gb117) (o := .cells #[.slice none 0 0, .slice none 0 0] 28 (0, 0)) (XSq.bq BK117) hg (Kd.S_ne HO_123000.out BK117.out (by decide))); have n2_ := Aside0.mk (blk_grown (g := gb122) (o := .cells #[u123000, .slice Ao9 y119.length co9] 28 (0, 0)) (XSq.bq BK122) hg (Kd.S_ne HO_123000.out BK122.out (by decide))); have n3_ := Aside0.mk (hb); have n4_ := Aside0.mk (ho); clear HO_123001; clear BK117; clear BK122; clear HB; clear HO_123000; clear HO137; have HO_123001 := n0_; have BK117 := n1_; have BK122 := n2_; have HB := n3_; have HO140 := n4_; clear n0_ n1_ n2_ n3_ n4_; clear ho hb hg hat; obtain ⟨Ao41, co41, eo41⟩ := Kd.S_slice HO140.out; subst eo41; have hcz42_0 : w39.cell? ⟨gb122, 0, none⟩ = some (u123000) := (blk_cell BK122.out 0).trans rfl; have hcz42_1 : w39.cell? ⟨gb122, 1, none⟩ = some (.slice Ao9 y119.length co9) := (blk_cell BK122.out 1).trans rfl; have hfz42_0 := blk_frozen BK122.out 0; have hfz42_1 := blk_frozen BK122.out 1))
                    go_roundg k1
                    case measure => have := HK1.out; omega
                    case rel => exact ⟨(wrap64 (x5_1 + 1)), (y138), (.slice Ao41 y138.length co41), (by first | rfl | (simp; done) | (simp [*]; done)), H', ⟨by have := HK1.out; omega⟩, ⟨by (with_reducible repeat (first | apply Kd.S_alloc | apply Kd.S_drewN | apply Kd.S_drew)); exact Kd.S_mono (Kd.S_far (p := ⟨gb122, 0, none⟩) (Kd.S_types HO140.out BK122.out (by decide)) (fun _ hk => hk.2) (.slice Ao41 y138.length co41)) (fun _ hk => hk.1)⟩, ⟨by (with_reducible repeat (first | apply Kd.R_alloc | apply Kd.R_drewN | apply Kd.R_drew)); exact Kd.R_mono (Kd.R_far (p := ⟨gb122, 0, none⟩) (Kd.R_types HO_123001.out BK122.out (by decide)) (fun _ hk => hk.2) (.slice Ao41 y138.length co41)) (fun _ hk => trivial)⟩, ⟨by (with_reducible repeat (first | refine blk_drewN ?_ _ | refine blk_drew ?_ | refine blk_alloc ?_ _)); refine blk_far ?_ NB117_122.out _; (with_reducible repeat (first | refine blk_drewN ?_ _ | refine blk_drew ?_ | refine blk_alloc ?_ _)); exact BK117.out⟩, ⟨by (with_reducible repeat (first | refine blk_drewN ?_ _ | refine blk_drew ?_ | refine blk_alloc ?_ _)); refine blk_put (cs := #[u123000, .slice Ao9 y119.length co9]) ?_ 0 _ rfl; (with_reducible repeat (first | refine blk_drewN ?_ _ | refine blk_drew ?_ | refine blk_alloc ?_ _)); exact BK122.out⟩, ⟨by repeat (first | (with_reducible first | exact HB.out | apply below_alloc | apply pw_below_drewN | apply below_drew1 | refine below_set ?_ GE117.out | refine below_set ?_ GE122.out) | exact HB.out)⟩⟩
                  · rw [if_neg c34] at H
                    exact absurd H (by simp)
            · rw [if_neg c13] at H
              have c13b0 : decide (x5_1 < a0) = false := decide_eq_false c13
              clear c13
              simp only [Option.some.injEq, Prod.mk.injEq] at H
              obtain ⟨rfl, rfl, rfl⟩ := H
              have hnb43 := NB122_117.out
              have hnc43 := NB117_122.out
              have hcz44_0 : wr.cell? ⟨gb122, 0, none⟩ = some (u123000) := (blk_cell BK122.out 0).trans rfl
              have hcz44_1 : wr.cell? ⟨gb122, 1, none⟩ = some (.slice Ao9 y119.length co9) := (blk_cell BK122.out 1).trans rfl
              have hfz44_0 := blk_frozen BK122.out 0
              have hfz44_1 := blk_frozen BK122.out 1
              obtain ⟨Ao45, co45, eo45⟩ := Kd.S_slice HO_123000.out
              subst eo45
              have hcz46_0 : wr.cell? ⟨gb117, 0, none⟩ = some (.slice none 0 0) := (blk_cell BK117.out 0).trans rfl
              have hcz46_1 : wr.cell? ⟨gb117, 1, none⟩ = some (.slice none 0 0) := (blk_cell BK117.out 1).trans rfl
              have hfz46_0 := blk_frozen BK117.out 0
              have hfz46_1 := blk_frozen BK117.out 1
              go_wp2
              refine bodyPost_ret (results_ct rfl _ _ gb117 28 #[.slice Ao45 x123000_1.length co45, .slice Ao9 y119.length co9] (0, 0) _ rfl (by (with_reducible repeat (first | refine blk_drewN ?_ _ | refine blk_drew ?_ | refine blk_alloc ?_ _)); refine blk_put (cs := #[.slice Ao45 x123000_1.length co45, .slice none 0 0]) ?_ 1 _ rfl; (with_reducible repeat (first | refine blk_drewN ?_ _ | refine blk_drew ?_ | refine blk_alloc ?_ _)); refine blk_put (cs := #[.slice none 0 0, .slice none 0 0]) ?_ 0 _ rfl; (with_reducible repeat (first | refine blk_drewN ?_ _ | refine blk_drew ?_ | refine blk_alloc ?_ _)); exact BK117.out) Try.underlying28 rfl (by kernel_rfl)) rfl ?_
              exact ⟨_, _, by first | rfl | (simp [errW_none, errW_some] <;> rfl) | (simp [*, errW_none, errW_some] <;> rfl), by (with_reducible repeat (first | apply Kd.S_alloc | apply Kd.S_drewN | apply Kd.S_drew)); exact Kd.S_mono (Kd.S_far (p := ⟨gb117, 1, none⟩) (Kd.S_far (p := ⟨gb117, 0, none⟩) (Kd.S_types HO_123000.out BK117.out (by decide)) (fun _ hk => hk.2) (.slice Ao45 x123000_1.length co45)) (fun _ hk => hk.2) (.slice Ao9 y119.length co9)) (fun _ hk => hk.1), by (with_reducible repeat (first | apply Kd.R_alloc | apply Kd.R_drewN | apply Kd.R_drew)); exact Kd.R_mono (Kd.R_far (p := ⟨gb117, 1, none⟩) (Kd.R_far (p := ⟨gb117, 0, none⟩) (Kd.R_types HO_123001.out BK117.out (by decide)) (fun _ hk => hk.2) (.slice Ao45 x123000_1.length co45)) (fun _ hk => hk.2) (.slice Ao9 y119.length co9)) (fun _ hk => trivial), by repeat (first | (with_reducible first | exact HB.out | apply below_alloc | apply pw_below_drewN | apply below_drew1 | refine below_set ?_ GE117.out | refine below_set ?_ GE122.out) | exact HB.out)⟩
      · rw [if_neg c5] at H
        exact absurd H (by simp)
    · rw [if_neg c4] at H
      exact absurd H (by simp)
  · replace c3 := Bool.eq_false_iff.mpr c3
    subst c3
    have H1 : (some (([] : List (List Int)), ([] : List Int), false)) = some (r1, r2, r3) := by rw [if_neg (show ¬ (false = true) by decide)] at H; exact H
    clear H
    have H := H1
    clear H1
    simp only [Option.some.injEq, Prod.mk.injEq] at H
    obtain ⟨rfl, rfl, rfl⟩ := H
    go_enter Try.func23, Try.ntmps23
    go_wp2_with (first | ((with_reducible refine gate_dst (N := 2) rfl ?_); refine box_event ?hg (N := 2) ?hd (cs := #[.slice none 0 0, .slice none 0 0]) (t := 28) ?hr ?_; (case hd => rfl); (case hg => rfl); (case hr => first | (go_simp; done) | (go_simp; rfl)); intro gb117 hg w47 hbox hb; have n0_ := Aside0.mk (below_step (XSq.bB HB) hb); have n1_ := Aside0.mk (hbox); have n2_ := Aside0.mk ((by rw [hg]; exact (below_size (XSq.bB HB)) : w.heap.size ≤ gb117)); have n3_ := Aside0.mk ((by rw [hg]; exact (below_size (XSq.bB HB)) : w.heap.size ≤ gb117)); clear HB; have HB := n0_; have BK117 := n1_; have GW117 := n2_; have GE117 := n3_; clear n0_ n1_ n2_ n3_; clear hb hbox hg) | ((with_reducible refine gate_callee (f := 55) rfl ?_); refine goesL_ (some 7) rfl rfl Try.func55 (by kernel_rfl) rfl #[.int .i64 a0, .int .i64 2, .int .i64 10] rfl (by (try simp only [List.map_toArray, List.map_cons, List.map_nil]); first | done | rfl | (simp only [List.length_drop, List.length_take]; rfl)) ?_; (with_reducible refine (spec_l1In.calls a0 2 10 false _ A2.out).mono ?_); rintro e w' ⟨rfl, ⟨nd, rfl⟩⟩; refine ⟨_, rfl, ?_⟩; (try (rw [drewN_self w47]; generalize hq_ : World.drewN w47 _ = w47; have n0_ : Aside0 (w47.heap[gb117]? = some (.cells #[.slice none 0 0, .slice none 0 0] 28 (0, 0))) := ⟨by rw [← hq_]; exact (XSq.bq BK117)⟩; have n1_ : Aside0 (Below w.heap.size w w47) := ⟨by rw [← hq_]; exact (XSq.bB HB)⟩; clear BK117 HB hq_; have BK117 := n0_; have HB := n1_; clear n0_ n1_)); have hcz48_0 : w47.cell? ⟨gb117, 0, none⟩ = some (.slice none 0 0) := (blk_cell BK117.out 0).trans rfl; have hcz48_1 : w47.cell? ⟨gb117, 1, none⟩ = some (.slice none 0 0) := (blk_cell BK117.out 1).trans rfl; have hfz48_0 := blk_frozen BK117.out 0; have hfz48_1 := blk_frozen BK117.out 1))
    refine bodyPost_ret (results_ct rfl _ _ gb117 28 #[.slice none 0 0, .slice none 0 0] (0, 0) _ rfl (by (with_reducible repeat (first | refine blk_drewN ?_ _ | refine blk_drew ?_ | refine blk_alloc ?_ _)); refine blk_put (cs := #[.slice none 0 0, .slice none 0 0]) ?_ 1 _ rfl; (with_reducible repeat (first | refine blk_drewN ?_ _ | refine blk_drew ?_ | refine blk_alloc ?_ _)); refine blk_put (cs := #[.slice none 0 0, .slice none 0 0]) ?_ 0 _ rfl; (with_reducible repeat (first | refine blk_drewN ?_ _ | refine blk_drew ?_ | refine blk_alloc ?_ _)); exact BK117.out) Try.underlying28 rfl (by kernel_rfl)) rfl ?_
    exact ⟨_, _, by first | rfl | (simp [errW_none, errW_some] <;> rfl) | (simp [*, errW_none, errW_some] <;> rfl), by first | exact Kd.S_nil _ _ _ _ _ | exact Kd.N_nil _ _ _ _ _ | exact Kd.V_nil _ _ _ _ _ | exact Kd.Q_nil _ _ _ _ _ | exact Kd.R_nil _ _ _ _ _, by first | exact Kd.R_nil _ _ _ _ _ | exact Kd.N_nil _ _ _ _ _ | exact Kd.V_nil _ _ _ _ _ | exact Kd.Q_nil _ _ _ _ _ | exact Kd.S_nil _ _ _ _ _, by repeat (first | (with_reducible first | exact HB.out | apply below_alloc | apply pw_below_drewN | apply below_drew1 | refine below_set ?_ GE117.out) | exact HB.out)⟩

/-! ### impl_within: function 53 -/
def impl_within.f (a0 : Int) (a1 : Int) (a2 : Int) : Option (Bool) := if a1 ≤ a0 then (some (decide (a0 ≤ a2))) else (some false)
set_option maxHeartbeats 8000000 in
set_option maxRecDepth 100000 in
theorem impl_within.calls (a0 : Int) (a1 : Int) (a2 : Int) (r : Bool) (w : World) (h : impl_within.f a0 a1 a2 = some r) :
    Calls Try.prog 53 #[.int .i64 a0, .int .i64 a1, .int .i64 a2] w fun e w' => e = .returned (.bool r) ∧ Drawn0 w w' := by
  have H : (if a1 ≤ a0 then (some (decide (a0 ≤ a2))) else (some false)) = some r := h
  clear h
  by_cases c4 : a1 ≤ a0
  · rw [if_pos c4] at H
    have c4b0 : decide (a1 ≤ a0) = true := decide_eq_true c4
    clear c4
    obtain rfl := Option.some.inj H
    go_enter Try.func53, Try.ntmps53
    go_wp2
    go_ret
    exact ⟨by first | rfl | (simp; done) | (simp [*]; done), by repeat (first | exact Drawn0.refl _ | apply Drawn0.step)⟩
  · rw [if_neg c4] at H
    have c4b0 : decide (a1 ≤ a0) = false := decide_eq_false c4
    clear c4
    obtain rfl := Option.some.inj H
    go_enter Try.func53, Try.ntmps53
    go_wp2
    go_ret
    exact ⟨by first | rfl | (simp; done) | (simp [*]; done), by repeat (first | exact Drawn0.refl _ | apply Drawn0.step)⟩

/-! ### impl_LineRoute_1: function 58 -/
def impl_LineRoute_1.f (a0 : Int) (a1 : Int) : Option (List Int) := if a0 = 0 then (some (([1] : List Int))) else (if a0 = (wrap64 (a1 - 1)) then (some (([wrap64 (a0 - 1)] : List Int))) else (some (([wrap64 (a0 - 1), wrap64 (a0 + 1)] : List Int))))
set_option maxHeartbeats 8000000 in
set_option maxRecDepth 100000 in
theorem impl_LineRoute_1.calls (a0 : Int) (a1 : Int) (r : List Int) (B_ : Nat) (w : World) (hcap : w.cell? ⟨B_, 0, none⟩ = some (.int .i64 a1)) (h : impl_LineRoute_1.f a0 a1 = some r) :
    Calls Try.prog 58 #[.int .i64 a0, .pointer (some ⟨B_, 0, none⟩)] w fun e w' => ∃ v0_ : Value, e = .returned (v0_) ∧ Kd.R (Kd.int .i64) 3 w' w.heap.size (fun _ => True) v0_ r ∧ Below w.heap.size w w' := by
  have HB := Aside0.mk (Below.refl w.heap.size w)
  have H : (if a0 = 0 then (some (([1] : List Int))) else (if a0 = (wrap64 (a1 - 1)) then (some (([wrap64 (a0 - 1)] : List Int))) else (some (([wrap64 (a0 - 1), wrap64 (a0 + 1)] : List Int))))) = some r := h
  clear h
  by_cases c3 : a0 = 0
  · rw [if_pos c3] at H
    have c3b0 : (a0 == 0) = true := beq_iff_eq.mpr c3
    have c3b1 : (a0 != 0) = false := bne_eq_false_iff_eq.mpr c3
    clear c3
    obtain ⟨y141, hy141⟩ : ∃ y_ : List Int, y_ = (([1] : List Int)) := ⟨_, rfl⟩
    replace H : (some y141) = some r := by first | (rw [hy141]; with_reducible exact H) | (have H2_ := (Option.bind_some _ _).symm.trans H; rw [hy141]; with_reducible exact H2_) | (have H2_ := (Option.bind_some _ _).symm.trans H; with_reducible exact H2_) | with_reducible exact H | (rw [hy141]; exact H) | exact H
    have Ny141 := Aside0.mk hy141
    clear hy141
    obtain rfl := Option.some.inj H
    go_enter Try.func58, Try.ntmps58
    go_wp2_with (first | ((with_reducible refine gate_dst (N := 7) rfl ?_); refine Kd.R_lit (Kd.int .i64) _ 3 ?hg (N := 7) ?hd (xs := ([1] : List Int)) (inner := [.int .i64 1]) (ok := fun _ => True) (okp := fun _ => True) ?hr ?hp (fun _ hk => hk) trivial (Below.refl _ _) (Nat.le_refl _) (by simp) ?_; (case hd => rfl); (case hg => rfl); (case hr => first | (go_simp; done) | (go_simp; rfl)); (case hp => exact (Reps.one (show Kd.M (Kd.int .i64) _ _ _ 1 [.int .i64 1] from rfl) (Reps.none _ _))); intro v142 w4 ho5 hb hg_ hnew_; clear hg_ hnew_; (first | rw [← Ny141.out] at ho5 | (simp only [Int.reduceToNat] at ho5; rw [← Ny141.out] at ho5)); have n0_ := Aside0.mk (Kd.R_lower ho5 (below_size (XSq.bB HB))); have n1_ := Aside0.mk (below_step (XSq.bB HB) hb); clear HB; have HO143 := n0_; have HB := n1_; clear n0_ n1_; clear hb ho5))
    go_ret
    exact ⟨_, by first | rfl | (simp [errW_none, errW_some] <;> rfl) | (simp [*, errW_none, errW_some] <;> rfl), by (with_reducible repeat (first | apply Kd.R_alloc | apply Kd.R_drewN | apply Kd.R_drew)); exact HO143.out, by repeat (first | (with_reducible first | exact HB.out | apply below_alloc | apply pw_below_drewN | apply below_drew1) | exact HB.out)⟩
  · rw [if_neg c3] at H
    have c3b0 : (a0 == 0) = false := beq_eq_false_iff_ne.mpr c3
    have c3b1 : (a0 != 0) = true := bne_iff_ne.mpr c3
    by_cases c6 : a0 = (wrap64 (a1 - 1))
    · rw [if_pos c6] at H
      have c6b0 : (a0 == (wrap64 (a1 - 1))) = true := beq_iff_eq.mpr c6
      have c6b1 : (a0 != (wrap64 (a1 - 1))) = false := bne_eq_false_iff_eq.mpr c6
      clear c6
      obtain ⟨y144, hy144⟩ : ∃ y_ : List Int, y_ = (([wrap64 (a0 - 1)] : List Int)) := ⟨_, rfl⟩
      replace H : (some y144) = some r := by first | (rw [hy144]; with_reducible exact H) | (have H2_ := (Option.bind_some _ _).symm.trans H; rw [hy144]; with_reducible exact H2_) | (have H2_ := (Option.bind_some _ _).symm.trans H; with_reducible exact H2_) | with_reducible exact H | (rw [hy144]; exact H) | exact H
      have Ny144 := Aside0.mk hy144
      clear hy144
      obtain rfl := Option.some.inj H
      go_enter Try.func58, Try.ntmps58
      go_wp2_with (first | ((with_reducible refine gate_dst (N := 14) rfl ?_); refine Kd.R_lit (Kd.int .i64) _ 3 ?hg (N := 14) ?hd (xs := ([wrap64 (a0 - 1)] : List Int)) (inner := [.int .i64 (wrap64 (a0 - 1))]) (ok := fun _ => True) (okp := fun _ => True) ?hr ?hp (fun _ hk => hk) trivial (Below.refl _ _) (Nat.le_refl _) (by simp) ?_; (case hd => rfl); (case hg => rfl); (case hr => first | (go_simp; done) | (go_simp; rfl)); (case hp => exact (Reps.one (show Kd.M (Kd.int .i64) _ _ _ (wrap64 (a0 - 1)) [.int .i64 (wrap64 (a0 - 1))] from rfl) (Reps.none _ _))); intro v145 w7 ho8 hb hg_ hnew_; clear hg_ hnew_; (first | rw [← Ny144.out] at ho8 | (simp only [Int.reduceToNat] at ho8; rw [← Ny144.out] at ho8)); have n0_ := Aside0.mk (Kd.R_lower ho8 (below_size (XSq.bB HB))); have n1_ := Aside0.mk (below_step (XSq.bB HB) hb); clear HB; have HO146 := n0_; have HB := n1_; clear n0_ n1_; clear hb ho8))
      go_ret
      exact ⟨_, by first | rfl | (simp [errW_none, errW_some] <;> rfl) | (simp [*, errW_none, errW_some] <;> rfl), by (with_reducible repeat (first | apply Kd.R_alloc | apply Kd.R_drewN | apply Kd.R_drew)); exact HO146.out, by repeat (first | (with_reducible first | exact HB.out | apply below_alloc | apply pw_below_drewN | apply below_drew1) | exact HB.out)⟩
    · rw [if_neg c6] at H
      have c6b0 : (a0 == (wrap64 (a1 - 1))) = false := beq_eq_false_iff_ne.mpr c6
      have c6b1 : (a0 != (wrap64 (a1 - 1))) = true := bne_iff_ne.mpr c6
      obtain ⟨y147, hy147⟩ : ∃ y_ : List Int, y_ = (([wrap64 (a0 - 1), wrap64 (a0 + 1)] : List Int)) := ⟨_, rfl⟩
      replace H : (some y147) = some r := by first | (rw [hy147]; with_reducible exact H) | (have H2_ := (Option.bind_some _ _).symm.trans H; rw [hy147]; with_reducible exact H2_) | (have H2_ := (Option.bind_some _ _).symm.trans H; with_reducible exact H2_) | with_reducible exact H | (rw [hy147]; exact H) | exact H
      have Ny147 := Aside0.mk hy147
      clear hy147
      obtain rfl := Option.some.inj H
      go_enter Try.func58, Try.ntmps58
      go_wp2_with (first | ((with_reducible refine gate_dst (N := 19) rfl ?_); refine Kd.R_lit (Kd.int .i64) _ 3 ?hg (N := 19) ?hd (xs := ([wrap64 (a0 - 1), wrap64 (a0 + 1)] : List Int)) (inner := [.int .i64 (wrap64 (a0 - 1)), .int .i64 (wrap64 (a0 + 1))]) (ok := fun _ => True) (okp := fun _ => True) ?hr ?hp (fun _ hk => hk) trivial (Below.refl _ _) (Nat.le_refl _) (by simp) ?_; (case hd => rfl); (case hg => rfl); (case hr => first | (go_simp; done) | (go_simp; rfl)); (case hp => exact (Reps.one (show Kd.M (Kd.int .i64) _ _ _ (wrap64 (a0 - 1)) [.int .i64 (wrap64 (a0 - 1))] from rfl) (Reps.one (show Kd.M (Kd.int .i64) _ _ _ (wrap64 (a0 + 1)) [.int .i64 (wrap64 (a0 + 1))] from rfl) (Reps.none _ _)))); intro v148 w9 ho10 hb hg_ hnew_; clear hg_ hnew_; (first | rw [← Ny147.out] at ho10 | (simp only [Int.reduceToNat] at ho10; rw [← Ny147.out] at ho10)); have n0_ := Aside0.mk (Kd.R_lower ho10 (below_size (XSq.bB HB))); have n1_ := Aside0.mk (below_step (XSq.bB HB) hb); clear HB; have HO149 := n0_; have HB := n1_; clear n0_ n1_; clear hb ho10))
      go_ret
      exact ⟨_, by first | rfl | (simp [errW_none, errW_some] <;> rfl) | (simp [*, errW_none, errW_some] <;> rfl), by (with_reducible repeat (first | apply Kd.R_alloc | apply Kd.R_drewN | apply Kd.R_drew)); exact HO149.out, by repeat (first | (with_reducible first | exact HB.out | apply below_alloc | apply pw_below_drewN | apply below_drew1) | exact HB.out)⟩

/-! ### impl_routeOf: function 56 -/
def impl_routeOf.l0 : Nat → Int → Int → Int → List (List Int) → List Int → Option ((List (List Int)) × List Int)
  | 0, _, _, _, _, _ => none
  | k + 1, x1, x10, x11, x155000, x155001 => if x11 < x10 then ((impl_LineRoute_1.f x11 x1).bind fun t155 => (if x155000.length < 5864062014805 then (impl_routeOf.l0 k x1 x10 (wrap64 (x11 + 1)) (x155000 ++ [t155]) x155001) else (none))) else (some (x155000, x155001))
def impl_routeOf.f (k : Nat) (a0 : Int) (a1 : Int) : Option ((List (List Int)) × List Int) := if 0 ≤ a0 then (if (a0 : Int).toNat ≤ 35184372088832 then (impl_routeOf.l0 k a1 a0 0 ([] : List (List Int)) (List.replicate (a0 : Int).toNat 0)) else (none)) else (none)
theorem impl_routeOf.mono_l : ∀ k, (∀ y0 y1 y2 y3 y4, LeO (impl_routeOf.l0 k y0 y1 y2 y3 y4) (impl_routeOf.l0 (k + 1) y0 y1 y2 y3 y4))
  | 0 => fun _ _ _ _ _ r h => by simp [impl_routeOf.l0] at h
  | k + 1 => by
    have ih0 := impl_routeOf.mono_l k
    · intro y0 y1 y2 y3 y4
      unfold impl_routeOf.l0
      repeat' first
      | (with_reducible exact ih0 _ _ _ _ _)
      | (with_reducible exact LeO.refl _)
      | (with_reducible exact LeO.none _)
      | (with_reducible refine LeO.ite ?_ ?_)
      | (with_reducible refine LeO.bind ?_ (fun _ => ?_))
      | exact ih0 _ _ _ _ _
      | exact LeO.none _
      | refine LeO.ite ?_ ?_
      | refine LeO.bind ?_ (fun _ => ?_)
theorem impl_routeOf.mono : ∀ a0 a1 k, LeO (impl_routeOf.f k a0 a1) (impl_routeOf.f (k + 1) a0 a1) := by
  intro a0 a1 k
  have ih0 := impl_routeOf.mono_l k
  unfold impl_routeOf.f
  repeat' first
      | (with_reducible exact ih0 _ _ _ _ _)
      | (with_reducible exact LeO.refl _)
      | (with_reducible exact LeO.none _)
      | (with_reducible refine LeO.ite ?_ ?_)
      | (with_reducible refine LeO.bind ?_ (fun _ => ?_))
      | exact ih0 _ _ _ _ _
      | exact LeO.none _
      | refine LeO.ite ?_ ?_
      | refine LeO.bind ?_ (fun _ => ?_)
def impl_routeOf.T5 : Bool × List (List Nat × List Nat) := (true, [([], []), ([0], [0]), ([], []), ([], []), ([2, 3], [2, 3]), ([4], [4]), ([1, 5, 4], [1, 5]), ([0, 1, 2, 3, 4, 5, 6], []), ([7, 6, 6, 0, 1, 2, 3, 4, 5, 6], [6, 7])])
def impl_routeOf.B5 : List Nat := [0, 1, 0, 0, 12, 28, 63, 127, 255]
theorem impl_routeOf.tab5 : rtab .any (opsOf Try.f56 5) = impl_routeOf.T5 := by kernel_rfl
theorem impl_routeOf.bits5 : waitsOk impl_routeOf.T5.2 impl_routeOf.B5 = true := by kernel_rfl
set_option maxHeartbeats 8000000 in
set_option maxRecDepth 100000 in
theorem impl_routeOf.calls (k : Nat) (a0 : Int) (a1 : Int) (r1 : List (List Int)) (r2 : List Int) (B_ : Nat) (w : World) (hcap : w.cell? ⟨B_, 0, none⟩ = some (.int .i64 a1)) (h : impl_routeOf.f k a0 a1 = some (r1, r2)) :
    Calls Try.prog 56 #[.int .i64 a0, .func (.func 58) #[] #[.pointer (some ⟨B_, 0, none⟩)]] w fun e w' => ∃ v0_ v1_ : Value, e = .returned (.agg #[v0_, v1_]) ∧ Kd.S (Kd.slice 3 (Kd.int .i64)) 23 w' w.heap.size (fun k_ => some k_ ≠ (v1_ : Value).ownBlock) v0_ r1 ∧ Kd.R (Kd.int .i64) 3 w' w.heap.size (fun _ => True) v1_ r2 ∧ Below w.heap.size w w' := by
  have hu28 := Try.underlying28
  have HB := Aside0.mk (Below.refl w.heap.size w)
  have H : (if 0 ≤ a0 then (if (a0 : Int).toNat ≤ 35184372088832 then (impl_routeOf.l0 k a1 a0 0 ([] : List (List Int)) (List.replicate (a0 : Int).toNat 0)) else (none)) else (none)) = some (r1, r2) := h
  clear h
  by_cases c3 : 0 ≤ a0
  · rw [if_pos c3] at H
    have c3b0 := eq_true c3
    have c3b1 : decide (0 ≤ a0) = true := decide_eq_true c3
    clear c3
    by_cases c4 : (a0 : Int).toNat ≤ 35184372088832
    · rw [if_pos c4] at H
      have c4b0 := eq_true c4
      have c4b1 : decide ((a0 : Int).toNat ≤ 35184372088832) = true := decide_eq_true c4
      clear c4
      obtain ⟨y151, hy151⟩ : ∃ y_ : List Int, y_ = (List.replicate (a0 : Int).toNat 0) := ⟨_, rfl⟩
      replace H : (impl_routeOf.l0 k a1 a0 0 ([] : List (List Int)) y151) = some (r1, r2) := by first | (rw [hy151]; with_reducible exact H) | (have H2_ := (Option.bind_some _ _).symm.trans H; rw [hy151]; with_reducible exact H2_) | (have H2_ := (Option.bind_some _ _).symm.trans H; with_reducible exact H2_) | with_reducible exact H | (rw [hy151]; exact H) | exact H
      have Ny151 := Aside0.mk hy151
      clear hy151
      have H' := Aside0.mk H
      clear H
      go_enter Try.func56, Try.ntmps56
      go_wp2_with (first | ((with_reducible refine gate_dst (N := 4) rfl ?_); refine box_event ?hg (N := 4) ?hd (cs := #[.slice none 0 0, .slice none 0 0]) (t := 28) ?hr ?_; (case hd => rfl); (case hg => rfl); (case hr => first | (go_simp; done) | (go_simp; rfl)); intro gb150 hg w5 hbox hb; have n0_ := Aside0.mk (below_step (XSq.bB HB) hb); have n1_ := Aside0.mk (hbox); have n2_ := Aside0.mk ((by rw [hg]; exact (below_size (XSq.bB HB)) : w.heap.size ≤ gb150)); have n3_ := Aside0.mk ((by rw [hg]; exact (below_size (XSq.bB HB)) : w.heap.size ≤ gb150)); clear HB; have HB := n0_; have BK150 := n1_; have GW150 := n2_; have GE150 := n3_; clear n0_ n1_ n2_ n3_; clear hb hbox hg) | ((with_reducible refine gate_dst (N := 8) rfl ?_); refine Kd.R_make (Kd.int .i64) _ 3 rfl (N := 8) rfl 23 _ _ rfl a0 rfl rfl Try.underlying23 (.int .i64 0) 8 info3 rfl (by decide) (by omega) 0 (ok := fun _ => True) (okp := fun _ => True) rfl (fun _ hk => hk) trivial (of_decide_eq_true (by first | (with_reducible assumption) | assumption)) (Nat.le_trans (Nat.mul_le_mul_right _ (of_decide_eq_true (by first | (with_reducible assumption) | assumption) : a0.toNat ≤ 35184372088832)) (by omega)) (Below.refl _ _) (Nat.le_refl _) ?_; intro v152 w6 ho7 hb hg_ hnew_; clear hg_ hnew_; (first | rw [← Ny151.out] at ho7 | (simp only [Int.reduceToNat] at ho7; rw [← Ny151.out] at ho7)); have n0_ := Aside0.mk (Kd.R_lower ho7 (below_size (XSq.bB HB))); have n1_ := Aside0.mk (blk_below (g := gb150) (o := .cells #[.slice none 0 0, .slice none 0 0] 28 (0, 0)) (XSq.bq BK150) hb); have n2_ := Aside0.mk (below_step (XSq.bB HB) hb); clear BK150; clear HB; have HO153 := n0_; have BK150 := n1_; have HB := n2_; clear n0_ n1_ n2_; clear hb ho7; obtain ⟨Ao8, co8, eo8⟩ := Kd.R_slice HO153.out; subst eo8) | ((with_reducible refine gate_dst (N := 5) rfl ?_); refine box_event ?hg (N := 5) ?hd (cs := #[.slice none 0 0, .slice none 0 0]) (t := 28) ?hr ?_; (case hd => rfl); (case hg => rfl); (case hr => first | (go_simp; done) | (go_simp; rfl)); intro gb154 hg w9 hbox hb; have n0_ := Aside0.mk (Kd.R_below (by (with_reducible repeat (first | apply Kd.R_alloc | apply Kd.R_drewN | apply Kd.R_drew)); exact HO153.out) hb); have n1_ := Aside0.mk (blk_below (g := gb150) (o := .cells #[.slice none 0 0, .slice none 0 0] 28 (0, 0)) (XSq.bq BK150) hb); have n2_ := Aside0.mk (below_step (XSq.bB HB) hb); have n3_ := Aside0.mk (hbox); have n4_ := Aside0.mk ((by rw [hg]; exact (below_size (XSq.bB HB)) : w.heap.size ≤ gb154)); have n5_ := Aside0.mk ((by rw [hg]; exact (below_size (XSq.bB HB)) : w.heap.size ≤ gb154)); have n6_ := Aside0.mk ((by rw [hg]; exact Nat.ne_of_lt (blk_lt (g := gb150) (o := .cells #[.slice none 0 0, .slice none 0 0] 28 (0, 0)) (XSq.bq BK150)) : gb150 ≠ gb154)); have n7_ := Aside0.mk ((by rw [hg]; exact Nat.ne_of_gt (blk_lt (g := gb150) (o := .cells #[.slice none 0 0, .slice none 0 0] 28 (0, 0)) (XSq.bq BK150)) : gb154 ≠ gb150)); clear HO153; clear BK150; clear HB; have HO153 := n0_; have BK150 := n1_; have HB := n2_; have BK154 := n3_; have GW154 := n4_; have GE154 := n5_; have NB150_154 := n6_; have NB154_150 := n7_; clear n0_ n1_ n2_ n3_ n4_ n5_ n6_ n7_; clear hb hbox hg; have hnb10 := NB154_150.out; have hnc10 := NB150_154.out; have hcz11_0 : w9.cell? ⟨gb154, 0, none⟩ = some (.slice none 0 0) := (blk_cell BK154.out 0).trans rfl; have hcz11_1 : w9.cell? ⟨gb154, 1, none⟩ = some (.slice none 0 0) := (blk_cell BK154.out 1).trans rfl; have hfz11_0 := blk_frozen BK154.out 0; have hfz11_1 := blk_frozen BK154.out 1))
      go_loopg [11] k (fun kq v11 w' => ∃ (x11_1 : Int) (x155000_1 : List (List Int)) (u155000 : Value), v11 = .int .i64 x11_1 ∧ Aside0 (impl_routeOf.l0 kq a1 a0 x11_1 x155000_1 y151 = some (r1, r2)) ∧ Aside0 (kq ≤ k) ∧ Aside0 (Kd.S (Kd.slice 3 (Kd.int .i64)) 23 w' w.heap.size (fun k_ => some k_ ≠ ((.slice Ao8 y151.length co8) : Value).ownBlock) u155000 x155000_1) ∧ Aside0 (Kd.R (Kd.int .i64) 3 w' w.heap.size (fun _ => True) (.slice Ao8 y151.length co8) y151) ∧ Aside0 (w'.heap[gb150]? = some (.cells #[(.slice none 0 0), (.slice none 0 0)] 28 (0, 0))) ∧ Aside0 (w'.heap[gb154]? = some (.cells #[u155000, (.slice Ao8 y151.length co8)] 28 (0, 0))) ∧ Aside0 (Below w.heap.size w w'))
      case atStart => exact ⟨(0), (([] : List (List Int))), (.slice none 0 0), (by first | rfl | (simp; done) | (simp [*]; done)), H', ⟨Nat.le_refl _⟩, ⟨by first | exact Kd.S_nil _ _ _ _ _ | exact Kd.N_nil _ _ _ _ _ | exact Kd.V_nil _ _ _ _ _ | exact Kd.Q_nil _ _ _ _ _ | exact Kd.R_nil _ _ _ _ _⟩, ⟨by (with_reducible repeat (first | apply Kd.R_alloc | apply Kd.R_drewN | apply Kd.R_drew)); exact Kd.R_mono (Kd.R_far (p := ⟨gb154, 1, none⟩) (Kd.R_far (p := ⟨gb154, 0, none⟩) (Kd.R_types HO153.out BK154.out (by decide)) (fun _ hk => hk.2) (.slice none 0 0)) (fun _ hk => hk.2) (.slice Ao8 y151.length co8)) (fun _ hk => trivial)⟩, ⟨by (with_reducible repeat (first | refine blk_drewN ?_ _ | refine blk_drew ?_ | refine blk_alloc ?_ _)); refine blk_far ?_ NB150_154.out _; (with_reducible repeat (first | refine blk_drewN ?_ _ | refine blk_drew ?_ | refine blk_alloc ?_ _)); refine blk_far ?_ NB150_154.out _; (with_reducible repeat (first | refine blk_drewN ?_ _ | refine blk_drew ?_ | refine blk_alloc ?_ _)); exact BK150.out⟩, ⟨by (with_reducible repeat (first | refine blk_drewN ?_ _ | refine blk_drew ?_ | refine blk_alloc ?_ _)); refine blk_put (cs := #[.slice none 0 0, .slice none 0 0]) ?_ 1 _ rfl; (with_reducible repeat (first | refine blk_drewN ?_ _ | refine blk_drew ?_ | refine blk_alloc ?_ _)); refine blk_put (cs := #[.slice none 0 0, .slice none 0 0]) ?_ 0 _ rfl; (with_reducible repeat (first | refine blk_drewN ?_ _ | refine blk_drew ?_ | refine blk_alloc ?_ _)); exact BK154.out⟩, ⟨by repeat (first | (with_reducible first | exact HB.out | apply below_alloc | apply pw_below_drewN | apply below_drew1 | refine below_set ?_ GE150.out | refine below_set ?_ GE154.out) | exact HB.out)⟩⟩
      case round =>
        clear H'
        try clear c1
        try clear p2
        try clear c3
        try clear c3b0
        try clear c3b1
        try clear c4
        try clear c4b0
        try clear c4b1
        try clear c5
        try clear c10
        try clear hcz11_0
        try clear hcz11_1
        try clear hfz11_0
        try clear hfz11_1
        obtain ⟨x11_1, x155000_1, u155000, rfl, HA, HK1, HO_155000, HO_155001, BK150, BK154, HB⟩ := hrel
        cases gk with
        | zero => exact absurd HA.out (by simp [impl_routeOf.l0])
        | succ k1 =>
          have H := HA.out
          clear HA
          simp only [impl_routeOf.l0] at H
          by_cases c12 : x11_1 < a0
          · rw [if_pos c12] at H
            have c12b0 : decide (x11_1 < a0) = true := decide_eq_true c12
            clear c12
            replace H := Option.bind_eq_some_iff.mp H
            obtain ⟨t155, A130, H⟩ := H
            replace H : (if x155000_1.length < 5864062014805 then (impl_routeOf.l0 k1 a1 a0 (wrap64 (x11_1 + 1)) (x155000_1 ++ [t155]) y151) else (none)) = some (r1, r2) := H
            have A13 := Aside0.mk A130
            clear A130
            by_cases c14 : x155000_1.length < 5864062014805
            · rw [if_pos c14] at H
              have LMc14 := Aside0.mk c14
              clear c14
              obtain ⟨y158, hy158⟩ : ∃ y_ : List (List Int), y_ = (x155000_1 ++ [t155]) := ⟨_, rfl⟩
              replace H : (impl_routeOf.l0 k1 a1 a0 (wrap64 (x11_1 + 1)) y158 y151) = some (r1, r2) := by first | (rw [hy158]; with_reducible exact H) | (have H2_ := (Option.bind_some _ _).symm.trans H; rw [hy158]; with_reducible exact H2_) | (have H2_ := (Option.bind_some _ _).symm.trans H; with_reducible exact H2_) | with_reducible exact H | (rw [hy158]; exact H) | exact H
              have Ny158 := Aside0.mk hy158
              clear hy158
              have H' := Aside0.mk H
              clear H
              try go_wp2
              have n0_ := Aside0.mk (Kd.S_drew HO_155000.out)
              have n1_ := Aside0.mk (Kd.R_drew HO_155001.out)
              have n2_ := Aside0.mk (blk_drew BK150.out)
              have n3_ := Aside0.mk (blk_drew BK154.out)
              have n4_ := Aside0.mk (below_drew1 HB.out)
              clear HO_155000
              clear HO_155001
              clear BK150
              clear BK154
              clear HB
              have HO_155000 := n0_
              have HO_155001 := n1_
              have BK150 := n2_
              have BK154 := n3_
              have HB := n4_
              clear n0_ n1_ n2_ n3_ n4_
              refine start_ (n := 9) (S := fun w' => w'.cell? ⟨gb154, 0, none⟩ = some (u155000) ∧ w'.cell? ⟨gb154, 1, none⟩ = some (.slice Ao8 y151.length co8)) (ds := [8]) #[false, false, false, false, false, false, false, false, false] (by kernel_rfl) rfl rfl ⟨(blk_cell BK154.out 0).trans rfl, (blk_cell BK154.out 1).trans rfl⟩ (fun hHeld => ?_); refine with_tabW impl_routeOf.tab5 impl_routeOf.bits5 (fun HT_ HW_ => ?_)
              generalize wr.drew = w15 at HO_155000 HO_155001 BK150 BK154 HB hHeld ⊢
              refine pure_ (i := 0) (N := some 14) (v := ?_) (a' := ?_) #[true, false, false, false, false, false, false, false, false] rfl rfl (any_of HT_.out (by kernel_rfl)) (fun _ _ _ h => h) (Or.inl ⟨by rfl, ?_⟩) ?_ ?_
              rotate_left
              · intro w'
                go_simp
                with_reducible rfl
              rotate_left
              · simp only [Act.put, List.setIfInBounds_toArray, List.set_cons_zero, List.set_cons_succ, i64_w, i32_w]
                rfl
              refine pure_ (i := 2) (N := some 16) (v := ?_) (a' := ?_) #[true, false, true, false, false, false, false, false, false] rfl rfl (any_of HT_.out (by kernel_rfl)) (fun _ _ _ h => h) (Or.inl ⟨by rfl, ?_⟩) ?_ ?_
              rotate_left
              · intro w'
                go_simp
                with_reducible rfl
              rotate_left
              · simp only [Act.put, List.setIfInBounds_toArray, List.set_cons_zero, List.set_cons_succ, i64_w, i32_w]
                rfl
              refine pure_ (i := 3) (N := some 17) (v := ?_) (a' := ?_) #[true, false, true, true, false, false, false, false, false] rfl rfl (any_of HT_.out (by kernel_rfl)) (fun _ _ _ h => h) (Or.inl ⟨by rfl, ?_⟩) ?_ ?_
              rotate_left
              · intro w'
                go_simp
                with_reducible rfl
              rotate_left
              · simp only [Act.put, List.setIfInBounds_toArray, List.set_cons_zero, List.set_cons_succ, i64_w, i32_w]
                rfl
              refine take_ (i := 1) (N := some 15) (v := ?_) (a' := ?_) #[true, true, true, true, false, false, false, false, false] rfl rfl (take_ofW HT_.out HW_.out (by kernel_rfl)) (fun _ _ _ h => h) (Or.inl ⟨by rfl, ?_⟩) hHeld ?_ ?_
              rotate_left
              · rintro w' ⟨s0, s1⟩
                go_simp
                with_reducible rfl
              rotate_left
              · simp only [Act.put, List.setIfInBounds_toArray, List.set_cons_zero, List.set_cons_succ, i64_w, i32_w]
                rfl
              refine one_ (i := 4) (N := some 18) #[true, true, true, true, true, false, false, false, false] rfl rfl (one_of HT_.out (by kernel_rfl)) (by decide) (fun K hK => ?_)
              refine XRing.goesV_ Try.func58 (by kernel_rfl) rfl #[.int .i64 x11_1] (by rfl) rfl rfl rfl (by (try simp only [List.map_toArray, List.map_cons, List.map_nil]); first | done | rfl | (simp only [List.length_drop, List.length_take]; rfl)) ?_
              show Calls _ _ #[.int .i64 x11_1, .pointer (some ⟨B_, 0, none⟩)] _ _
              with_reducible refine (impl_LineRoute_1.calls x11_1 a1 t155 B_ _ (XRing.cell_now HB hcap) A13.out).mono ?_
              rintro e w16 ⟨v156, rfl, ho0, hb⟩
              refine ⟨_, rfl, ?_⟩
              have n0_ := Aside0.mk (Kd.S_elder' (by (with_reducible repeat (first | apply Kd.S_alloc | apply Kd.S_drewN | apply Kd.S_drew)); exact HO_155000.out) (Kd.R_base ho0) hb)
              have n1_ := Aside0.mk (Kd.R_elder' (by (with_reducible repeat (first | apply Kd.R_alloc | apply Kd.R_drewN | apply Kd.R_drew)); exact HO_155001.out) (Kd.R_base ho0) hb)
              have n2_ := Aside0.mk (Kd.R_lower (Kd.R_new' ho0 (Kd.R_lt (by (with_reducible repeat (first | apply Kd.R_alloc | apply Kd.R_drewN | apply Kd.R_drew)); exact HO_155001.out))) (below_size (XSq.bB HB)))
              have n3_ := Aside0.mk (blk_below (g := gb150) (o := .cells #[.slice none 0 0, .slice none 0 0] 28 (0, 0)) (XSq.bq BK150) hb)
              have n4_ := Aside0.mk (blk_below (g := gb154) (o := .cells #[u155000, .slice Ao8 y151.length co8] 28 (0, 0)) (XSq.bq BK154) hb)
              have n5_ := Aside0.mk (below_step (XSq.bB HB) hb)
              clear HO_155000
              clear HO_155001
              clear BK150
              clear BK154
              clear HB
              have HO_155000 := n0_
              have HO_155001 := n1_
              have HO157 := n2_
              have BK150 := n3_
              have BK154 := n4_
              have HB := n5_
              clear n0_ n1_ n2_ n3_ n4_ n5_
              (try clear hb)
              (try clear hb2)
              (try clear hk)
              (try clear hi)
              (try clear ho0)
              obtain ⟨Ao18, co18, eo18⟩ := Kd.R_slice HO157.out
              (first | subst eo18 | (injection eo18 with f1_ f2_ f3_; have f4_ := f1_.symm; have f5_ := f3_.symm; clear f1_ f2_ f3_; subst f4_; subst f5_))
              refine hK.out _ _ ⟨(blk_cell BK154.out 0).trans rfl, (blk_cell BK154.out 1).trans rfl⟩ (fun hHeld => ?_)
              clear hK K
              refine norm_ (a' := ?_) ?_ ?_
              rotate_left
              · show Act.put _ (some 18) _ = _
                simp only [Act.put, List.setIfInBounds_toArray, List.set_cons_zero, List.set_cons_succ, i64_w, i32_w]
                rfl
              refine one_ (i := 5) (N := some 19) #[true, true, true, true, true, true, false, false, false] rfl rfl (one_of HT_.out (by kernel_rfl)) (by decide) (fun K hK => ?_)
              refine value_ (w1 := ?_) (v := ?_) (by rfl) rfl ?_ ?_
              rotate_left 2
              · go_simp
                constructor
                · rfl
                · rfl
              refine hK.out _ _ ⟨(blk_cell (blk_alloc BK154.out _) 0).trans rfl, (blk_cell (blk_alloc BK154.out _) 1).trans rfl⟩ (fun hHeld => ?_)
              clear hK K
              refine norm_ (a' := ?_) ?_ ?_
              rotate_left
              · show Act.put _ (some 19) _ = _
                simp only [Act.put, List.setIfInBounds_toArray, List.set_cons_zero, List.set_cons_succ, i64_w, i32_w]
                rfl
              refine one_ (i := 6) (N := some 20) #[true, true, true, true, true, true, true, false, false] rfl rfl (one_of HT_.out (by kernel_rfl)) (by decide) (fun K hK => ?_)
              refine Kd.S_append_step (Kd.slice 3 (Kd.int .i64)) (w0 := w) w.heap.size (by rfl) (.tmp 15) (.tmp 19) 22 23 (.slice none 0 0) 24 rfl Try.underlying22 info23 rfl (by decide) (by omega) u155000 x155000_1 t155 [.slice Ao18 t155.length co18] (fun k_ => some k_ ≠ (.slice Ao8 y151.length co8 : Value).ownBlock) (fun k_ => some k_ = (.slice Ao18 t155.length co18 : Value).ownBlock) rfl rfl ?aP (fun k_ hk_ => ((Kd.R_mono (ok' := fun k_ => ((fun k_ => some k_ ≠ (.slice Ao8 y151.length co8 : Value).ownBlock)) k_ ∧ some k_ ≠ (u155000 : Value).ownBlock) (Kd.R_apart' (HO157.out) (Kd.S_typed HO_155000.out) (by decide)) (fun k_ hk => ⟨hk.1.2, hk.2⟩))).1 k_ hk_.symm) ?aF ?aO ?aB ?aS ?aL ?_
              (case aP => exact Kd.M_row (Kd.R_mono (Kd.R_tight rfl (Kd.R_mono (ok' := fun k_ => ((fun k_ => some k_ ≠ (.slice Ao8 y151.length co8 : Value).ownBlock)) k_ ∧ some k_ ≠ (u155000 : Value).ownBlock) (Kd.R_apart' (HO157.out) (Kd.S_typed HO_155000.out) (by decide)) (fun k_ hk => ⟨hk.1.2, hk.2⟩))) (fun _ h_ => h_)))
              (case aB => exact (XSq.bB HB))
              (case aF => exact (fun k_ hk => Kd.fresh' (Kd.R_lt (by (with_reducible repeat (first | apply Kd.R_alloc | apply Kd.R_drewN | apply Kd.R_drew)); exact HO_155001.out)) k_ hk))
              (case aO => exact (by (with_reducible repeat (first | apply Kd.S_alloc | apply Kd.S_drewN | apply Kd.S_drew)); exact Kd.S_mono HO_155000.out (fun k_ hk => ⟨hk.1, fun e_ => hk.2 e_⟩)))
              (case aS => exact (below_size (XSq.bB HB)))
              (case aL => have := LMc14.out; omega)
              intro v159 w17 ho hb hg hat
              rw [← Ny158.out] at ho
              have n0_ := Aside0.mk (Kd.R_over' (by (with_reducible repeat (first | apply Kd.R_alloc | apply Kd.R_drewN | apply Kd.R_drew)); exact HO_155001.out) (Kd.S_typed (by (with_reducible repeat (first | apply Kd.S_alloc | apply Kd.S_drewN | apply Kd.S_drew)); exact HO_155000.out)) (by decide) hg)
              have n1_ := Aside0.mk (blk_grown (g := gb150) (o := .cells #[.slice none 0 0, .slice none 0 0] 28 (0, 0)) (XSq.bq BK150) hg (Kd.S_ne HO_155000.out BK150.out (by decide)))
              have n2_ := Aside0.mk (blk_grown (g := gb154) (o := .cells #[u155000, .slice Ao8 y151.length co8] 28 (0, 0)) (XSq.bq BK154) hg (Kd.S_ne HO_155000.out BK154.out (by decide)))
              have n3_ := Aside0.mk (hb)
              have n4_ := Aside0.mk (ho)
              clear HO_155001
              clear BK150
              clear BK154
              clear HB
              clear HO_155000
              clear HO157
              have HO_155001 := n0_
              have BK150 := n1_
              have BK154 := n2_
              have HB := n3_
              have HO160 := n4_
              clear n0_ n1_ n2_ n3_ n4_
              clear ho hb hg hat
              obtain ⟨Ao19, co19, eo19⟩ := Kd.S_slice HO160.out
              (first | subst eo19 | (injection eo19 with f1_ f2_ f3_; have f4_ := f1_.symm; have f5_ := f3_.symm; clear f1_ f2_ f3_; subst f4_; subst f5_))
              refine hK.out _ _ ⟨(blk_cell BK154.out 0).trans rfl, (blk_cell BK154.out 1).trans rfl⟩ (fun hHeld => ?_)
              clear hK K
              refine norm_ (a' := ?_) ?_ ?_
              rotate_left
              · show Act.put _ (some 20) _ = _
                simp only [Act.put, List.setIfInBounds_toArray, List.set_cons_zero, List.set_cons_succ, i64_w, i32_w]
                rfl
              refine pure_ (i := 7) (N := some 21) (v := ?_) (a' := ?_) #[true, true, true, true, true, true, true, true, false] rfl rfl (any_of HT_.out (by kernel_rfl)) (fun _ _ _ h => h) (Or.inl ⟨by rfl, ?_⟩) ?_ ?_
              rotate_left
              · intro w'
                go_simp
                with_reducible rfl
              rotate_left
              · simp only [Act.put, List.setIfInBounds_toArray, List.set_cons_zero, List.set_cons_succ, i64_w, i32_w]
                rfl
              refine last_ (i := 8) (N := none) #[true, true, true, true, true, true, true, true, true] rfl rfl (one_of HT_.out (by kernel_rfl)) (by decide) (fun K hK => ?_)
              have hs20 : w17.cell? ⟨gb154, 0, none⟩ = some (u155000) := (blk_cell BK154.out 0).trans rfl
              have hfs20 := blk_frozen BK154.out 0
              have hns20_0 := NB150_154.out
              have hms20_0 := NB154_150.out
              refine skip_ (w1 := ?_) (by rfl) rfl ?_ ?_
              rotate_left
              · go_simp
                rfl
              refine hK.out _ _ ?_
              clear hK K
              refine done_ (done_of HT_.out (by kernel_rfl)) ?_
              try go_wp2
              go_roundg k1
              case measure => have := HK1.out; omega
              case rel => exact ⟨(wrap64 (x11_1 + 1)), (y158), (.slice Ao19 y158.length co19), (by first | rfl | (simp; done) | (simp [*]; done)), H', ⟨by have := HK1.out; omega⟩, ⟨by (with_reducible repeat (first | apply Kd.S_alloc | apply Kd.S_drewN | apply Kd.S_drew)); exact Kd.S_mono (Kd.S_far (p := ⟨gb154, 0, none⟩) (Kd.S_types HO160.out BK154.out (by decide)) (fun _ hk => hk.2) (.slice Ao19 y158.length co19)) (fun _ hk => hk.1)⟩, ⟨by (with_reducible repeat (first | apply Kd.R_alloc | apply Kd.R_drewN | apply Kd.R_drew)); exact Kd.R_mono (Kd.R_far (p := ⟨gb154, 0, none⟩) (Kd.R_types HO_155001.out BK154.out (by decide)) (fun _ hk => hk.2) (.slice Ao19 y158.length co19)) (fun _ hk => trivial)⟩, ⟨by (with_reducible repeat (first | refine blk_drewN ?_ _ | refine blk_drew ?_ | refine blk_alloc ?_ _)); refine blk_far ?_ NB150_154.out _; (with_reducible repeat (first | refine blk_drewN ?_ _ | refine blk_drew ?_ | refine blk_alloc ?_ _)); exact BK150.out⟩, ⟨by (with_reducible repeat (first | refine blk_drewN ?_ _ | refine blk_drew ?_ | refine blk_alloc ?_ _)); refine blk_put (cs := #[u155000, .slice Ao8 y151.length co8]) ?_ 0 _ rfl; (with_reducible repeat (first | refine blk_drewN ?_ _ | refine blk_drew ?_ | refine blk_alloc ?_ _)); exact BK154.out⟩, ⟨by repeat (first | (with_reducible first | exact HB.out | apply below_alloc | apply pw_below_drewN | apply below_drew1 | refine below_set ?_ GE150.out | refine below_set ?_ GE154.out) | exact HB.out)⟩⟩
            · rw [if_neg c14] at H
              exact absurd H (by simp)
          · rw [if_neg c12] at H
            have c12b0 : decide (x11_1 < a0) = false := decide_eq_false c12
            clear c12
            simp only [Option.some.injEq, Prod.mk.injEq] at H
            obtain ⟨rfl, rfl⟩ := H
            have hnb21 := NB154_150.out
            have hnc21 := NB150_154.out
            have hcz22_0 : wr.cell? ⟨gb154, 0, none⟩ = some (u155000) := (blk_cell BK154.out 0).trans rfl
            have hcz22_1 : wr.cell? ⟨gb154, 1, none⟩ = some (.slice Ao8 y151.length co8) := (blk_cell BK154.out 1).trans rfl
            have hfz22_0 := blk_frozen BK154.out 0
            have hfz22_1 := blk_frozen BK154.out 1
            obtain ⟨Ao23, co23, eo23⟩ := Kd.S_slice HO_155000.out
            subst eo23
            have hcz24_0 : wr.cell? ⟨gb150, 0, none⟩ = some (.slice none 0 0) := (blk_cell BK150.out 0).trans rfl
            have hcz24_1 : wr.cell? ⟨gb150, 1, none⟩ = some (.slice none 0 0) := (blk_cell BK150.out 1).trans rfl
            have hfz24_0 := blk_frozen BK150.out 0
            have hfz24_1 := blk_frozen BK150.out 1
            go_wp2
            refine bodyPost_ret (results_cell_row rfl _ _ gb150 28 #[.slice Ao23 x155000_1.length co23, .slice Ao8 y151.length co8] (0, 0) _ rfl (by (with_reducible repeat (first | refine blk_drewN ?_ _ | refine blk_drew ?_ | refine blk_alloc ?_ _)); refine blk_put (cs := #[.slice Ao23 x155000_1.length co23, .slice none 0 0]) ?_ 1 _ rfl; (with_reducible repeat (first | refine blk_drewN ?_ _ | refine blk_drew ?_ | refine blk_alloc ?_ _)); refine blk_put (cs := #[.slice none 0 0, .slice none 0 0]) ?_ 0 _ rfl; (with_reducible repeat (first | refine blk_drewN ?_ _ | refine blk_drew ?_ | refine blk_alloc ?_ _)); exact BK150.out) Try.underlying28 rfl (by kernel_rfl)) rfl ?_
            exact ⟨_, _, by first | rfl | (simp [errW_none, errW_some] <;> rfl) | (simp [*, errW_none, errW_some] <;> rfl), by (with_reducible repeat (first | apply Kd.S_alloc | apply Kd.S_drewN | apply Kd.S_drew)); exact Kd.S_mono (Kd.S_far (p := ⟨gb150, 1, none⟩) (Kd.S_far (p := ⟨gb150, 0, none⟩) (Kd.S_types HO_155000.out BK150.out (by decide)) (fun _ hk => hk.2) (.slice Ao23 x155000_1.length co23)) (fun _ hk => hk.2) (.slice Ao8 y151.length co8)) (fun _ hk => hk.1), by (with_reducible repeat (first | apply Kd.R_alloc | apply Kd.R_drewN | apply Kd.R_drew)); exact Kd.R_mono (Kd.R_far (p := ⟨gb150, 1, none⟩) (Kd.R_far (p := ⟨gb150, 0, none⟩) (Kd.R_types HO_155001.out BK150.out (by decide)) (fun _ hk => hk.2) (.slice Ao23 x155000_1.length co23)) (fun _ hk => hk.2) (.slice Ao8 y151.length co8)) (fun _ hk => trivial), by repeat (first | (with_reducible first | exact HB.out | apply below_alloc | apply pw_below_drewN | apply below_drew1 | refine below_set ?_ GE150.out | refine below_set ?_ GE154.out) | exact HB.out)⟩
    · rw [if_neg c4] at H
      exact absurd H (by simp)
  · rw [if_neg c3] at H
    exact absurd H (by simp)

/-! ### impl_LineRoute: function 24 -/
def impl_LineRoute.f (k : Nat) (a0 : Int) : Option ((List (List Int)) × List Int × Bool) := (impl_within.f a0 2 10).bind fun t162 => (if t162 = true then ((impl_routeOf.f k a0 a0).bind fun bt163 => (some (bt163.1, bt163.2, true))) else (some (([] : List (List Int)), ([] : List Int), false)))
theorem impl_LineRoute.mono : ∀ a0 k, LeO (impl_LineRoute.f k a0) (impl_LineRoute.f (k + 1) a0) := by
  intro a0 k
  unfold impl_LineRoute.f
  repeat' first
      | (with_reducible exact impl_routeOf.mono _ _ _)
      | (with_reducible exact LeO.refl _)
      | (with_reducible exact LeO.none _)
      | (with_reducible refine LeO.ite ?_ ?_)
      | (with_reducible refine LeO.bind ?_ (fun _ => ?_))
      | exact impl_routeOf.mono _ _ _
      | exact LeO.none _
      | refine LeO.ite ?_ ?_
      | refine LeO.bind ?_ (fun _ => ?_)
set_option maxHeartbeats 8000000 in
set_option maxRecDepth 100000 in
theorem impl_LineRoute.calls (k : Nat) (a0 : Int) (r1 : List (List Int)) (r2 : List Int) (r3 : Bool) (w : World) (h : impl_LineRoute.f k a0 = some (r1, r2, r3)) :
    Calls Try.prog 24 #[.int .i64 a0] w fun e w' => ∃ v0_ v1_ : Value, e = .returned (.tuple #[.agg #[v0_, v1_], .bool r3]) ∧ Kd.S (Kd.slice 3 (Kd.int .i64)) 23 w' w.heap.size (fun k_ => some k_ ≠ (v1_ : Value).ownBlock) v0_ r1 ∧ Kd.R (Kd.int .i64) 3 w' w.heap.size (fun _ => True) v1_ r2 ∧ Below w.heap.size w w' := by
  have hu28 := Try.underlying28
  have HB := Aside0.mk (Below.refl w.heap.size w)
  have H : ((impl_within.f a0 2 10).bind fun t162 => (if t162 = true then ((impl_routeOf.f k a0 a0).bind fun bt163 => (some (bt163.1, bt163.2, true))) else (some (([] : List (List Int)), ([] : List Int), false)))) = some (r1, r2, r3) := h
  clear h
  replace H := Option.bind_eq_some_iff.mp H
  obtain ⟨t162, A20, H⟩ := H
  replace H : (if t162 = true then ((impl_routeOf.f k a0 a0).bind fun bt163 => (some (bt163.1, bt163.2, true))) else (some (([] : List (List Int)), ([] : List Int), false))) = some (r1, r2, r3) := H
  have A2 := Aside0.mk A20
  clear A20
  by_cases c3 : t162 = true
  · subst c3
    have H1 : ((impl_routeOf.f k a0 a0).bind fun bt163 => (some (bt163.1, bt163.2, true))) = some (r1, r2, r3) := by rw [if_pos rfl] at H; exact H
    clear H
    have H := H1
    clear H1
    replace H := Option.bind_eq_some_iff.mp H
    obtain ⟨⟨t163, t166⟩, A40, H⟩ := H
    replace H : (some (t163, t166, true)) = some (r1, r2, r3) := H
    have A4 := Aside0.mk A40
    clear A40
    simp only [Option.some.injEq, Prod.mk.injEq] at H
    obtain ⟨rfl, rfl, rfl⟩ := H
    go_enter Try.func24, Try.ntmps24
    go_wp2_with (first | ((with_reducible refine gate_dst (N := 1) rfl ?_); refine box_event ?hg (N := 1) ?hd (cs := #[.int .i64 a0]) (t := 3) ?hr ?_; (case hd => rfl); (case hg => rfl); (case hr => first | (go_simp; done) | (go_simp; rfl)); intro gbV hg wV hbox hb; have n0_ := Aside0.mk (below_step (XSq.bB HB) hb); have BKV := Aside0.mk hbox; have GEV := Aside0.mk ((by rw [hg]; exact (below_size (XSq.bB HB)) : w.heap.size ≤ gbV)); clear HB; have HB := n0_; clear n0_; have hczV : wV.cell? ⟨gbV, 0, none⟩ = some (.int .i64 a0) := (blk_cell BKV.out 0).trans rfl; clear hb hbox hg) | ((with_reducible refine gate_dst (N := 2) rfl ?_); refine box_event ?hg (N := 2) ?hd (cs := #[.slice none 0 0, .slice none 0 0]) (t := 28) ?hr ?_; (case hd => rfl); (case hg => rfl); (case hr => first | (go_simp; done) | (go_simp; rfl)); intro gb161 hg w5 hbox hb; have n0_ := Aside0.mk (below_step (XSq.bB HB) hb); have n1_ := Aside0.mk (hbox); have n2_ := Aside0.mk ((by rw [hg]; exact (below_size (XSq.bB HB)) : w.heap.size ≤ gb161)); have n3_ := Aside0.mk ((by rw [hg]; exact (below_size (XSq.bB HB)) : w.heap.size ≤ gb161)); clear HB; have HB := n0_; have BK161 := n1_; have GW161 := n2_; have GE161 := n3_; clear n0_ n1_ n2_ n3_; have BKW := Aside0.mk (blk_below (g := gbV) (o := .cells #[.int .i64 a0] 3 (0, 0)) (XSq.bq BKV) hb); clear BKV; have BKV := BKW; clear BKW; clear hczV; have hczV : w5.cell? ⟨gbV, 0, none⟩ = some (.int .i64 a0) := (blk_cell BKV.out 0).trans rfl; clear hb hbox hg) | ((with_reducible refine gate_callee (f := 53) rfl ?_); refine goesL_ (some 5) rfl rfl Try.func53 (by kernel_rfl) rfl #[.int .i64 a0, .int .i64 2, .int .i64 10] rfl (by (try simp only [List.map_toArray, List.map_cons, List.map_nil]); first | done | rfl | (simp only [List.length_drop, List.length_take]; rfl)) ?_; (with_reducible refine (impl_within.calls a0 2 10 true _ A2.out).mono ?_); rintro e w' ⟨rfl, ⟨nd, rfl⟩⟩; refine ⟨_, rfl, ?_⟩; (try (rw [drewN_self w5]; generalize hq_ : World.drewN w5 _ = w5; have n0_ : Aside0 (w5.heap[gb161]? = some (.cells #[.slice none 0 0, .slice none 0 0] 28 (0, 0))) := ⟨by rw [← hq_]; exact (XSq.bq BK161)⟩; have n1_ : Aside0 (Below w.heap.size w w5) := ⟨by rw [← hq_]; exact (XSq.bB HB)⟩; have nV_ : Aside0 (w5.heap[gbV]? = some (.cells #[.int .i64 a0] 3 (0, 0))) := ⟨by rw [← hq_]; exact (XSq.bq BKV)⟩; clear BKV; have BKV := nV_; clear nV_ hczV; clear BK161 HB hq_; have BK161 := n0_; have HB := n1_; clear n0_ n1_; have hczV : w5.cell? ⟨gbV, 0, none⟩ = some (.int .i64 a0) := (blk_cell BKV.out 0).trans rfl))) | ((with_reducible refine gate_callee (f := 56) rfl ?_); refine goesL_ (some 10) rfl rfl Try.func56 (by kernel_rfl) rfl #[.int .i64 a0, .func (.func 58) #[] #[.pointer (some ⟨gbV, 0, none⟩)]] rfl (by (try simp only [List.map_toArray, List.map_cons, List.map_nil]); first | done | rfl | (simp only [List.length_drop, List.length_take]; rfl)) ?_; (with_reducible refine (impl_routeOf.calls k a0 a0 t163 t166 gbV _ ?sideV A4.out).mono ?_); (case sideV => exact (blk_cell (XSq.bq BKV) 0).trans rfl); rintro e w6 ⟨v164, v167, rfl, ho0, ho1, hb⟩; refine ⟨_, rfl, ?_⟩; have n0_ := Aside0.mk (Kd.S_lower ho0 (below_size (XSq.bB HB))); have n1_ := Aside0.mk (Kd.R_lower ho1 (below_size (XSq.bB HB))); have n2_ := Aside0.mk (blk_below (g := gb161) (o := .cells #[.slice none 0 0, .slice none 0 0] 28 (0, 0)) (XSq.bq BK161) hb); have n3_ := Aside0.mk (below_step (XSq.bB HB) hb); clear BK161; clear HB; have HO165 := n0_; have HO168 := n1_; have BK161 := n2_; have HB := n3_; clear n0_ n1_ n2_ n3_; (try clear hb); (try clear hb2); (try clear hk); (try clear hi); (try clear ho0); (try clear ho1); obtain ⟨Ao7, co7, eo7⟩ := Kd.S_slice HO165.out; subst eo7; have hcz8_0 : w6.cell? ⟨gb161, 0, none⟩ = some (.slice none 0 0) := (blk_cell BK161.out 0).trans rfl; have hcz8_1 : w6.cell? ⟨gb161, 1, none⟩ = some (.slice none 0 0) := (blk_cell BK161.out 1).trans rfl; have hfz8_0 := blk_frozen BK161.out 0; have hfz8_1 := blk_frozen BK161.out 1; obtain ⟨Ao9, co9, eo9⟩ := Kd.R_slice HO168.out; subst eo9))
    refine bodyPost_ret (results_ct rfl _ _ gb161 28 #[.slice Ao7 t163.length co7, .slice Ao9 t166.length co9] (0, 0) _ rfl (by (with_reducible repeat (first | refine blk_drewN ?_ _ | refine blk_drew ?_ | refine blk_alloc ?_ _)); refine blk_put (cs := #[.slice Ao7 t163.length co7, .slice none 0 0]) ?_ 1 _ rfl; (with_reducible repeat (first | refine blk_drewN ?_ _ | refine blk_drew ?_ | refine blk_alloc ?_ _)); refine blk_put (cs := #[.slice none 0 0, .slice none 0 0]) ?_ 0 _ rfl; (with_reducible repeat (first | refine blk_drewN ?_ _ | refine blk_drew ?_ | refine blk_alloc ?_ _)); exact BK161.out) Try.underlying28 rfl (by kernel_rfl)) rfl ?_
    exact ⟨_, _, by first | rfl | (simp [errW_none, errW_some] <;> rfl) | (simp [*, errW_none, errW_some] <;> rfl), by (with_reducible repeat (first | apply Kd.S_alloc | apply Kd.S_drewN | apply Kd.S_drew)); exact Kd.S_mono (Kd.S_far (p := ⟨gb161, 1, none⟩) (Kd.S_far (p := ⟨gb161, 0, none⟩) (Kd.S_types HO165.out BK161.out (by decide)) (fun _ hk => hk.2) (.slice Ao7 t163.length co7)) (fun _ hk => hk.2) (.slice Ao9 t166.length co9)) (fun _ hk => hk.1), by (with_reducible repeat (first | apply Kd.R_alloc | apply Kd.R_drewN | apply Kd.R_drew)); exact Kd.R_mono (Kd.R_far (p := ⟨gb161, 1, none⟩) (Kd.R_far (p := ⟨gb161, 0, none⟩) (Kd.R_types HO168.out BK161.out (by decide)) (fun _ hk => hk.2) (.slice Ao7 t163.length co7)) (fun _ hk => hk.2) (.slice Ao9 t166.length co9)) (fun _ hk => trivial), by repeat (first | (with_reducible first | exact HB.out | apply below_alloc | apply pw_below_drewN | apply below_drew1 | refine below_set ?_ GE161.out) | exact HB.out)⟩
  · replace c3 := Bool.eq_false_iff.mpr c3
    subst c3
    have H1 : (some (([] : List (List Int)), ([] : List Int), false)) = some (r1, r2, r3) := by rw [if_neg (show ¬ (false = true) by decide)] at H; exact H
    clear H
    have H := H1
    clear H1
    simp only [Option.some.injEq, Prod.mk.injEq] at H
    obtain ⟨rfl, rfl, rfl⟩ := H
    go_enter Try.func24, Try.ntmps24
    go_wp2_with (first | ((with_reducible refine gate_dst (N := 1) rfl ?_); refine box_event ?hg (N := 1) ?hd (cs := #[.int .i64 a0]) (t := 3) ?hr ?_; (case hd => rfl); (case hg => rfl); (case hr => first | (go_simp; done) | (go_simp; rfl)); intro gbV hg wV hbox hb; have n0_ := Aside0.mk (below_step (XSq.bB HB) hb); have BKV := Aside0.mk hbox; have GEV := Aside0.mk ((by rw [hg]; exact (below_size (XSq.bB HB)) : w.heap.size ≤ gbV)); clear HB; have HB := n0_; clear n0_; have hczV : wV.cell? ⟨gbV, 0, none⟩ = some (.int .i64 a0) := (blk_cell BKV.out 0).trans rfl; clear hb hbox hg) | ((with_reducible refine gate_dst (N := 2) rfl ?_); refine box_event ?hg (N := 2) ?hd (cs := #[.slice none 0 0, .slice none 0 0]) (t := 28) ?hr ?_; (case hd => rfl); (case hg => rfl); (case hr => first | (go_simp; done) | (go_simp; rfl)); intro gb161 hg w10 hbox hb; have n0_ := Aside0.mk (below_step (XSq.bB HB) hb); have n1_ := Aside0.mk (hbox); have n2_ := Aside0.mk ((by rw [hg]; exact (below_size (XSq.bB HB)) : w.heap.size ≤ gb161)); have n3_ := Aside0.mk ((by rw [hg]; exact (below_size (XSq.bB HB)) : w.heap.size ≤ gb161)); clear HB; have HB := n0_; have BK161 := n1_; have GW161 := n2_; have GE161 := n3_; clear n0_ n1_ n2_ n3_; have BKW := Aside0.mk (blk_below (g := gbV) (o := .cells #[.int .i64 a0] 3 (0, 0)) (XSq.bq BKV) hb); clear BKV; have BKV := BKW; clear BKW; clear hczV; have hczV : w10.cell? ⟨gbV, 0, none⟩ = some (.int .i64 a0) := (blk_cell BKV.out 0).trans rfl; clear hb hbox hg) | ((with_reducible refine gate_callee (f := 53) rfl ?_); refine goesL_ (some 5) rfl rfl Try.func53 (by kernel_rfl) rfl #[.int .i64 a0, .int .i64 2, .int .i64 10] rfl (by (try simp only [List.map_toArray, List.map_cons, List.map_nil]); first | done | rfl | (simp only [List.length_drop, List.length_take]; rfl)) ?_; (with_reducible refine (impl_within.calls a0 2 10 false _ A2.out).mono ?_); rintro e w' ⟨rfl, ⟨nd, rfl⟩⟩; refine ⟨_, rfl, ?_⟩; (try (rw [drewN_self w10]; generalize hq_ : World.drewN w10 _ = w10; have n0_ : Aside0 (w10.heap[gb161]? = some (.cells #[.slice none 0 0, .slice none 0 0] 28 (0, 0))) := ⟨by rw [← hq_]; exact (XSq.bq BK161)⟩; have n1_ : Aside0 (Below w.heap.size w w10) := ⟨by rw [← hq_]; exact (XSq.bB HB)⟩; have nV_ : Aside0 (w10.heap[gbV]? = some (.cells #[.int .i64 a0] 3 (0, 0))) := ⟨by rw [← hq_]; exact (XSq.bq BKV)⟩; clear BKV; have BKV := nV_; clear nV_ hczV; clear BK161 HB hq_; have BK161 := n0_; have HB := n1_; clear n0_ n1_; have hczV : w10.cell? ⟨gbV, 0, none⟩ = some (.int .i64 a0) := (blk_cell BKV.out 0).trans rfl)); have hcz11_0 : w10.cell? ⟨gb161, 0, none⟩ = some (.slice none 0 0) := (blk_cell BK161.out 0).trans rfl; have hcz11_1 : w10.cell? ⟨gb161, 1, none⟩ = some (.slice none 0 0) := (blk_cell BK161.out 1).trans rfl; have hfz11_0 := blk_frozen BK161.out 0; have hfz11_1 := blk_frozen BK161.out 1))
    refine bodyPost_ret (results_ct rfl _ _ gb161 28 #[.slice none 0 0, .slice none 0 0] (0, 0) _ rfl (by (with_reducible repeat (first | refine blk_drewN ?_ _ | refine blk_drew ?_ | refine blk_alloc ?_ _)); refine blk_put (cs := #[.slice none 0 0, .slice none 0 0]) ?_ 1 _ rfl; (with_reducible repeat (first | refine blk_drewN ?_ _ | refine blk_drew ?_ | refine blk_alloc ?_ _)); refine blk_put (cs := #[.slice none 0 0, .slice none 0 0]) ?_ 0 _ rfl; (with_reducible repeat (first | refine blk_drewN ?_ _ | refine blk_drew ?_ | refine blk_alloc ?_ _)); exact BK161.out) Try.underlying28 rfl (by kernel_rfl)) rfl ?_
    exact ⟨_, _, by first | rfl | (simp [errW_none, errW_some] <;> rfl) | (simp [*, errW_none, errW_some] <;> rfl), by first | exact Kd.S_nil _ _ _ _ _ | exact Kd.N_nil _ _ _ _ _ | exact Kd.V_nil _ _ _ _ _ | exact Kd.Q_nil _ _ _ _ _ | exact Kd.R_nil _ _ _ _ _, by first | exact Kd.R_nil _ _ _ _ _ | exact Kd.N_nil _ _ _ _ _ | exact Kd.V_nil _ _ _ _ _ | exact Kd.Q_nil _ _ _ _ _ | exact Kd.S_nil _ _ _ _ _, by repeat (first | (with_reducible first | exact HB.out | apply below_alloc | apply pw_below_drewN | apply below_drew1 | refine below_set ?_ GE161.out) | exact HB.out)⟩

/-! ### laws_FnExactLineRoute: function 5, by hand -/
def laws_FnExactLineRoute.f (k : Nat) (a1 : Int) : Option Bool := (spec_LineRoute.f k a1).bind fun s => (impl_LineRoute.f k a1).bind fun g => (laws_eqRoute.f k g.1 g.2.1 s.1 s.2.1).bind fun e1 => (laws_markRoute.f k g.1 g.2.1 1).bind fun m2 => (laws_heldRoute.f k m2.2.1 m2.2.2 1).bind fun q => if e1 = true ∧ g.2.2 = s.2.2 ∧ 0 ≤ q ∧ q = m2.1 then some true else none
set_option maxHeartbeats 16000000 in
set_option maxRecDepth 100000 in
theorem laws_FnExactLineRoute.calls (k : Nat) (a1 : Int) (r : Bool) (w : World) (h : laws_FnExactLineRoute.f k a1 = some r) :
    Calls Try.prog 5 #[.int .i64 a1] w fun e w' => e = .returned (.bool r) ∧ Below w.heap.size w w' := by
  have huR := Try.underlying28
  have HB := Aside0.mk (Below.refl w.heap.size w)
  refine (fun (hT_ : True) => ?_) trivial
  · clear hT_
    have h_ := Option.bind_eq_some_iff.1 h
    clear h
    obtain ⟨⟨s1, s2, s3⟩, B2_, h⟩ := h_
    have B2 := Aside0.mk B2_
    clear B2_
    have h_ := Option.bind_eq_some_iff.1 h
    clear h
    obtain ⟨⟨g1, g2, g3⟩, B3_, h⟩ := h_
    have B3 := Aside0.mk B3_
    clear B3_
    have h_ := Option.bind_eq_some_iff.1 h
    clear h
    obtain ⟨e1, B4_, h⟩ := h_
    have B4 := Aside0.mk B4_
    clear B4_
    have h_ := Option.bind_eq_some_iff.1 h
    clear h
    obtain ⟨⟨m1, m2, m3⟩, B7_, h⟩ := h_
    have B7 := Aside0.mk B7_
    clear B7_
    have h_ := Option.bind_eq_some_iff.1 h
    clear h
    obtain ⟨q, B8_, h⟩ := h_
    have B8 := Aside0.mk B8_
    clear B8_
    by_cases hc : e1 = true ∧ g3 = s3 ∧ 0 ≤ q ∧ q = m1
    · replace h := (if_pos hc).symm.trans h
      obtain rfl := Option.some.inj h
      obtain ⟨rfl, rfl, hq0, rfl⟩ := hc
      have hq0b : decide (q < 0) = false := decide_eq_false (by omega)
      have hqqb : (q != q) = false := by simp
      clear hq0 h
      have hbb0 : (g3 != g3) = false := by simp
      have tok1 := trivial
      have tok2 := trivial
      have tok3 := trivial
      have tok4 := trivial
      go_enter Try.func5, Try.ntmps5
      have tok5 := trivial
      have tok6 := trivial
      have tok7 := trivial
      have tok8 := trivial
      have tok9 := trivial
      have tok10 := trivial
      go_wp2_with (first | (go_at_call 23; (with_reducible refine (spec_LineRoute.calls k a1 s1 s2 g3 _  B2.out).mono ?_); rintro e w1_ ⟨v1_, v2_, rfl, hs, hr, hb⟩; obtain ⟨AS1, cS1, rfl⟩ := Kd.S_slice hs; obtain ⟨AS2, cS2, rfl⟩ := Kd.R_slice hr; have S := Aside0.mk (XRoute.Rt.made (n := w.heap.size) hs hr (below_size (HB.out))); clear hs hr; have hq : Below w.heap.size w w1_ := below_step (Below.refl _ _) hb; replace HB := Aside0.mk (below_step HB.out hq); clear hq hb) | (have tk := tok3; go_at_call 24; (with_reducible refine (impl_LineRoute.calls k a1 g1 g2 g3 _  B3.out).mono ?_); rintro e w3_ ⟨v1_, v2_, rfl, hs, hr, hb⟩; obtain ⟨AG1, cG1, rfl⟩ := Kd.S_slice hs; obtain ⟨AG2, cG2, rfl⟩ := Kd.R_slice hr; have G := Aside0.mk (XRoute.Rt.made (n := w.heap.size) hs hr (below_size (below_alloc (HB.out) _))); clear hs hr; have LSG := Aside0.mk (XRoute.sepR S.out.le (below_alloc (Below.refl _ _) _) hb); have LKSG := Aside0.mk (XRoute.sepN hb); have LG := Aside0.mk hb.size; have hq : Below w1_.heap.size w1_ w3_ := below_step (below_alloc (Below.refl _ _) _) hb; replace S := Aside0.mk (XRoute.Rt.below S.out hq); have KS := Aside0.mk (show w3_.heap[w1_.heap.size]? = some (.cells #[(.slice AS1 s1.length cS1), (.slice AS2 s2.length cS2)] 28 (0, 0)) from blk_below (blk_new _ _) hb); replace HB := Aside0.mk (below_step HB.out hq); clear hq hb; have hcz5_ : w3_.cell? ⟨w1_.heap.size, 0, none⟩ = some ((.slice AS1 s1.length cS1)) := (blk_cell KS.out 0).trans rfl; have hcz6_ : ∀ o_, (w3_.alloc o_).cell? ⟨w1_.heap.size, 0, none⟩ = some ((.slice AS1 s1.length cS1)) := fun o_ => (blk_cell (blk_alloc KS.out o_) 0).trans rfl; have hcz7_ : w3_.cell? ⟨w1_.heap.size, 1, none⟩ = some ((.slice AS2 s2.length cS2)) := (blk_cell KS.out 1).trans rfl; have hcz8_ : ∀ o_, (w3_.alloc o_).cell? ⟨w1_.heap.size, 1, none⟩ = some ((.slice AS2 s2.length cS2)) := fun o_ => (blk_cell (blk_alloc KS.out o_) 1).trans rfl; clear tk tok3) | (have tk := tok4; go_at_call 18; (with_reducible refine (laws_eqRoute.calls k _ _ g1 _ _ g2 _ _ s1 _ _ s2 true _ ?s10_0 ?s10_1 ?s10_2 ?s10_3 ?s10_4 ?s10_5 ?s10_6 ?s10_7 B4.out).mono ?_); (case s10_0 => repeat (first | exact (Kd.S_reads' G.out.s).2.2 | (with_reducible refine Kd.C_alloc ?_ _) | (with_reducible refine Kd.C_drewN ?_ _) | (with_reducible refine Kd.C_drew ?_))); (case s10_1 => exact (Kd.S_reads' G.out.s).2.1); (case s10_2 => repeat (first | exact (Kd.R_reads' G.out.r).2.2 | (with_reducible refine Kd.C_alloc ?_ _) | (with_reducible refine Kd.C_drewN ?_ _) | (with_reducible refine Kd.C_drew ?_))); (case s10_3 => exact (Kd.R_reads' G.out.r).2.1); (case s10_4 => repeat (first | exact (Kd.S_reads' S.out.s).2.2 | (with_reducible refine Kd.C_alloc ?_ _) | (with_reducible refine Kd.C_drewN ?_ _) | (with_reducible refine Kd.C_drew ?_))); (case s10_5 => exact (Kd.S_reads' S.out.s).2.1); (case s10_6 => repeat (first | exact (Kd.R_reads' S.out.r).2.2 | (with_reducible refine Kd.C_alloc ?_ _) | (with_reducible refine Kd.C_drewN ?_ _) | (with_reducible refine Kd.C_drew ?_))); (case s10_7 => exact (Kd.R_reads' S.out.r).2.1); rintro e w9_ ⟨rfl, hb⟩; have hq : Below w3_.heap.size w3_ w9_ := below_step (below_alloc (Below.refl _ _) _) hb; replace S := Aside0.mk (XRoute.Rt.below S.out hq); replace G := Aside0.mk (XRoute.Rt.below G.out hq); replace KS := Aside0.mk (show w9_.heap[w1_.heap.size]? = some (.cells #[(.slice AS1 s1.length cS1), (.slice AS2 s2.length cS2)] 28 (0, 0)) from blk_below KS.out hq); have KG := Aside0.mk (show w9_.heap[w3_.heap.size]? = some (.cells #[(.slice AG1 g1.length cG1), (.slice AG2 g2.length cG2)] 28 (0, 0)) from blk_below (blk_new _ _) hb); replace HB := Aside0.mk (below_step HB.out hq); clear hq hb; clear hcz5_ hcz6_ hcz7_ hcz8_; have hcz11_ : w9_.cell? ⟨w1_.heap.size, 0, none⟩ = some ((.slice AS1 s1.length cS1)) := (blk_cell KS.out 0).trans rfl; have hcz12_ : ∀ o_, (w9_.alloc o_).cell? ⟨w1_.heap.size, 0, none⟩ = some ((.slice AS1 s1.length cS1)) := fun o_ => (blk_cell (blk_alloc KS.out o_) 0).trans rfl; have hcz13_ : w9_.cell? ⟨w1_.heap.size, 1, none⟩ = some ((.slice AS2 s2.length cS2)) := (blk_cell KS.out 1).trans rfl; have hcz14_ : ∀ o_, (w9_.alloc o_).cell? ⟨w1_.heap.size, 1, none⟩ = some ((.slice AS2 s2.length cS2)) := fun o_ => (blk_cell (blk_alloc KS.out o_) 1).trans rfl; have hcz15_ : w9_.cell? ⟨w3_.heap.size, 0, none⟩ = some ((.slice AG1 g1.length cG1)) := (blk_cell KG.out 0).trans rfl; have hcz16_ : ∀ o_, (w9_.alloc o_).cell? ⟨w3_.heap.size, 0, none⟩ = some ((.slice AG1 g1.length cG1)) := fun o_ => (blk_cell (blk_alloc KG.out o_) 0).trans rfl; have hcz17_ : w9_.cell? ⟨w3_.heap.size, 1, none⟩ = some ((.slice AG2 g2.length cG2)) := (blk_cell KG.out 1).trans rfl; have hcz18_ : ∀ o_, (w9_.alloc o_).cell? ⟨w3_.heap.size, 1, none⟩ = some ((.slice AG2 g2.length cG2)) := fun o_ => (blk_cell (blk_alloc KG.out o_) 1).trans rfl; clear tk tok4) | (have tk := tok7; go_at_call 21; (with_reducible refine (laws_markRoute.calls k _ _ _ _ g1 g2 1 q m2 m3 w _ HB.out G.out.s G.out.r (fun _ h1_ h2_ => absurd h2_.2 h1_.2) B7.out).mono ?_); rintro e w19_ ⟨rfl, hs, hr, hb, hkp⟩; replace S := Aside0.mk (XRoute.Rt.kept S.out hkp (fun k_ h1_ h2_ h3_ => by have h4_ := h3_.elim (fun z => z.1) (fun z => z.1); have := LSG.out; have := LKSG.out; have := LG.out; omega)); replace KS := Aside0.mk (show w19_.heap[w1_.heap.size]? = some (.cells #[(.slice AS1 s1.length cS1), (.slice AS2 s2.length cS2)] 28 (0, 0)) from blk_kept KS.out hkp (fun h3_ => by have h4_ := h3_.elim (fun z => z.1) (fun z => z.1); have := LSG.out; have := LKSG.out; have := LG.out; omega)); replace KG := Aside0.mk (show w19_.heap[w3_.heap.size]? = some (.cells #[(.slice AG1 g1.length cG1), (.slice AG2 g2.length cG2)] 28 (0, 0)) from blk_kept KG.out hkp (fun h3_ => by have h4_ := h3_.elim (fun z => z.1) (fun z => z.1); have := LSG.out; have := LKSG.out; have := LG.out; omega)); replace G := Aside0.mk (show XRoute.Rt 3 23 w19_ w.heap.size _ _ _ _ m2 m3 from ⟨hs, hr, Nat.le_trans G.out.le hkp.1⟩); replace HB := Aside0.mk hb; clear hb hkp hs hr; clear hcz11_ hcz12_ hcz13_ hcz14_ hcz15_ hcz16_ hcz17_ hcz18_; have hcz20_ : w19_.cell? ⟨w1_.heap.size, 0, none⟩ = some ((.slice AS1 s1.length cS1)) := (blk_cell KS.out 0).trans rfl; have hcz21_ : ∀ o_, (w19_.alloc o_).cell? ⟨w1_.heap.size, 0, none⟩ = some ((.slice AS1 s1.length cS1)) := fun o_ => (blk_cell (blk_alloc KS.out o_) 0).trans rfl; have hcz22_ : w19_.cell? ⟨w1_.heap.size, 1, none⟩ = some ((.slice AS2 s2.length cS2)) := (blk_cell KS.out 1).trans rfl; have hcz23_ : ∀ o_, (w19_.alloc o_).cell? ⟨w1_.heap.size, 1, none⟩ = some ((.slice AS2 s2.length cS2)) := fun o_ => (blk_cell (blk_alloc KS.out o_) 1).trans rfl; have hcz24_ : w19_.cell? ⟨w3_.heap.size, 0, none⟩ = some ((.slice AG1 g1.length cG1)) := (blk_cell KG.out 0).trans rfl; have hcz25_ : ∀ o_, (w19_.alloc o_).cell? ⟨w3_.heap.size, 0, none⟩ = some ((.slice AG1 g1.length cG1)) := fun o_ => (blk_cell (blk_alloc KG.out o_) 0).trans rfl; have hcz26_ : w19_.cell? ⟨w3_.heap.size, 1, none⟩ = some ((.slice AG2 g2.length cG2)) := (blk_cell KG.out 1).trans rfl; have hcz27_ : ∀ o_, (w19_.alloc o_).cell? ⟨w3_.heap.size, 1, none⟩ = some ((.slice AG2 g2.length cG2)) := fun o_ => (blk_cell (blk_alloc KG.out o_) 1).trans rfl; clear tk tok7) | (have tk := tok8; go_at_call 22; refine calls_of_args (args' := #[.agg #[.slice AG1 m2.length cG1, .slice AG2 m3.length cG2], .int .i64 1]) (by rw [show g1.length = m2.length from (Kd.S_reads' G.out.s).1, show g2.length = m3.length from (Kd.R_reads' G.out.r).1]) ?_; (with_reducible refine (laws_heldRoute.calls k _ _ m2 _ _ m3 1 q _ ?s29_0 ?s29_1 ?s29_2 ?s29_3 B8.out).mono ?_); (case s29_0 => repeat (first | exact (Kd.S_reads' G.out.s).2.2 | (with_reducible refine Kd.C_alloc ?_ _) | (with_reducible refine Kd.C_drewN ?_ _) | (with_reducible refine Kd.C_drew ?_))); (case s29_1 => have e_ := (Kd.S_reads' G.out.s); have := e_.1; have := e_.2.1; omega); (case s29_2 => repeat (first | exact (Kd.R_reads' G.out.r).2.2 | (with_reducible refine Kd.C_alloc ?_ _) | (with_reducible refine Kd.C_drewN ?_ _) | (with_reducible refine Kd.C_drew ?_))); (case s29_3 => have e_ := (Kd.R_reads' G.out.r); have := e_.1; have := e_.2.1; omega); rintro e w28_ ⟨rfl, hb⟩; have hq : Below w19_.heap.size w19_ w28_ := below_step (Below.refl _ _) hb; replace S := Aside0.mk (XRoute.Rt.below S.out hq); replace G := Aside0.mk (XRoute.Rt.below G.out hq); replace KS := Aside0.mk (show w28_.heap[w1_.heap.size]? = some (.cells #[(.slice AS1 s1.length cS1), (.slice AS2 s2.length cS2)] 28 (0, 0)) from blk_below KS.out hq); replace KG := Aside0.mk (show w28_.heap[w3_.heap.size]? = some (.cells #[(.slice AG1 g1.length cG1), (.slice AG2 g2.length cG2)] 28 (0, 0)) from blk_below KG.out hq); replace HB := Aside0.mk (below_step HB.out hq); clear hq hb; clear hcz20_ hcz21_ hcz22_ hcz23_ hcz24_ hcz25_ hcz26_ hcz27_; have hcz30_ : w28_.cell? ⟨w1_.heap.size, 0, none⟩ = some ((.slice AS1 s1.length cS1)) := (blk_cell KS.out 0).trans rfl; have hcz31_ : ∀ o_, (w28_.alloc o_).cell? ⟨w1_.heap.size, 0, none⟩ = some ((.slice AS1 s1.length cS1)) := fun o_ => (blk_cell (blk_alloc KS.out o_) 0).trans rfl; have hcz32_ : w28_.cell? ⟨w1_.heap.size, 1, none⟩ = some ((.slice AS2 s2.length cS2)) := (blk_cell KS.out 1).trans rfl; have hcz33_ : ∀ o_, (w28_.alloc o_).cell? ⟨w1_.heap.size, 1, none⟩ = some ((.slice AS2 s2.length cS2)) := fun o_ => (blk_cell (blk_alloc KS.out o_) 1).trans rfl; have hcz34_ : w28_.cell? ⟨w3_.heap.size, 0, none⟩ = some ((.slice AG1 g1.length cG1)) := (blk_cell KG.out 0).trans rfl; have hcz35_ : ∀ o_, (w28_.alloc o_).cell? ⟨w3_.heap.size, 0, none⟩ = some ((.slice AG1 g1.length cG1)) := fun o_ => (blk_cell (blk_alloc KG.out o_) 0).trans rfl; have hcz36_ : w28_.cell? ⟨w3_.heap.size, 1, none⟩ = some ((.slice AG2 g2.length cG2)) := (blk_cell KG.out 1).trans rfl; have hcz37_ : ∀ o_, (w28_.alloc o_).cell? ⟨w3_.heap.size, 1, none⟩ = some ((.slice AG2 g2.length cG2)) := fun o_ => (blk_cell (blk_alloc KG.out o_) 1).trans rfl; clear tk tok8) | (go_at_call 24; (with_reducible refine (impl_LineRoute.calls k a1 g1 g2 g3 _  B3.out).mono ?_); rintro e w38_ ⟨v1_, v2_, rfl, hs, hr, hb⟩; obtain ⟨AH1, cH1, rfl⟩ := Kd.S_slice hs; obtain ⟨AH2, cH2, rfl⟩ := Kd.R_slice hr; have H := Aside0.mk (XRoute.Rt.made (n := w.heap.size) hs hr (below_size (HB.out))); clear hs hr; have hq : Below w28_.heap.size w28_ w38_ := below_step (Below.refl _ _) hb; replace S := Aside0.mk (XRoute.Rt.below S.out hq); replace G := Aside0.mk (XRoute.Rt.below G.out hq); replace KS := Aside0.mk (show w38_.heap[w1_.heap.size]? = some (.cells #[(.slice AS1 s1.length cS1), (.slice AS2 s2.length cS2)] 28 (0, 0)) from blk_below KS.out hq); replace KG := Aside0.mk (show w38_.heap[w3_.heap.size]? = some (.cells #[(.slice AG1 g1.length cG1), (.slice AG2 g2.length cG2)] 28 (0, 0)) from blk_below KG.out hq); replace HB := Aside0.mk (below_step HB.out hq); clear hq hb; clear hcz30_ hcz31_ hcz32_ hcz33_ hcz34_ hcz35_ hcz36_ hcz37_; have hcz40_ : w38_.cell? ⟨w1_.heap.size, 0, none⟩ = some ((.slice AS1 s1.length cS1)) := (blk_cell KS.out 0).trans rfl; have hcz41_ : ∀ o_, (w38_.alloc o_).cell? ⟨w1_.heap.size, 0, none⟩ = some ((.slice AS1 s1.length cS1)) := fun o_ => (blk_cell (blk_alloc KS.out o_) 0).trans rfl; have hcz42_ : w38_.cell? ⟨w1_.heap.size, 1, none⟩ = some ((.slice AS2 s2.length cS2)) := (blk_cell KS.out 1).trans rfl; have hcz43_ : ∀ o_, (w38_.alloc o_).cell? ⟨w1_.heap.size, 1, none⟩ = some ((.slice AS2 s2.length cS2)) := fun o_ => (blk_cell (blk_alloc KS.out o_) 1).trans rfl; have hcz44_ : w38_.cell? ⟨w3_.heap.size, 0, none⟩ = some ((.slice AG1 g1.length cG1)) := (blk_cell KG.out 0).trans rfl; have hcz45_ : ∀ o_, (w38_.alloc o_).cell? ⟨w3_.heap.size, 0, none⟩ = some ((.slice AG1 g1.length cG1)) := fun o_ => (blk_cell (blk_alloc KG.out o_) 0).trans rfl; have hcz46_ : w38_.cell? ⟨w3_.heap.size, 1, none⟩ = some ((.slice AG2 g2.length cG2)) := (blk_cell KG.out 1).trans rfl; have hcz47_ : ∀ o_, (w38_.alloc o_).cell? ⟨w3_.heap.size, 1, none⟩ = some ((.slice AG2 g2.length cG2)) := fun o_ => (blk_cell (blk_alloc KG.out o_) 1).trans rfl) | (have tk := tok9; go_at_call 18; (with_reducible refine (laws_eqRoute.calls k _ _ g1 _ _ g2 _ _ s1 _ _ s2 true _ ?s49_0 ?s49_1 ?s49_2 ?s49_3 ?s49_4 ?s49_5 ?s49_6 ?s49_7 B4.out).mono ?_); (case s49_0 => repeat (first | exact (Kd.S_reads' H.out.s).2.2 | (with_reducible refine Kd.C_alloc ?_ _) | (with_reducible refine Kd.C_drewN ?_ _) | (with_reducible refine Kd.C_drew ?_))); (case s49_1 => exact (Kd.S_reads' H.out.s).2.1); (case s49_2 => repeat (first | exact (Kd.R_reads' H.out.r).2.2 | (with_reducible refine Kd.C_alloc ?_ _) | (with_reducible refine Kd.C_drewN ?_ _) | (with_reducible refine Kd.C_drew ?_))); (case s49_3 => exact (Kd.R_reads' H.out.r).2.1); (case s49_4 => repeat (first | exact (Kd.S_reads' S.out.s).2.2 | (with_reducible refine Kd.C_alloc ?_ _) | (with_reducible refine Kd.C_drewN ?_ _) | (with_reducible refine Kd.C_drew ?_))); (case s49_5 => exact (Kd.S_reads' S.out.s).2.1); (case s49_6 => repeat (first | exact (Kd.R_reads' S.out.r).2.2 | (with_reducible refine Kd.C_alloc ?_ _) | (with_reducible refine Kd.C_drewN ?_ _) | (with_reducible refine Kd.C_drew ?_))); (case s49_7 => exact (Kd.R_reads' S.out.r).2.1); rintro e w48_ ⟨rfl, hb⟩; have hq : Below w38_.heap.size w38_ w48_ := below_step (below_alloc (Below.refl _ _) _) hb; replace S := Aside0.mk (XRoute.Rt.below S.out hq); replace G := Aside0.mk (XRoute.Rt.below G.out hq); replace H := Aside0.mk (XRoute.Rt.below H.out hq); replace KS := Aside0.mk (show w48_.heap[w1_.heap.size]? = some (.cells #[(.slice AS1 s1.length cS1), (.slice AS2 s2.length cS2)] 28 (0, 0)) from blk_below KS.out hq); replace KG := Aside0.mk (show w48_.heap[w3_.heap.size]? = some (.cells #[(.slice AG1 g1.length cG1), (.slice AG2 g2.length cG2)] 28 (0, 0)) from blk_below KG.out hq); have KH := Aside0.mk (show w48_.heap[w38_.heap.size]? = some (.cells #[(.slice AH1 g1.length cH1), (.slice AH2 g2.length cH2)] 28 (0, 0)) from blk_below (blk_new _ _) hb); replace HB := Aside0.mk (below_step HB.out hq); clear hq hb; clear hcz40_ hcz41_ hcz42_ hcz43_ hcz44_ hcz45_ hcz46_ hcz47_; have hcz50_ : w48_.cell? ⟨w1_.heap.size, 0, none⟩ = some ((.slice AS1 s1.length cS1)) := (blk_cell KS.out 0).trans rfl; have hcz51_ : ∀ o_, (w48_.alloc o_).cell? ⟨w1_.heap.size, 0, none⟩ = some ((.slice AS1 s1.length cS1)) := fun o_ => (blk_cell (blk_alloc KS.out o_) 0).trans rfl; have hcz52_ : w48_.cell? ⟨w1_.heap.size, 1, none⟩ = some ((.slice AS2 s2.length cS2)) := (blk_cell KS.out 1).trans rfl; have hcz53_ : ∀ o_, (w48_.alloc o_).cell? ⟨w1_.heap.size, 1, none⟩ = some ((.slice AS2 s2.length cS2)) := fun o_ => (blk_cell (blk_alloc KS.out o_) 1).trans rfl; have hcz54_ : w48_.cell? ⟨w3_.heap.size, 0, none⟩ = some ((.slice AG1 g1.length cG1)) := (blk_cell KG.out 0).trans rfl; have hcz55_ : ∀ o_, (w48_.alloc o_).cell? ⟨w3_.heap.size, 0, none⟩ = some ((.slice AG1 g1.length cG1)) := fun o_ => (blk_cell (blk_alloc KG.out o_) 0).trans rfl; have hcz56_ : w48_.cell? ⟨w3_.heap.size, 1, none⟩ = some ((.slice AG2 g2.length cG2)) := (blk_cell KG.out 1).trans rfl; have hcz57_ : ∀ o_, (w48_.alloc o_).cell? ⟨w3_.heap.size, 1, none⟩ = some ((.slice AG2 g2.length cG2)) := fun o_ => (blk_cell (blk_alloc KG.out o_) 1).trans rfl; have hcz58_ : w48_.cell? ⟨w38_.heap.size, 0, none⟩ = some ((.slice AH1 g1.length cH1)) := (blk_cell KH.out 0).trans rfl; have hcz59_ : ∀ o_, (w48_.alloc o_).cell? ⟨w38_.heap.size, 0, none⟩ = some ((.slice AH1 g1.length cH1)) := fun o_ => (blk_cell (blk_alloc KH.out o_) 0).trans rfl; have hcz60_ : w48_.cell? ⟨w38_.heap.size, 1, none⟩ = some ((.slice AH2 g2.length cH2)) := (blk_cell KH.out 1).trans rfl; have hcz61_ : ∀ o_, (w48_.alloc o_).cell? ⟨w38_.heap.size, 1, none⟩ = some ((.slice AH2 g2.length cH2)) := fun o_ => (blk_cell (blk_alloc KH.out o_) 1).trans rfl; clear tk tok9) | (have tk := tok10; go_at_call 22; refine calls_of_args (args' := #[.agg #[.slice AG1 m2.length cG1, .slice AG2 m3.length cG2], .int .i64 1]) (by rw [show g1.length = m2.length from (Kd.S_reads' G.out.s).1, show g2.length = m3.length from (Kd.R_reads' G.out.r).1]) ?_; (with_reducible refine (laws_heldRoute.calls k _ _ m2 _ _ m3 1 q _ ?s63_0 ?s63_1 ?s63_2 ?s63_3 B8.out).mono ?_); (case s63_0 => repeat (first | exact (Kd.S_reads' G.out.s).2.2 | (with_reducible refine Kd.C_alloc ?_ _) | (with_reducible refine Kd.C_drewN ?_ _) | (with_reducible refine Kd.C_drew ?_))); (case s63_1 => have e_ := (Kd.S_reads' G.out.s); have := e_.1; have := e_.2.1; omega); (case s63_2 => repeat (first | exact (Kd.R_reads' G.out.r).2.2 | (with_reducible refine Kd.C_alloc ?_ _) | (with_reducible refine Kd.C_drewN ?_ _) | (with_reducible refine Kd.C_drew ?_))); (case s63_3 => have e_ := (Kd.R_reads' G.out.r); have := e_.1; have := e_.2.1; omega); rintro e w62_ ⟨rfl, hb⟩; have hq : Below w48_.heap.size w48_ w62_ := below_step (Below.refl _ _) hb; replace S := Aside0.mk (XRoute.Rt.below S.out hq); replace G := Aside0.mk (XRoute.Rt.below G.out hq); replace H := Aside0.mk (XRoute.Rt.below H.out hq); replace KS := Aside0.mk (show w62_.heap[w1_.heap.size]? = some (.cells #[(.slice AS1 s1.length cS1), (.slice AS2 s2.length cS2)] 28 (0, 0)) from blk_below KS.out hq); replace KG := Aside0.mk (show w62_.heap[w3_.heap.size]? = some (.cells #[(.slice AG1 g1.length cG1), (.slice AG2 g2.length cG2)] 28 (0, 0)) from blk_below KG.out hq); replace KH := Aside0.mk (show w62_.heap[w38_.heap.size]? = some (.cells #[(.slice AH1 g1.length cH1), (.slice AH2 g2.length cH2)] 28 (0, 0)) from blk_below KH.out hq); replace HB := Aside0.mk (below_step HB.out hq); clear hq hb; clear hcz50_ hcz51_ hcz52_ hcz53_ hcz54_ hcz55_ hcz56_ hcz57_ hcz58_ hcz59_ hcz60_ hcz61_; have hcz64_ : w62_.cell? ⟨w1_.heap.size, 0, none⟩ = some ((.slice AS1 s1.length cS1)) := (blk_cell KS.out 0).trans rfl; have hcz65_ : ∀ o_, (w62_.alloc o_).cell? ⟨w1_.heap.size, 0, none⟩ = some ((.slice AS1 s1.length cS1)) := fun o_ => (blk_cell (blk_alloc KS.out o_) 0).trans rfl; have hcz66_ : w62_.cell? ⟨w1_.heap.size, 1, none⟩ = some ((.slice AS2 s2.length cS2)) := (blk_cell KS.out 1).trans rfl; have hcz67_ : ∀ o_, (w62_.alloc o_).cell? ⟨w1_.heap.size, 1, none⟩ = some ((.slice AS2 s2.length cS2)) := fun o_ => (blk_cell (blk_alloc KS.out o_) 1).trans rfl; have hcz68_ : w62_.cell? ⟨w3_.heap.size, 0, none⟩ = some ((.slice AG1 g1.length cG1)) := (blk_cell KG.out 0).trans rfl; have hcz69_ : ∀ o_, (w62_.alloc o_).cell? ⟨w3_.heap.size, 0, none⟩ = some ((.slice AG1 g1.length cG1)) := fun o_ => (blk_cell (blk_alloc KG.out o_) 0).trans rfl; have hcz70_ : w62_.cell? ⟨w3_.heap.size, 1, none⟩ = some ((.slice AG2 g2.length cG2)) := (blk_cell KG.out 1).trans rfl; have hcz71_ : ∀ o_, (w62_.alloc o_).cell? ⟨w3_.heap.size, 1, none⟩ = some ((.slice AG2 g2.length cG2)) := fun o_ => (blk_cell (blk_alloc KG.out o_) 1).trans rfl; have hcz72_ : w62_.cell? ⟨w38_.heap.size, 0, none⟩ = some ((.slice AH1 g1.length cH1)) := (blk_cell KH.out 0).trans rfl; have hcz73_ : ∀ o_, (w62_.alloc o_).cell? ⟨w38_.heap.size, 0, none⟩ = some ((.slice AH1 g1.length cH1)) := fun o_ => (blk_cell (blk_alloc KH.out o_) 0).trans rfl; have hcz74_ : w62_.cell? ⟨w38_.heap.size, 1, none⟩ = some ((.slice AH2 g2.length cH2)) := (blk_cell KH.out 1).trans rfl; have hcz75_ : ∀ o_, (w62_.alloc o_).cell? ⟨w38_.heap.size, 1, none⟩ = some ((.slice AH2 g2.length cH2)) := fun o_ => (blk_cell (blk_alloc KH.out o_) 1).trans rfl; clear tk tok10))
      go_ret
      exact ⟨by first | rfl | (simp; done), HB.out⟩
    · exact absurd ((if_neg hc).symm.trans h) (by simp)

end Go.Proofs.Ytecoeknjnhffbaa.PFnExactLineRoute
