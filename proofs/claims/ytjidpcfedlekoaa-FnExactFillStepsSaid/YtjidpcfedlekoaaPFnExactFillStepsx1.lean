-- Made by wip/tools/xkit.py (a program of this session's) with the kit's printer.
import Derived.Test.YtjidpcfedlekoaaPFnExactFillStepsx0
namespace Go.Proofs.Ytjidpcfedlekoaa.PFnExactFillSteps
open Go.RowKit Go.Proofs.YtjidpcfedlekoaaW.PrintWords Go.Proofs.YtjidpcfedlekoaaW.PrintLast Go.Proofs.YtjidpcfedlekoaaW.PrintMore
attribute [local go_sem] max2_int min2_int max_two min_two max_three min_three max_four min_four   -- for this text's walks alone
set_option linter.unusedVariables false
set_option linter.unusedSimpArgs false

/-! ### spec_l1In: function 28 -/
def spec_l1In.f (a0 : Int) (a1 : Int) (a2 : Int) : Option (Bool) := if a0 ≥ a1 then (some (decide (a0 ≤ a2))) else (some false)
set_option maxHeartbeats 8000000 in
set_option maxRecDepth 100000 in
theorem spec_l1In.calls (a0 : Int) (a1 : Int) (a2 : Int) (r : Bool) (w : World) (h : spec_l1In.f a0 a1 a2 = some r) :
    Calls Try.prog 28 #[.int .i64 a0, .int .i64 a1, .int .i64 a2] w fun e w' => e = .returned (.bool r) ∧ Drawn0 w w' := by
  have H : (if a0 ≥ a1 then (some (decide (a0 ≤ a2))) else (some false)) = some r := h
  clear h
  by_cases c4 : a0 ≥ a1
  · rw [if_pos c4] at H
    have c4b0 : decide (a1 ≤ a0) = true := decide_eq_true c4
    clear c4
    obtain rfl := Option.some.inj H
    go_enter Try.func28, Try.ntmps28
    go_wp2
    go_ret
    exact ⟨by first | rfl | (simp; done) | (simp [*]; done), by repeat (first | exact Drawn0.refl _ | apply Drawn0.step)⟩
  · rw [if_neg c4] at H
    have c4b0 : decide (a1 ≤ a0) = false := decide_eq_false c4
    clear c4
    obtain rfl := Option.some.inj H
    go_enter Try.func28, Try.ntmps28
    go_wp2
    go_ret
    exact ⟨by first | rfl | (simp; done) | (simp [*]; done), by repeat (first | exact Drawn0.refl _ | apply Drawn0.step)⟩

/-! ### spec_l1Least: function 43 -/
def spec_l1Least.f (a0 : Int) (a1 : Int) : Option (Int) := if a0 < a1 then (some a0) else (some a1)
set_option maxHeartbeats 8000000 in
set_option maxRecDepth 100000 in
theorem spec_l1Least.calls (a0 : Int) (a1 : Int) (r : Int) (w : World) (h : spec_l1Least.f a0 a1 = some r) :
    Calls Try.prog 43 #[.int .i64 a0, .int .i64 a1] w fun e w' => e = .returned (.int .i64 r) ∧ Drawn0 w w' := by
  have H : (if a0 < a1 then (some a0) else (some a1)) = some r := h
  clear h
  by_cases c3 : a0 < a1
  · rw [if_pos c3] at H
    have c3b0 : decide (a0 < a1) = true := decide_eq_true c3
    clear c3
    obtain rfl := Option.some.inj H
    go_enter Try.func43, Try.ntmps43
    go_wp2
    go_ret
    exact ⟨by first | rfl | (simp; done) | (simp [*]; done), by repeat (first | exact Drawn0.refl _ | apply Drawn0.step)⟩
  · rw [if_neg c3] at H
    have c3b0 : decide (a0 < a1) = false := decide_eq_false c3
    clear c3
    obtain rfl := Option.some.inj H
    go_enter Try.func43, Try.ntmps43
    go_wp2
    go_ret
    exact ⟨by first | rfl | (simp; done) | (simp [*]; done), by repeat (first | exact Drawn0.refl _ | apply Drawn0.step)⟩

/-! ### spec_l1Most: function 44 -/
def spec_l1Most.f (a0 : Int) (a1 : Int) : Option (Int) := if a0 > a1 then (some a0) else (some a1)
set_option maxHeartbeats 8000000 in
set_option maxRecDepth 100000 in
theorem spec_l1Most.calls (a0 : Int) (a1 : Int) (r : Int) (w : World) (h : spec_l1Most.f a0 a1 = some r) :
    Calls Try.prog 44 #[.int .i64 a0, .int .i64 a1] w fun e w' => e = .returned (.int .i64 r) ∧ Drawn0 w w' := by
  have H : (if a0 > a1 then (some a0) else (some a1)) = some r := h
  clear h
  by_cases c3 : a0 > a1
  · rw [if_pos c3] at H
    have c3b0 : decide (a1 < a0) = true := decide_eq_true c3
    clear c3
    obtain rfl := Option.some.inj H
    go_enter Try.func44, Try.ntmps44
    go_wp2
    go_ret
    exact ⟨by first | rfl | (simp; done) | (simp [*]; done), by repeat (first | exact Drawn0.refl _ | apply Drawn0.step)⟩
  · rw [if_neg c3] at H
    have c3b0 : decide (a1 < a0) = false := decide_eq_false c3
    clear c3
    obtain rfl := Option.some.inj H
    go_enter Try.func44, Try.ntmps44
    go_wp2
    go_ret
    exact ⟨by first | rfl | (simp; done) | (simp [*]; done), by repeat (first | exact Drawn0.refl _ | apply Drawn0.step)⟩

/-! ### spec_roFill: function 29 -/
mutual
def spec_roFill.l0 : Nat → Int → List Bool → List Bool → Int → Int → Int → Option (Int × Int × Int)
  | 0, _, _, _, _, _, _ => none
  | k + 1, x0, x5, x6, x7, x8, x9 => if x0 > 0 then (spec_roFill.l1 k x0 x5 x6 x7 x8 x9 50) else (some (wrap64 (x7 - 50), wrap64 (x8 - 50), x9))
def spec_roFill.l1 : Nat → Int → List Bool → List Bool → Int → Int → Int → Int → Option (Int × Int × Int)
  | 0, _, _, _, _, _, _, _ => none
  | k + 1, x0, x5, x6, x7, x8, x9, x10 => if 0 ≤ x10 then (if x10 < (x5.length : Int) then (if rdOf false x5 x10 = true then (if x10 < (x6.length : Int) then (if rdOf false x6 x10 = true then (spec_roFill.l1 k x0 x5 (x6.set (x10 : Int).toNat (!(rdOf false x6 x10))) x7 x8 (wrap64 (x9 + 1)) (wrap64 (x10 + 1))) else (spec_roFill.l1 k x0 x5 (x6.set (x10 : Int).toNat (!(rdOf false x6 x10))) x7 x8 (wrap64 (x9 + 1)) (wrap64 (x10 + (-1))))) else (none)) else ((spec_l1Least.f x7 x10).bind fun t114 => ((spec_l1Most.f x8 x10).bind fun t115 => (spec_roFill.l0 k (wrap64 (x0 - 1)) (x5.set (x10 : Int).toNat true) x6 t114 t115 x9)))) else (none)) else (none)
end
def spec_roFill.f (k : Nat) (a0 : Int) : Option (Int × Int × Int) := if 101 ≤ 281474976710656 then (spec_roFill.l0 k a0 (List.replicate 101 false) (List.replicate 101 false) 50 50 0) else (none)
theorem spec_roFill.mono_l : ∀ k, (∀ y0 y1 y2 y3 y4 y5, LeO (spec_roFill.l0 k y0 y1 y2 y3 y4 y5) (spec_roFill.l0 (k + 1) y0 y1 y2 y3 y4 y5)) ∧ (∀ y0 y1 y2 y3 y4 y5 y6, LeO (spec_roFill.l1 k y0 y1 y2 y3 y4 y5 y6) (spec_roFill.l1 (k + 1) y0 y1 y2 y3 y4 y5 y6))
  | 0 => ⟨fun _ _ _ _ _ _ r h => by simp [spec_roFill.l0] at h, fun _ _ _ _ _ _ _ r h => by simp [spec_roFill.l1] at h⟩
  | k + 1 => by
    obtain ⟨ih0, ih1⟩ := spec_roFill.mono_l k
    refine ⟨?_, ?_⟩
    · intro y0 y1 y2 y3 y4 y5
      unfold spec_roFill.l0
      repeat' first
      | (with_reducible exact ih0 _ _ _ _ _ _)
      | (with_reducible exact ih1 _ _ _ _ _ _ _)
      | (with_reducible exact LeO.refl _)
      | (with_reducible exact LeO.none _)
      | (with_reducible refine LeO.ite ?_ ?_)
      | (with_reducible refine LeO.bind ?_ (fun _ => ?_))
      | exact ih0 _ _ _ _ _ _
      | exact ih1 _ _ _ _ _ _ _
      | exact LeO.none _
      | refine LeO.ite ?_ ?_
      | refine LeO.bind ?_ (fun _ => ?_)
    · intro y0 y1 y2 y3 y4 y5 y6
      unfold spec_roFill.l1
      repeat' first
      | (with_reducible exact ih0 _ _ _ _ _ _)
      | (with_reducible exact ih1 _ _ _ _ _ _ _)
      | (with_reducible exact LeO.refl _)
      | (with_reducible exact LeO.none _)
      | (with_reducible refine LeO.ite ?_ ?_)
      | (with_reducible refine LeO.bind ?_ (fun _ => ?_))
      | exact ih0 _ _ _ _ _ _
      | exact ih1 _ _ _ _ _ _ _
      | exact LeO.none _
      | refine LeO.ite ?_ ?_
      | refine LeO.bind ?_ (fun _ => ?_)
theorem spec_roFill.mono : ∀ a0 k, LeO (spec_roFill.f k a0) (spec_roFill.f (k + 1) a0) := by
  intro a0 k
  obtain ⟨ih0, ih1⟩ := spec_roFill.mono_l k
  unfold spec_roFill.f
  repeat' first
      | (with_reducible exact ih0 _ _ _ _ _ _)
      | (with_reducible exact ih1 _ _ _ _ _ _ _)
      | (with_reducible exact LeO.refl _)
      | (with_reducible exact LeO.none _)
      | (with_reducible refine LeO.ite ?_ ?_)
      | (with_reducible refine LeO.bind ?_ (fun _ => ?_))
      | exact ih0 _ _ _ _ _ _
      | exact ih1 _ _ _ _ _ _ _
      | exact LeO.none _
      | refine LeO.ite ?_ ?_
      | refine LeO.bind ?_ (fun _ => ?_)
set_option maxHeartbeats 8000000 in
set_option maxRecDepth 100000 in
theorem spec_roFill.calls (k : Nat) (a0 : Int) (r1 : Int) (r2 : Int) (r3 : Int) (w : World) (h : spec_roFill.f k a0 = some (r1, r2, r3)) :
    Calls Try.prog 29 #[.int .i64 a0] w fun e w' => e = .returned (.tuple #[.int .i64 r1, .int .i64 r2, .int .i64 r3]) ∧ Below w.heap.size w w' := by
  have HB := Aside0.mk (Below.refl w.heap.size w)
  have H : (if 101 ≤ 281474976710656 then (spec_roFill.l0 k a0 (List.replicate 101 false) (List.replicate 101 false) 50 50 0) else (none)) = some (r1, r2, r3) := h
  clear h
  by_cases c2 : 101 ≤ 281474976710656
  · rw [if_pos c2] at H
    have c2b0 := eq_true c2
    have c2b1 : decide (101 ≤ 281474976710656) = true := decide_eq_true c2
    clear c2
    obtain ⟨y101, hy101⟩ : ∃ y_ : List Bool, y_ = (List.replicate 101 false) := ⟨_, rfl⟩
    replace H : (spec_roFill.l0 k a0 y101 (List.replicate 101 false) 50 50 0) = some (r1, r2, r3) := by first | (rw [hy101]; with_reducible exact H) | (have H2_ := (Option.bind_some _ _).symm.trans H; rw [hy101]; with_reducible exact H2_) | (have H2_ := (Option.bind_some _ _).symm.trans H; with_reducible exact H2_) | with_reducible exact H | (rw [hy101]; exact H) | exact H
    have Ny101 := Aside0.mk hy101
    clear hy101
    obtain ⟨y104, hy104⟩ : ∃ y_ : List Bool, y_ = (List.replicate 101 false) := ⟨_, rfl⟩
    replace H : (spec_roFill.l0 k a0 y101 y104 50 50 0) = some (r1, r2, r3) := by first | (rw [hy104]; with_reducible exact H) | (have H2_ := (Option.bind_some _ _).symm.trans H; rw [hy104]; with_reducible exact H2_) | (have H2_ := (Option.bind_some _ _).symm.trans H; with_reducible exact H2_) | with_reducible exact H | (rw [hy104]; exact H) | exact H
    have Ny104 := Aside0.mk hy104
    clear hy104
    have H' := Aside0.mk H
    clear H
    go_enter Try.func29, Try.ntmps29
    go_wp2_with (first | ((with_reducible refine gate_dst (N := 12) rfl ?_); refine Kd.R_make Kd.bool _ 4 rfl (N := 12) rfl 48 _ _ rfl 101 rfl rfl Try.underlying48 (.bool false) 1 info4 rfl (by decide) (by omega) false (ok := fun _ => True) (okp := fun _ => True) rfl (fun _ hk => hk) trivial (by omega) (by omega) (Below.refl _ _) (Nat.le_refl _) ?_; intro v102 w3 ho4 hb hg_ hnew_; clear hg_ hnew_; (first | rw [← Ny101.out] at ho4 | (simp only [Int.reduceToNat] at ho4; rw [← Ny101.out] at ho4)); have n0_ := Aside0.mk (Kd.R_lower ho4 (below_size (XSq.bB HB))); have n1_ := Aside0.mk (below_step (XSq.bB HB) hb); clear HB; have HO103 := n0_; have HB := n1_; clear n0_ n1_; clear hb ho4) | ((with_reducible refine gate_dst (N := 13) rfl ?_); refine Kd.R_make Kd.bool _ 4 rfl (N := 13) rfl 48 _ _ rfl 101 rfl rfl Try.underlying48 (.bool false) 1 info4 rfl (by decide) (by omega) false (ok := fun _ => True) (okp := fun _ => True) rfl (fun _ hk => hk) trivial (by omega) (by omega) (Below.refl _ _) (Nat.le_refl _) ?_; intro v105 w5 ho6 hb hg_ hnew_; clear hg_ hnew_; (first | rw [← Ny104.out] at ho6 | (simp only [Int.reduceToNat] at ho6; rw [← Ny104.out] at ho6)); have n0_ := Aside0.mk (Kd.R_elder' (by (with_reducible repeat (first | apply Kd.R_alloc | apply Kd.R_drewN | apply Kd.R_drew)); exact HO103.out) (Kd.R_base ho6) hb); have n1_ := Aside0.mk (Kd.R_lower (Kd.R_new' ho6 (Kd.R_lt (by (with_reducible repeat (first | apply Kd.R_alloc | apply Kd.R_drewN | apply Kd.R_drew)); exact HO103.out))) (below_size (XSq.bB HB))); have n2_ := Aside0.mk (below_step (XSq.bB HB) hb); clear HO103; clear HB; have HO103 := n0_; have HO106 := n1_; have HB := n2_; clear n0_ n1_ n2_; clear hb ho6))
    go_loopg [0, 7, 8, 9] k (fun kq v0 v7 v8 v9 w' => ∃ (x0_1 : Int) (x5_1 : List Bool) (x6_1 : List Bool) (x7_1 : Int) (x8_1 : Int) (x9_1 : Int), v0 = .int .i64 x0_1 ∧ v7 = .int .i64 x7_1 ∧ v8 = .int .i64 x8_1 ∧ v9 = .int .i64 x9_1 ∧ Aside0 (spec_roFill.l0 kq x0_1 x5_1 x6_1 x7_1 x8_1 x9_1 = some (r1, r2, r3)) ∧ Aside0 (kq ≤ k) ∧ Aside0 (Kd.R Kd.bool 4 w' w.heap.size (fun k_ => some k_ ≠ (v105 : Value).ownBlock) v102 x5_1) ∧ Aside0 (Kd.R Kd.bool 4 w' w.heap.size (fun k_ => some k_ ≠ (v102 : Value).ownBlock) v105 x6_1) ∧ Aside0 (Below w.heap.size w w'))
    case atStart => exact ⟨(a0), (y101), (y104), (50), (50), (0), (by first | rfl | (simp; done) | (simp [*]; done)), (by first | rfl | (simp; done) | (simp [*]; done)), (by first | rfl | (simp; done) | (simp [*]; done)), (by first | rfl | (simp; done) | (simp [*]; done)), H', ⟨Nat.le_refl _⟩, ⟨by (with_reducible repeat (first | apply Kd.R_alloc | apply Kd.R_drewN | apply Kd.R_drew)); exact Kd.R_mono HO103.out (fun _ hk => hk.2)⟩, ⟨by (with_reducible repeat (first | apply Kd.R_alloc | apply Kd.R_drewN | apply Kd.R_drew)); exact Kd.R_mono HO106.out (fun _ hk => hk.2)⟩, ⟨by repeat (first | (with_reducible first | exact HB.out | apply below_alloc | apply pw_below_drewN | apply below_drew1) | exact HB.out)⟩⟩
    case round =>
      clear H'
      try clear c2
      try clear c2b0
      try clear c2b1
      try clear p2
      obtain ⟨x0_1, x5_1, x6_1, x7_1, x8_1, x9_1, rfl, rfl, rfl, rfl, HA, HK1, HO_5, HO_6, HB⟩ := hrel
      cases gk with
      | zero => exact absurd HA.out (by simp [spec_roFill.l0])
      | succ k1 =>
        have H := HA.out
        clear HA
        simp only [spec_roFill.l0] at H
        by_cases c7 : x0_1 > 0
        · rw [if_pos c7] at H
          have c7b0 : decide (0 < x0_1) = true := decide_eq_true c7
          clear c7
          have H' := Aside0.mk H
          clear H
          go_wp2
          go_loopg [9, 10] k1 (fun kq v9 v10 w' => ∃ (x6_2 : List Bool) (x9_2 : Int) (x10_2 : Int), v9 = .int .i64 x9_2 ∧ v10 = .int .i64 x10_2 ∧ Aside0 (spec_roFill.l1 kq x0_1 x5_1 x6_2 x7_1 x8_1 x9_2 x10_2 = some (r1, r2, r3)) ∧ Aside0 (kq ≤ k1) ∧ Aside0 (Kd.R Kd.bool 4 w' w.heap.size (fun k_ => some k_ ≠ (v105 : Value).ownBlock) v102 x5_1) ∧ Aside0 (Kd.R Kd.bool 4 w' w.heap.size (fun k_ => some k_ ≠ (v102 : Value).ownBlock) v105 x6_2) ∧ Aside0 (Below w.heap.size w w'))
          case atStart => exact ⟨(x6_1), (x9_1), (50), (by first | rfl | (simp; done) | (simp [*]; done)), (by first | rfl | (simp; done) | (simp [*]; done)), H', ⟨Nat.le_refl _⟩, ⟨by (with_reducible repeat (first | apply Kd.R_alloc | apply Kd.R_drewN | apply Kd.R_drew)); exact HO_5.out⟩, ⟨by (with_reducible repeat (first | apply Kd.R_alloc | apply Kd.R_drewN | apply Kd.R_drew)); exact HO_6.out⟩, ⟨by repeat (first | (with_reducible first | exact HB.out | apply below_alloc | apply pw_below_drewN | apply below_drew1) | exact HB.out)⟩⟩
          case round =>
            clear H'
            try clear c2
            try clear c2b0
            try clear c2b1
            try clear p2
            try clear c7
            try clear c7b0
            try clear p2
            obtain ⟨x6_2, x9_2, x10_2, rfl, rfl, HA, HK2, HO_5, HO_6, HB⟩ := hrel
            cases gk with
            | zero => exact absurd HA.out (by simp [spec_roFill.l1])
            | succ k2 =>
              have H := HA.out
              clear HA
              simp only [spec_roFill.l1] at H
              by_cases c8 : 0 ≤ x10_2
              · rw [if_pos c8] at H
                have c8b0 : decide (0 ≤ x10_2) = true := decide_eq_true c8
                clear c8
                by_cases c9 : x10_2 < (x5_1.length : Int)
                · rw [if_pos c9] at H
                  have c9b0 : decide (x10_2 < (x5_1.length : Int)) = true := decide_eq_true c9
                  clear c9
                  obtain ⟨bq10, hbq10⟩ : ∃ b_ : Bool, b_ = (rdOf false x5_1 x10_2) := ⟨_, rfl⟩
                  replace H : (if bq10 = true then (if x10_2 < (x6_2.length : Int) then (if rdOf false x6_2 x10_2 = true then (spec_roFill.l1 k2 x0_1 x5_1 (x6_2.set (x10_2 : Int).toNat (!(rdOf false x6_2 x10_2))) x7_1 x8_1 (wrap64 (x9_2 + 1)) (wrap64 (x10_2 + 1))) else (spec_roFill.l1 k2 x0_1 x5_1 (x6_2.set (x10_2 : Int).toNat (!(rdOf false x6_2 x10_2))) x7_1 x8_1 (wrap64 (x9_2 + 1)) (wrap64 (x10_2 + (-1))))) else (none)) else ((spec_l1Least.f x7_1 x10_2).bind fun t114 => ((spec_l1Most.f x8_1 x10_2).bind fun t115 => (spec_roFill.l0 k2 (wrap64 (x0_1 - 1)) (x5_1.set (x10_2 : Int).toNat true) x6_2 t114 t115 x9_2)))) = some (r1, r2, r3) := by rw [← hbq10] at H; exact H
                  have Nbq10 := Aside0.mk hbq10
                  clear hbq10
                  by_cases c11 : bq10 = true
                  · subst c11
                    have H1 : (if x10_2 < (x6_2.length : Int) then (if rdOf false x6_2 x10_2 = true then (spec_roFill.l1 k2 x0_1 x5_1 (x6_2.set (x10_2 : Int).toNat (!(rdOf false x6_2 x10_2))) x7_1 x8_1 (wrap64 (x9_2 + 1)) (wrap64 (x10_2 + 1))) else (spec_roFill.l1 k2 x0_1 x5_1 (x6_2.set (x10_2 : Int).toNat (!(rdOf false x6_2 x10_2))) x7_1 x8_1 (wrap64 (x9_2 + 1)) (wrap64 (x10_2 + (-1))))) else (none)) = some (r1, r2, r3) := by rw [if_pos rfl] at H; exact H
                    clear H
                    have H := H1
                    clear H1
                    by_cases c12 : x10_2 < (x6_2.length : Int)
                    · rw [if_pos c12] at H
                      have c12b0 : decide (x10_2 < (x6_2.length : Int)) = true := decide_eq_true c12
                      clear c12
                      obtain ⟨bq13, hbq13⟩ : ∃ b_ : Bool, b_ = (rdOf false x6_2 x10_2) := ⟨_, rfl⟩
                      replace H : (if bq13 = true then (spec_roFill.l1 k2 x0_1 x5_1 (x6_2.set (x10_2 : Int).toNat (!(bq13))) x7_1 x8_1 (wrap64 (x9_2 + 1)) (wrap64 (x10_2 + 1))) else (spec_roFill.l1 k2 x0_1 x5_1 (x6_2.set (x10_2 : Int).toNat (!(bq13))) x7_1 x8_1 (wrap64 (x9_2 + 1)) (wrap64 (x10_2 + (-1))))) = some (r1, r2, r3) := by rw [← hbq13] at H; exact H
                      have Nbq13 := Aside0.mk hbq13
                      clear hbq13
                      by_cases c14 : bq13 = true
                      · subst c14
                        have H1 : (spec_roFill.l1 k2 x0_1 x5_1 (x6_2.set (x10_2 : Int).toNat (!(true))) x7_1 x8_1 (wrap64 (x9_2 + 1)) (wrap64 (x10_2 + 1))) = some (r1, r2, r3) := by rw [if_pos rfl] at H; exact H
                        clear H
                        have H := H1
                        clear H1
                        obtain ⟨y110, hy110⟩ : ∃ y_ : List Bool, y_ = (x6_2.set (x10_2 : Int).toNat (!(true))) := ⟨_, rfl⟩
                        replace H : (spec_roFill.l1 k2 x0_1 x5_1 y110 x7_1 x8_1 (wrap64 (x9_2 + 1)) (wrap64 (x10_2 + 1))) = some (r1, r2, r3) := by first | (rw [hy110]; with_reducible exact H) | (have H2_ := (Option.bind_some _ _).symm.trans H; rw [hy110]; with_reducible exact H2_) | (have H2_ := (Option.bind_some _ _).symm.trans H; with_reducible exact H2_) | with_reducible exact H | (rw [hy110]; exact H) | exact H
                        have Ny110 := Aside0.mk hy110
                        clear hy110
                        have H' := Aside0.mk H
                        clear H
                        obtain ⟨Ao16, co16, eo16⟩ := Kd.R_slice HO_5.out
                        subst eo16
                        have p107 : 0 ≤ (x10_2 : Int) := of_decide_eq_true (by first | (with_reducible assumption) | assumption)
                        have q107 : x10_2 < (x5_1.length : Int) := of_decide_eq_true (by first | (with_reducible assumption) | assumption)
                        obtain ⟨ad107, e107, hx107_0⟩ := Kd.at_bool (Kd.R_reads' HO_5.out).2.2 x10_2 p107 q107
                        (try rw [← Nbq10.out] at hx107_0)
                        (try rw [← Nbq13.out] at hx107_0)
                        cases e107
                        replace p107 := eq_true p107
                        replace q107 := eq_true q107
                        obtain ⟨Ao17, co17, eo17⟩ := Kd.R_slice HO_6.out
                        subst eo17
                        have p108 : 0 ≤ (x10_2 : Int) := of_decide_eq_true (by first | (with_reducible assumption) | assumption)
                        have q108 : x10_2 < (x6_2.length : Int) := of_decide_eq_true (by first | (with_reducible assumption) | assumption)
                        obtain ⟨ad108, e108, hx108_0⟩ := Kd.at_bool (Kd.R_reads' HO_6.out).2.2 x10_2 p108 q108
                        (try rw [← Nbq10.out] at hx108_0)
                        (try rw [← Nbq13.out] at hx108_0)
                        cases e108
                        replace p108 := eq_true p108
                        replace q108 := eq_true q108
                        have p109 : 0 ≤ (x10_2 : Int) := of_decide_eq_true (by first | (with_reducible assumption) | assumption)
                        have q109 : x10_2 < (x6_2.length : Int) := of_decide_eq_true (by first | (with_reducible assumption) | assumption)
                        obtain ⟨ad109, e109, hx109_0⟩ := Kd.at_bool (Kd.R_reads' HO_6.out).2.2 x10_2 p109 q109
                        (try rw [← Nbq10.out] at hx109_0)
                        (try rw [← Nbq13.out] at hx109_0)
                        obtain rfl : ad108 = ad109 := (by injection e109)
                        replace p109 := eq_true p109
                        replace q109 := eq_true q109
                        have p15 : 0 ≤ (x10_2 : Int) := of_decide_eq_true (by first | (with_reducible assumption) | assumption)
                        have q15 : (x10_2 : Int) < ((x6_2.length : Int) : Int) := of_decide_eq_true (by first | (with_reducible assumption) | assumption)
                        obtain ⟨go15, co15, eo15, gb15, gl15, cl15, HG15⟩ := Kd.R_form HO_6.out (by omega)
                        (first | cases eo15 | (injection eo15 with ea_ en_ ec_; (first | subst ea_ | (injection ea_ with ea_; subst ea_)); subst ec_; clear en_))
                        have GB15 := Aside0.mk gb15
                        have GG15 := Aside0.mk HG15
                        clear gb15 gl15 HG15
                        (first | simp only [add_plain] at hx108_0 | skip)
                        (first | simp only [add_plain] at hx109_0 | skip)
                        obtain ⟨hx15_0, hf15_0⟩ := Kd.R_celln false HO_6.out (x10_2 : Int) p15 q15
                        replace p15 := eq_true p15
                        replace q15 := eq_true q15
                        have HP18 := Kd.R_putg HO_6.out (x10_2 : Int) (!(true))
                        go_wp2_with (first | ((with_reducible refine gate_store (t := 4) (p := 33) rfl ?_); refine store_event (t := 4) (p := 33) (v := ?vo_w19) (w1 := (wr.setCell ⟨go15, (x10_2 : Int).toNat, none⟩ (.bool (!(true))))) ?hg ?ho ?hn ?hr ?_; (case ho => rfl); (case hg => rfl); (case hn => rfl); (case hr => first | (go_simp; done) | (go_simp; rfl)); intro w19 hw; have hg : wr.grownBy w19 (some go15) := (by rw [hw]; exact HP18.2); have hp_ : Kd.R Kd.bool 4 w19 w.heap.size (fun k_ => some k_ ≠ (.slice (some ad107) x5_1.length co16 : Value).ownBlock) (.slice (some ⟨go15, 0, none⟩) x6_2.length co17) y110 := (by rw [hw, Ny110.out]; exact HP18.1); clear HP18; have n0_ := Aside0.mk (Kd.R_after (v := (.slice (some ⟨go15, 0, none⟩) x6_2.length co17)) (v1 := (.slice (some ⟨go15, 0, none⟩) x6_2.length co17)) (ok := (fun _ => True)) (by (with_reducible repeat (first | apply Kd.R_alloc | apply Kd.R_drewN | apply Kd.R_drew)); exact Kd.R_mono HO_5.out (fun _ hk => ⟨trivial, hk⟩)) hg (.inl rfl)); have n1_ := Aside0.mk (hp_); have n2_ := Aside0.mk ((by rw [hw]; exact below_set (HB.out) GB15.out : Below w.heap.size w w19)); clear HO_5; clear HO_6; clear HB; have HO_5 := n0_; have HO_6 := n1_; have HB := n2_; clear n0_ n1_ n2_; clear hg hw hp_))
                        go_roundg k2
                        case measure => have := HK1.out; have := HK2.out; omega
                        case rel => exact ⟨(y110), (wrap64 (x9_2 + 1)), (wrap64 (x10_2 + 1)), (by first | rfl | (simp; done) | (simp [*]; done)), (by first | rfl | (simp; done) | (simp [*]; done)), H', ⟨by have := HK1.out; have := HK2.out; omega⟩, ⟨by (with_reducible repeat (first | apply Kd.R_alloc | apply Kd.R_drewN | apply Kd.R_drew)); exact Kd.R_mono HO_5.out (fun _ hk => hk.2)⟩, ⟨by (with_reducible repeat (first | apply Kd.R_alloc | apply Kd.R_drewN | apply Kd.R_drew)); exact HO_6.out⟩, ⟨by repeat (first | (with_reducible first | exact HB.out | apply below_alloc | apply pw_below_drewN | apply below_drew1) | exact HB.out)⟩⟩
                      · replace c14 := Bool.eq_false_iff.mpr c14
                        subst c14
                        have H1 : (spec_roFill.l1 k2 x0_1 x5_1 (x6_2.set (x10_2 : Int).toNat (!(false))) x7_1 x8_1 (wrap64 (x9_2 + 1)) (wrap64 (x10_2 + (-1)))) = some (r1, r2, r3) := by rw [if_neg (show ¬ (false = true) by decide)] at H; exact H
                        clear H
                        have H := H1
                        clear H1
                        obtain ⟨y112, hy112⟩ : ∃ y_ : List Bool, y_ = (x6_2.set (x10_2 : Int).toNat (!(false))) := ⟨_, rfl⟩
                        replace H : (spec_roFill.l1 k2 x0_1 x5_1 y112 x7_1 x8_1 (wrap64 (x9_2 + 1)) (wrap64 (x10_2 + (-1)))) = some (r1, r2, r3) := by first | (rw [hy112]; with_reducible exact H) | (have H2_ := (Option.bind_some _ _).symm.trans H; rw [hy112]; with_reducible exact H2_) | (have H2_ := (Option.bind_some _ _).symm.trans H; with_reducible exact H2_) | with_reducible exact H | (rw [hy112]; exact H) | exact H
                        have Ny112 := Aside0.mk hy112
                        clear hy112
                        have H' := Aside0.mk H
                        clear H
                        obtain ⟨Ao21, co21, eo21⟩ := Kd.R_slice HO_5.out
                        subst eo21
                        have p107 : 0 ≤ (x10_2 : Int) := of_decide_eq_true (by first | (with_reducible assumption) | assumption)
                        have q107 : x10_2 < (x5_1.length : Int) := of_decide_eq_true (by first | (with_reducible assumption) | assumption)
                        obtain ⟨ad107, e107, hx107_0⟩ := Kd.at_bool (Kd.R_reads' HO_5.out).2.2 x10_2 p107 q107
                        (try rw [← Nbq10.out] at hx107_0)
                        (try rw [← Nbq13.out] at hx107_0)
                        cases e107
                        replace p107 := eq_true p107
                        replace q107 := eq_true q107
                        obtain ⟨Ao22, co22, eo22⟩ := Kd.R_slice HO_6.out
                        subst eo22
                        have p108 : 0 ≤ (x10_2 : Int) := of_decide_eq_true (by first | (with_reducible assumption) | assumption)
                        have q108 : x10_2 < (x6_2.length : Int) := of_decide_eq_true (by first | (with_reducible assumption) | assumption)
                        obtain ⟨ad108, e108, hx108_0⟩ := Kd.at_bool (Kd.R_reads' HO_6.out).2.2 x10_2 p108 q108
                        (try rw [← Nbq10.out] at hx108_0)
                        (try rw [← Nbq13.out] at hx108_0)
                        cases e108
                        replace p108 := eq_true p108
                        replace q108 := eq_true q108
                        have p111 : 0 ≤ (x10_2 : Int) := of_decide_eq_true (by first | (with_reducible assumption) | assumption)
                        have q111 : x10_2 < (x6_2.length : Int) := of_decide_eq_true (by first | (with_reducible assumption) | assumption)
                        obtain ⟨ad111, e111, hx111_0⟩ := Kd.at_bool (Kd.R_reads' HO_6.out).2.2 x10_2 p111 q111
                        (try rw [← Nbq10.out] at hx111_0)
                        (try rw [← Nbq13.out] at hx111_0)
                        obtain rfl : ad108 = ad111 := (by injection e111)
                        replace p111 := eq_true p111
                        replace q111 := eq_true q111
                        have p20 : 0 ≤ (x10_2 : Int) := of_decide_eq_true (by first | (with_reducible assumption) | assumption)
                        have q20 : (x10_2 : Int) < ((x6_2.length : Int) : Int) := of_decide_eq_true (by first | (with_reducible assumption) | assumption)
                        obtain ⟨go20, co20, eo20, gb20, gl20, cl20, HG20⟩ := Kd.R_form HO_6.out (by omega)
                        (first | cases eo20 | (injection eo20 with ea_ en_ ec_; (first | subst ea_ | (injection ea_ with ea_; subst ea_)); subst ec_; clear en_))
                        have GB20 := Aside0.mk gb20
                        have GG20 := Aside0.mk HG20
                        clear gb20 gl20 HG20
                        (first | simp only [add_plain] at hx108_0 | skip)
                        (first | simp only [add_plain] at hx111_0 | skip)
                        obtain ⟨hx20_0, hf20_0⟩ := Kd.R_celln false HO_6.out (x10_2 : Int) p20 q20
                        replace p20 := eq_true p20
                        replace q20 := eq_true q20
                        have HP23 := Kd.R_putg HO_6.out (x10_2 : Int) (!(false))
                        go_wp2_with (first | ((with_reducible refine gate_store (t := 4) (p := 33) rfl ?_); refine store_event (t := 4) (p := 33) (v := ?vo_w24) (w1 := (wr.setCell ⟨go20, (x10_2 : Int).toNat, none⟩ (.bool (!(false))))) ?hg ?ho ?hn ?hr ?_; (case ho => rfl); (case hg => rfl); (case hn => rfl); (case hr => first | (go_simp; done) | (go_simp; rfl)); intro w24 hw; have hg : wr.grownBy w24 (some go20) := (by rw [hw]; exact HP23.2); have hp_ : Kd.R Kd.bool 4 w24 w.heap.size (fun k_ => some k_ ≠ (.slice (some ad107) x5_1.length co21 : Value).ownBlock) (.slice (some ⟨go20, 0, none⟩) x6_2.length co22) y112 := (by rw [hw, Ny112.out]; exact HP23.1); clear HP23; have n0_ := Aside0.mk (Kd.R_after (v := (.slice (some ⟨go20, 0, none⟩) x6_2.length co22)) (v1 := (.slice (some ⟨go20, 0, none⟩) x6_2.length co22)) (ok := (fun _ => True)) (by (with_reducible repeat (first | apply Kd.R_alloc | apply Kd.R_drewN | apply Kd.R_drew)); exact Kd.R_mono HO_5.out (fun _ hk => ⟨trivial, hk⟩)) hg (.inl rfl)); have n1_ := Aside0.mk (hp_); have n2_ := Aside0.mk ((by rw [hw]; exact below_set (HB.out) GB20.out : Below w.heap.size w w24)); clear HO_5; clear HO_6; clear HB; have HO_5 := n0_; have HO_6 := n1_; have HB := n2_; clear n0_ n1_ n2_; clear hg hw hp_))
                        go_roundg k2
                        case measure => have := HK1.out; have := HK2.out; omega
                        case rel => exact ⟨(y112), (wrap64 (x9_2 + 1)), (wrap64 (x10_2 + (-1))), (by first | rfl | (simp; done) | (simp [*]; done)), (by first | rfl | (simp; done) | (simp [*]; done)), H', ⟨by have := HK1.out; have := HK2.out; omega⟩, ⟨by (with_reducible repeat (first | apply Kd.R_alloc | apply Kd.R_drewN | apply Kd.R_drew)); exact Kd.R_mono HO_5.out (fun _ hk => hk.2)⟩, ⟨by (with_reducible repeat (first | apply Kd.R_alloc | apply Kd.R_drewN | apply Kd.R_drew)); exact HO_6.out⟩, ⟨by repeat (first | (with_reducible first | exact HB.out | apply below_alloc | apply pw_below_drewN | apply below_drew1) | exact HB.out)⟩⟩
                    · rw [if_neg c12] at H
                      exact absurd H (by simp)
                  · replace c11 := Bool.eq_false_iff.mpr c11
                    subst c11
                    have H1 : ((spec_l1Least.f x7_1 x10_2).bind fun t114 => ((spec_l1Most.f x8_1 x10_2).bind fun t115 => (spec_roFill.l0 k2 (wrap64 (x0_1 - 1)) (x5_1.set (x10_2 : Int).toNat true) x6_2 t114 t115 x9_2))) = some (r1, r2, r3) := by rw [if_neg (show ¬ (false = true) by decide)] at H; exact H
                    clear H
                    have H := H1
                    clear H1
                    obtain ⟨y113, hy113⟩ : ∃ y_ : List Bool, y_ = (x5_1.set (x10_2 : Int).toNat true) := ⟨_, rfl⟩
                    replace H : ((spec_l1Least.f x7_1 x10_2).bind fun t114 => ((spec_l1Most.f x8_1 x10_2).bind fun t115 => (spec_roFill.l0 k2 (wrap64 (x0_1 - 1)) y113 x6_2 t114 t115 x9_2))) = some (r1, r2, r3) := by first | (rw [hy113]; with_reducible exact H) | (have H2_ := (Option.bind_some _ _).symm.trans H; rw [hy113]; with_reducible exact H2_) | (have H2_ := (Option.bind_some _ _).symm.trans H; with_reducible exact H2_) | with_reducible exact H | (rw [hy113]; exact H) | exact H
                    have Ny113 := Aside0.mk hy113
                    clear hy113
                    replace H := Option.bind_eq_some_iff.mp H
                    obtain ⟨t114, A260, H⟩ := H
                    replace H : ((spec_l1Most.f x8_1 x10_2).bind fun t115 => (spec_roFill.l0 k2 (wrap64 (x0_1 - 1)) y113 x6_2 t114 t115 x9_2)) = some (r1, r2, r3) := H
                    have A26 := Aside0.mk A260
                    clear A260
                    replace H := Option.bind_eq_some_iff.mp H
                    obtain ⟨t115, A270, H⟩ := H
                    replace H : (spec_roFill.l0 k2 (wrap64 (x0_1 - 1)) y113 x6_2 t114 t115 x9_2) = some (r1, r2, r3) := H
                    have A27 := Aside0.mk A270
                    clear A270
                    have H' := Aside0.mk H
                    clear H
                    obtain ⟨Ao28, co28, eo28⟩ := Kd.R_slice HO_5.out
                    subst eo28
                    have p107 : 0 ≤ (x10_2 : Int) := of_decide_eq_true (by first | (with_reducible assumption) | assumption)
                    have q107 : x10_2 < (x5_1.length : Int) := of_decide_eq_true (by first | (with_reducible assumption) | assumption)
                    obtain ⟨ad107, e107, hx107_0⟩ := Kd.at_bool (Kd.R_reads' HO_5.out).2.2 x10_2 p107 q107
                    (try rw [← Nbq10.out] at hx107_0)
                    cases e107
                    replace p107 := eq_true p107
                    replace q107 := eq_true q107
                    have p25 : 0 ≤ (x10_2 : Int) := of_decide_eq_true (by first | (with_reducible assumption) | assumption)
                    have q25 : (x10_2 : Int) < ((x5_1.length : Int) : Int) := of_decide_eq_true (by first | (with_reducible assumption) | assumption)
                    obtain ⟨go25, co25, eo25, gb25, gl25, cl25, HG25⟩ := Kd.R_form HO_5.out (by omega)
                    (first | cases eo25 | (injection eo25 with ea_ en_ ec_; (first | subst ea_ | (injection ea_ with ea_; subst ea_)); subst ec_; clear en_))
                    have GB25 := Aside0.mk gb25
                    have GG25 := Aside0.mk HG25
                    clear gb25 gl25 HG25
                    (first | simp only [add_plain] at hx107_0 | skip)
                    obtain ⟨hx25_0, hf25_0⟩ := Kd.R_celln false HO_5.out (x10_2 : Int) p25 q25
                    replace p25 := eq_true p25
                    replace q25 := eq_true q25
                    have HP29 := Kd.R_putg HO_5.out (x10_2 : Int) true
                    go_wp2_with (first | ((with_reducible refine gate_store (t := 4) (p := 41) rfl ?_); refine store_event (t := 4) (p := 41) (v := ?vo_w30) (w1 := (wr.setCell ⟨go25, (x10_2 : Int).toNat, none⟩ (.bool true))) ?hg ?ho ?hn ?hr ?_; (case ho => rfl); (case hg => rfl); (case hn => rfl); (case hr => first | (go_simp; done) | (go_simp; rfl)); intro w30 hw; have hg : wr.grownBy w30 (some go25) := (by rw [hw]; exact HP29.2); have hp_ : Kd.R Kd.bool 4 w30 w.heap.size (fun k_ => some k_ ≠ (v105 : Value).ownBlock) (.slice (some ⟨go25, 0, none⟩) x5_1.length co28) y113 := (by rw [hw, Ny113.out]; exact HP29.1); clear HP29; have n0_ := Aside0.mk (hp_); have n1_ := Aside0.mk (Kd.R_after (v := (.slice (some ⟨go25, 0, none⟩) x5_1.length co28)) (v1 := (.slice (some ⟨go25, 0, none⟩) x5_1.length co28)) (ok := (fun _ => True)) (by (with_reducible repeat (first | apply Kd.R_alloc | apply Kd.R_drewN | apply Kd.R_drew)); exact Kd.R_mono HO_6.out (fun _ hk => ⟨trivial, hk⟩)) hg (.inl rfl)); have n2_ := Aside0.mk ((by rw [hw]; exact below_set (HB.out) GB25.out : Below w.heap.size w w30)); clear HO_5; clear HO_6; clear HB; have HO_5 := n0_; have HO_6 := n1_; have HB := n2_; clear n0_ n1_ n2_; clear hg hw hp_) | ((with_reducible refine gate_callee (f := 43) rfl ?_); refine goesL_ (some 44) rfl rfl Try.func43 (by kernel_rfl) rfl #[.int .i64 x7_1, .int .i64 x10_2] rfl (by (try simp only [List.map_toArray, List.map_cons, List.map_nil]); first | done | rfl | (simp only [List.length_drop, List.length_take]; rfl)) ?_; (with_reducible refine (spec_l1Least.calls x7_1 x10_2 t114 _ A26.out).mono ?_); rintro e w' ⟨rfl, ⟨nd, rfl⟩⟩; refine ⟨_, rfl, ?_⟩) | ((with_reducible refine gate_callee (f := 44) rfl ?_); refine goesL_ (some 47) rfl rfl Try.func44 (by kernel_rfl) rfl #[.int .i64 x8_1, .int .i64 x10_2] rfl (by (try simp only [List.map_toArray, List.map_cons, List.map_nil]); first | done | rfl | (simp only [List.length_drop, List.length_take]; rfl)) ?_; (with_reducible refine (spec_l1Most.calls x8_1 x10_2 t115 _ A27.out).mono ?_); rintro e w' ⟨rfl, ⟨nd, rfl⟩⟩; refine ⟨_, rfl, ?_⟩))
                    go_roundg k2
                    case measure => have := HK1.out; have := HK2.out; omega
                    case rel => exact ⟨(wrap64 (x0_1 - 1)), (y113), (x6_2), (t114), (t115), (x9_2), (by first | rfl | (simp; done) | (simp [*]; done)), (by first | rfl | (simp; done) | (simp [*]; done)), (by first | rfl | (simp; done) | (simp [*]; done)), (by first | rfl | (simp; done) | (simp [*]; done)), H', ⟨by have := HK1.out; have := HK2.out; omega⟩, ⟨by (with_reducible repeat (first | apply Kd.R_alloc | apply Kd.R_drewN | apply Kd.R_drew)); exact HO_5.out⟩, ⟨by (with_reducible repeat (first | apply Kd.R_alloc | apply Kd.R_drewN | apply Kd.R_drew)); exact Kd.R_mono HO_6.out (fun _ hk => hk.2)⟩, ⟨by repeat (first | (with_reducible first | exact HB.out | apply below_alloc | apply pw_below_drewN | apply below_drew1) | exact HB.out)⟩⟩
                · rw [if_neg c9] at H
                  exact absurd H (by simp)
              · rw [if_neg c8] at H
                exact absurd H (by simp)
        · rw [if_neg c7] at H
          have c7b0 : decide (0 < x0_1) = false := decide_eq_false c7
          clear c7
          simp only [Option.some.injEq, Prod.mk.injEq] at H
          obtain ⟨rfl, rfl, rfl⟩ := H
          go_wp2
          go_ret3
          exact ⟨by first | rfl | (simp [errW_none, errW_some] <;> rfl) | (simp [*, errW_none, errW_some] <;> rfl), by repeat (first | (with_reducible first | exact HB.out | apply below_alloc | apply pw_below_drewN | apply below_drew1) | exact HB.out)⟩
  · rw [if_neg c2] at H
    exact absurd H (by simp)

/-! ### spec_FillSteps: function 16 -/
def spec_FillSteps.f (k : Nat) (a0 : Int) : Option (Int × Bool) := (spec_l1In.f a0 1 40).bind fun t116 => (if t116 = true then ((spec_roFill.f k a0).bind fun bt117 => (some (bt117.2.2, true))) else (some (0, false)))
theorem spec_FillSteps.mono : ∀ a0 k, LeO (spec_FillSteps.f k a0) (spec_FillSteps.f (k + 1) a0) := by
  intro a0 k
  unfold spec_FillSteps.f
  repeat' first
      | (with_reducible exact spec_roFill.mono _ _)
      | (with_reducible exact LeO.refl _)
      | (with_reducible exact LeO.none _)
      | (with_reducible refine LeO.ite ?_ ?_)
      | (with_reducible refine LeO.bind ?_ (fun _ => ?_))
      | exact spec_roFill.mono _ _
      | exact LeO.none _
      | refine LeO.ite ?_ ?_
      | refine LeO.bind ?_ (fun _ => ?_)
set_option maxHeartbeats 8000000 in
set_option maxRecDepth 100000 in
theorem spec_FillSteps.calls (k : Nat) (a0 : Int) (r1 : Int) (r2 : Bool) (w : World) (h : spec_FillSteps.f k a0 = some (r1, r2)) :
    Calls Try.prog 16 #[.int .i64 a0] w fun e w' => e = .returned (.tuple #[.int .i64 r1, .bool r2]) ∧ Below w.heap.size w w' := by
  have HB := Aside0.mk (Below.refl w.heap.size w)
  have H : ((spec_l1In.f a0 1 40).bind fun t116 => (if t116 = true then ((spec_roFill.f k a0).bind fun bt117 => (some (bt117.2.2, true))) else (some (0, false)))) = some (r1, r2) := h
  clear h
  replace H := Option.bind_eq_some_iff.mp H
  obtain ⟨t116, A20, H⟩ := H
  replace H : (if t116 = true then ((spec_roFill.f k a0).bind fun bt117 => (some (bt117.2.2, true))) else (some (0, false))) = some (r1, r2) := H
  have A2 := Aside0.mk A20
  clear A20
  by_cases c3 : t116 = true
  · subst c3
    have H1 : ((spec_roFill.f k a0).bind fun bt117 => (some (bt117.2.2, true))) = some (r1, r2) := by rw [if_pos rfl] at H; exact H
    clear H
    have H := H1
    clear H1
    replace H := Option.bind_eq_some_iff.mp H
    obtain ⟨⟨t117, t118, t119⟩, A40, H⟩ := H
    replace H : (some (t119, true)) = some (r1, r2) := H
    have A4 := Aside0.mk A40
    clear A40
    simp only [Option.some.injEq, Prod.mk.injEq] at H
    obtain ⟨rfl, rfl⟩ := H
    go_enter Try.func16, Try.ntmps16
    go_wp2_with (first | ((with_reducible refine gate_callee (f := 28) rfl ?_); refine goesL_ (some 8) rfl rfl Try.func28 (by kernel_rfl) rfl #[.int .i64 a0, .int .i64 1, .int .i64 40] rfl (by (try simp only [List.map_toArray, List.map_cons, List.map_nil]); first | done | rfl | (simp only [List.length_drop, List.length_take]; rfl)) ?_; (with_reducible refine (spec_l1In.calls a0 1 40 true _ A2.out).mono ?_); rintro e w' ⟨rfl, ⟨nd, rfl⟩⟩; refine ⟨_, rfl, ?_⟩) | ((with_reducible refine gate_callee (f := 29) rfl ?_); refine goesL_ (some 12) rfl rfl Try.func29 (by kernel_rfl) rfl #[.int .i64 a0] rfl (by (try simp only [List.map_toArray, List.map_cons, List.map_nil]); first | done | rfl | (simp only [List.length_drop, List.length_take]; rfl)) ?_; (with_reducible refine (spec_roFill.calls k a0 t117 t118 t119 _ A4.out).mono ?_); rintro e w5 ⟨rfl, hb⟩; refine ⟨_, rfl, ?_⟩; have n0_ := Aside0.mk (below_step (XSq.bB HB) hb); clear HB; have HB := n0_; clear n0_; (try clear hb); (try clear hb2); (try clear hk); (try clear hi)))
    go_ret2
    exact ⟨by first | rfl | (simp [errW_none, errW_some] <;> rfl) | (simp [*, errW_none, errW_some] <;> rfl), by repeat (first | (with_reducible first | exact HB.out | apply below_alloc | apply pw_below_drewN | apply below_drew1) | exact HB.out)⟩
  · replace c3 := Bool.eq_false_iff.mpr c3
    subst c3
    have H1 : (some (0, false)) = some (r1, r2) := by rw [if_neg (show ¬ (false = true) by decide)] at H; exact H
    clear H
    have H := H1
    clear H1
    simp only [Option.some.injEq, Prod.mk.injEq] at H
    obtain ⟨rfl, rfl⟩ := H
    go_enter Try.func16, Try.ntmps16
    go_wp2_with (first | ((with_reducible refine gate_callee (f := 28) rfl ?_); refine goesL_ (some 8) rfl rfl Try.func28 (by kernel_rfl) rfl #[.int .i64 a0, .int .i64 1, .int .i64 40] rfl (by (try simp only [List.map_toArray, List.map_cons, List.map_nil]); first | done | rfl | (simp only [List.length_drop, List.length_take]; rfl)) ?_; (with_reducible refine (spec_l1In.calls a0 1 40 false _ A2.out).mono ?_); rintro e w' ⟨rfl, ⟨nd, rfl⟩⟩; refine ⟨_, rfl, ?_⟩))
    go_ret2
    exact ⟨by first | rfl | (simp [errW_none, errW_some] <;> rfl) | (simp [*, errW_none, errW_some] <;> rfl), by repeat (first | (with_reducible first | exact HB.out | apply below_alloc | apply pw_below_drewN | apply below_drew1) | exact HB.out)⟩

/-! ### impl_within: function 30 -/
def impl_within.f (a0 : Int) (a1 : Int) (a2 : Int) : Option (Bool) := if a1 ≤ a0 then (some (decide (a0 ≤ a2))) else (some false)
set_option maxHeartbeats 8000000 in
set_option maxRecDepth 100000 in
theorem impl_within.calls (a0 : Int) (a1 : Int) (a2 : Int) (r : Bool) (w : World) (h : impl_within.f a0 a1 a2 = some r) :
    Calls Try.prog 30 #[.int .i64 a0, .int .i64 a1, .int .i64 a2] w fun e w' => e = .returned (.bool r) ∧ Drawn0 w w' := by
  have H : (if a1 ≤ a0 then (some (decide (a0 ≤ a2))) else (some false)) = some r := h
  clear h
  by_cases c4 : a1 ≤ a0
  · rw [if_pos c4] at H
    have c4b0 : decide (a1 ≤ a0) = true := decide_eq_true c4
    clear c4
    obtain rfl := Option.some.inj H
    go_enter Try.func30, Try.ntmps30
    go_wp2
    go_ret
    exact ⟨by first | rfl | (simp; done) | (simp [*]; done), by repeat (first | exact Drawn0.refl _ | apply Drawn0.step)⟩
  · rw [if_neg c4] at H
    have c4b0 : decide (a1 ≤ a0) = false := decide_eq_false c4
    clear c4
    obtain rfl := Option.some.inj H
    go_enter Try.func30, Try.ntmps30
    go_wp2
    go_ret
    exact ⟨by first | rfl | (simp; done) | (simp [*]; done), by repeat (first | exact Drawn0.refl _ | apply Drawn0.step)⟩

/-! ### impl_bit: function 45 -/
def impl_bit.f (a0 : Bool) : Option (Int) := if a0 = true then (some 1) else (some 0)
set_option maxHeartbeats 8000000 in
set_option maxRecDepth 100000 in
theorem impl_bit.calls (a0 : Bool) (r : Int) (w : World) (h : impl_bit.f a0 = some r) :
    Calls Try.prog 45 #[.bool a0] w fun e w' => e = .returned (.int .i64 r) ∧ Drawn0 w w' := by
  have H : (if a0 = true then (some 1) else (some 0)) = some r := h
  clear h
  by_cases c2 : a0 = true
  · subst c2
    have H1 : (some 1) = some r := by rw [if_pos rfl] at H; exact H
    clear H
    have H := H1
    clear H1
    obtain rfl := Option.some.inj H
    go_enter Try.func45, Try.ntmps45
    go_wp2
    go_ret
    exact ⟨by first | rfl | (simp; done) | (simp [*]; done), by repeat (first | exact Drawn0.refl _ | apply Drawn0.step)⟩
  · replace c2 := Bool.eq_false_iff.mpr c2
    subst c2
    have H1 : (some 0) = some r := by rw [if_neg (show ¬ (false = true) by decide)] at H; exact H
    clear H
    have H := H1
    clear H1
    obtain rfl := Option.some.inj H
    go_enter Try.func45, Try.ntmps45
    go_wp2
    go_ret
    exact ⟨by first | rfl | (simp; done) | (simp [*]; done), by repeat (first | exact Drawn0.refl _ | apply Drawn0.step)⟩

/-! ### impl_fill: function 31, by hand -/
mutual
def impl_fill.l0 : Nat → Int → Int → (Int → Bool) → (Int → Bool) → Int → Int → Int → Option (Int × Int × Int)
  | 0, _, _, _, _, _, _, _ => none
  | k + 1, n, i, F, R, lo, hi, st => if 0 ≤ i then (if i ≤ 1000 then (if 0 ≤ st then (if i < n then impl_fill.l1 k n i F R lo hi st 0 else some (lo, hi, st)) else none) else none) else none
def impl_fill.l1 : Nat → Int → Int → (Int → Bool) → (Int → Bool) → Int → Int → Int → Int → Option (Int × Int × Int)
  | 0, _, _, _, _, _, _, _, _ => none
  | k + 1, n, i, F, R, lo, hi, st, p => if -1000 ≤ p then (if p ≤ 1000 then (if 0 ≤ st then (if st ≤ 1000000 then (if F p = true then
      (if R p = true then impl_fill.l1 k n i F (fun z => if z = p then false else R z) lo hi (st + 1) (p + 1) else impl_fill.l1 k n i F (fun z => if z = p then true else R z) lo hi (st + 1) (p - 1))
      else impl_fill.l0 k n (i + 1) (fun z => if z = p then true else F z) R (if p < lo then p else lo) (if hi < p then p else hi) st) else none) else none) else none) else none
end
def impl_fill.f (k : Nat) (a0 : Int) : Option (Int × Int × Int) := if -1000 ≤ a0 then (if a0 ≤ 1000 then impl_fill.l0 k a0 0 (fun _ => false) (fun _ => false) 0 0 0 else none) else none
theorem impl_fill.mono_l : ∀ k, (∀ n i F R lo hi st, LeO (impl_fill.l0 k n i F R lo hi st) (impl_fill.l0 (k + 1) n i F R lo hi st)) ∧ (∀ n i F R lo hi st p, LeO (impl_fill.l1 k n i F R lo hi st p) (impl_fill.l1 (k + 1) n i F R lo hi st p))
  | 0 => ⟨fun _ _ _ _ _ _ _ r h => by simp [impl_fill.l0] at h, fun _ _ _ _ _ _ _ _ r h => by simp [impl_fill.l1] at h⟩
  | k + 1 => by
    obtain ⟨ih0, ih1⟩ := impl_fill.mono_l k
    refine ⟨fun n i F R lo hi st => ?_, fun n i F R lo hi st p => ?_⟩
    · rw [impl_fill.l0, impl_fill.l0]
      repeat' first
        | exact ih1 _ _ _ _ _ _ _ _
        | exact LeO.refl _
        | exact LeO.none _
        | refine LeO.ite ?_ ?_
    · rw [impl_fill.l1, impl_fill.l1]
      repeat' first
        | exact ih1 _ _ _ _ _ _ _ _
        | exact ih0 _ _ _ _ _ _ _
        | exact LeO.refl _
        | exact LeO.none _
        | refine LeO.ite ?_ ?_
theorem impl_fill.mono : ∀ a0 k, LeO (impl_fill.f k a0) (impl_fill.f (k + 1) a0) := by
  intro a0 k
  obtain ⟨ih0, ih1⟩ := impl_fill.mono_l k
  unfold impl_fill.f
  repeat' first
    | exact ih0 _ _ _ _ _ _ _
    | exact LeO.refl _
    | exact LeO.none _
    | refine LeO.ite ?_ ?_
def impl_fill.IM (w : World) (b : Nat) (m : Int) (F : Int → Bool) : Prop := XMap.IsMapB Try.prog 3 4 XMap.ikey w b m.toNat F
theorem impl_fill.zb (w : World) : (zeroValue 4).run Try.prog w = .ok (.bool false) w := by kernel_rfl
theorem impl_fill.look {w : World} {b : Nat} {m : Int} {F : Int → Bool} (hM : impl_fill.IM w b m F) (x : Int) (h0 : -1000 ≤ x) (h1 : x ≤ 1000) {c : Bool} (hc : F x = c) {ops : Array Oper} {rest : List Oper} {o : Oper} {a : Act} {Q : Exit → Act → World → Prop}
    (hg : o.guard = none) (m' y : Operand) (hop : o.op = Op.lookup 49 m' y false) (hm : a.eval m' = .map (some b)) (hy : a.eval y = .int .i64 x)
    (hK : wpList Try.prog ops Q rest (a.put o.dst (.bool c)) w) : wpList Try.prog ops Q (o :: rest) a w :=
  XMap.look_event hM x 49 (Go.Maps.int_keyed Try.underlying3) Try.underlying49 Try.underlying4 (impl_fill.zb w) hg m' y hop hm (.int .i64 x) hy (XMap.ikeyOf Try.underlying3 x (by omega) (by omega)) (by rw [hc]; exact hK)
theorem impl_fill.put {w : World} {b : Nat} {m : Int} {F : Int → Bool} (hM : impl_fill.IM w b m F) (m0 : 0 ≤ m) (m1 : m ≤ 1000000) (x : Int) (h0 : -1000 ≤ x) (h1 : x ≤ 1000) (c : Bool) {ops : Array Oper} {rest : List Oper} {o : Oper} {a : Act} {Q : Exit → Act → World → Prop}
    (hg : o.guard = none) (m' y u : Operand) (hop : o.op = Op.mapUpdate 49 m' y u) (hm : a.eval m' = .map (some b)) (hy : a.eval y = .int .i64 x) (hu : a.eval u = .bool c)
    (hK : ∀ w', impl_fill.IM w' b (m + 1) (fun z => if z = x then c else F z) → w.grownBy w' (some b) → wpList Try.prog ops Q rest (a.put o.dst undef) w') : wpList Try.prog ops Q (o :: rest) a w :=
  XMap.put_event hM XMap.ikey_inj x 49 (Go.Maps.int_keyed Try.underlying3) Try.underlying49 Try.underlying4 (by omega) c hg m' y u hop hm (.int .i64 x) hy hu (XMap.ikeyOf Try.underlying3 x (by omega) (by omega)) fun w' h1 h2 => hK w' (h1.mono (by omega)) h2
set_option maxHeartbeats 4000000 in
set_option maxRecDepth 100000 in
theorem impl_fill.calls (k : Nat) (a0 : Int) (r1 r2 r3 : Int) (w : World) (h : impl_fill.f k a0 = some (r1, r2, r3)) :
    Calls Try.prog 31 #[.int .i64 a0] w fun e w' => e = .returned (.tuple #[.int .i64 r1, .int .i64 r2, .int .i64 r3]) ∧ Below w.heap.size w w' := by
  unfold impl_fill.f at h
  by_cases q0 : -1000 ≤ a0
  · rw [if_pos q0] at h
    by_cases q1 : a0 ≤ 1000
    · rw [if_pos q1] at h
      have H' := Aside0.mk h
      clear h
      have hmm := @run_makeMap Try.prog
      have M1 : Aside0 (impl_fill.IM ((w.alloc (.map #[] 0)).alloc (.map #[] 0)) w.heap.size 0 (fun _ => false)) := ⟨(XMap.IsMapB.made Try.prog 3 4 XMap.ikey w).alloc _⟩
      have M2 : Aside0 (impl_fill.IM ((w.alloc (.map #[] 0)).alloc (.map #[] 0)) (w.heap.size + 1) 0 (fun _ => false)) := ⟨by have z := XMap.IsMapB.made Try.prog 3 4 XMap.ikey (w.alloc (.map #[] 0)); rwa [show (w.alloc (.map #[] 0)).heap.size = w.heap.size + 1 by simp] at z⟩
      have HB : Aside0 (Below w.heap.size w ((w.alloc (.map #[] 0)).alloc (.map #[] 0))) := ⟨below_alloc (below_alloc (Below.refl _ _) _) _⟩
      go_enter Try.func31, Try.ntmps31
      go_wp2
      go_loopg [7, 8, 9, 15] k (fun kq v7 v8 v9 v15 w' => ∃ (i : Int) (F R : Int → Bool) (lo hi st : Int), v7 = .int .i64 lo ∧ v8 = .int .i64 hi ∧ v9 = .int .i64 st ∧ v15 = .int .i64 i ∧ Aside0 (impl_fill.l0 kq a0 i F R lo hi st = some (r1, r2, r3)) ∧ Aside0 (kq ≤ k) ∧ Aside0 (impl_fill.IM w' w.heap.size i F) ∧ Aside0 (impl_fill.IM w' (w.heap.size + 1) st R) ∧ Aside0 (Below w.heap.size w w'))
      case atStart => exact ⟨0, _, _, 0, 0, 0, rfl, rfl, rfl, rfl, H', ⟨Nat.le_refl _⟩, M1, M2, HB⟩
      case round =>
        clear H' M1 M2 HB
        obtain ⟨i, F, R, lo, hi, st, rfl, rfl, rfl, rfl, HA, HK1, M1, M2, HB⟩ := hrel
        cases gk with
        | zero => exact absurd HA.out (by simp [impl_fill.l0])
        | succ k1 =>
          have H := HA.out
          clear HA
          rw [impl_fill.l0] at H
          by_cases i0 : 0 ≤ i
          · rw [if_pos i0] at H
            by_cases i1 : i ≤ 1000
            · rw [if_pos i1] at H
              by_cases s0 : 0 ≤ st
              · rw [if_pos s0] at H
                by_cases c7 : i < a0
                · rw [if_pos c7] at H
                  have c7b : decide (i < a0) = true := decide_eq_true c7
                  have HC := Aside0.mk c7
                  clear c7
                  have H' := Aside0.mk H
                  clear H
                  have HI := Aside0.mk (And.intro i0 i1)
                  clear i0 i1
                  have HS := Aside0.mk s0
                  clear s0
                  go_wp2
                  go_loopg [9, 10] k1 (fun kq v9 v10 w' => ∃ (R' : Int → Bool) (st' p : Int), v9 = .int .i64 st' ∧ v10 = .int .i64 p ∧ Aside0 (impl_fill.l1 kq a0 i F R' lo hi st' p = some (r1, r2, r3)) ∧ Aside0 (kq ≤ k1) ∧ Aside0 (impl_fill.IM w' w.heap.size i F) ∧ Aside0 (impl_fill.IM w' (w.heap.size + 1) st' R') ∧ Aside0 (Below w.heap.size w w'))
                  case atStart => exact ⟨R, st, 0, rfl, rfl, H', ⟨Nat.le_refl _⟩, M1, M2, HB⟩
                  case round =>
                    clear H' M1 M2 HB
                    obtain ⟨R', st', p, rfl, rfl, HA, HK2, M1, M2, HB⟩ := hrel
                    cases gk with
                    | zero => exact absurd HA.out (by simp [impl_fill.l1])
                    | succ k2 =>
                      have H := HA.out
                      clear HA
                      rw [impl_fill.l1] at H
                      by_cases p0 : -1000 ≤ p
                      · rw [if_pos p0] at H
                        by_cases p1 : p ≤ 1000
                        · rw [if_pos p1] at H
                          by_cases t0 : 0 ≤ st'
                          · rw [if_pos t0] at H
                            by_cases t1 : st' ≤ 1000000
                            · rw [if_pos t1] at H
                              have ws : wrap64 (st' + 1) = st' + 1 := by unfold wrap64; omega
                              have wp : wrap64 (p + 1) = p + 1 := by unfold wrap64; omega
                              have wm : wrap64 (p + (-1)) = p - 1 := by unfold wrap64; omega
                              have HP := Aside0.mk (And.intro p0 p1)
                              have HT := Aside0.mk (And.intro t0 t1)
                              clear p0 p1 t0 t1
                              cases hF : F p with
                              | true =>
                                rw [if_pos hF] at H
                                have HF := Aside0.mk hF
                                clear hF
                                cases hR : R' p with
                                | true =>
                                  rw [if_pos hR] at H
                                  have HR := Aside0.mk hR
                                  have H' := Aside0.mk H
                                  clear hR H
                                  go_wp2_with (first | (at_lookup; (first | refine impl_fill.look M1.out p HP.out.1 HP.out.2 HF.out rfl _ _ rfl rfl rfl ?_ | refine impl_fill.look M2.out p HP.out.1 HP.out.2 HR.out rfl _ _ rfl rfl rfl ?_)) | (go_at_call 45; (with_reducible refine (impl_bit.calls true 1 _ rfl).mono ?_); rintro e w' ⟨rfl, ⟨nd, rfl⟩⟩; have n1_ := Aside0.mk (XMap.IsMapB.drewN M1.out nd); have n2_ := Aside0.mk (XMap.IsMapB.drewN M2.out nd); have n3_ := Aside0.mk (pw_below_drewN HB.out nd); clear M1 M2 HB; have M1 := n1_; have M2 := n2_; have HB := n3_; clear n1_ n2_ n3_) | (at_mapUpdate; refine impl_fill.put M2.out HT.out.1 HT.out.2 p HP.out.1 HP.out.2 _ rfl _ _ _ rfl rfl rfl rfl ?_; intro w1 m1 g1; have n1_ := Aside0.mk (M1.out.kept g1 (by simp)); have n2_ := Aside0.mk m1; have n3_ := Aside0.mk (HB.out.grown g1 (below_size HB.out) (fun j hj => by cases hj; omega)); clear M1 M2 HB m1 g1; have M1 := n1_; have M2 := n2_; have HB := n3_; clear n1_ n2_ n3_))
                                  go_roundg k2
                                  case measure => have := HK1.out; have := HK2.out; omega
                                  case rel => exact ⟨_, st' + 1, p + 1, by first | rfl | (rw [← ws]; rfl) | simp [ws], by first | rfl | (rw [← wp]; rfl) | simp [wp], H', ⟨by have := HK2.out; omega⟩, M1, M2, HB⟩
                                | false =>
                                  rw [if_neg (by rw [hR]; decide)] at H
                                  have HR := Aside0.mk hR
                                  have H' := Aside0.mk H
                                  clear hR H
                                  go_wp2_with (first | (at_lookup; (first | refine impl_fill.look M1.out p HP.out.1 HP.out.2 HF.out rfl _ _ rfl rfl rfl ?_ | refine impl_fill.look M2.out p HP.out.1 HP.out.2 HR.out rfl _ _ rfl rfl rfl ?_)) | (go_at_call 45; (with_reducible refine (impl_bit.calls false 0 _ rfl).mono ?_); rintro e w' ⟨rfl, ⟨nd, rfl⟩⟩; have n1_ := Aside0.mk (XMap.IsMapB.drewN M1.out nd); have n2_ := Aside0.mk (XMap.IsMapB.drewN M2.out nd); have n3_ := Aside0.mk (pw_below_drewN HB.out nd); clear M1 M2 HB; have M1 := n1_; have M2 := n2_; have HB := n3_; clear n1_ n2_ n3_) | (at_mapUpdate; refine impl_fill.put M2.out HT.out.1 HT.out.2 p HP.out.1 HP.out.2 _ rfl _ _ _ rfl rfl rfl rfl ?_; intro w1 m1 g1; have n1_ := Aside0.mk (M1.out.kept g1 (by simp)); have n2_ := Aside0.mk m1; have n3_ := Aside0.mk (HB.out.grown g1 (below_size HB.out) (fun j hj => by cases hj; omega)); clear M1 M2 HB m1 g1; have M1 := n1_; have M2 := n2_; have HB := n3_; clear n1_ n2_ n3_))
                                  go_roundg k2
                                  case measure => have := HK1.out; have := HK2.out; omega
                                  case rel => exact ⟨_, st' + 1, p - 1, by first | rfl | (rw [← ws]; rfl) | simp [ws], by first | rfl | (rw [← wm]; rfl) | simp [wm], H', ⟨by have := HK2.out; omega⟩, M1, M2, HB⟩
                              | false =>
                                rw [if_neg (by rw [hF]; decide)] at H
                                have HF := Aside0.mk hF
                                have H' := Aside0.mk H
                                have wi : wrap64 (i + 1) = i + 1 := by have := HI.out; unfold wrap64; omega
                                clear hF H
                                go_wp2_with (first | (at_lookup; refine impl_fill.look M1.out p HP.out.1 HP.out.2 HF.out rfl _ _ rfl rfl rfl ?_) | (at_mapUpdate; refine impl_fill.put M1.out HI.out.1 (by have := HI.out; omega) p HP.out.1 HP.out.2 _ rfl _ _ _ rfl rfl rfl rfl ?_; intro w1 m1 g1; have n1_ := Aside0.mk m1; have n2_ := Aside0.mk (M2.out.kept g1 (by simp)); have n3_ := Aside0.mk (HB.out.grown g1 (below_size HB.out) (fun j hj => by cases hj; omega)); clear M1 M2 HB m1 g1; have M1 := n1_; have M2 := n2_; have HB := n3_; clear n1_ n2_ n3_))
                                all_goals
                                  go_roundg k2
                                  case measure => have := HK1.out; have := HK2.out; omega
                                  case rel => exact ⟨i + 1, _, R', _, _, st', by first | rfl | (simp; done) | (simp; omega), by first | rfl | (simp; done) | (simp; omega), by first | rfl | simp, by first | rfl | (rw [← wi]; rfl) | simp [wi], H', ⟨by have := HK1.out; have := HK2.out; omega⟩, M1, M2, HB⟩
                            · rw [if_neg t1] at H
                              exact absurd H (by simp)
                          · rw [if_neg t0] at H
                            exact absurd H (by simp)
                        · rw [if_neg p1] at H
                          exact absurd H (by simp)
                      · rw [if_neg p0] at H
                        exact absurd H (by simp)
                · rw [if_neg c7] at H
                  have c7b : decide (i < a0) = false := decide_eq_false c7
                  clear c7
                  simp only [Option.some.injEq, Prod.mk.injEq] at H
                  obtain ⟨rfl, rfl, rfl⟩ := H
                  go_wp2
                  go_ret3
                  exact ⟨rfl, HB.out⟩
              · rw [if_neg s0] at H
                exact absurd H (by simp)
            · rw [if_neg i1] at H
              exact absurd H (by simp)
          · rw [if_neg i0] at H
            exact absurd H (by simp)
    · rw [if_neg q1] at h
      exact absurd h (by simp)
  · rw [if_neg q0] at h
    exact absurd h (by simp)

/-! ### impl_FillSteps: function 17 -/
def impl_FillSteps.f (k : Nat) (a0 : Int) : Option (Int × Bool) := (impl_within.f a0 1 40).bind fun t120 => (if t120 = true then ((impl_fill.f k a0).bind fun bt121 => (some (bt121.2.2, true))) else (some (0, false)))
theorem impl_FillSteps.mono : ∀ a0 k, LeO (impl_FillSteps.f k a0) (impl_FillSteps.f (k + 1) a0) := by
  intro a0 k
  unfold impl_FillSteps.f
  repeat' first
      | (with_reducible exact impl_fill.mono _ _)
      | (with_reducible exact LeO.refl _)
      | (with_reducible exact LeO.none _)
      | (with_reducible refine LeO.ite ?_ ?_)
      | (with_reducible refine LeO.bind ?_ (fun _ => ?_))
      | exact impl_fill.mono _ _
      | exact LeO.none _
      | refine LeO.ite ?_ ?_
      | refine LeO.bind ?_ (fun _ => ?_)
set_option maxHeartbeats 8000000 in
set_option maxRecDepth 100000 in
theorem impl_FillSteps.calls (k : Nat) (a0 : Int) (r1 : Int) (r2 : Bool) (w : World) (h : impl_FillSteps.f k a0 = some (r1, r2)) :
    Calls Try.prog 17 #[.int .i64 a0] w fun e w' => e = .returned (.tuple #[.int .i64 r1, .bool r2]) ∧ Below w.heap.size w w' := by
  have HB := Aside0.mk (Below.refl w.heap.size w)
  have H : ((impl_within.f a0 1 40).bind fun t120 => (if t120 = true then ((impl_fill.f k a0).bind fun bt121 => (some (bt121.2.2, true))) else (some (0, false)))) = some (r1, r2) := h
  clear h
  replace H := Option.bind_eq_some_iff.mp H
  obtain ⟨t120, A20, H⟩ := H
  replace H : (if t120 = true then ((impl_fill.f k a0).bind fun bt121 => (some (bt121.2.2, true))) else (some (0, false))) = some (r1, r2) := H
  have A2 := Aside0.mk A20
  clear A20
  by_cases c3 : t120 = true
  · subst c3
    have H1 : ((impl_fill.f k a0).bind fun bt121 => (some (bt121.2.2, true))) = some (r1, r2) := by rw [if_pos rfl] at H; exact H
    clear H
    have H := H1
    clear H1
    replace H := Option.bind_eq_some_iff.mp H
    obtain ⟨⟨t121, t122, t123⟩, A40, H⟩ := H
    replace H : (some (t123, true)) = some (r1, r2) := H
    have A4 := Aside0.mk A40
    clear A40
    simp only [Option.some.injEq, Prod.mk.injEq] at H
    obtain ⟨rfl, rfl⟩ := H
    go_enter Try.func17, Try.ntmps17
    go_wp2_with (first | ((with_reducible refine gate_callee (f := 30) rfl ?_); refine goesL_ (some 8) rfl rfl Try.func30 (by kernel_rfl) rfl #[.int .i64 a0, .int .i64 1, .int .i64 40] rfl (by (try simp only [List.map_toArray, List.map_cons, List.map_nil]); first | done | rfl | (simp only [List.length_drop, List.length_take]; rfl)) ?_; (with_reducible refine (impl_within.calls a0 1 40 true _ A2.out).mono ?_); rintro e w' ⟨rfl, ⟨nd, rfl⟩⟩; refine ⟨_, rfl, ?_⟩) | ((with_reducible refine gate_callee (f := 31) rfl ?_); refine goesL_ (some 12) rfl rfl Try.func31 (by kernel_rfl) rfl #[.int .i64 a0] rfl (by (try simp only [List.map_toArray, List.map_cons, List.map_nil]); first | done | rfl | (simp only [List.length_drop, List.length_take]; rfl)) ?_; (with_reducible refine (impl_fill.calls k a0 t121 t122 t123 _ A4.out).mono ?_); rintro e w5 ⟨rfl, hb⟩; refine ⟨_, rfl, ?_⟩; have n0_ := Aside0.mk (below_step (XSq.bB HB) hb); clear HB; have HB := n0_; clear n0_; (try clear hb); (try clear hb2); (try clear hk); (try clear hi)))
    go_ret2
    exact ⟨by first | rfl | (simp [errW_none, errW_some] <;> rfl) | (simp [*, errW_none, errW_some] <;> rfl), by repeat (first | (with_reducible first | exact HB.out | apply below_alloc | apply pw_below_drewN | apply below_drew1) | exact HB.out)⟩
  · replace c3 := Bool.eq_false_iff.mpr c3
    subst c3
    have H1 : (some (0, false)) = some (r1, r2) := by rw [if_neg (show ¬ (false = true) by decide)] at H; exact H
    clear H
    have H := H1
    clear H1
    simp only [Option.some.injEq, Prod.mk.injEq] at H
    obtain ⟨rfl, rfl⟩ := H
    go_enter Try.func17, Try.ntmps17
    go_wp2_with (first | ((with_reducible refine gate_callee (f := 30) rfl ?_); refine goesL_ (some 8) rfl rfl Try.func30 (by kernel_rfl) rfl #[.int .i64 a0, .int .i64 1, .int .i64 40] rfl (by (try simp only [List.map_toArray, List.map_cons, List.map_nil]); first | done | rfl | (simp only [List.length_drop, List.length_take]; rfl)) ?_; (with_reducible refine (impl_within.calls a0 1 40 false _ A2.out).mono ?_); rintro e w' ⟨rfl, ⟨nd, rfl⟩⟩; refine ⟨_, rfl, ?_⟩))
    go_ret2
    exact ⟨by first | rfl | (simp [errW_none, errW_some] <;> rfl) | (simp [*, errW_none, errW_some] <;> rfl), by repeat (first | (with_reducible first | exact HB.out | apply below_alloc | apply pw_below_drewN | apply below_drew1) | exact HB.out)⟩

/-! ### laws_FnExactFillSteps: function 7 -/
def laws_FnExactFillSteps.f (k : Nat) (a0 : Int) : Option (Bool) := (spec_FillSteps.f k a0).bind fun bt124 => ((impl_FillSteps.f k a0).bind fun bt126 => (if bt126.1 = bt124.1 then (if (bt126.2 != bt124.2) = true then (none) else (some true)) else (none)))
theorem laws_FnExactFillSteps.mono : ∀ a0 k, LeO (laws_FnExactFillSteps.f k a0) (laws_FnExactFillSteps.f (k + 1) a0) := by
  intro a0 k
  unfold laws_FnExactFillSteps.f
  repeat' first
      | (with_reducible exact impl_FillSteps.mono _ _)
      | (with_reducible exact spec_FillSteps.mono _ _)
      | (with_reducible exact LeO.refl _)
      | (with_reducible exact LeO.none _)
      | (with_reducible refine LeO.ite ?_ ?_)
      | (with_reducible refine LeO.bind ?_ (fun _ => ?_))
      | exact impl_FillSteps.mono _ _
      | exact spec_FillSteps.mono _ _
      | exact LeO.none _
      | refine LeO.ite ?_ ?_
      | refine LeO.bind ?_ (fun _ => ?_)
set_option maxHeartbeats 8000000 in
set_option maxRecDepth 100000 in
theorem laws_FnExactFillSteps.calls (k : Nat) (a0 : Int) (r : Bool) (w : World) (h : laws_FnExactFillSteps.f k a0 = some r) :
    Calls Try.prog 7 #[.int .i64 a0] w fun e w' => e = .returned (.bool r) ∧ Below w.heap.size w w' := by
  have HB := Aside0.mk (Below.refl w.heap.size w)
  have H : ((spec_FillSteps.f k a0).bind fun bt124 => ((impl_FillSteps.f k a0).bind fun bt126 => (if bt126.1 = bt124.1 then (if (bt126.2 != bt124.2) = true then (none) else (some true)) else (none)))) = some r := h
  clear h
  replace H := Option.bind_eq_some_iff.mp H
  obtain ⟨⟨t124, t125⟩, A20, H⟩ := H
  replace H : ((impl_FillSteps.f k a0).bind fun bt126 => (if bt126.1 = t124 then (if (bt126.2 != t125) = true then (none) else (some true)) else (none))) = some r := H
  have A2 := Aside0.mk A20
  clear A20
  replace H := Option.bind_eq_some_iff.mp H
  obtain ⟨⟨t126, t127⟩, A30, H⟩ := H
  replace H : (if t126 = t124 then (if (t127 != t125) = true then (none) else (some true)) else (none)) = some r := H
  have A3 := Aside0.mk A30
  clear A30
  by_cases c4 : t126 = t124
  · rw [if_pos c4] at H
    have c4b0 : (t126 == t124) = true := beq_iff_eq.mpr c4
    have c4b1 : (t126 != t124) = false := bne_eq_false_iff_eq.mpr c4
    clear c4
    by_cases c5 : (t127 != t125) = true
    · rw [if_pos c5] at H
      exact absurd H (by simp)
    · rw [if_neg c5] at H
      have c5b0 : (t127 != t125) = false := by simpa using c5
      (try (have c5b1 : decide (t127 = t125) = true := by simpa using c5))
      (try (have c5b2 : (t127 == t125) = true := by simpa using c5))
      clear c5
      obtain rfl := Option.some.inj H
      go_enter Try.func7, Try.ntmps7
      go_wp2_with (first | ((with_reducible refine gate_callee (f := 16) rfl ?_); refine goesL_ (some 9) rfl rfl Try.func16 (by kernel_rfl) rfl #[.int .i64 a0] rfl (by (try simp only [List.map_toArray, List.map_cons, List.map_nil]); first | done | rfl | (simp only [List.length_drop, List.length_take]; rfl)) ?_; (with_reducible refine (spec_FillSteps.calls k a0 t124 t125 _ A2.out).mono ?_); rintro e w6 ⟨rfl, hb⟩; refine ⟨_, rfl, ?_⟩; have n0_ := Aside0.mk (below_step (XSq.bB HB) hb); clear HB; have HB := n0_; clear n0_; (try clear hb); (try clear hb2); (try clear hk); (try clear hi)) | ((with_reducible refine gate_callee (f := 17) rfl ?_); refine goesL_ (some 14) rfl rfl Try.func17 (by kernel_rfl) rfl #[.int .i64 a0] rfl (by (try simp only [List.map_toArray, List.map_cons, List.map_nil]); first | done | rfl | (simp only [List.length_drop, List.length_take]; rfl)) ?_; (with_reducible refine (impl_FillSteps.calls k a0 t126 t127 _ A3.out).mono ?_); rintro e w7 ⟨rfl, hb⟩; refine ⟨_, rfl, ?_⟩; have n0_ := Aside0.mk (below_step (XSq.bB HB) hb); clear HB; have HB := n0_; clear n0_; (try clear hb); (try clear hb2); (try clear hk); (try clear hi)))
      go_ret
      exact ⟨by first | rfl | (simp [errW_none, errW_some] <;> rfl) | (simp [*, errW_none, errW_some] <;> rfl), by repeat (first | (with_reducible first | exact HB.out | apply below_alloc | apply pw_below_drewN | apply below_drew1) | exact HB.out)⟩
  · rw [if_neg c4] at H
    exact absurd H (by simp)

/-- THE ONE PURE STATEMENT of laws_FnExactFillSteps: yours. -/
def laws_FnExactFillSteps.Pure : Prop := ∀ (a0 : Int), (Lit.int .i64 a0).wf = true → ∃ k, laws_FnExactFillSteps.f k a0 = some true
end Go.Proofs.Ytjidpcfedlekoaa.PFnExactFillSteps
