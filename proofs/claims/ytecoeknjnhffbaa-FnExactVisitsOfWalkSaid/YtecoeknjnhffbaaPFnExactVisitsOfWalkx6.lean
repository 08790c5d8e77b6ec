-- Made by wip/tools/xkit.py (a program of this session's) with the kit's printer.
import Derived.Test.YtecoeknjnhffbaaPFnExactVisitsOfWalkx0
import Derived.Test.YtecoeknjnhffbaaPFnExactVisitsOfWalkx1
import Derived.Test.YtecoeknjnhffbaaPFnExactVisitsOfWalkx2
import Derived.Test.YtecoeknjnhffbaaPFnExactVisitsOfWalkx4
import Derived.Test.YtecoeknjnhffbaaPFnExactVisitsOfWalkx5
namespace Go.Proofs.Ytecoeknjnhffbaa.PFnExactVisitsOfWalk
open Go.RowKit Go.Proofs.YtecoeknjnhffbaaW.PrintWords Go.Proofs.YtecoeknjnhffbaaW.PrintLast Go.Proofs.YtecoeknjnhffbaaW.PrintMore
attribute [local go_sem] max2_int min2_int max_two min_two max_three min_three max_four min_four   -- for this text's walks alone
set_option linter.unusedVariables false
set_option linter.unusedSimpArgs false

/-! ### impl_VisitsOfWalk: function 41 -/
def impl_VisitsOfWalk.l0 : Nat → List Int → List Int → Int → Int → Option (List Int × Bool)
  | 0, _, _, _, _ => none
  | k + 1, x8, x23, x24, x25 => if x25 < x24 then (if 0 ≤ x25 then (if x25 < (x23.length : Int) then (if 0 ≤ (rd x23 x25) then (if (rd x23 x25) < (x8.length : Int) then (impl_VisitsOfWalk.l0 k (x8.set ((rd x23 x25) : Int).toNat (wrap64 ((rd x8 (rd x23 x25)) + 1))) x23 x24 (wrap64 (x25 + 1))) else (none)) else (none)) else (none)) else (none)) else (some (x8, true))
def impl_VisitsOfWalk.f (k : Nat) (l0_0 : List (List Int)) (l0_1 : List Int) (a1 : Int) (a2 : Int) : Option (List Int × Bool) := (impl_isWalk.f k l0_0 l0_1 a1 a2).bind fun t259 => (if t259 = true then (if 0 ≤ (l0_0.length : Int) then (if ((l0_0.length : Int) : Int).toNat ≤ 35184372088832 then ((impl_Route_visited.f k l0_0 l0_1 a1 a2).bind fun t263 => (impl_VisitsOfWalk.l0 k (List.replicate ((l0_0.length : Int) : Int).toNat 0) t263 (t263.length : Int) 0)) else (none)) else (none)) else (some (([] : List Int), false)))
theorem impl_VisitsOfWalk.mono_l : ∀ k, (∀ y0 y1 y2 y3, LeO (impl_VisitsOfWalk.l0 k y0 y1 y2 y3) (impl_VisitsOfWalk.l0 (k + 1) y0 y1 y2 y3))
  | 0 => fun _ _ _ _ r h => by simp [impl_VisitsOfWalk.l0] at h
  | k + 1 => by
    have ih0 := impl_VisitsOfWalk.mono_l k
    · intro y0 y1 y2 y3
      unfold impl_VisitsOfWalk.l0
      repeat' first
      | (with_reducible exact ih0 _ _ _ _)
      | (with_reducible exact impl_Route_visited.mono _ _ _ _ _)
      | (with_reducible exact impl_isWalk.mono _ _ _ _ _)
      | (with_reducible exact LeO.refl _)
      | (with_reducible exact LeO.none _)
      | (with_reducible refine LeO.ite ?_ ?_)
      | (with_reducible refine LeO.bind ?_ (fun _ => ?_))
      | exact ih0 _ _ _ _
      | exact impl_Route_visited.mono _ _ _ _ _
      | exact impl_isWalk.mono _ _ _ _ _
      | exact LeO.none _
      | refine LeO.ite ?_ ?_
      | refine LeO.bind ?_ (fun _ => ?_)
theorem impl_VisitsOfWalk.mono : ∀ a0 a1 a2 a3 k, LeO (impl_VisitsOfWalk.f k a0 a1 a2 a3) (impl_VisitsOfWalk.f (k + 1) a0 a1 a2 a3) := by
  intro a0 a1 a2 a3 k
  have ih0 := impl_VisitsOfWalk.mono_l k
  unfold impl_VisitsOfWalk.f
  repeat' first
      | (with_reducible exact ih0 _ _ _ _)
      | (with_reducible exact impl_Route_visited.mono _ _ _ _ _)
      | (with_reducible exact impl_isWalk.mono _ _ _ _ _)
      | (with_reducible exact LeO.refl _)
      | (with_reducible exact LeO.none _)
      | (with_reducible refine LeO.ite ?_ ?_)
      | (with_reducible refine LeO.bind ?_ (fun _ => ?_))
      | exact ih0 _ _ _ _
      | exact impl_Route_visited.mono _ _ _ _ _
      | exact impl_isWalk.mono _ _ _ _ _
      | exact LeO.none _
      | refine LeO.ite ?_ ?_
      | refine LeO.bind ?_ (fun _ => ?_)
set_option maxHeartbeats 8000000 in
set_option maxRecDepth 100000 in
theorem impl_VisitsOfWalk.calls (k : Nat) (A0_0 : Option Addr) (c0_0 : Nat) (l0_0 : List (List Int)) (A0_1 : Option Addr) (c0_1 : Nat) (l0_1 : List Int) (a1 : Int) (a2 : Int) (r1 : List Int) (r2 : Bool) (w : World) (hr0_0 : Kd.C (Kd.slice 3 (Kd.int .i64)) w A0_0 l0_0.length l0_0) (hc0_0 : l0_0.length ≤ c0_0) (hr0_1 : Kd.C (Kd.int .i64) w A0_1 l0_1.length l0_1) (hc0_1 : l0_1.length ≤ c0_1) (h : impl_VisitsOfWalk.f k l0_0 l0_1 a1 a2 = some (r1, r2)) :
    Calls Try.prog 41 #[.agg #[.slice A0_0 l0_0.length c0_0, .slice A0_1 l0_1.length c0_1], .int .i64 a1, .int .i64 a2] w fun e w' => ∃ v0_ : Value, e = .returned (.tuple #[v0_, .bool r2]) ∧ Kd.R (Kd.int .i64) 3 w' w.heap.size (fun _ => True) v0_ r1 ∧ Below w.heap.size w w' := by
  have hu28 := Try.underlying28
  have HR0_0 := Aside0.mk hr0_0
  have HC0_0 := Aside0.mk hc0_0
  clear hr0_0 hc0_0
  have HR0_1 := Aside0.mk hr0_1
  have HC0_1 := Aside0.mk hc0_1
  clear hr0_1 hc0_1
  have HB := Aside0.mk (Below.refl w.heap.size w)
  have H : ((impl_isWalk.f k l0_0 l0_1 a1 a2).bind fun t259 => (if t259 = true then (if 0 ≤ (l0_0.length : Int) then (if ((l0_0.length : Int) : Int).toNat ≤ 35184372088832 then ((impl_Route_visited.f k l0_0 l0_1 a1 a2).bind fun t263 => (impl_VisitsOfWalk.l0 k (List.replicate ((l0_0.length : Int) : Int).toNat 0) t263 (t263.length : Int) 0)) else (none)) else (none)) else (some (([] : List Int), false)))) = some (r1, r2) := h
  clear h
  replace H := Option.bind_eq_some_iff.mp H
  obtain ⟨t259, A40, H⟩ := H
  replace H : (if t259 = true then (if 0 ≤ (l0_0.length : Int) then (if ((l0_0.length : Int) : Int).toNat ≤ 35184372088832 then ((impl_Route_visited.f k l0_0 l0_1 a1 a2).bind fun t263 => (impl_VisitsOfWalk.l0 k (List.replicate ((l0_0.length : Int) : Int).toNat 0) t263 (t263.length : Int) 0)) else (none)) else (none)) else (some (([] : List Int), false))) = some (r1, r2) := H
  have A4 := Aside0.mk A40
  clear A40
  by_cases c5 : t259 = true
  · subst c5
    have H1 : (if 0 ≤ (l0_0.length : Int) then (if ((l0_0.length : Int) : Int).toNat ≤ 35184372088832 then ((impl_Route_visited.f k l0_0 l0_1 a1 a2).bind fun t263 => (impl_VisitsOfWalk.l0 k (List.replicate ((l0_0.length : Int) : Int).toNat 0) t263 (t263.length : Int) 0)) else (none)) else (none)) = some (r1, r2) := by rw [if_pos rfl] at H; exact H
    clear H
    have H := H1
    clear H1
    by_cases c6 : 0 ≤ (l0_0.length : Int)
    · rw [if_pos c6] at H
      have c6b0 := eq_true c6
      have c6b1 : decide (0 ≤ (l0_0.length : Int)) = true := decide_eq_true c6
      clear c6
      by_cases c7 : ((l0_0.length : Int) : Int).toNat ≤ 35184372088832
      · rw [if_pos c7] at H
        have c7b0 := eq_true c7
        have c7b1 : decide (((l0_0.length : Int) : Int).toNat ≤ 35184372088832) = true := decide_eq_true c7
        clear c7
        obtain ⟨y260, hy260⟩ : ∃ y_ : List Int, y_ = (List.replicate ((l0_0.length : Int) : Int).toNat 0) := ⟨_, rfl⟩
        replace H : ((impl_Route_visited.f k l0_0 l0_1 a1 a2).bind fun t263 => (impl_VisitsOfWalk.l0 k y260 t263 (t263.length : Int) 0)) = some (r1, r2) := by first | (rw [hy260]; with_reducible exact H) | (have H2_ := (Option.bind_some _ _).symm.trans H; rw [hy260]; with_reducible exact H2_) | (have H2_ := (Option.bind_some _ _).symm.trans H; with_reducible exact H2_) | with_reducible exact H | (rw [hy260]; exact H) | exact H
        have Ny260 := Aside0.mk hy260
        clear hy260
        replace H := Option.bind_eq_some_iff.mp H
        obtain ⟨t263, A80, H⟩ := H
        replace H : (impl_VisitsOfWalk.l0 k y260 t263 (t263.length : Int) 0) = some (r1, r2) := H
        have A8 := Aside0.mk A80
        clear A80
        have H' := Aside0.mk H
        clear H
        go_enter Try.func41, Try.ntmps41
        go_wp2_with (first | ((with_reducible refine gate_dst (N := 3) rfl ?_); refine box_event ?hg (N := 3) ?hd (cs := #[.slice A0_0 l0_0.length c0_0, .slice A0_1 l0_1.length c0_1]) (t := 28) ?hr ?_; (case hd => rfl); (case hg => rfl); (case hr => first | (go_simp; done) | (go_simp; rfl)); intro gb258 hg w9 hbox hb; have n0_ := Aside0.mk (below_step (XSq.bB HB) hb); have n1_ := Aside0.mk (hbox); have n2_ := Aside0.mk ((by rw [hg]; exact (below_size (XSq.bB HB)) : w.heap.size ≤ gb258)); have n3_ := Aside0.mk ((by rw [hg]; exact (below_size (XSq.bB HB)) : w.heap.size ≤ gb258)); clear HB; have HB := n0_; have BK258 := n1_; have GW258 := n2_; have GE258 := n3_; clear n0_ n1_ n2_ n3_; clear hb hbox hg; have hcz10_0 : w9.cell? ⟨gb258, 0, none⟩ = some (.slice A0_0 l0_0.length c0_0) := (blk_cell BK258.out 0).trans rfl; have hcz10_1 : w9.cell? ⟨gb258, 1, none⟩ = some (.slice A0_1 l0_1.length c0_1) := (blk_cell BK258.out 1).trans rfl; have hfz10_0 := blk_frozen BK258.out 0; have hfz10_1 := blk_frozen BK258.out 1) | ((with_reducible refine gate_callee (f := 72) rfl ?_); refine goesL_ (some 14) rfl rfl Try.func72 (by kernel_rfl) rfl #[.agg #[.slice A0_0 l0_0.length c0_0, .slice A0_1 l0_1.length c0_1], .int .i64 a1, .int .i64 a2] rfl (by (try simp only [List.map_toArray, List.map_cons, List.map_nil]); first | done | rfl | (simp only [List.length_drop, List.length_take]; rfl)) ?_; (with_reducible refine (impl_isWalk.calls k _ _ l0_0 _ _ l0_1 a1 a2 true _ ?side1 ?side2 ?side3 ?side4 A4.out).mono ?_); (case side1 => repeat (first | exact (Kd.C_below HR0_0.out HB.out) | (with_reducible refine Kd.C_alloc ?_ _) | (with_reducible refine Kd.C_drewN ?_ _) | (with_reducible refine Kd.C_drew ?_))); (case side2 => exact HC0_0.out); (case side3 => repeat (first | exact (Kd.C_below HR0_1.out HB.out) | (with_reducible refine Kd.C_alloc ?_ _) | (with_reducible refine Kd.C_drewN ?_ _) | (with_reducible refine Kd.C_drew ?_))); (case side4 => exact HC0_1.out); rintro e w11 ⟨rfl, hb⟩; refine ⟨_, rfl, ?_⟩; have n0_ := Aside0.mk (blk_below (g := gb258) (o := .cells #[.slice A0_0 l0_0.length c0_0, .slice A0_1 l0_1.length c0_1] 28 (0, 0)) (XSq.bq BK258) hb); have n1_ := Aside0.mk (below_step (XSq.bB HB) hb); clear BK258; clear HB; have BK258 := n0_; have HB := n1_; clear n0_ n1_; (try clear hb); (try clear hb2); (try clear hk); (try clear hi); have hcz12_0 : w11.cell? ⟨gb258, 0, none⟩ = some (.slice A0_0 l0_0.length c0_0) := (blk_cell BK258.out 0).trans rfl; have hcz12_1 : w11.cell? ⟨gb258, 1, none⟩ = some (.slice A0_1 l0_1.length c0_1) := (blk_cell BK258.out 1).trans rfl; have hfz12_0 := blk_frozen BK258.out 0; have hfz12_1 := blk_frozen BK258.out 1) | ((with_reducible refine gate_dst (N := 19) rfl ?_); refine Kd.R_make (Kd.int .i64) _ 3 rfl (N := 19) rfl 23 _ _ rfl (l0_0.length : Int) rfl rfl Try.underlying23 (.int .i64 0) 8 info3 rfl (by decide) (by omega) 0 (ok := fun _ => True) (okp := fun _ => True) rfl (fun _ hk => hk) trivial (of_decide_eq_true (by first | (with_reducible assumption) | assumption)) (Nat.le_trans (Nat.mul_le_mul_right _ (of_decide_eq_true (by first | (with_reducible assumption) | assumption) : (l0_0.length : Int).toNat ≤ 35184372088832)) (by omega)) (Below.refl _ _) (Nat.le_refl _) ?_; intro v261 w13 ho14 hb hg_ hnew_; clear hg_ hnew_; (first | rw [← Ny260.out] at ho14 | (simp only [Int.reduceToNat] at ho14; rw [← Ny260.out] at ho14)); have n0_ := Aside0.mk (Kd.R_lower ho14 (below_size (XSq.bB HB))); have n1_ := Aside0.mk (blk_below (g := gb258) (o := .cells #[.slice A0_0 l0_0.length c0_0, .slice A0_1 l0_1.length c0_1] 28 (0, 0)) (XSq.bq BK258) hb); have n2_ := Aside0.mk (below_step (XSq.bB HB) hb); clear BK258; clear HB; have HO262 := n0_; have BK258 := n1_; have HB := n2_; clear n0_ n1_ n2_; clear hb ho14; have hcz15_0 : w13.cell? ⟨gb258, 0, none⟩ = some (.slice A0_0 l0_0.length c0_0) := (blk_cell BK258.out 0).trans rfl; have hcz15_1 : w13.cell? ⟨gb258, 1, none⟩ = some (.slice A0_1 l0_1.length c0_1) := (blk_cell BK258.out 1).trans rfl; have hfz15_0 := blk_frozen BK258.out 0; have hfz15_1 := blk_frozen BK258.out 1) | ((with_reducible refine gate_callee (f := 66) rfl ?_); refine goesL_ (some 23) rfl rfl Try.func66 (by kernel_rfl) rfl #[.agg #[.slice A0_0 l0_0.length c0_0, .slice A0_1 l0_1.length c0_1], .int .i64 a1, .int .i64 a2] rfl (by (try simp only [List.map_toArray, List.map_cons, List.map_nil]); first | done | rfl | (simp only [List.length_drop, List.length_take]; rfl)) ?_; (with_reducible refine (impl_Route_visited.calls k _ _ l0_0 _ _ l0_1 a1 a2 t263 _ ?side1 ?side2 ?side3 ?side4 A8.out).mono ?_); (case side1 => repeat (first | exact (Kd.C_below HR0_0.out HB.out) | (with_reducible refine Kd.C_alloc ?_ _) | (with_reducible refine Kd.C_drewN ?_ _) | (with_reducible refine Kd.C_drew ?_))); (case side2 => exact HC0_0.out); (case side3 => repeat (first | exact (Kd.C_below HR0_1.out HB.out) | (with_reducible refine Kd.C_alloc ?_ _) | (with_reducible refine Kd.C_drewN ?_ _) | (with_reducible refine Kd.C_drew ?_))); (case side4 => exact HC0_1.out); rintro e w16 ⟨v264, rfl, ho0, hb⟩; refine ⟨_, rfl, ?_⟩; have n0_ := Aside0.mk (Kd.R_elder' (by (with_reducible repeat (first | apply Kd.R_alloc | apply Kd.R_drewN | apply Kd.R_drew)); exact HO262.out) (Kd.R_base ho0) hb); have n1_ := Aside0.mk (Kd.R_lower (Kd.R_new' ho0 (Kd.R_lt (by (with_reducible repeat (first | apply Kd.R_alloc | apply Kd.R_drewN | apply Kd.R_drew)); exact HO262.out))) (below_size (XSq.bB HB))); have n2_ := Aside0.mk (blk_below (g := gb258) (o := .cells #[.slice A0_0 l0_0.length c0_0, .slice A0_1 l0_1.length c0_1] 28 (0, 0)) (XSq.bq BK258) hb); have n3_ := Aside0.mk (below_step (XSq.bB HB) hb); clear HO262; clear BK258; clear HB; have HO262 := n0_; have HO265 := n1_; have BK258 := n2_; have HB := n3_; clear n0_ n1_ n2_ n3_; (try clear hb); (try clear hb2); (try clear hk); (try clear hi); (try clear ho0); obtain ⟨Ao17, co17, eo17⟩ := Kd.R_slice HO265.out; subst eo17))
        go_loopg [25] k (fun kq v25 w' => ∃ (x8_1 : List Int) (x25_1 : Int), v25 = .int .i64 x25_1 ∧ Aside0 (impl_VisitsOfWalk.l0 kq x8_1 t263 (t263.length : Int) x25_1 = some (r1, r2)) ∧ Aside0 (kq ≤ k) ∧ Aside0 (Kd.R (Kd.int .i64) 3 w' w.heap.size (fun k_ => some k_ ≠ ((.slice Ao17 t263.length co17) : Value).ownBlock) v261 x8_1) ∧ Aside0 (Kd.R (Kd.int .i64) 3 w' w.heap.size (fun k_ => some k_ ≠ (v261 : Value).ownBlock) (.slice Ao17 t263.length co17) t263) ∧ Aside0 (w'.heap[gb258]? = some (.cells #[(.slice A0_0 l0_0.length c0_0), (.slice A0_1 l0_1.length c0_1)] 28 (0, 0))) ∧ Aside0 (Below w.heap.size w w'))
        case atStart => exact ⟨(y260), (0), (by first | rfl | (simp; done) | (simp [*]; done)), H', ⟨Nat.le_refl _⟩, ⟨by (with_reducible repeat (first | apply Kd.R_alloc | apply Kd.R_drewN | apply Kd.R_drew)); exact Kd.R_mono HO262.out (fun _ hk => hk.2)⟩, ⟨by (with_reducible repeat (first | apply Kd.R_alloc | apply Kd.R_drewN | apply Kd.R_drew)); exact Kd.R_mono HO265.out (fun _ hk => hk.2)⟩, ⟨by (with_reducible repeat (first | refine blk_drewN ?_ _ | refine blk_drew ?_ | refine blk_alloc ?_ _)); exact BK258.out⟩, ⟨by repeat (first | (with_reducible first | exact HB.out | apply below_alloc | apply pw_below_drewN | apply below_drew1 | refine below_set ?_ GE258.out) | exact HB.out)⟩⟩
        case round =>
          clear H'
          try clear p2
          try clear c4
          try clear c5
          try clear c6
          try clear c6b0
          try clear c6b1
          try clear c7
          try clear c7b0
          try clear c7b1
          try clear hcz10_0
          try clear hcz10_1
          try clear hcz12_0
          try clear hcz12_1
          try clear hcz15_0
          try clear hcz15_1
          try clear hfz10_0
          try clear hfz10_1
          try clear hfz12_0
          try clear hfz12_1
          try clear hfz15_0
          try clear hfz15_1
          obtain ⟨x8_1, x25_1, rfl, HA, HK1, HO_8, HO_23, BK258, HB⟩ := hrel
          cases gk with
          | zero => exact absurd HA.out (by simp [impl_VisitsOfWalk.l0])
          | succ k1 =>
            have H := HA.out
            clear HA
            simp only [impl_VisitsOfWalk.l0] at H
            by_cases c18 : x25_1 < (t263.length : Int)
            · rw [if_pos c18] at H
              have c18b0 : decide (x25_1 < (t263.length : Int)) = true := decide_eq_true c18
              clear c18
              by_cases c19 : 0 ≤ x25_1
              · rw [if_pos c19] at H
                have c19b0 : decide (0 ≤ x25_1) = true := decide_eq_true c19
                clear c19
                by_cases c20 : x25_1 < (t263.length : Int)
                · rw [if_pos c20] at H
                  have c20b0 : decide (x25_1 < (t263.length : Int)) = true := decide_eq_true c20
                  clear c20
                  by_cases c21 : 0 ≤ (rd t263 x25_1)
                  · rw [if_pos c21] at H
                    have c21b0 : decide (0 ≤ (rd t263 x25_1)) = true := decide_eq_true c21
                    clear c21
                    by_cases c22 : (rd t263 x25_1) < (x8_1.length : Int)
                    · rw [if_pos c22] at H
                      have c22b0 : decide ((rd t263 x25_1) < (x8_1.length : Int)) = true := decide_eq_true c22
                      clear c22
                      obtain ⟨y268, hy268⟩ : ∃ y_ : List Int, y_ = (x8_1.set ((rd t263 x25_1) : Int).toNat (wrap64 ((rd x8_1 (rd t263 x25_1)) + 1))) := ⟨_, rfl⟩
                      replace H : (impl_VisitsOfWalk.l0 k1 y268 t263 (t263.length : Int) (wrap64 (x25_1 + 1))) = some (r1, r2) := by first | (rw [hy268]; with_reducible exact H) | (have H2_ := (Option.bind_some _ _).symm.trans H; rw [hy268]; with_reducible exact H2_) | (have H2_ := (Option.bind_some _ _).symm.trans H; with_reducible exact H2_) | with_reducible exact H | (rw [hy268]; exact H) | exact H
                      have Ny268 := Aside0.mk hy268
                      clear hy268
                      have H' := Aside0.mk H
                      clear H
                      have p266 : 0 ≤ (x25_1 : Int) := of_decide_eq_true (by first | (with_reducible assumption) | assumption)
                      have q266 : x25_1 < (t263.length : Int) := of_decide_eq_true (by first | (with_reducible assumption) | assumption)
                      obtain ⟨ad266, e266, hx266_0⟩ := Kd.at_int (Kd.R_reads' HO_23.out).2.2 x25_1 p266 q266
                      cases e266
                      replace p266 := eq_true p266
                      replace q266 := eq_true q266
                      obtain ⟨Ao24, co24, eo24⟩ := Kd.R_slice HO_8.out
                      subst eo24
                      have p267 : 0 ≤ ((rd t263 x25_1) : Int) := of_decide_eq_true (by first | (with_reducible assumption) | assumption)
                      have q267 : (rd t263 x25_1) < (x8_1.length : Int) := of_decide_eq_true (by first | (with_reducible assumption) | assumption)
                      obtain ⟨ad267, e267, hx267_0⟩ := Kd.at_int (Kd.R_reads' HO_8.out).2.2 (rd t263 x25_1) p267 q267
                      cases e267
                      replace p267 := eq_true p267
                      replace q267 := eq_true q267
                      have p23 : 0 ≤ ((rd t263 x25_1) : Int) := of_decide_eq_true (by first | (with_reducible assumption) | assumption)
                      have q23 : ((rd t263 x25_1) : Int) < ((x8_1.length : Int) : Int) := of_decide_eq_true (by first | (with_reducible assumption) | assumption)
                      obtain ⟨go23, co23, eo23, gb23, gl23, cl23, HG23⟩ := Kd.R_form HO_8.out (by omega)
                      (first | cases eo23 | (injection eo23 with ea_ en_ ec_; (first | subst ea_ | (injection ea_ with ea_; subst ea_)); subst ec_; clear en_))
                      have GB23 := Aside0.mk gb23
                      have GG23 := Aside0.mk HG23
                      clear gb23 gl23 HG23
                      (first | simp only [add_plain] at hx267_0 | skip)
                      obtain ⟨hx23_0, hf23_0⟩ := Kd.R_celln 0 HO_8.out ((rd t263 x25_1) : Int) p23 q23
                      replace p23 := eq_true p23
                      replace q23 := eq_true q23
                      have HP25 := Kd.R_putg HO_8.out ((rd t263 x25_1) : Int) (wrap64 ((rd x8_1 (rd t263 x25_1)) + 1))
                      go_wp2_with (first | ((with_reducible refine gate_store (t := 3) (p := 34) rfl ?_); refine store_event (t := 3) (p := 34) (v := ?vo_w26) (w1 := (wr.setCell ⟨go23, ((rd t263 x25_1) : Int).toNat, none⟩ (.int .i64 (wrap64 ((rd x8_1 (rd t263 x25_1)) + 1))))) ?hg ?ho ?hn ?hr ?_; (case ho => rfl); (case hg => rfl); (case hn => rfl); (case hr => first | (go_simp; done) | (go_simp; rfl)); intro w26 hw; have hg : wr.grownBy w26 (some go23) := (by rw [hw]; exact HP25.2); have hp_ : Kd.R (Kd.int .i64) 3 w26 w.heap.size (fun k_ => some k_ ≠ (.slice (some ad266) t263.length co17 : Value).ownBlock) (.slice (some ⟨go23, 0, none⟩) x8_1.length co24) y268 := (by rw [hw, Ny268.out]; exact HP25.1); clear HP25; have n0_ := Aside0.mk (hp_); have n1_ := Aside0.mk (Kd.R_after (v := (.slice (some ⟨go23, 0, none⟩) x8_1.length co24)) (v1 := (.slice (some ⟨go23, 0, none⟩) x8_1.length co24)) (ok := (fun _ => True)) (by (with_reducible repeat (first | apply Kd.R_alloc | apply Kd.R_drewN | apply Kd.R_drew)); exact Kd.R_mono HO_23.out (fun _ hk => ⟨trivial, hk⟩)) hg (.inl rfl)); have n2_ := Aside0.mk (blk_grown (g := gb258) (o := .cells #[.slice A0_0 l0_0.length c0_0, .slice A0_1 l0_1.length c0_1] 28 (0, 0)) (XSq.bq BK258) hg (Kd.R_ne HO_8.out BK258.out (by decide))); have n3_ := Aside0.mk ((by rw [hw]; exact below_set (HB.out) GB23.out : Below w.heap.size w w26)); clear HO_8; clear HO_23; clear BK258; clear HB; have HO_8 := n0_; have HO_23 := n1_; have BK258 := n2_; have HB := n3_; clear n0_ n1_ n2_ n3_; clear hg hw hp_))
                      go_roundg k1
                      case measure => have := HK1.out; omega
                      case rel => exact ⟨(y268), (wrap64 (x25_1 + 1)), (by first | rfl | (simp; done) | (simp [*]; done)), H', ⟨by have := HK1.out; omega⟩, ⟨by (with_reducible repeat (first | apply Kd.R_alloc | apply Kd.R_drewN | apply Kd.R_drew)); exact HO_8.out⟩, ⟨by (with_reducible repeat (first | apply Kd.R_alloc | apply Kd.R_drewN | apply Kd.R_drew)); exact Kd.R_mono HO_23.out (fun _ hk => hk.2)⟩, ⟨by (with_reducible repeat (first | refine blk_drewN ?_ _ | refine blk_drew ?_ | refine blk_alloc ?_ _)); exact BK258.out⟩, ⟨by repeat (first | (with_reducible first | exact HB.out | apply below_alloc | apply pw_below_drewN | apply below_drew1 | refine below_set ?_ GE258.out) | exact HB.out)⟩⟩
                    · rw [if_neg c22] at H
                      exact absurd H (by simp)
                  · rw [if_neg c21] at H
                    exact absurd H (by simp)
                · rw [if_neg c20] at H
                  exact absurd H (by simp)
              · rw [if_neg c19] at H
                exact absurd H (by simp)
            · rw [if_neg c18] at H
              have c18b0 : decide (x25_1 < (t263.length : Int)) = false := decide_eq_false c18
              clear c18
              simp only [Option.some.injEq, Prod.mk.injEq] at H
              obtain ⟨rfl, rfl⟩ := H
              go_wp2
              go_ret2
              exact ⟨_, by first | rfl | (simp [errW_none, errW_some] <;> rfl) | (simp [*, errW_none, errW_some] <;> rfl), by (with_reducible repeat (first | apply Kd.R_alloc | apply Kd.R_drewN | apply Kd.R_drew)); exact Kd.R_mono HO_8.out (fun _ hk => trivial), by repeat (first | (with_reducible first | exact HB.out | apply below_alloc | apply pw_below_drewN | apply below_drew1 | refine below_set ?_ GE258.out) | exact HB.out)⟩
      · rw [if_neg c7] at H
        exact absurd H (by simp)
    · rw [if_neg c6] at H
      exact absurd H (by simp)
  · replace c5 := Bool.eq_false_iff.mpr c5
    subst c5
    have H1 : (some (([] : List Int), false)) = some (r1, r2) := by rw [if_neg (show ¬ (false = true) by decide)] at H; exact H
    clear H
    have H := H1
    clear H1
    simp only [Option.some.injEq, Prod.mk.injEq] at H
    obtain ⟨rfl, rfl⟩ := H
    go_enter Try.func41, Try.ntmps41
    go_wp2_with (first | ((with_reducible refine gate_dst (N := 3) rfl ?_); refine box_event ?hg (N := 3) ?hd (cs := #[.slice A0_0 l0_0.length c0_0, .slice A0_1 l0_1.length c0_1]) (t := 28) ?hr ?_; (case hd => rfl); (case hg => rfl); (case hr => first | (go_simp; done) | (go_simp; rfl)); intro gb258 hg w27 hbox hb; have n0_ := Aside0.mk (below_step (XSq.bB HB) hb); have n1_ := Aside0.mk (hbox); have n2_ := Aside0.mk ((by rw [hg]; exact (below_size (XSq.bB HB)) : w.heap.size ≤ gb258)); have n3_ := Aside0.mk ((by rw [hg]; exact (below_size (XSq.bB HB)) : w.heap.size ≤ gb258)); clear HB; have HB := n0_; have BK258 := n1_; have GW258 := n2_; have GE258 := n3_; clear n0_ n1_ n2_ n3_; clear hb hbox hg; have hcz28_0 : w27.cell? ⟨gb258, 0, none⟩ = some (.slice A0_0 l0_0.length c0_0) := (blk_cell BK258.out 0).trans rfl; have hcz28_1 : w27.cell? ⟨gb258, 1, none⟩ = some (.slice A0_1 l0_1.length c0_1) := (blk_cell BK258.out 1).trans rfl; have hfz28_0 := blk_frozen BK258.out 0; have hfz28_1 := blk_frozen BK258.out 1) | ((with_reducible refine gate_callee (f := 72) rfl ?_); refine goesL_ (some 14) rfl rfl Try.func72 (by kernel_rfl) rfl #[.agg #[.slice A0_0 l0_0.length c0_0, .slice A0_1 l0_1.length c0_1], .int .i64 a1, .int .i64 a2] rfl (by (try simp only [List.map_toArray, List.map_cons, List.map_nil]); first | done | rfl | (simp only [List.length_drop, List.length_take]; rfl)) ?_; (with_reducible refine (impl_isWalk.calls k _ _ l0_0 _ _ l0_1 a1 a2 false _ ?side1 ?side2 ?side3 ?side4 A4.out).mono ?_); (case side1 => repeat (first | exact (Kd.C_below HR0_0.out HB.out) | (with_reducible refine Kd.C_alloc ?_ _) | (with_reducible refine Kd.C_drewN ?_ _) | (with_reducible refine Kd.C_drew ?_))); (case side2 => exact HC0_0.out); (case side3 => repeat (first | exact (Kd.C_below HR0_1.out HB.out) | (with_reducible refine Kd.C_alloc ?_ _) | (with_reducible refine Kd.C_drewN ?_ _) | (with_reducible refine Kd.C_drew ?_))); (case side4 => exact HC0_1.out); rintro e w29 ⟨rfl, hb⟩; refine ⟨_, rfl, ?_⟩; have n0_ := Aside0.mk (blk_below (g := gb258) (o := .cells #[.slice A0_0 l0_0.length c0_0, .slice A0_1 l0_1.length c0_1] 28 (0, 0)) (XSq.bq BK258) hb); have n1_ := Aside0.mk (below_step (XSq.bB HB) hb); clear BK258; clear HB; have BK258 := n0_; have HB := n1_; clear n0_ n1_; (try clear hb); (try clear hb2); (try clear hk); (try clear hi)))
    go_ret2
    exact ⟨_, by first | rfl | (simp [errW_none, errW_some] <;> rfl) | (simp [*, errW_none, errW_some] <;> rfl), by first | exact Kd.R_nil _ _ _ _ _ | exact Kd.N_nil _ _ _ _ _ | exact Kd.V_nil _ _ _ _ _ | exact Kd.Q_nil _ _ _ _ _ | exact Kd.S_nil _ _ _ _ _, by repeat (first | (with_reducible first | exact HB.out | apply below_alloc | apply pw_below_drewN | apply below_drew1 | refine below_set ?_ GE258.out) | exact HB.out)⟩

/-! ### laws_FnExactVisitsOfWalk: function 12, by hand -/
def laws_FnExactVisitsOfWalk.f (k : Nat) (l0_0 : List (List Int)) (l0_1 : List Int) (a1 : Int) (a2 : Int) : Option Bool := (laws_szRoute.f k l0_0 l0_1 1048576).bind fun t => if t < 0 then some true else (laws_toRoute.f k l0_0 l0_1).bind fun x => (spec_VisitsOfWalk.f k x.1 x.2 a1 a2).bind fun s => (impl_VisitsOfWalk.f k x.1 x.2 a1 a2).bind fun g => (laws_eqIntS.f k g.1 s.1).bind fun e1 => (laws_eqRoute.f k x.1 x.2 x.1 x.2).bind fun e2 => (laws_markRoute.f k x.1 x.2 1).bind fun m1 => (laws_markIntS.f k g.1 1).bind fun m2 => (laws_heldIntS.f k m2.2 1).bind fun q => if e1 = true ∧ e2 = true ∧ g.2 = s.2 ∧ 0 ≤ m1.1 ∧ 0 ≤ q ∧ q = m2.1 then some true else none
set_option maxHeartbeats 16000000 in
set_option maxRecDepth 100000 in
theorem laws_FnExactVisitsOfWalk.calls (k : Nat) (A0_0 : Option Addr) (c0_0 : Nat) (l0_0 : List (List Int)) (A0_1 : Option Addr) (c0_1 : Nat) (l0_1 : List Int) (a1 : Int) (a2 : Int) (r : Bool) (w : World) (hr0_0 : Kd.C (Kd.slice 3 (Kd.int .i64)) w A0_0 l0_0.length l0_0) (hc0_0 : l0_0.length ≤ c0_0) (hr0_1 : Kd.C (Kd.int .i64) w A0_1 l0_1.length l0_1) (hc0_1 : l0_1.length ≤ c0_1) (h : laws_FnExactVisitsOfWalk.f k l0_0 l0_1 a1 a2 = some r) :
    Calls Try.prog 12 #[.agg #[.slice A0_0 l0_0.length c0_0, .slice A0_1 l0_1.length c0_1], .int .i64 a1, .int .i64 a2] w fun e w' => e = .returned (.bool r) ∧ Below w.heap.size w w' := by
  have huA := Try.underlying25
  have huR := Try.underlying28
  have HR0_0 := Aside0.mk hr0_0
  clear hr0_0
  have HC0_0 := Aside0.mk hc0_0
  clear hc0_0
  have HR0_1 := Aside0.mk hr0_1
  clear hr0_1
  have HC0_1 := Aside0.mk hc0_1
  clear hc0_1
  have HB := Aside0.mk (Below.refl w.heap.size w)
  have h_ := Option.bind_eq_some_iff.1 h
  clear h
  obtain ⟨t0, B0_, h⟩ := h_
  have B0 := Aside0.mk B0_
  clear B0_
  change (if t0 < 0 then some true else _) = some r at h
  by_cases c0 : t0 < 0
  · rw [if_pos c0] at h
    obtain rfl := Option.some.inj h
    have c0b : decide (t0 < 0) = true := decide_eq_true c0
    clear c0 h
    go_enter Try.func12, Try.ntmps12
    go_wp2_with (first | (go_at_call 14; (with_reducible refine (laws_szRoute.calls k _ _ l0_0 _ _ l0_1 1048576 t0 _ ?s2_0 ?s2_1 ?s2_2 ?s2_3 B0.out).mono ?_); (case s2_0 => repeat (first | exact (Kd.C_below HR0_0.out HB.out) | (with_reducible refine Kd.C_alloc ?_ _) | (with_reducible refine Kd.C_drewN ?_ _) | (with_reducible refine Kd.C_drew ?_))); (case s2_1 => exact HC0_0.out); (case s2_2 => repeat (first | exact (Kd.C_below HR0_1.out HB.out) | (with_reducible refine Kd.C_alloc ?_ _) | (with_reducible refine Kd.C_drewN ?_ _) | (with_reducible refine Kd.C_drew ?_))); (case s2_3 => exact HC0_1.out); rintro e w1_ ⟨rfl, hb⟩; have hq : Below w.heap.size w w1_ := below_step (below_alloc (Below.refl _ _) _) hb; have KA := Aside0.mk (show w1_.heap[w.heap.size]? = some (.cells #[(.slice A0_0 l0_0.length c0_0), (.slice A0_1 l0_1.length c0_1)] 25 (0, 0)) from blk_below (blk_new _ _) hb); replace HB := Aside0.mk (below_step HB.out hq); clear hq hb; have hcz3_ : w1_.cell? ⟨w.heap.size, 0, none⟩ = some ((.slice A0_0 l0_0.length c0_0)) := (blk_cell KA.out 0).trans rfl; have hcz4_ : ∀ o_, (w1_.alloc o_).cell? ⟨w.heap.size, 0, none⟩ = some ((.slice A0_0 l0_0.length c0_0)) := fun o_ => (blk_cell (blk_alloc KA.out o_) 0).trans rfl; have hcz5_ : w1_.cell? ⟨w.heap.size, 1, none⟩ = some ((.slice A0_1 l0_1.length c0_1)) := (blk_cell KA.out 1).trans rfl; have hcz6_ : ∀ o_, (w1_.alloc o_).cell? ⟨w.heap.size, 1, none⟩ = some ((.slice A0_1 l0_1.length c0_1)) := fun o_ => (blk_cell (blk_alloc KA.out o_) 1).trans rfl))
    go_ret
    exact ⟨by first | rfl | (simp; done), HB.out⟩
  · rw [if_neg c0] at h
    have c0b : decide (t0 < 0) = false := decide_eq_false c0
    clear c0
    have h_ := Option.bind_eq_some_iff.1 h
    clear h
    obtain ⟨⟨x1, x2⟩, B1_, h⟩ := h_
    have B1 := Aside0.mk B1_
    clear B1_
    have h_ := Option.bind_eq_some_iff.1 h
    clear h
    obtain ⟨⟨s1, s2⟩, B2_, h⟩ := h_
    have B2 := Aside0.mk B2_
    clear B2_
    have h_ := Option.bind_eq_some_iff.1 h
    clear h
    obtain ⟨⟨g1, g2⟩, B3_, h⟩ := h_
    have B3 := Aside0.mk B3_
    clear B3_
    have h_ := Option.bind_eq_some_iff.1 h
    clear h
    obtain ⟨e1, B4_, h⟩ := h_
    have B4 := Aside0.mk B4_
    clear B4_
    have h_ := Option.bind_eq_some_iff.1 h
    clear h
    obtain ⟨e2, B5_, h⟩ := h_
    have B5 := Aside0.mk B5_
    clear B5_
    have h_ := Option.bind_eq_some_iff.1 h
    clear h
    obtain ⟨⟨k1, k2, k3⟩, B6_, h⟩ := h_
    have B6 := Aside0.mk B6_
    clear B6_
    have h_ := Option.bind_eq_some_iff.1 h
    clear h
    obtain ⟨⟨m1, m2⟩, B7_, h⟩ := h_
    have B7 := Aside0.mk B7_
    clear B7_
    have h_ := Option.bind_eq_some_iff.1 h
    clear h
    obtain ⟨q, B8_, h⟩ := h_
    have B8 := Aside0.mk B8_
    clear B8_
    by_cases hc : e1 = true ∧ e2 = true ∧ g2 = s2 ∧ 0 ≤ k1 ∧ 0 ≤ q ∧ q = m1
    · replace h := (if_pos hc).symm.trans h
      obtain rfl := Option.some.inj h
      obtain ⟨rfl, rfl, rfl, hk0, hq0, rfl⟩ := hc
      have hk0b : decide (k1 < 0) = false := decide_eq_false (by omega)
      have hq0b : decide (q < 0) = false := decide_eq_false (by omega)
      have hqqb : (q != q) = false := by simp
      clear hk0 hq0 h
      have hbb0 : (g2 != g2) = false := by simp
      have tok1 := trivial
      have tok2 := trivial
      have tok3 := trivial
      have tok4 := trivial
      go_enter Try.func12, Try.ntmps12
      go_wp2_with (first | (go_at_call 14; (with_reducible refine (laws_szRoute.calls k _ _ l0_0 _ _ l0_1 1048576 t0 _ ?s8_0 ?s8_1 ?s8_2 ?s8_3 B0.out).mono ?_); (case s8_0 => repeat (first | exact (Kd.C_below HR0_0.out HB.out) | (with_reducible refine Kd.C_alloc ?_ _) | (with_reducible refine Kd.C_drewN ?_ _) | (with_reducible refine Kd.C_drew ?_))); (case s8_1 => exact HC0_0.out); (case s8_2 => repeat (first | exact (Kd.C_below HR0_1.out HB.out) | (with_reducible refine Kd.C_alloc ?_ _) | (with_reducible refine Kd.C_drewN ?_ _) | (with_reducible refine Kd.C_drew ?_))); (case s8_3 => exact HC0_1.out); rintro e w7_ ⟨rfl, hb⟩; have hq : Below w.heap.size w w7_ := below_step (below_alloc (Below.refl _ _) _) hb; have KA := Aside0.mk (show w7_.heap[w.heap.size]? = some (.cells #[(.slice A0_0 l0_0.length c0_0), (.slice A0_1 l0_1.length c0_1)] 25 (0, 0)) from blk_below (blk_new _ _) hb); replace HB := Aside0.mk (below_step HB.out hq); clear hq hb; have hcz9_ : w7_.cell? ⟨w.heap.size, 0, none⟩ = some ((.slice A0_0 l0_0.length c0_0)) := (blk_cell KA.out 0).trans rfl; have hcz10_ : ∀ o_, (w7_.alloc o_).cell? ⟨w.heap.size, 0, none⟩ = some ((.slice A0_0 l0_0.length c0_0)) := fun o_ => (blk_cell (blk_alloc KA.out o_) 0).trans rfl; have hcz11_ : w7_.cell? ⟨w.heap.size, 1, none⟩ = some ((.slice A0_1 l0_1.length c0_1)) := (blk_cell KA.out 1).trans rfl; have hcz12_ : ∀ o_, (w7_.alloc o_).cell? ⟨w.heap.size, 1, none⟩ = some ((.slice A0_1 l0_1.length c0_1)) := fun o_ => (blk_cell (blk_alloc KA.out o_) 1).trans rfl) | (have tk := tok1; go_at_call 16; (with_reducible refine (laws_toRoute.calls k _ _ l0_0 _ _ l0_1 x1 x2 _ ?s14_0 ?s14_1 ?s14_2 ?s14_3 B1.out).mono ?_); (case s14_0 => repeat (first | exact (Kd.C_below HR0_0.out HB.out) | (with_reducible refine Kd.C_alloc ?_ _) | (with_reducible refine Kd.C_drewN ?_ _) | (with_reducible refine Kd.C_drew ?_))); (case s14_1 => exact HC0_0.out); (case s14_2 => repeat (first | exact (Kd.C_below HR0_1.out HB.out) | (with_reducible refine Kd.C_alloc ?_ _) | (with_reducible refine Kd.C_drewN ?_ _) | (with_reducible refine Kd.C_drew ?_))); (case s14_3 => exact HC0_1.out); rintro e w13_ ⟨v1_, v2_, rfl, hs, hr, hb⟩; obtain ⟨AT1, cT1, rfl⟩ := Kd.S_slice hs; obtain ⟨AT2, cT2, rfl⟩ := Kd.R_slice hr; have T := Aside0.mk (XRoute.Rt.made (n := w.heap.size) hs hr (below_size (HB.out))); clear hs hr; have hq : Below w7_.heap.size w7_ w13_ := below_step (Below.refl _ _) hb; replace KA := Aside0.mk (show w13_.heap[w.heap.size]? = some (.cells #[(.slice A0_0 l0_0.length c0_0), (.slice A0_1 l0_1.length c0_1)] 25 (0, 0)) from blk_below KA.out hq); replace HB := Aside0.mk (below_step HB.out hq); clear hq hb; clear hcz9_ hcz10_ hcz11_ hcz12_; have hcz15_ : w13_.cell? ⟨w.heap.size, 0, none⟩ = some ((.slice A0_0 l0_0.length c0_0)) := (blk_cell KA.out 0).trans rfl; have hcz16_ : ∀ o_, (w13_.alloc o_).cell? ⟨w.heap.size, 0, none⟩ = some ((.slice A0_0 l0_0.length c0_0)) := fun o_ => (blk_cell (blk_alloc KA.out o_) 0).trans rfl; have hcz17_ : w13_.cell? ⟨w.heap.size, 1, none⟩ = some ((.slice A0_1 l0_1.length c0_1)) := (blk_cell KA.out 1).trans rfl; have hcz18_ : ∀ o_, (w13_.alloc o_).cell? ⟨w.heap.size, 1, none⟩ = some ((.slice A0_1 l0_1.length c0_1)) := fun o_ => (blk_cell (blk_alloc KA.out o_) 1).trans rfl; clear tk tok1) | (go_at_call 40; (with_reducible refine (spec_VisitsOfWalk.calls k _ _ x1 _ _ x2 a1 a2 s1 g2 _ ?s20_0 ?s20_1 ?s20_2 ?s20_3 B2.out).mono ?_); (case s20_0 => repeat (first | exact (Kd.S_reads' T.out.s).2.2 | (with_reducible refine Kd.C_alloc ?_ _) | (with_reducible refine Kd.C_drewN ?_ _) | (with_reducible refine Kd.C_drew ?_))); (case s20_1 => exact (Kd.S_reads' T.out.s).2.1); (case s20_2 => repeat (first | exact (Kd.R_reads' T.out.r).2.2 | (with_reducible refine Kd.C_alloc ?_ _) | (with_reducible refine Kd.C_drewN ?_ _) | (with_reducible refine Kd.C_drew ?_))); (case s20_3 => exact (Kd.R_reads' T.out.r).2.1); rintro e w19_ ⟨v2_, rfl, hr, hb⟩; obtain ⟨AS1, cS1, rfl⟩ := Kd.R_slice hr; have S := Aside0.mk (XRoute.Ri.made (n := w.heap.size) hr (below_size (HB.out))); clear hr; have hq : Below w13_.heap.size w13_ w19_ := below_step (Below.refl _ _) hb; replace T := Aside0.mk (XRoute.Rt.below T.out hq); replace KA := Aside0.mk (show w19_.heap[w.heap.size]? = some (.cells #[(.slice A0_0 l0_0.length c0_0), (.slice A0_1 l0_1.length c0_1)] 25 (0, 0)) from blk_below KA.out hq); replace HB := Aside0.mk (below_step HB.out hq); clear hq hb; clear hcz15_ hcz16_ hcz17_ hcz18_; have hcz21_ : w19_.cell? ⟨w.heap.size, 0, none⟩ = some ((.slice A0_0 l0_0.length c0_0)) := (blk_cell KA.out 0).trans rfl; have hcz22_ : ∀ o_, (w19_.alloc o_).cell? ⟨w.heap.size, 0, none⟩ = some ((.slice A0_0 l0_0.length c0_0)) := fun o_ => (blk_cell (blk_alloc KA.out o_) 0).trans rfl; have hcz23_ : w19_.cell? ⟨w.heap.size, 1, none⟩ = some ((.slice A0_1 l0_1.length c0_1)) := (blk_cell KA.out 1).trans rfl; have hcz24_ : ∀ o_, (w19_.alloc o_).cell? ⟨w.heap.size, 1, none⟩ = some ((.slice A0_1 l0_1.length c0_1)) := fun o_ => (blk_cell (blk_alloc KA.out o_) 1).trans rfl; clear T) | (have tk := tok2; go_at_call 16; (with_reducible refine (laws_toRoute.calls k _ _ l0_0 _ _ l0_1 x1 x2 _ ?s26_0 ?s26_1 ?s26_2 ?s26_3 B1.out).mono ?_); (case s26_0 => repeat (first | exact (Kd.C_below HR0_0.out HB.out) | (with_reducible refine Kd.C_alloc ?_ _) | (with_reducible refine Kd.C_drewN ?_ _) | (with_reducible refine Kd.C_drew ?_))); (case s26_1 => exact HC0_0.out); (case s26_2 => repeat (first | exact (Kd.C_below HR0_1.out HB.out) | (with_reducible refine Kd.C_alloc ?_ _) | (with_reducible refine Kd.C_drewN ?_ _) | (with_reducible refine Kd.C_drew ?_))); (case s26_3 => exact HC0_1.out); rintro e w25_ ⟨v1_, v2_, rfl, hs, hr, hb⟩; obtain ⟨AX1, cX1, rfl⟩ := Kd.S_slice hs; obtain ⟨AX2, cX2, rfl⟩ := Kd.R_slice hr; have X := Aside0.mk (XRoute.Rt.made (n := w.heap.size) hs hr (below_size (HB.out))); clear hs hr; have LSX := Aside0.mk (XRoute.sepR S.out.le (Below.refl _ _) hb); have LKAX := Aside0.mk (XRoute.sepB KA.out (Below.refl _ _) hb); have LX := Aside0.mk hb.size; have hq : Below w19_.heap.size w19_ w25_ := below_step (Below.refl _ _) hb; replace S := Aside0.mk (XRoute.Ri.below S.out hq); replace KA := Aside0.mk (show w25_.heap[w.heap.size]? = some (.cells #[(.slice A0_0 l0_0.length c0_0), (.slice A0_1 l0_1.length c0_1)] 25 (0, 0)) from blk_below KA.out hq); replace HB := Aside0.mk (below_step HB.out hq); clear hq hb; clear hcz21_ hcz22_ hcz23_ hcz24_; have hcz27_ : w25_.cell? ⟨w.heap.size, 0, none⟩ = some ((.slice A0_0 l0_0.length c0_0)) := (blk_cell KA.out 0).trans rfl; have hcz28_ : ∀ o_, (w25_.alloc o_).cell? ⟨w.heap.size, 0, none⟩ = some ((.slice A0_0 l0_0.length c0_0)) := fun o_ => (blk_cell (blk_alloc KA.out o_) 0).trans rfl; have hcz29_ : w25_.cell? ⟨w.heap.size, 1, none⟩ = some ((.slice A0_1 l0_1.length c0_1)) := (blk_cell KA.out 1).trans rfl; have hcz30_ : ∀ o_, (w25_.alloc o_).cell? ⟨w.heap.size, 1, none⟩ = some ((.slice A0_1 l0_1.length c0_1)) := fun o_ => (blk_cell (blk_alloc KA.out o_) 1).trans rfl; clear tk tok2) | (have tk := tok3; go_at_call 41; (with_reducible refine (impl_VisitsOfWalk.calls k _ _ x1 _ _ x2 a1 a2 g1 g2 _ ?s32_0 ?s32_1 ?s32_2 ?s32_3 B3.out).mono ?_); (case s32_0 => repeat (first | exact (Kd.S_reads' X.out.s).2.2 | (with_reducible refine Kd.C_alloc ?_ _) | (with_reducible refine Kd.C_drewN ?_ _) | (with_reducible refine Kd.C_drew ?_))); (case s32_1 => exact (Kd.S_reads' X.out.s).2.1); (case s32_2 => repeat (first | exact (Kd.R_reads' X.out.r).2.2 | (with_reducible refine Kd.C_alloc ?_ _) | (with_reducible refine Kd.C_drewN ?_ _) | (with_reducible refine Kd.C_drew ?_))); (case s32_3 => exact (Kd.R_reads' X.out.r).2.1); rintro e w31_ ⟨v2_, rfl, hr, hb⟩; obtain ⟨AG1, cG1, rfl⟩ := Kd.R_slice hr; have G := Aside0.mk (XRoute.Ri.made (n := w.heap.size) hr (below_size (below_alloc (HB.out) _))); clear hr; have LSG := Aside0.mk (XRoute.sepR S.out.le (below_alloc (Below.refl _ _) _) hb); have LXG := Aside0.mk (XRoute.sepR X.out.le (below_alloc (Below.refl _ _) _) hb); have LKAG := Aside0.mk (XRoute.sepB KA.out (below_alloc (Below.refl _ _) _) hb); have LKXG := Aside0.mk (XRoute.sepN hb); have LG := Aside0.mk hb.size; have hq : Below w25_.heap.size w25_ w31_ := below_step (below_alloc (Below.refl _ _) _) hb; replace S := Aside0.mk (XRoute.Ri.below S.out hq); replace X := Aside0.mk (XRoute.Rt.below X.out hq); replace KA := Aside0.mk (show w31_.heap[w.heap.size]? = some (.cells #[(.slice A0_0 l0_0.length c0_0), (.slice A0_1 l0_1.length c0_1)] 25 (0, 0)) from blk_below KA.out hq); have KX := Aside0.mk (show w31_.heap[w25_.heap.size]? = some (.cells #[(.slice AX1 x1.length cX1), (.slice AX2 x2.length cX2)] 28 (0, 0)) from blk_below (blk_new _ _) hb); replace HB := Aside0.mk (below_step HB.out hq); clear hq hb; clear hcz27_ hcz28_ hcz29_ hcz30_; have hcz33_ : w31_.cell? ⟨w.heap.size, 0, none⟩ = some ((.slice A0_0 l0_0.length c0_0)) := (blk_cell KA.out 0).trans rfl; have hcz34_ : ∀ o_, (w31_.alloc o_).cell? ⟨w.heap.size, 0, none⟩ = some ((.slice A0_0 l0_0.length c0_0)) := fun o_ => (blk_cell (blk_alloc KA.out o_) 0).trans rfl; have hcz35_ : w31_.cell? ⟨w.heap.size, 1, none⟩ = some ((.slice A0_1 l0_1.length c0_1)) := (blk_cell KA.out 1).trans rfl; have hcz36_ : ∀ o_, (w31_.alloc o_).cell? ⟨w.heap.size, 1, none⟩ = some ((.slice A0_1 l0_1.length c0_1)) := fun o_ => (blk_cell (blk_alloc KA.out o_) 1).trans rfl; have hcz37_ : w31_.cell? ⟨w25_.heap.size, 0, none⟩ = some ((.slice AX1 x1.length cX1)) := (blk_cell KX.out 0).trans rfl; have hcz38_ : ∀ o_, (w31_.alloc o_).cell? ⟨w25_.heap.size, 0, none⟩ = some ((.slice AX1 x1.length cX1)) := fun o_ => (blk_cell (blk_alloc KX.out o_) 0).trans rfl; have hcz39_ : w31_.cell? ⟨w25_.heap.size, 1, none⟩ = some ((.slice AX2 x2.length cX2)) := (blk_cell KX.out 1).trans rfl; have hcz40_ : ∀ o_, (w31_.alloc o_).cell? ⟨w25_.heap.size, 1, none⟩ = some ((.slice AX2 x2.length cX2)) := fun o_ => (blk_cell (blk_alloc KX.out o_) 1).trans rfl; clear tk tok3) | (have tk := tok4; go_at_call 35; (with_reducible refine (laws_eqIntS.calls k _ _ g1 _ _ s1 true _ ?s42_0 ?s42_1 ?s42_2 ?s42_3 B4.out).mono ?_); (case s42_0 => repeat (first | exact (Kd.R_reads' G.out.r).2.2 | (with_reducible refine Kd.C_alloc ?_ _) | (with_reducible refine Kd.C_drewN ?_ _) | (with_reducible refine Kd.C_drew ?_))); (case s42_1 => exact (Kd.R_reads' G.out.r).2.1); (case s42_2 => repeat (first | exact (Kd.R_reads' S.out.r).2.2 | (with_reducible refine Kd.C_alloc ?_ _) | (with_reducible refine Kd.C_drewN ?_ _) | (with_reducible refine Kd.C_drew ?_))); (case s42_3 => exact (Kd.R_reads' S.out.r).2.1); rintro e w41_ ⟨rfl, hd⟩; have hb := Drawn0.below hd; clear hd; have hq : Below w31_.heap.size w31_ w41_ := below_step (Below.refl _ _) hb; replace S := Aside0.mk (XRoute.Ri.below S.out hq); replace X := Aside0.mk (XRoute.Rt.below X.out hq); replace G := Aside0.mk (XRoute.Ri.below G.out hq); replace KA := Aside0.mk (show w41_.heap[w.heap.size]? = some (.cells #[(.slice A0_0 l0_0.length c0_0), (.slice A0_1 l0_1.length c0_1)] 25 (0, 0)) from blk_below KA.out hq); replace KX := Aside0.mk (show w41_.heap[w25_.heap.size]? = some (.cells #[(.slice AX1 x1.length cX1), (.slice AX2 x2.length cX2)] 28 (0, 0)) from blk_below KX.out hq); replace HB := Aside0.mk (below_step HB.out hq); clear hq hb; clear hcz33_ hcz34_ hcz35_ hcz36_ hcz37_ hcz38_ hcz39_ hcz40_; have hcz43_ : w41_.cell? ⟨w.heap.size, 0, none⟩ = some ((.slice A0_0 l0_0.length c0_0)) := (blk_cell KA.out 0).trans rfl; have hcz44_ : ∀ o_, (w41_.alloc o_).cell? ⟨w.heap.size, 0, none⟩ = some ((.slice A0_0 l0_0.length c0_0)) := fun o_ => (blk_cell (blk_alloc KA.out o_) 0).trans rfl; have hcz45_ : w41_.cell? ⟨w.heap.size, 1, none⟩ = some ((.slice A0_1 l0_1.length c0_1)) := (blk_cell KA.out 1).trans rfl; have hcz46_ : ∀ o_, (w41_.alloc o_).cell? ⟨w.heap.size, 1, none⟩ = some ((.slice A0_1 l0_1.length c0_1)) := fun o_ => (blk_cell (blk_alloc KA.out o_) 1).trans rfl; have hcz47_ : w41_.cell? ⟨w25_.heap.size, 0, none⟩ = some ((.slice AX1 x1.length cX1)) := (blk_cell KX.out 0).trans rfl; have hcz48_ : ∀ o_, (w41_.alloc o_).cell? ⟨w25_.heap.size, 0, none⟩ = some ((.slice AX1 x1.length cX1)) := fun o_ => (blk_cell (blk_alloc KX.out o_) 0).trans rfl; have hcz49_ : w41_.cell? ⟨w25_.heap.size, 1, none⟩ = some ((.slice AX2 x2.length cX2)) := (blk_cell KX.out 1).trans rfl; have hcz50_ : ∀ o_, (w41_.alloc o_).cell? ⟨w25_.heap.size, 1, none⟩ = some ((.slice AX2 x2.length cX2)) := fun o_ => (blk_cell (blk_alloc KX.out o_) 1).trans rfl; clear tk tok4))
      replace S := Aside0.mk (XRoute.Ri.below S.out (below_drew1 (Below.refl _ _)))
      replace X := Aside0.mk (XRoute.Rt.below X.out (below_drew1 (Below.refl _ _)))
      replace G := Aside0.mk (XRoute.Ri.below G.out (below_drew1 (Below.refl _ _)))
      replace KA := Aside0.mk (show w41_.drew.heap[w.heap.size]? = some (.cells #[(.slice A0_0 l0_0.length c0_0), (.slice A0_1 l0_1.length c0_1)] 25 (0, 0)) from blk_drew KA.out)
      replace KX := Aside0.mk (show w41_.drew.heap[w25_.heap.size]? = some (.cells #[(.slice AX1 x1.length cX1), (.slice AX2 x2.length cX2)] 28 (0, 0)) from blk_drew KX.out)
      replace HB := Aside0.mk (below_drew1 HB.out)
      clear hcz43_ hcz44_ hcz45_ hcz46_ hcz47_ hcz48_ hcz49_ hcz50_
      refine start_ (n := 5) (S := fun w' => w'.cell? ⟨w25_.heap.size, 0, none⟩ = some (.slice AX1 x1.length cX1) ∧ w'.cell? ⟨w25_.heap.size, 1, none⟩ = some (.slice AX2 x2.length cX2) ∧ w'.cell? ⟨w.heap.size, 0, none⟩ = some (.slice A0_0 l0_0.length c0_0) ∧ w'.cell? ⟨w.heap.size, 1, none⟩ = some (.slice A0_1 l0_1.length c0_1)) (ds := []) #[false, false, false, false, false] (by kernel_rfl) rfl rfl ⟨(blk_cell KX.out 0).trans rfl, (blk_cell KX.out 1).trans rfl, (blk_cell KA.out 0).trans rfl, (blk_cell KA.out 1).trans rfl⟩ (fun hHeld => ?_)
      generalize w41_.drew = w51_ at S X G KA KX HB hHeld ⊢
      refine take_ (i := 0) (N := some 49) (v := ?_) (a' := ?_) #[true, false, false, false, false] rfl rfl (by kernel_rfl) (fun _ _ _ h => h) (Or.inl ⟨by rfl, ?_⟩) hHeld ?_ ?_
      rotate_left
      · rintro w' ⟨s0, s1, s2, s3⟩
        go_simp
        with_reducible rfl
      rotate_left
      · simp only [Act.put, List.setIfInBounds_toArray, List.set_cons_zero, List.set_cons_succ, i64_w, i32_w]
        rfl
      refine take_ (i := 1) (N := some 50) (v := ?_) (a' := ?_) #[true, true, false, false, false] rfl rfl (by kernel_rfl) (fun _ _ _ h => h) (Or.inl ⟨by rfl, ?_⟩) hHeld ?_ ?_
      rotate_left
      · rintro w' ⟨s0, s1, s2, s3⟩
        go_simp
        with_reducible rfl
      rotate_left
      · simp only [Act.put, List.setIfInBounds_toArray, List.set_cons_zero, List.set_cons_succ, i64_w, i32_w]
        rfl
      refine one_ (i := 2) (N := some 51) #[true, true, true, false, false] rfl rfl (by kernel_rfl) (by decide) (fun K hK => ?_)
      refine goes_ Try.func16 (by kernel_rfl) rfl #[.agg #[.slice A0_0 l0_0.length c0_0, .slice A0_1 l0_1.length c0_1]] (by rfl) rfl rfl (by (try simp only [List.map_toArray, List.map_cons, List.map_nil]); first | done | rfl | (simp only [List.length_drop, List.length_take]; rfl)) ?_
      (with_reducible refine (laws_toRoute.calls k _ _ l0_0 _ _ l0_1 x1 x2 _ ?s53_0 ?s53_1 ?s53_2 ?s53_3 B1.out).mono ?_)
      (case s53_0 => repeat (first | exact (Kd.C_below HR0_0.out HB.out) | (with_reducible refine Kd.C_alloc ?_ _) | (with_reducible refine Kd.C_drewN ?_ _) | (with_reducible refine Kd.C_drew ?_)))
      (case s53_1 => exact HC0_0.out)
      (case s53_2 => repeat (first | exact (Kd.C_below HR0_1.out HB.out) | (with_reducible refine Kd.C_alloc ?_ _) | (with_reducible refine Kd.C_drewN ?_ _) | (with_reducible refine Kd.C_drew ?_)))
      (case s53_3 => exact HC0_1.out)
      rintro e w52_ ⟨v1_, v2_, rfl, hs, hr, hb⟩
      refine ⟨_, rfl, ?_⟩
      obtain ⟨AY1, cY1, rfl⟩ := Kd.S_slice hs
      obtain ⟨AY2, cY2, rfl⟩ := Kd.R_slice hr
      have Y := Aside0.mk (XRoute.Rt.made (n := w.heap.size) hs hr (below_size (HB.out)))
      clear hs hr
      have hq : Below w51_.heap.size w51_ w52_ := below_step (Below.refl _ _) hb
      replace S := Aside0.mk (XRoute.Ri.below S.out hq)
      replace X := Aside0.mk (XRoute.Rt.below X.out hq)
      replace G := Aside0.mk (XRoute.Ri.below G.out hq)
      replace KA := Aside0.mk (show w52_.heap[w.heap.size]? = some (.cells #[(.slice A0_0 l0_0.length c0_0), (.slice A0_1 l0_1.length c0_1)] 25 (0, 0)) from blk_below KA.out hq)
      replace KX := Aside0.mk (show w52_.heap[w25_.heap.size]? = some (.cells #[(.slice AX1 x1.length cX1), (.slice AX2 x2.length cX2)] 28 (0, 0)) from blk_below KX.out hq)
      replace HB := Aside0.mk (below_step HB.out hq)
      clear hq hb
      refine hK.out _ _ ⟨(blk_cell KX.out 0).trans rfl, (blk_cell KX.out 1).trans rfl, (blk_cell KA.out 0).trans rfl, (blk_cell KA.out 1).trans rfl⟩ (fun hHeld => ?_)
      clear hK K
      refine norm_ (a' := ?_) ?_ ?_
      rotate_left
      · show Act.put _ (some 51) _ = _
        simp only [Act.put, List.setIfInBounds_toArray, List.set_cons_zero, List.set_cons_succ, i64_w, i32_w]
        rfl
      refine one_ (i := 3) (N := some 52) #[true, true, true, true, false] rfl rfl (by kernel_rfl) (by decide) (fun K hK => ?_)
      refine goes_ Try.func18 (by kernel_rfl) rfl #[.agg #[.slice AX1 x1.length cX1, .slice AX2 x2.length cX2], .agg #[.slice AY1 x1.length cY1, .slice AY2 x2.length cY2]] (by rfl) rfl rfl (by (try simp only [List.map_toArray, List.map_cons, List.map_nil]); first | done | rfl | (simp only [List.length_drop, List.length_take]; rfl)) ?_
      (with_reducible refine (laws_eqRoute.calls k _ _ x1 _ _ x2 _ _ x1 _ _ x2 true _ ?s63_0 ?s63_1 ?s63_2 ?s63_3 ?s63_4 ?s63_5 ?s63_6 ?s63_7 B5.out).mono ?_)
      (case s63_0 => repeat (first | exact (Kd.S_reads' X.out.s).2.2 | (with_reducible refine Kd.C_alloc ?_ _) | (with_reducible refine Kd.C_drewN ?_ _) | (with_reducible refine Kd.C_drew ?_)))
      (case s63_1 => exact (Kd.S_reads' X.out.s).2.1)
      (case s63_2 => repeat (first | exact (Kd.R_reads' X.out.r).2.2 | (with_reducible refine Kd.C_alloc ?_ _) | (with_reducible refine Kd.C_drewN ?_ _) | (with_reducible refine Kd.C_drew ?_)))
      (case s63_3 => exact (Kd.R_reads' X.out.r).2.1)
      (case s63_4 => repeat (first | exact (Kd.S_reads' Y.out.s).2.2 | (with_reducible refine Kd.C_alloc ?_ _) | (with_reducible refine Kd.C_drewN ?_ _) | (with_reducible refine Kd.C_drew ?_)))
      (case s63_5 => exact (Kd.S_reads' Y.out.s).2.1)
      (case s63_6 => repeat (first | exact (Kd.R_reads' Y.out.r).2.2 | (with_reducible refine Kd.C_alloc ?_ _) | (with_reducible refine Kd.C_drewN ?_ _) | (with_reducible refine Kd.C_drew ?_)))
      (case s63_7 => exact (Kd.R_reads' Y.out.r).2.1)
      rintro e w62_ ⟨rfl, hb⟩
      refine ⟨_, rfl, ?_⟩
      have hq : Below w52_.heap.size w52_ w62_ := below_step (Below.refl _ _) hb
      replace S := Aside0.mk (XRoute.Ri.below S.out hq)
      replace X := Aside0.mk (XRoute.Rt.below X.out hq)
      replace G := Aside0.mk (XRoute.Ri.below G.out hq)
      replace Y := Aside0.mk (XRoute.Rt.below Y.out hq)
      replace KA := Aside0.mk (show w62_.heap[w.heap.size]? = some (.cells #[(.slice A0_0 l0_0.length c0_0), (.slice A0_1 l0_1.length c0_1)] 25 (0, 0)) from blk_below KA.out hq)
      replace KX := Aside0.mk (show w62_.heap[w25_.heap.size]? = some (.cells #[(.slice AX1 x1.length cX1), (.slice AX2 x2.length cX2)] 28 (0, 0)) from blk_below KX.out hq)
      replace HB := Aside0.mk (below_step HB.out hq)
      clear hq hb
      refine hK.out _ _ ⟨(blk_cell KX.out 0).trans rfl, (blk_cell KX.out 1).trans rfl, (blk_cell KA.out 0).trans rfl, (blk_cell KA.out 1).trans rfl⟩ (fun hHeld => ?_)
      clear hK K
      refine norm_ (a' := ?_) ?_ ?_
      rotate_left
      · show Act.put _ (some 52) _ = _
        simp only [Act.put, List.setIfInBounds_toArray, List.set_cons_zero, List.set_cons_succ, i64_w, i32_w]
        rfl
      refine pure_ (i := 4) (N := some 53) (v := ?_) (a' := ?_) #[true, true, true, true, true] rfl rfl (by kernel_rfl) (fun _ _ _ h => h) (Or.inl ⟨by rfl, ?_⟩) ?_ ?_
      rotate_left
      · intro w'
        go_simp
        with_reducible rfl
      rotate_left
      · simp only [Act.put, List.setIfInBounds_toArray, List.set_cons_zero, List.set_cons_succ, i64_w, i32_w]
        rfl
      refine done_ (by kernel_rfl) ?_
      clear hHeld Y
      have hcz72_ : w62_.cell? ⟨w.heap.size, 0, none⟩ = some ((.slice A0_0 l0_0.length c0_0)) := (blk_cell KA.out 0).trans rfl
      have hcz73_ : ∀ o_, (w62_.alloc o_).cell? ⟨w.heap.size, 0, none⟩ = some ((.slice A0_0 l0_0.length c0_0)) := fun o_ => (blk_cell (blk_alloc KA.out o_) 0).trans rfl
      have hcz74_ : w62_.cell? ⟨w.heap.size, 1, none⟩ = some ((.slice A0_1 l0_1.length c0_1)) := (blk_cell KA.out 1).trans rfl
      have hcz75_ : ∀ o_, (w62_.alloc o_).cell? ⟨w.heap.size, 1, none⟩ = some ((.slice A0_1 l0_1.length c0_1)) := fun o_ => (blk_cell (blk_alloc KA.out o_) 1).trans rfl
      have hcz76_ : w62_.cell? ⟨w25_.heap.size, 0, none⟩ = some ((.slice AX1 x1.length cX1)) := (blk_cell KX.out 0).trans rfl
      have hcz77_ : ∀ o_, (w62_.alloc o_).cell? ⟨w25_.heap.size, 0, none⟩ = some ((.slice AX1 x1.length cX1)) := fun o_ => (blk_cell (blk_alloc KX.out o_) 0).trans rfl
      have hcz78_ : w62_.cell? ⟨w25_.heap.size, 1, none⟩ = some ((.slice AX2 x2.length cX2)) := (blk_cell KX.out 1).trans rfl
      have hcz79_ : ∀ o_, (w62_.alloc o_).cell? ⟨w25_.heap.size, 1, none⟩ = some ((.slice AX2 x2.length cX2)) := fun o_ => (blk_cell (blk_alloc KX.out o_) 1).trans rfl
      have tok5 := trivial
      have tok6 := trivial
      have tok7 := trivial
      have tok8 := trivial
      have tok9 := trivial
      have tok10 := trivial
      go_wp2_with (first | (have tk := tok5; go_at_call 21; (with_reducible refine (laws_markRoute.calls k _ _ _ _ x1 x2 1 k1 k2 k3 w _ HB.out X.out.s X.out.r (fun _ h1_ h2_ => absurd h2_.2 h1_.2) B6.out).mono ?_); rintro e w80_ ⟨rfl, hs, hr, hb, hkp⟩; clear KX; replace S := Aside0.mk (XRoute.Ri.kept S.out hkp (fun k_ h1_ h2_ h3_ => by have h4_ := h3_.elim (fun z => z.1) (fun z => z.1); have := LSX.out; have := LKAX.out; have := LX.out; have := LSG.out; have := LXG.out; have := LKAG.out; have := LKXG.out; have := LG.out; omega)); replace G := Aside0.mk (XRoute.Ri.kept G.out hkp (fun k_ h1_ h2_ h3_ => by have h4_ := h3_.elim (fun z => z.1) (fun z => z.1); have := LSX.out; have := LKAX.out; have := LX.out; have := LSG.out; have := LXG.out; have := LKAG.out; have := LKXG.out; have := LG.out; omega)); replace KA := Aside0.mk (show w80_.heap[w.heap.size]? = some (.cells #[(.slice A0_0 l0_0.length c0_0), (.slice A0_1 l0_1.length c0_1)] 25 (0, 0)) from blk_kept KA.out hkp (fun h3_ => by have h4_ := h3_.elim (fun z => z.1) (fun z => z.1); have := LSX.out; have := LKAX.out; have := LX.out; have := LSG.out; have := LXG.out; have := LKAG.out; have := LKXG.out; have := LG.out; omega)); replace X := Aside0.mk (show XRoute.Rt 3 23 w80_ w.heap.size _ _ _ _ k2 k3 from ⟨hs, hr, Nat.le_trans X.out.le hkp.1⟩); replace HB := Aside0.mk hb; clear hb hkp hs hr; clear hcz72_ hcz73_ hcz74_ hcz75_ hcz76_ hcz77_ hcz78_ hcz79_; have hcz81_ : w80_.cell? ⟨w.heap.size, 0, none⟩ = some ((.slice A0_0 l0_0.length c0_0)) := (blk_cell KA.out 0).trans rfl; have hcz82_ : ∀ o_, (w80_.alloc o_).cell? ⟨w.heap.size, 0, none⟩ = some ((.slice A0_0 l0_0.length c0_0)) := fun o_ => (blk_cell (blk_alloc KA.out o_) 0).trans rfl; have hcz83_ : w80_.cell? ⟨w.heap.size, 1, none⟩ = some ((.slice A0_1 l0_1.length c0_1)) := (blk_cell KA.out 1).trans rfl; have hcz84_ : ∀ o_, (w80_.alloc o_).cell? ⟨w.heap.size, 1, none⟩ = some ((.slice A0_1 l0_1.length c0_1)) := fun o_ => (blk_cell (blk_alloc KA.out o_) 1).trans rfl; clear X; clear tk tok5) | (have tk := tok6; go_at_call 35; (with_reducible refine (laws_eqIntS.calls k _ _ g1 _ _ s1 true _ ?s86_0 ?s86_1 ?s86_2 ?s86_3 B4.out).mono ?_); (case s86_0 => repeat (first | exact (Kd.R_reads' G.out.r).2.2 | (with_reducible refine Kd.C_alloc ?_ _) | (with_reducible refine Kd.C_drewN ?_ _) | (with_reducible refine Kd.C_drew ?_))); (case s86_1 => exact (Kd.R_reads' G.out.r).2.1); (case s86_2 => repeat (first | exact (Kd.R_reads' S.out.r).2.2 | (with_reducible refine Kd.C_alloc ?_ _) | (with_reducible refine Kd.C_drewN ?_ _) | (with_reducible refine Kd.C_drew ?_))); (case s86_3 => exact (Kd.R_reads' S.out.r).2.1); rintro e w85_ ⟨rfl, hd⟩; have hb := Drawn0.below hd; clear hd; have hq : Below w80_.heap.size w80_ w85_ := below_step (Below.refl _ _) hb; replace S := Aside0.mk (XRoute.Ri.below S.out hq); replace G := Aside0.mk (XRoute.Ri.below G.out hq); replace KA := Aside0.mk (show w85_.heap[w.heap.size]? = some (.cells #[(.slice A0_0 l0_0.length c0_0), (.slice A0_1 l0_1.length c0_1)] 25 (0, 0)) from blk_below KA.out hq); replace HB := Aside0.mk (below_step HB.out hq); clear hq hb; clear hcz81_ hcz82_ hcz83_ hcz84_; have hcz87_ : w85_.cell? ⟨w.heap.size, 0, none⟩ = some ((.slice A0_0 l0_0.length c0_0)) := (blk_cell KA.out 0).trans rfl; have hcz88_ : ∀ o_, (w85_.alloc o_).cell? ⟨w.heap.size, 0, none⟩ = some ((.slice A0_0 l0_0.length c0_0)) := fun o_ => (blk_cell (blk_alloc KA.out o_) 0).trans rfl; have hcz89_ : w85_.cell? ⟨w.heap.size, 1, none⟩ = some ((.slice A0_1 l0_1.length c0_1)) := (blk_cell KA.out 1).trans rfl; have hcz90_ : ∀ o_, (w85_.alloc o_).cell? ⟨w.heap.size, 1, none⟩ = some ((.slice A0_1 l0_1.length c0_1)) := fun o_ => (blk_cell (blk_alloc KA.out o_) 1).trans rfl; clear tk tok6) | (have tk := tok7; go_at_call 36; (with_reducible refine (laws_markIntS.calls k _ _ g1 1 q m2 w _ HB.out G.out.r B7.out).mono ?_); rintro e w91_ ⟨rfl, hr, hb, hkp⟩; replace S := Aside0.mk (XRoute.Ri.kept S.out hkp (fun k_ h1_ h2_ h3_ => by have h4_ := h3_; have := LSX.out; have := LKAX.out; have := LX.out; have := LSG.out; have := LXG.out; have := LKAG.out; have := LKXG.out; have := LG.out; omega)); replace KA := Aside0.mk (show w91_.heap[w.heap.size]? = some (.cells #[(.slice A0_0 l0_0.length c0_0), (.slice A0_1 l0_1.length c0_1)] 25 (0, 0)) from blk_kept KA.out hkp (fun h3_ => by have h4_ := h3_; have := LSX.out; have := LKAX.out; have := LX.out; have := LSG.out; have := LXG.out; have := LKAG.out; have := LKXG.out; have := LG.out; omega)); replace G := Aside0.mk (show XRoute.Ri 3 w91_ w.heap.size _ _ _ m2 from ⟨Kd.R_flat (fun h => h) hr (fun k_ hk_ _ => G.out.r.1 k_ hk_), Nat.le_trans G.out.le hkp.1⟩); replace HB := Aside0.mk hb; clear hb hkp hr; clear hcz87_ hcz88_ hcz89_ hcz90_; have hcz92_ : w91_.cell? ⟨w.heap.size, 0, none⟩ = some ((.slice A0_0 l0_0.length c0_0)) := (blk_cell KA.out 0).trans rfl; have hcz93_ : ∀ o_, (w91_.alloc o_).cell? ⟨w.heap.size, 0, none⟩ = some ((.slice A0_0 l0_0.length c0_0)) := fun o_ => (blk_cell (blk_alloc KA.out o_) 0).trans rfl; have hcz94_ : w91_.cell? ⟨w.heap.size, 1, none⟩ = some ((.slice A0_1 l0_1.length c0_1)) := (blk_cell KA.out 1).trans rfl; have hcz95_ : ∀ o_, (w91_.alloc o_).cell? ⟨w.heap.size, 1, none⟩ = some ((.slice A0_1 l0_1.length c0_1)) := fun o_ => (blk_cell (blk_alloc KA.out o_) 1).trans rfl; clear tk tok7) | (have tk := tok8; go_at_call 37; refine calls_of_args (args' := #[.slice AG1 m2.length cG1, .int .i64 1]) (by rw [show g1.length = m2.length from (Kd.R_reads' G.out.r).1]) ?_; (with_reducible refine (laws_heldIntS.calls k _ _ m2 1 q _ ?s97_0 ?s97_1 B8.out).mono ?_); (case s97_0 => repeat (first | exact (Kd.R_reads' G.out.r).2.2 | (with_reducible refine Kd.C_alloc ?_ _) | (with_reducible refine Kd.C_drewN ?_ _) | (with_reducible refine Kd.C_drew ?_))); (case s97_1 => have e_ := (Kd.R_reads' G.out.r); have := e_.1; have := e_.2.1; omega); rintro e w96_ ⟨rfl, hd⟩; have hb := Drawn0.below hd; clear hd; have hq : Below w91_.heap.size w91_ w96_ := below_step (Below.refl _ _) hb; replace S := Aside0.mk (XRoute.Ri.below S.out hq); replace G := Aside0.mk (XRoute.Ri.below G.out hq); replace KA := Aside0.mk (show w96_.heap[w.heap.size]? = some (.cells #[(.slice A0_0 l0_0.length c0_0), (.slice A0_1 l0_1.length c0_1)] 25 (0, 0)) from blk_below KA.out hq); replace HB := Aside0.mk (below_step HB.out hq); clear hq hb; clear hcz92_ hcz93_ hcz94_ hcz95_; have hcz98_ : w96_.cell? ⟨w.heap.size, 0, none⟩ = some ((.slice A0_0 l0_0.length c0_0)) := (blk_cell KA.out 0).trans rfl; have hcz99_ : ∀ o_, (w96_.alloc o_).cell? ⟨w.heap.size, 0, none⟩ = some ((.slice A0_0 l0_0.length c0_0)) := fun o_ => (blk_cell (blk_alloc KA.out o_) 0).trans rfl; have hcz100_ : w96_.cell? ⟨w.heap.size, 1, none⟩ = some ((.slice A0_1 l0_1.length c0_1)) := (blk_cell KA.out 1).trans rfl; have hcz101_ : ∀ o_, (w96_.alloc o_).cell? ⟨w.heap.size, 1, none⟩ = some ((.slice A0_1 l0_1.length c0_1)) := fun o_ => (blk_cell (blk_alloc KA.out o_) 1).trans rfl; clear tk tok8) | (go_at_call 16; (with_reducible refine (laws_toRoute.calls k _ _ l0_0 _ _ l0_1 x1 x2 _ ?s103_0 ?s103_1 ?s103_2 ?s103_3 B1.out).mono ?_); (case s103_0 => repeat (first | exact (Kd.C_below HR0_0.out HB.out) | (with_reducible refine Kd.C_alloc ?_ _) | (with_reducible refine Kd.C_drewN ?_ _) | (with_reducible refine Kd.C_drew ?_))); (case s103_1 => exact HC0_0.out); (case s103_2 => repeat (first | exact (Kd.C_below HR0_1.out HB.out) | (with_reducible refine Kd.C_alloc ?_ _) | (with_reducible refine Kd.C_drewN ?_ _) | (with_reducible refine Kd.C_drew ?_))); (case s103_3 => exact HC0_1.out); rintro e w102_ ⟨v1_, v2_, rfl, hs, hr, hb⟩; obtain ⟨AZ1, cZ1, rfl⟩ := Kd.S_slice hs; obtain ⟨AZ2, cZ2, rfl⟩ := Kd.R_slice hr; have Z := Aside0.mk (XRoute.Rt.made (n := w.heap.size) hs hr (below_size (HB.out))); clear hs hr; have hq : Below w96_.heap.size w96_ w102_ := below_step (Below.refl _ _) hb; replace S := Aside0.mk (XRoute.Ri.below S.out hq); replace G := Aside0.mk (XRoute.Ri.below G.out hq); replace KA := Aside0.mk (show w102_.heap[w.heap.size]? = some (.cells #[(.slice A0_0 l0_0.length c0_0), (.slice A0_1 l0_1.length c0_1)] 25 (0, 0)) from blk_below KA.out hq); replace HB := Aside0.mk (below_step HB.out hq); clear hq hb; clear hcz98_ hcz99_ hcz100_ hcz101_; have hcz104_ : w102_.cell? ⟨w.heap.size, 0, none⟩ = some ((.slice A0_0 l0_0.length c0_0)) := (blk_cell KA.out 0).trans rfl; have hcz105_ : ∀ o_, (w102_.alloc o_).cell? ⟨w.heap.size, 0, none⟩ = some ((.slice A0_0 l0_0.length c0_0)) := fun o_ => (blk_cell (blk_alloc KA.out o_) 0).trans rfl; have hcz106_ : w102_.cell? ⟨w.heap.size, 1, none⟩ = some ((.slice A0_1 l0_1.length c0_1)) := (blk_cell KA.out 1).trans rfl; have hcz107_ : ∀ o_, (w102_.alloc o_).cell? ⟨w.heap.size, 1, none⟩ = some ((.slice A0_1 l0_1.length c0_1)) := fun o_ => (blk_cell (blk_alloc KA.out o_) 1).trans rfl) | (go_at_call 41; (with_reducible refine (impl_VisitsOfWalk.calls k _ _ x1 _ _ x2 a1 a2 g1 g2 _ ?s109_0 ?s109_1 ?s109_2 ?s109_3 B3.out).mono ?_); (case s109_0 => repeat (first | exact (Kd.S_reads' Z.out.s).2.2 | (with_reducible refine Kd.C_alloc ?_ _) | (with_reducible refine Kd.C_drewN ?_ _) | (with_reducible refine Kd.C_drew ?_))); (case s109_1 => exact (Kd.S_reads' Z.out.s).2.1); (case s109_2 => repeat (first | exact (Kd.R_reads' Z.out.r).2.2 | (with_reducible refine Kd.C_alloc ?_ _) | (with_reducible refine Kd.C_drewN ?_ _) | (with_reducible refine Kd.C_drew ?_))); (case s109_3 => exact (Kd.R_reads' Z.out.r).2.1); rintro e w108_ ⟨v2_, rfl, hr, hb⟩; obtain ⟨AH1, cH1, rfl⟩ := Kd.R_slice hr; have H := Aside0.mk (XRoute.Ri.made (n := w.heap.size) hr (below_size (HB.out))); clear hr; have hq : Below w102_.heap.size w102_ w108_ := below_step (Below.refl _ _) hb; replace S := Aside0.mk (XRoute.Ri.below S.out hq); replace G := Aside0.mk (XRoute.Ri.below G.out hq); replace Z := Aside0.mk (XRoute.Rt.below Z.out hq); replace KA := Aside0.mk (show w108_.heap[w.heap.size]? = some (.cells #[(.slice A0_0 l0_0.length c0_0), (.slice A0_1 l0_1.length c0_1)] 25 (0, 0)) from blk_below KA.out hq); replace HB := Aside0.mk (below_step HB.out hq); clear hq hb; clear hcz104_ hcz105_ hcz106_ hcz107_; have hcz110_ : w108_.cell? ⟨w.heap.size, 0, none⟩ = some ((.slice A0_0 l0_0.length c0_0)) := (blk_cell KA.out 0).trans rfl; have hcz111_ : ∀ o_, (w108_.alloc o_).cell? ⟨w.heap.size, 0, none⟩ = some ((.slice A0_0 l0_0.length c0_0)) := fun o_ => (blk_cell (blk_alloc KA.out o_) 0).trans rfl; have hcz112_ : w108_.cell? ⟨w.heap.size, 1, none⟩ = some ((.slice A0_1 l0_1.length c0_1)) := (blk_cell KA.out 1).trans rfl; have hcz113_ : ∀ o_, (w108_.alloc o_).cell? ⟨w.heap.size, 1, none⟩ = some ((.slice A0_1 l0_1.length c0_1)) := fun o_ => (blk_cell (blk_alloc KA.out o_) 1).trans rfl; clear Z) | (have tk := tok9; go_at_call 35; (with_reducible refine (laws_eqIntS.calls k _ _ g1 _ _ s1 true _ ?s115_0 ?s115_1 ?s115_2 ?s115_3 B4.out).mono ?_); (case s115_0 => repeat (first | exact (Kd.R_reads' H.out.r).2.2 | (with_reducible refine Kd.C_alloc ?_ _) | (with_reducible refine Kd.C_drewN ?_ _) | (with_reducible refine Kd.C_drew ?_))); (case s115_1 => exact (Kd.R_reads' H.out.r).2.1); (case s115_2 => repeat (first | exact (Kd.R_reads' S.out.r).2.2 | (with_reducible refine Kd.C_alloc ?_ _) | (with_reducible refine Kd.C_drewN ?_ _) | (with_reducible refine Kd.C_drew ?_))); (case s115_3 => exact (Kd.R_reads' S.out.r).2.1); rintro e w114_ ⟨rfl, hd⟩; have hb := Drawn0.below hd; clear hd; have hq : Below w108_.heap.size w108_ w114_ := below_step (Below.refl _ _) hb; replace S := Aside0.mk (XRoute.Ri.below S.out hq); replace G := Aside0.mk (XRoute.Ri.below G.out hq); replace H := Aside0.mk (XRoute.Ri.below H.out hq); replace KA := Aside0.mk (show w114_.heap[w.heap.size]? = some (.cells #[(.slice A0_0 l0_0.length c0_0), (.slice A0_1 l0_1.length c0_1)] 25 (0, 0)) from blk_below KA.out hq); replace HB := Aside0.mk (below_step HB.out hq); clear hq hb; clear hcz110_ hcz111_ hcz112_ hcz113_; have hcz116_ : w114_.cell? ⟨w.heap.size, 0, none⟩ = some ((.slice A0_0 l0_0.length c0_0)) := (blk_cell KA.out 0).trans rfl; have hcz117_ : ∀ o_, (w114_.alloc o_).cell? ⟨w.heap.size, 0, none⟩ = some ((.slice A0_0 l0_0.length c0_0)) := fun o_ => (blk_cell (blk_alloc KA.out o_) 0).trans rfl; have hcz118_ : w114_.cell? ⟨w.heap.size, 1, none⟩ = some ((.slice A0_1 l0_1.length c0_1)) := (blk_cell KA.out 1).trans rfl; have hcz119_ : ∀ o_, (w114_.alloc o_).cell? ⟨w.heap.size, 1, none⟩ = some ((.slice A0_1 l0_1.length c0_1)) := fun o_ => (blk_cell (blk_alloc KA.out o_) 1).trans rfl; clear tk tok9) | (have tk := tok10; go_at_call 37; refine calls_of_args (args' := #[.slice AG1 m2.length cG1, .int .i64 1]) (by rw [show g1.length = m2.length from (Kd.R_reads' G.out.r).1]) ?_; (with_reducible refine (laws_heldIntS.calls k _ _ m2 1 q _ ?s121_0 ?s121_1 B8.out).mono ?_); (case s121_0 => repeat (first | exact (Kd.R_reads' G.out.r).2.2 | (with_reducible refine Kd.C_alloc ?_ _) | (with_reducible refine Kd.C_drewN ?_ _) | (with_reducible refine Kd.C_drew ?_))); (case s121_1 => have e_ := (Kd.R_reads' G.out.r); have := e_.1; have := e_.2.1; omega); rintro e w120_ ⟨rfl, hd⟩; have hb := Drawn0.below hd; clear hd; have hq : Below w114_.heap.size w114_ w120_ := below_step (Below.refl _ _) hb; replace S := Aside0.mk (XRoute.Ri.below S.out hq); replace G := Aside0.mk (XRoute.Ri.below G.out hq); replace H := Aside0.mk (XRoute.Ri.below H.out hq); replace KA := Aside0.mk (show w120_.heap[w.heap.size]? = some (.cells #[(.slice A0_0 l0_0.length c0_0), (.slice A0_1 l0_1.length c0_1)] 25 (0, 0)) from blk_below KA.out hq); replace HB := Aside0.mk (below_step HB.out hq); clear hq hb; clear hcz116_ hcz117_ hcz118_ hcz119_; have hcz122_ : w120_.cell? ⟨w.heap.size, 0, none⟩ = some ((.slice A0_0 l0_0.length c0_0)) := (blk_cell KA.out 0).trans rfl; have hcz123_ : ∀ o_, (w120_.alloc o_).cell? ⟨w.heap.size, 0, none⟩ = some ((.slice A0_0 l0_0.length c0_0)) := fun o_ => (blk_cell (blk_alloc KA.out o_) 0).trans rfl; have hcz124_ : w120_.cell? ⟨w.heap.size, 1, none⟩ = some ((.slice A0_1 l0_1.length c0_1)) := (blk_cell KA.out 1).trans rfl; have hcz125_ : ∀ o_, (w120_.alloc o_).cell? ⟨w.heap.size, 1, none⟩ = some ((.slice A0_1 l0_1.length c0_1)) := fun o_ => (blk_cell (blk_alloc KA.out o_) 1).trans rfl; clear tk tok10))
      go_ret
      exact ⟨by first | rfl | (simp; done), HB.out⟩
    · exact absurd ((if_neg hc).symm.trans h) (by simp)

end Go.Proofs.Ytecoeknjnhffbaa.PFnExactVisitsOfWalk
