-- Made by wip/tools/xkit.py (a program of this session's) with the kit's printer.
import Derived.Test.YtjhokefoocajpaaDoorPFnExactParseMazex0
import Derived.Test.YtjhokefoocajpaaDoorPFnExactParseMazex1
import Derived.Test.YtjhokefoocajpaaDoorPFnExactParseMazex2
namespace Go.Proofs.YtjhokefoocajpaaDoor.PFnExactParseMaze
open Go.RowKit Go.Proofs.YtjhokefoocajpaaDoorW.PrintWords Go.Proofs.YtjhokefoocajpaaDoorW.PrintLast Go.Proofs.YtjhokefoocajpaaDoorW.PrintMore
attribute [local go_sem] max2_int min2_int max_two min_two max_three min_three max_four min_four   -- for this text's walks alone
set_option linter.unusedVariables false
set_option linter.unusedSimpArgs false

/-! ### spec_miParse: function 20 -/
mutual
def spec_miParse.j0 : Nat → ByteArray → List ByteArray → Bool → Option (Int × Int × ByteArray × Bool × Bool)
  | 0, _, _, _ => none
  | k + 1, x0, x4, x17 => if x17 = true then (some (0, 0, (⟨#[]⟩ : ByteArray), false, false)) else (if 0 < (x4.length : Int) then ((spec_l1Split.f k (rdOf ByteArray.empty x4 0) 120).bind fun t126 => (if (t126.length : Int) = 2 then (if 0 < (t126.length : Int) then ((spec_l1Read.f k (rdOf ByteArray.empty t126 0)).bind fun t130 => (if 1 < (t126.length : Int) then ((spec_l1Read.f k (rdOf ByteArray.empty t126 1)).bind fun t132 => (if 1 < (x4.length : Int) then (if ((rdOf ByteArray.empty x4 1).size : Int) > 0 then (if 0 ≤ (wrap64 (((rdOf ByteArray.empty x4 1).size : Int) - 1)) then (if (wrap64 (((rdOf ByteArray.empty x4 1).size : Int) - 1)) < ((rdOf ByteArray.empty x4 1).size : Int) then (spec_miParse.j1 k x0 ((rdOf ByteArray.empty x4 1).size : Int) ((bt (rdOf ByteArray.empty x4 1) (wrap64 (((rdOf ByteArray.empty x4 1).size : Int) - 1))) == 33) t130 t132 (rdOf ByteArray.empty x4 1) false) else (none)) else (none)) else (spec_miParse.j1 k x0 ((rdOf ByteArray.empty x4 1).size : Int) false t130 t132 (rdOf ByteArray.empty x4 1) false)) else (none))) else (none))) else (none)) else (some (0, 0, (⟨#[]⟩ : ByteArray), false, false)))) else (none))
def spec_miParse.j1 : Nat → ByteArray → Int → Bool → Int → Int → ByteArray → Bool → Option (Int × Int × ByteArray × Bool × Bool)
  | 0, _, _, _, _, _, _, _ => none
  | k + 1, x0, x7, x51, x135000, x135001, x135002, x135003 => if x51 = true then (if 0 ≤ (wrap64 (x7 - 1)) then (if (wrap64 (x7 - 1)) ≤ (x135002.size : Int) then ((spec_miGood.f k x135000 x135001 (x135002.extract 0 ((wrap64 (x7 - 1)) : Int).toNat) true).bind fun t135 => (if t135 = true then ((spec_miText.f k x135000 x135001 (x135002.extract 0 ((wrap64 (x7 - 1)) : Int).toNat) true).bind fun t136 => (some (x135000, x135001, x135002.extract 0 ((wrap64 (x7 - 1)) : Int).toNat, true, (t136.toList == x0.toList)))) else (some (x135000, x135001, x135002.extract 0 ((wrap64 (x7 - 1)) : Int).toNat, true, false)))) else (none)) else (none)) else ((spec_miGood.f k x135000 x135001 x135002 x135003).bind fun t137 => (if t137 = true then ((spec_miText.f k x135000 x135001 x135002 x135003).bind fun t138 => (some (x135000, x135001, x135002, x135003, (t138.toList == x0.toList)))) else (some (x135000, x135001, x135002, x135003, false))))
end
def spec_miParse.f (k : Nat) (a0 : ByteArray) : Option (Int × Int × ByteArray × Bool × Bool) := (spec_l1Split.f k a0 58).bind fun t122 => (if (a0.size : Int) > 100 then (spec_miParse.j0 k a0 t122 true) else (spec_miParse.j0 k a0 t122 ((t122.length : Int) != 2)))
theorem spec_miParse.mono_l : ∀ k, (∀ y0 y1 y2, LeO (spec_miParse.j0 k y0 y1 y2) (spec_miParse.j0 (k + 1) y0 y1 y2)) ∧ (∀ y0 y1 y2 y3 y4 y5 y6, LeO (spec_miParse.j1 k y0 y1 y2 y3 y4 y5 y6) (spec_miParse.j1 (k + 1) y0 y1 y2 y3 y4 y5 y6))
  | 0 => ⟨fun _ _ _ r h => by simp [spec_miParse.j0] at h, fun _ _ _ _ _ _ _ r h => by simp [spec_miParse.j1] at h⟩
  | k + 1 => by
    obtain ⟨ih0, ih1⟩ := spec_miParse.mono_l k
    refine ⟨?_, ?_⟩
    · intro y0 y1 y2
      unfold spec_miParse.j0
      repeat' first
      | (with_reducible exact ih0 _ _ _)
      | (with_reducible exact ih1 _ _ _ _ _ _ _)
      | (with_reducible exact spec_l1Read.mono _ _)
      | (with_reducible exact spec_l1Split.mono _ _ _)
      | (with_reducible exact spec_miGood.mono _ _ _ _ _)
      | (with_reducible exact spec_miText.mono _ _ _ _ _)
      | (with_reducible exact LeO.refl _)
      | (with_reducible exact LeO.none _)
      | (with_reducible refine LeO.ite ?_ ?_)
      | (with_reducible refine LeO.bind ?_ (fun _ => ?_))
      | exact ih0 _ _ _
      | exact ih1 _ _ _ _ _ _ _
      | exact spec_l1Read.mono _ _
      | exact spec_l1Split.mono _ _ _
      | exact spec_miGood.mono _ _ _ _ _
      | exact spec_miText.mono _ _ _ _ _
      | exact LeO.none _
      | refine LeO.ite ?_ ?_
      | refine LeO.bind ?_ (fun _ => ?_)
    · intro y0 y1 y2 y3 y4 y5 y6
      unfold spec_miParse.j1
      repeat' first
      | (with_reducible exact ih0 _ _ _)
      | (with_reducible exact ih1 _ _ _ _ _ _ _)
      | (with_reducible exact spec_l1Read.mono _ _)
      | (with_reducible exact spec_l1Split.mono _ _ _)
      | (with_reducible exact spec_miGood.mono _ _ _ _ _)
      | (with_reducible exact spec_miText.mono _ _ _ _ _)
      | (with_reducible exact LeO.refl _)
      | (with_reducible exact LeO.none _)
      | (with_reducible refine LeO.ite ?_ ?_)
      | (with_reducible refine LeO.bind ?_ (fun _ => ?_))
      | exact ih0 _ _ _
      | exact ih1 _ _ _ _ _ _ _
      | exact spec_l1Read.mono _ _
      | exact spec_l1Split.mono _ _ _
      | exact spec_miGood.mono _ _ _ _ _
      | exact spec_miText.mono _ _ _ _ _
      | exact LeO.none _
      | refine LeO.ite ?_ ?_
      | refine LeO.bind ?_ (fun _ => ?_)
theorem spec_miParse.mono : ∀ a0 k, LeO (spec_miParse.f k a0) (spec_miParse.f (k + 1) a0) := by
  intro a0 k
  obtain ⟨ih0, ih1⟩ := spec_miParse.mono_l k
  unfold spec_miParse.f
  repeat' first
      | (with_reducible exact ih0 _ _ _)
      | (with_reducible exact ih1 _ _ _ _ _ _ _)
      | (with_reducible exact spec_l1Read.mono _ _)
      | (with_reducible exact spec_l1Split.mono _ _ _)
      | (with_reducible exact spec_miGood.mono _ _ _ _ _)
      | (with_reducible exact spec_miText.mono _ _ _ _ _)
      | (with_reducible exact LeO.refl _)
      | (with_reducible exact LeO.none _)
      | (with_reducible refine LeO.ite ?_ ?_)
      | (with_reducible refine LeO.bind ?_ (fun _ => ?_))
      | exact ih0 _ _ _
      | exact ih1 _ _ _ _ _ _ _
      | exact spec_l1Read.mono _ _
      | exact spec_l1Split.mono _ _ _
      | exact spec_miGood.mono _ _ _ _ _
      | exact spec_miText.mono _ _ _ _ _
      | exact LeO.none _
      | refine LeO.ite ?_ ?_
      | refine LeO.bind ?_ (fun _ => ?_)
def spec_miParse.T7 : Bool × List (List Nat × List Nat) := (true, [([], []), ([0], [0]), ([1], [1]), ([2], [2]), ([], []), ([4], [4]), ([5], [5]), ([6, 3], [6]), ([], []), ([8], [8]), ([9], [9]), ([3, 7, 10], [3, 7, 10]), ([], []), ([12, 11, 7, 0, 1, 2, 3, 4, 5, 6, 7, 8, 9, 10, 11, 12], [11, 12])])
def spec_miParse.B7 : List Nat := [0, 1, 3, 7, 0, 16, 48, 127, 0, 256, 768, 2047, 0, 8191]
theorem spec_miParse.tab7 : rtab .any (opsOf Tryd.f20 7) = spec_miParse.T7 := by kernel_rfl
theorem spec_miParse.bits7 : waitsOk spec_miParse.T7.2 spec_miParse.B7 = true := by kernel_rfl
def spec_miParse.T12 : Bool × List (List Nat × List Nat) := (true, [([], []), ([], []), ([1], [1]), ([2, 2], [2]), ([3], [3]), ([4, 3, 3], [3, 4]), ([3], [3]), ([5, 6, 3], [3, 5, 6]), ([3, 7], [3, 7]), ([0, 5, 0], [0]), ([8, 9, 0, 1, 2, 3, 4, 5, 6, 7, 8, 9], [8])])
def spec_miParse.B12 : List Nat := [0, 0, 2, 6, 14, 30, 14, 126, 254, 63, 1023]
theorem spec_miParse.tab12 : rtab .any (opsOf Tryd.f20 12) = spec_miParse.T12 := by kernel_rfl
theorem spec_miParse.bits12 : waitsOk spec_miParse.T12.2 spec_miParse.B12 = true := by kernel_rfl
set_option maxHeartbeats 8000000 in
set_option maxRecDepth 100000 in
theorem spec_miParse.calls (k : Nat) (a0 : ByteArray) (r1 : Int) (r2 : Int) (r3 : ByteArray) (r4 : Bool) (r5 : Bool) (w : World) (h : spec_miParse.f k a0 = some (r1, r2, r3, r4, r5)) :
    Calls Tryd.prog 20 #[.string a0] w fun e w' => e = .returned (.tuple #[.agg #[.int .i64 r1, .int .i64 r2, .string r3, .bool r4], .bool r5]) ∧ Below w.heap.size w w' := by
  have hu29 := Tryd.underlying29
  have HB := Aside0.mk (Below.refl w.heap.size w)
  have H : ((spec_l1Split.f k a0 58).bind fun t122 => (if (a0.size : Int) > 100 then (spec_miParse.j0 k a0 t122 true) else (spec_miParse.j0 k a0 t122 ((t122.length : Int) != 2)))) = some (r1, r2, r3, r4, r5) := h
  clear h
  replace H := Option.bind_eq_some_iff.mp H
  obtain ⟨t122, A20, H⟩ := H
  replace H : (if (a0.size : Int) > 100 then (spec_miParse.j0 k a0 t122 true) else (spec_miParse.j0 k a0 t122 ((t122.length : Int) != 2))) = some (r1, r2, r3, r4, r5) := H
  have A2 := Aside0.mk A20
  clear A20
  have HC3 := Aside0.mk H
  clear H
  go_enter Tryd.func20, Tryd.ntmps20
  go_upto_region 2 with (first | ((with_reducible refine gate_dst (N := 2) rfl ?_); (try (refine gate_guard (by rfl) ?_; dsimp only)); refine box_event ?hg (N := 2) ?hd (cs := #[.int .i64 0, .int .i64 0, .string (⟨#[]⟩ : ByteArray), .bool false]) (t := 29) ?hr ?_; (case hd => rfl); (case hg => rfl); (case hr => first | (go_simp; done) | (go_simp; rfl)); intro gb121 hg w4 hbox hb; have n0_ := Aside0.mk (below_step (XSq.bB HB) hb); have n1_ := Aside0.mk (hbox); have n2_ := Aside0.mk ((by rw [hg]; exact (below_size (XSq.bB HB)) : w.heap.size ≤ gb121)); have n3_ := Aside0.mk ((by rw [hg]; exact (below_size (XSq.bB HB)) : w.heap.size ≤ gb121)); clear HB; have HB := n0_; have BK121 := n1_; have GW121 := n2_; have GE121 := n3_; clear n0_ n1_ n2_ n3_; clear hb hbox hg) | ((with_reducible refine gate_callee (f := 34) rfl ?_); refine goesL_ (some 9) rfl rfl Tryd.func34 (by kernel_rfl) rfl #[.string a0, .int .u8 58] rfl (by (try simp only [List.map_toArray, List.map_cons, List.map_nil]); first | done | rfl | (simp only [List.length_drop, List.length_take]; rfl)) ?_; (with_reducible refine (spec_l1Split.calls k a0 58 t122 _ A2.out).mono ?_); rintro e w5 ⟨v123, rfl, ho0, hb⟩; refine ⟨_, rfl, ?_⟩; have n0_ := Aside0.mk (Kd.R_lower ho0 (below_size (XSq.bB HB))); have n1_ := Aside0.mk (blk_below (g := gb121) (o := .cells #[.int .i64 0, .int .i64 0, .string (⟨#[]⟩ : ByteArray), .bool false] 29 (0, 0)) (XSq.bq BK121) hb); have n2_ := Aside0.mk (below_step (XSq.bB HB) hb); clear BK121; clear HB; have HO124 := n0_; have BK121 := n1_; have HB := n2_; clear n0_ n1_ n2_; (try clear hb); (try clear hb2); (try clear hk); (try clear hi); (try clear ho0)))
  (try simp only [Act.put, List.setIfInBounds_toArray, List.set_cons_zero, List.set_cons_succ])
  go_cut [17] (fun v17 wc => ∃ (kq : Nat) (x17_2 : Bool), v17 = .bool x17_2 ∧ Aside0 (spec_miParse.j0 kq a0 t122 x17_2 = some (r1, r2, r3, r4, r5)) ∧ Aside0 (kq ≤ k) ∧ Aside0 (Kd.R Kd.string 9 wc w.heap.size (fun _ => True) v123 t122) ∧ Aside0 (wc.heap[gb121]? = some (.cells #[.int .i64 0, .int .i64 0, .string (⟨#[]⟩ : ByteArray), .bool false] 29 (0, 0))) ∧ Aside0 (Below w.heap.size w wc))
  case first =>
    have H := HC3.out
    clear HC3
    by_cases c6 : (a0.size : Int) > 100
    · rw [if_pos c6] at H
      have c6b0 : decide (100 < (a0.size : Int)) = true := decide_eq_true c6
      have c6b1 : decide (100 < a0.size) = true := decide_eq_true (by omega)
      clear c6
      (first | rw [c6b0] | (simp only [i64_w, i32_w]; rw [c6b0]) | skip)
      have H' := Aside0.mk H
      clear H
      go_wp2
      go_meet
      case rel => exact ⟨_, (true), (by first | rfl | (simp; done) | (simp [*]; done)), H', ⟨by first | omega | exact Nat.le_refl _⟩, ⟨by (with_reducible repeat (first | apply Kd.R_alloc | apply Kd.R_drewN | apply Kd.R_drew)); exact HO124.out⟩, ⟨by (with_reducible repeat (first | refine blk_drewN ?_ _ | refine blk_drew ?_ | refine blk_alloc ?_ _)); exact BK121.out⟩, ⟨by repeat (first | (with_reducible first | exact HB.out | apply below_alloc | apply pw_below_drewN | apply below_drew1 | refine below_set ?_ GE121.out) | exact HB.out)⟩⟩
    · rw [if_neg c6] at H
      have c6b0 : decide (100 < (a0.size : Int)) = false := decide_eq_false c6
      have c6b1 : decide (100 < a0.size) = false := decide_eq_false (by omega)
      clear c6
      (first | rw [c6b0] | (simp only [i64_w, i32_w]; rw [c6b0]) | skip)
      have H' := Aside0.mk H
      clear H
      obtain ⟨Ao7, co7, eo7⟩ := Kd.R_slice HO124.out
      subst eo7
      go_wp2
      go_meet
      case rel => exact ⟨_, (((t122.length : Int) != 2)), (by first | rfl | (simp; done) | (simp [*]; done)), H', ⟨by first | omega | exact Nat.le_refl _⟩, ⟨by (with_reducible repeat (first | apply Kd.R_alloc | apply Kd.R_drewN | apply Kd.R_drew)); exact HO124.out⟩, ⟨by (with_reducible repeat (first | refine blk_drewN ?_ _ | refine blk_drew ?_ | refine blk_alloc ?_ _)); exact BK121.out⟩, ⟨by repeat (first | (with_reducible first | exact HB.out | apply below_alloc | apply pw_below_drewN | apply below_drew1 | refine below_set ?_ GE121.out) | exact HB.out)⟩⟩
  case rest =>
    clear HC3
    try clear c2
    try clear p2
    try clear c3
    try clear c6
    try clear c6b0
    try clear c6b1
    obtain ⟨kq, x17_2, rfl, HA, HJ2, HO_4, BK121, HB⟩ := hcut
    cases kq with
    | zero => exact absurd HA.out (by simp [spec_miParse.j0])
    | succ kj2 =>
      have H := HA.out
      clear HA
      simp only [spec_miParse.j0] at H
      by_cases c8 : x17_2 = true
      · subst c8
        have H1 : (some (0, 0, (⟨#[]⟩ : ByteArray), false, false)) = some (r1, r2, r3, r4, r5) := by rw [if_pos rfl] at H; exact H
        clear H
        have H := H1
        clear H1
        simp only [Option.some.injEq, Prod.mk.injEq] at H
        obtain ⟨rfl, rfl, rfl, rfl, rfl⟩ := H
        have hcz9_0 : wc.cell? ⟨gb121, 0, none⟩ = some (.int .i64 0) := (blk_cell BK121.out 0).trans rfl
        have hcz9_1 : wc.cell? ⟨gb121, 1, none⟩ = some (.int .i64 0) := (blk_cell BK121.out 1).trans rfl
        have hcz9_2 : wc.cell? ⟨gb121, 2, none⟩ = some (.string (⟨#[]⟩ : ByteArray)) := (blk_cell BK121.out 2).trans rfl
        have hcz9_3 : wc.cell? ⟨gb121, 3, none⟩ = some (.bool false) := (blk_cell BK121.out 3).trans rfl
        have hfz9_0 := blk_frozen BK121.out 0
        have hfz9_1 := blk_frozen BK121.out 1
        have hfz9_2 := blk_frozen BK121.out 2
        have hfz9_3 := blk_frozen BK121.out 3
        go_wp2
        refine bodyPost_ret (results_ct rfl _ _ gb121 29 #[.int .i64 0, .int .i64 0, .string (⟨#[]⟩ : ByteArray), .bool false] (0, 0) _ rfl (by (with_reducible repeat (first | refine blk_drewN ?_ _ | refine blk_drew ?_ | refine blk_alloc ?_ _)); refine blk_put (cs := #[.int .i64 0, .int .i64 0, .string (⟨#[]⟩ : ByteArray), .bool false]) ?_ 3 _ rfl; (with_reducible repeat (first | refine blk_drewN ?_ _ | refine blk_drew ?_ | refine blk_alloc ?_ _)); refine blk_put (cs := #[.int .i64 0, .int .i64 0, .string (⟨#[]⟩ : ByteArray), .bool false]) ?_ 2 _ rfl; (with_reducible repeat (first | refine blk_drewN ?_ _ | refine blk_drew ?_ | refine blk_alloc ?_ _)); refine blk_put (cs := #[.int .i64 0, .int .i64 0, .string (⟨#[]⟩ : ByteArray), .bool false]) ?_ 1 _ rfl; (with_reducible repeat (first | refine blk_drewN ?_ _ | refine blk_drew ?_ | refine blk_alloc ?_ _)); refine blk_put (cs := #[.int .i64 0, .int .i64 0, .string (⟨#[]⟩ : ByteArray), .bool false]) ?_ 0 _ rfl; (with_reducible repeat (first | refine blk_drewN ?_ _ | refine blk_drew ?_ | refine blk_alloc ?_ _)); exact BK121.out) Tryd.underlying29 rfl (by kernel_rfl)) rfl ?_
        exact ⟨by first | rfl | (simp [errW_none, errW_some] <;> rfl) | (simp [*, errW_none, errW_some] <;> rfl), by repeat (first | (with_reducible first | exact HB.out | apply below_alloc | apply pw_below_drewN | apply below_drew1 | refine below_set ?_ GE121.out) | exact HB.out)⟩
      · replace c8 := Bool.eq_false_iff.mpr c8
        subst c8
        have H1 : (if 0 < (t122.length : Int) then ((spec_l1Split.f kj2 (rdOf ByteArray.empty t122 0) 120).bind fun t126 => (if (t126.length : Int) = 2 then (if 0 < (t126.length : Int) then ((spec_l1Read.f kj2 (rdOf ByteArray.empty t126 0)).bind fun t130 => (if 1 < (t126.length : Int) then ((spec_l1Read.f kj2 (rdOf ByteArray.empty t126 1)).bind fun t132 => (if 1 < (t122.length : Int) then (if ((rdOf ByteArray.empty t122 1).size : Int) > 0 then (if 0 ≤ (wrap64 (((rdOf ByteArray.empty t122 1).size : Int) - 1)) then (if (wrap64 (((rdOf ByteArray.empty t122 1).size : Int) - 1)) < ((rdOf ByteArray.empty t122 1).size : Int) then (spec_miParse.j1 kj2 a0 ((rdOf ByteArray.empty t122 1).size : Int) ((bt (rdOf ByteArray.empty t122 1) (wrap64 (((rdOf ByteArray.empty t122 1).size : Int) - 1))) == 33) t130 t132 (rdOf ByteArray.empty t122 1) false) else (none)) else (none)) else (spec_miParse.j1 kj2 a0 ((rdOf ByteArray.empty t122 1).size : Int) false t130 t132 (rdOf ByteArray.empty t122 1) false)) else (none))) else (none))) else (none)) else (some (0, 0, (⟨#[]⟩ : ByteArray), false, false)))) else (none)) = some (r1, r2, r3, r4, r5) := by rw [if_neg (show ¬ (false = true) by decide)] at H; exact H
        clear H
        have H := H1
        clear H1
        by_cases c10 : 0 < (t122.length : Int)
        · rw [if_pos c10] at H
          have c10b0 : decide (0 < (t122.length : Int)) = true := decide_eq_true c10
          have c10b1 : decide (0 < t122.length) = true := decide_eq_true (by omega)
          clear c10
          replace H := Option.bind_eq_some_iff.mp H
          obtain ⟨t126, A110, H⟩ := H
          replace H : (if (t126.length : Int) = 2 then (if 0 < (t126.length : Int) then ((spec_l1Read.f kj2 (rdOf ByteArray.empty t126 0)).bind fun t130 => (if 1 < (t126.length : Int) then ((spec_l1Read.f kj2 (rdOf ByteArray.empty t126 1)).bind fun t132 => (if 1 < (t122.length : Int) then (if ((rdOf ByteArray.empty t122 1).size : Int) > 0 then (if 0 ≤ (wrap64 (((rdOf ByteArray.empty t122 1).size : Int) - 1)) then (if (wrap64 (((rdOf ByteArray.empty t122 1).size : Int) - 1)) < ((rdOf ByteArray.empty t122 1).size : Int) then (spec_miParse.j1 kj2 a0 ((rdOf ByteArray.empty t122 1).size : Int) ((bt (rdOf ByteArray.empty t122 1) (wrap64 (((rdOf ByteArray.empty t122 1).size : Int) - 1))) == 33) t130 t132 (rdOf ByteArray.empty t122 1) false) else (none)) else (none)) else (spec_miParse.j1 kj2 a0 ((rdOf ByteArray.empty t122 1).size : Int) false t130 t132 (rdOf ByteArray.empty t122 1) false)) else (none))) else (none))) else (none)) else (some (0, 0, (⟨#[]⟩ : ByteArray), false, false))) = some (r1, r2, r3, r4, r5) := H
          have A11 := Aside0.mk A110
          clear A110
          by_cases c12 : (t126.length : Int) = 2
          · rw [if_pos c12] at H
            have c12b0 : ((t126.length : Int) == 2) = true := beq_iff_eq.mpr c12
            have c12b1 : ((t126.length : Int) != 2) = false := bne_eq_false_iff_eq.mpr c12
            clear c12
            by_cases c13 : 0 < (t126.length : Int)
            · rw [if_pos c13] at H
              have c13b0 : decide (0 < (t126.length : Int)) = true := decide_eq_true c13
              have c13b1 : decide (0 < t126.length) = true := decide_eq_true (by omega)
              clear c13
              replace H := Option.bind_eq_some_iff.mp H
              obtain ⟨t130, A140, H⟩ := H
              replace H : (if 1 < (t126.length : Int) then ((spec_l1Read.f kj2 (rdOf ByteArray.empty t126 1)).bind fun t132 => (if 1 < (t122.length : Int) then (if ((rdOf ByteArray.empty t122 1).size : Int) > 0 then (if 0 ≤ (wrap64 (((rdOf ByteArray.empty t122 1).size : Int) - 1)) then (if (wrap64 (((rdOf ByteArray.empty t122 1).size : Int) - 1)) < ((rdOf ByteArray.empty t122 1).size : Int) then (spec_miParse.j1 kj2 a0 ((rdOf ByteArray.empty t122 1).size : Int) ((bt (rdOf ByteArray.empty t122 1) (wrap64 (((rdOf ByteArray.empty t122 1).size : Int) - 1))) == 33) t130 t132 (rdOf ByteArray.empty t122 1) false) else (none)) else (none)) else (spec_miParse.j1 kj2 a0 ((rdOf ByteArray.empty t122 1).size : Int) false t130 t132 (rdOf ByteArray.empty t122 1) false)) else (none))) else (none)) = some (r1, r2, r3, r4, r5) := H
              have A14 := Aside0.mk A140
              clear A140
              by_cases c15 : 1 < (t126.length : Int)
              · rw [if_pos c15] at H
                have c15b0 : decide (1 < (t126.length : Int)) = true := decide_eq_true c15
                have c15b1 : decide (1 < t126.length) = true := decide_eq_true (by omega)
                clear c15
                replace H := Option.bind_eq_some_iff.mp H
                obtain ⟨t132, A160, H⟩ := H
                replace H : (if 1 < (t122.length : Int) then (if ((rdOf ByteArray.empty t122 1).size : Int) > 0 then (if 0 ≤ (wrap64 (((rdOf ByteArray.empty t122 1).size : Int) - 1)) then (if (wrap64 (((rdOf ByteArray.empty t122 1).size : Int) - 1)) < ((rdOf ByteArray.empty t122 1).size : Int) then (spec_miParse.j1 kj2 a0 ((rdOf ByteArray.empty t122 1).size : Int) ((bt (rdOf ByteArray.empty t122 1) (wrap64 (((rdOf ByteArray.empty t122 1).size : Int) - 1))) == 33) t130 t132 (rdOf ByteArray.empty t122 1) false) else (none)) else (none)) else (spec_miParse.j1 kj2 a0 ((rdOf ByteArray.empty t122 1).size : Int) false t130 t132 (rdOf ByteArray.empty t122 1) false)) else (none)) = some (r1, r2, r3, r4, r5) := H
                have A16 := Aside0.mk A160
                clear A160
                by_cases c17 : 1 < (t122.length : Int)
                · rw [if_pos c17] at H
                  have c17b0 : decide (1 < (t122.length : Int)) = true := decide_eq_true c17
                  have c17b1 : decide (1 < t122.length) = true := decide_eq_true (by omega)
                  clear c17
                  have HC18 := Aside0.mk H
                  clear H
                  obtain ⟨Ao19, co19, eo19⟩ := Kd.R_slice HO_4.out
                  subst eo19
                  have p125 : 0 ≤ (0 : Int) := (by omega)
                  have q125 : 0 < (t122.length : Int) := of_decide_eq_true (by first | (with_reducible assumption) | assumption)
                  obtain ⟨ad125, e125, hx125_0⟩ := Kd.at_string (Kd.R_reads' HO_4.out).2.2 0 p125 q125
                  cases e125
                  have qi125 : (0 < t122.length) = True := eq_true (by omega)
                  (try rw [show ((0 : Int)).toNat = 0 from rfl] at hx125_0)
                  (try rw [Addr.add_zero'] at hx125_0)
                  replace p125 := eq_true p125
                  replace q125 := eq_true q125
                  try go_wp2_with (first | ((with_reducible refine gate_callee (f := 34) rfl ?_); refine goesL_ (some 22) rfl rfl Tryd.func34 (by kernel_rfl) rfl #[.string (rdOf ByteArray.empty t122 0), .int .u8 120] rfl (by (try simp only [List.map_toArray, List.map_cons, List.map_nil]); first | done | rfl | (simp only [List.length_drop, List.length_take]; rfl)) ?_; (with_reducible refine (spec_l1Split.calls kj2 (rdOf ByteArray.empty t122 0) 120 t126 _ A11.out).mono ?_); rintro e w20 ⟨v127, rfl, ho0, hb⟩; refine ⟨_, rfl, ?_⟩; have n0_ := Aside0.mk (Kd.R_elder' (by (with_reducible repeat (first | apply Kd.R_alloc | apply Kd.R_drewN | apply Kd.R_drew)); exact HO_4.out) (Kd.R_base ho0) hb); have n1_ := Aside0.mk (Kd.R_lower (Kd.R_new' ho0 (Kd.R_lt (by (with_reducible repeat (first | apply Kd.R_alloc | apply Kd.R_drewN | apply Kd.R_drew)); exact HO_4.out))) (below_size (XSq.bB HB))); have n2_ := Aside0.mk (blk_below (g := gb121) (o := .cells #[.int .i64 0, .int .i64 0, .string (⟨#[]⟩ : ByteArray), .bool false] 29 (0, 0)) (XSq.bq BK121) hb); have n3_ := Aside0.mk (below_step (XSq.bB HB) hb); clear HO_4; clear BK121; clear HB; have HO_4 := n0_; have HO128 := n1_; have BK121 := n2_; have HB := n3_; clear n0_ n1_ n2_ n3_; (try clear hb); (try clear hb2); (try clear hk); (try clear hi); (try clear ho0); obtain ⟨Ao21, co21, eo21⟩ := Kd.R_slice HO128.out; subst eo21))
                  have n0_ := Aside0.mk (Kd.R_drew HO_4.out)
                  have n1_ := Aside0.mk (Kd.R_drew HO128.out)
                  have n2_ := Aside0.mk (blk_drew BK121.out)
                  have n3_ := Aside0.mk (below_drew1 HB.out)
                  clear HO_4
                  clear HO128
                  clear BK121
                  clear HB
                  have HO_4 := n0_
                  have HO128 := n1_
                  have BK121 := n2_
                  have HB := n3_
                  clear n0_ n1_ n2_ n3_
                  have p129 : 0 ≤ (0 : Int) := (by omega)
                  have q129 : 0 < (t126.length : Int) := of_decide_eq_true (by first | (with_reducible assumption) | assumption)
                  obtain ⟨ad129, e129, hx129_0⟩ := Kd.at_string (Kd.R_reads' HO128.out).2.2 0 p129 q129
                  cases e129
                  have qi129 : (0 < t126.length) = True := eq_true (by omega)
                  (try rw [show ((0 : Int)).toNat = 0 from rfl] at hx129_0)
                  (try rw [Addr.add_zero'] at hx129_0)
                  replace p129 := eq_true p129
                  replace q129 := eq_true q129
                  have p131 : 0 ≤ (1 : Int) := (by omega)
                  have q131 : 1 < (t126.length : Int) := of_decide_eq_true (by first | (with_reducible assumption) | assumption)
                  obtain ⟨ad131, e131, hx131_0⟩ := Kd.at_string (Kd.R_reads' HO128.out).2.2 1 p131 q131
                  obtain rfl : ad129 = ad131 := (by injection e131)
                  (try simp only [show (1 : Int).toNat = 1 from rfl, Nat.reduceMul, Nat.reduceEqDiff, Go.Addr.add, ↓reduceIte] at hx131_0)
                  have qi131 : (1 < t126.length) = True := eq_true (by omega)
                  (try rw [show ((1 : Int)).toNat = 1 from rfl] at hx131_0)
                  replace p131 := eq_true p131
                  replace q131 := eq_true q131
                  have p133 : 0 ≤ (1 : Int) := (by omega)
                  have q133 : 1 < (t122.length : Int) := of_decide_eq_true (by first | (with_reducible assumption) | assumption)
                  obtain ⟨ad133, e133, hx133_0⟩ := Kd.at_string (Kd.R_reads' HO_4.out).2.2 1 p133 q133
                  obtain rfl : ad125 = ad133 := (by injection e133)
                  (try simp only [show (1 : Int).toNat = 1 from rfl, Nat.reduceMul, Nat.reduceEqDiff, Go.Addr.add, ↓reduceIte] at hx133_0)
                  have qi133 : (1 < t122.length) = True := eq_true (by omega)
                  (try rw [show ((1 : Int)).toNat = 1 from rfl] at hx133_0)
                  replace p133 := eq_true p133
                  replace q133 := eq_true q133
                  refine start_ (n := 14) (S := fun w' => w'.cell? ad129 = some (.string (rdOf ByteArray.empty t126 0)) ∧ w'.cell? ⟨ad129.block, ad129.off + 1, none⟩ = some (.string (rdOf ByteArray.empty t126 1)) ∧ w'.cell? ⟨ad125.block, ad125.off + 1, none⟩ = some (.string (rdOf ByteArray.empty t122 1))) (ds := []) #[false, false, false, false, false, false, false, false, false, false, false, false, false, false] (by kernel_rfl) rfl rfl ⟨hx129_0, hx131_0, hx133_0⟩ (fun hHeld => ?_); refine with_tabW spec_miParse.tab7 spec_miParse.bits7 (fun HT_ HW_ => ?_)
                  generalize w20.drew = w22 at HO_4 HO128 BK121 HB hx129_0 hx131_0 hx133_0 hHeld ⊢
                  refine pure_ (i := 0) (N := some 27) (v := ?_) (a' := ?_) #[true, false, false, false, false, false, false, false, false, false, false, false, false, false] rfl rfl (any_of HT_.out (by kernel_rfl)) (fun _ _ _ h => h) (Or.inl ⟨by rfl, ?_⟩) ?_ ?_
                  rotate_left
                  · intro w'
                    go_simp
                    with_reducible rfl
                  rotate_left
                  · simp only [Act.put, List.setIfInBounds_toArray, List.set_cons_zero, List.set_cons_succ, i64_w, i32_w]
                    rfl
                  refine pure_ (i := 1) (N := some 28) (v := ?_) (a' := ?_) #[true, true, false, false, false, false, false, false, false, false, false, false, false, false] rfl rfl (any_of HT_.out (by kernel_rfl)) (fun _ _ _ h => h) (Or.inl ⟨by rfl, ?_⟩) ?_ ?_
                  rotate_left
                  · intro w'
                    go_simp
                    with_reducible rfl
                  rotate_left
                  · simp only [Act.put, List.setIfInBounds_toArray, List.set_cons_zero, List.set_cons_succ, i64_w, i32_w]
                    rfl
                  refine pure_ (i := 4) (N := some 31) (v := ?_) (a' := ?_) #[true, true, false, false, true, false, false, false, false, false, false, false, false, false] rfl rfl (any_of HT_.out (by kernel_rfl)) (fun _ _ _ h => h) (Or.inl ⟨by rfl, ?_⟩) ?_ ?_
                  rotate_left
                  · intro w'
                    go_simp
                    with_reducible rfl
                  rotate_left
                  · simp only [Act.put, List.setIfInBounds_toArray, List.set_cons_zero, List.set_cons_succ, i64_w, i32_w]
                    rfl
                  refine pure_ (i := 5) (N := some 32) (v := ?_) (a' := ?_) #[true, true, false, false, true, true, false, false, false, false, false, false, false, false] rfl rfl (any_of HT_.out (by kernel_rfl)) (fun _ _ _ h => h) (Or.inl ⟨by rfl, ?_⟩) ?_ ?_
                  rotate_left
                  · intro w'
                    go_simp
                    with_reducible rfl
                  rotate_left
                  · simp only [Act.put, List.setIfInBounds_toArray, List.set_cons_zero, List.set_cons_succ, i64_w, i32_w]
                    rfl
                  refine pure_ (i := 8) (N := some 35) (v := ?_) (a' := ?_) #[true, true, false, false, true, true, false, false, true, false, false, false, false, false] rfl rfl (any_of HT_.out (by kernel_rfl)) (fun _ _ _ h => h) (Or.inl ⟨by rfl, ?_⟩) ?_ ?_
                  rotate_left
                  · intro w'
                    go_simp
                    with_reducible rfl
                  rotate_left
                  · simp only [Act.put, List.setIfInBounds_toArray, List.set_cons_zero, List.set_cons_succ, i64_w, i32_w]
                    rfl
                  refine pure_ (i := 9) (N := some 36) (v := ?_) (a' := ?_) #[true, true, false, false, true, true, false, false, true, true, false, false, false, false] rfl rfl (any_of HT_.out (by kernel_rfl)) (fun _ _ _ h => h) (Or.inl ⟨by rfl, ?_⟩) ?_ ?_
                  rotate_left
                  · intro w'
                    go_simp
                    with_reducible rfl
                  rotate_left
                  · simp only [Act.put, List.setIfInBounds_toArray, List.set_cons_zero, List.set_cons_succ, i64_w, i32_w]
                    rfl
                  refine take_ (i := 2) (N := some 29) (v := ?_) (a' := ?_) #[true, true, true, false, true, true, false, false, true, true, false, false, false, false] rfl rfl (take_ofW HT_.out HW_.out (by kernel_rfl)) (fun _ _ _ h => h) (Or.inl ⟨by rfl, ?_⟩) hHeld ?_ ?_
                  rotate_left
                  · rintro w' ⟨s0, s1, s2⟩
                    go_simp
                    with_reducible rfl
                  rotate_left
                  · simp only [Act.put, List.setIfInBounds_toArray, List.set_cons_zero, List.set_cons_succ, i64_w, i32_w]
                    rfl
                  refine take_ (i := 6) (N := some 33) (v := ?_) (a' := ?_) #[true, true, true, false, true, true, true, false, true, true, false, false, false, false] rfl rfl (take_ofW HT_.out HW_.out (by kernel_rfl)) (fun _ _ _ h => h) (Or.inl ⟨by rfl, ?_⟩) hHeld ?_ ?_
                  rotate_left
                  · rintro w' ⟨s0, s1, s2⟩
                    go_simp
                    with_reducible rfl
                  rotate_left
                  · simp only [Act.put, List.setIfInBounds_toArray, List.set_cons_zero, List.set_cons_succ, i64_w, i32_w]
                    rfl
                  refine take_ (i := 10) (N := some 37) (v := ?_) (a' := ?_) #[true, true, true, false, true, true, true, false, true, true, true, false, false, false] rfl rfl (take_ofW HT_.out HW_.out (by kernel_rfl)) (fun _ _ _ h => h) (Or.inl ⟨by rfl, ?_⟩) hHeld ?_ ?_
                  rotate_left
                  · rintro w' ⟨s0, s1, s2⟩
                    go_simp
                    with_reducible rfl
                  rotate_left
                  · simp only [Act.put, List.setIfInBounds_toArray, List.set_cons_zero, List.set_cons_succ, i64_w, i32_w]
                    rfl
                  refine join_ (σ := Nat) 1 #[true, true, true, true, true, true, true, true, true, true, true, true, true, false] (fun s_ => [(30, .int .i64 t130), (34, .int .i64 t132), (6, .pointer (some ⟨s_, 0, none⟩)), (38, .agg #[.int .i64 t130, .int .i64 t132, .string (rdOf ByteArray.empty t122 1), .bool false])]) (fun s_ w' => (w'.cell? ad129 = some (.string (rdOf ByteArray.empty t126 0)) ∧ w'.cell? ⟨ad129.block, ad129.off + 1, none⟩ = some (.string (rdOf ByteArray.empty t126 1)) ∧ w'.cell? ⟨ad125.block, ad125.off + 1, none⟩ = some (.string (rdOf ByteArray.empty t122 1))) ∧ (Kd.R Kd.string 9 w' w.heap.size (fun k_ => some k_ ≠ (.slice (some ad125) t122.length co19 : Value).ownBlock) (.slice (some ad129) t126.length co21) t126) ∧ (Kd.R Kd.string 9 w' w.heap.size (fun k_ => some k_ ≠ (.slice (some ad129) t126.length co21 : Value).ownBlock) (.slice (some ad125) t122.length co19) t122) ∧ (w'.heap[gb121]? = some (.cells #[.int .i64 0, .int .i64 0, .string (⟨#[]⟩ : ByteArray), .bool false] 29 (0, 0))) ∧ (w'.heap[s_]? = some (.cells #[.int .i64 0, .int .i64 0, .string (⟨#[]⟩ : ByteArray), .bool false] 29 (0, 0))) ∧ (w.heap.size ≤ s_) ∧ (w.heap.size ≤ s_) ∧ (gb121 ≠ s_) ∧ (s_ ≠ gb121) ∧ (Below w.heap.size w w')) ?_ ?_
                  rotate_left
                  · intro hCont
                    refine two_ (i := 3) (j := 12) (Ni := some 30) (Nj := some 6) #[true, true, true, true, true, true, true, false, true, true, true, false, false, false] #[true, true, true, false, true, true, true, false, true, true, true, false, true, false] rfl rfl rfl rfl (two_of HT_.out (by kernel_rfl)) (by decide) (by decide) (fun K hK => ?_) (fun K hK => ?_)
                    · skip
                      refine goes_ Tryd.func35 (by kernel_rfl) rfl #[.string (rdOf ByteArray.empty t126 0)] (by rfl) rfl rfl (by (try simp only [List.map_toArray, List.map_cons, List.map_nil]); first | done | rfl | (simp only [List.length_drop, List.length_take]; rfl)) ?_
                      with_reducible refine (spec_l1Read.calls kj2 (rdOf ByteArray.empty t126 0) t130 _ A14.out).mono ?_
                      rintro e w' ⟨rfl, ⟨nd, rfl⟩⟩
                      refine ⟨_, rfl, ?_⟩
                      refine hK.out _ _ ⟨hHeld.1, hHeld.2.1, hHeld.2.2⟩ (fun hHeld => ?_)
                      clear hK K
                      refine norm_ (a' := ?_) ?_ ?_
                      rotate_left
                      · show Act.put _ (some 30) _ = _
                        simp only [Act.put, List.setIfInBounds_toArray, List.set_cons_zero, List.set_cons_succ, i64_w, i32_w]
                        rfl
                      refine two_ (i := 7) (j := 12) (Ni := some 34) (Nj := some 6) #[true, true, true, true, true, true, true, true, true, true, true, false, false, false] #[true, true, true, true, true, true, true, false, true, true, true, false, true, false] rfl rfl rfl rfl (two_of HT_.out (by kernel_rfl)) (by decide) (by decide) (fun K hK => ?_) (fun K hK => ?_)
                      · skip
                        refine goes_ Tryd.func35 (by kernel_rfl) rfl #[.string (rdOf ByteArray.empty t126 1)] (by rfl) rfl rfl (by (try simp only [List.map_toArray, List.map_cons, List.map_nil]); first | done | rfl | (simp only [List.length_drop, List.length_take]; rfl)) ?_
                        with_reducible refine (spec_l1Read.calls kj2 (rdOf ByteArray.empty t126 1) t132 _ A16.out).mono ?_
                        rintro e w' ⟨rfl, ⟨nd, rfl⟩⟩
                        refine ⟨_, rfl, ?_⟩
                        refine hK.out _ _ ⟨hHeld.1, hHeld.2.1, hHeld.2.2⟩ (fun hHeld => ?_)
                        clear hK K
                        refine norm_ (a' := ?_) ?_ ?_
                        rotate_left
                        · show Act.put _ (some 34) _ = _
                          simp only [Act.put, List.setIfInBounds_toArray, List.set_cons_zero, List.set_cons_succ, i64_w, i32_w]
                          rfl
                        refine pure_ (i := 11) (N := some 38) (v := ?_) (a' := ?_) #[true, true, true, true, true, true, true, true, true, true, true, true, false, false] rfl rfl (any_of HT_.out (by kernel_rfl)) (fun _ _ _ h => h) (Or.inl ⟨by rfl, ?_⟩) ?_ ?_
                        rotate_left
                        · intro w'
                          go_simp
                          with_reducible rfl
                        rotate_left
                        · simp only [Act.put, List.setIfInBounds_toArray, List.set_cons_zero, List.set_cons_succ, i64_w, i32_w]
                          rfl
                        refine one_ (i := 12) (N := some 6) #[true, true, true, true, true, true, true, true, true, true, true, true, true, false] rfl rfl (one_of HT_.out (by kernel_rfl)) (by decide) (fun K hK => ?_)
                        refine box_step ?hg (N := 6) ?hd (cs := #[.int .i64 0, .int .i64 0, .string (⟨#[]⟩ : ByteArray), .bool false]) (t := 29) ?hr ?_; (case hd => rfl); (case hg => rfl); (case hr => first | (go_simp; done) | (go_simp; rfl))
                        intro gb134 hg w23 hbox hb
                        have HS0_ := (hb.cell (World.block_lt_of_cell? _ _ (hHeld.1))).trans (hHeld.1)
                        have HS1_ := (hb.cell (World.block_lt_of_cell? _ _ (hHeld.2.1))).trans (hHeld.2.1)
                        have HS2_ := (hb.cell (World.block_lt_of_cell? _ _ (hHeld.2.2))).trans (hHeld.2.2)
                        have n0_ := Aside0.mk (Kd.R_below (by (with_reducible repeat (first | apply Kd.R_alloc | apply Kd.R_drewN | apply Kd.R_drew)); exact HO_4.out) hb)
                        have n1_ := Aside0.mk (Kd.R_below (by (with_reducible repeat (first | apply Kd.R_alloc | apply Kd.R_drewN | apply Kd.R_drew)); exact HO128.out) hb)
                        have n2_ := Aside0.mk (blk_below (g := gb121) (o := .cells #[.int .i64 0, .int .i64 0, .string (⟨#[]⟩ : ByteArray), .bool false] 29 (0, 0)) (XSq.bq BK121) hb)
                        have n3_ := Aside0.mk (below_step (XSq.bB HB) hb)
                        have n4_ := Aside0.mk (hbox)
                        have n5_ := Aside0.mk ((by rw [hg]; exact (below_size (XSq.bB HB)) : w.heap.size ≤ gb134))
                        have n6_ := Aside0.mk ((by rw [hg]; exact (below_size (XSq.bB HB)) : w.heap.size ≤ gb134))
                        have n7_ := Aside0.mk ((by rw [hg]; exact Nat.ne_of_lt (blk_lt (g := gb121) (o := .cells #[.int .i64 0, .int .i64 0, .string (⟨#[]⟩ : ByteArray), .bool false] 29 (0, 0)) (XSq.bq BK121)) : gb121 ≠ gb134))
                        have n8_ := Aside0.mk ((by rw [hg]; exact Nat.ne_of_gt (blk_lt (g := gb121) (o := .cells #[.int .i64 0, .int .i64 0, .string (⟨#[]⟩ : ByteArray), .bool false] 29 (0, 0)) (XSq.bq BK121)) : gb134 ≠ gb121))
                        clear HO_4
                        clear HO128
                        clear BK121
                        clear HB
                        have HO_4 := n0_
                        have HO128 := n1_
                        have BK121 := n2_
                        have HB := n3_
                        have BK134 := n4_
                        have GW134 := n5_
                        have GE134 := n6_
                        have NB121_134 := n7_
                        have NB134_121 := n8_
                        clear n0_ n1_ n2_ n3_ n4_ n5_ n6_ n7_ n8_
                        clear hb hbox hg
                        refine hK.out _ _ ⟨HS0_, HS1_, HS2_⟩ (fun hHeld => ?_)
                        clear hK K
                        refine norm_ (a' := ?_) ?_ ?_
                        rotate_left
                        · show Act.put _ (some 6) _ = _
                          simp only [Act.put, List.setIfInBounds_toArray, List.set_cons_zero, List.set_cons_succ, i64_w, i32_w]
                          rfl
                        exact norm_ (by simp only [putAll, Act.put, List.setIfInBounds_toArray, List.set_cons_zero, List.set_cons_succ]) (hCont (gb134) _ ⟨hHeld, (by (with_reducible repeat (first | apply Kd.R_alloc | apply Kd.R_drewN | apply Kd.R_drew)); exact Kd.R_mono HO128.out (fun _ hk => hk.2)), (by (with_reducible repeat (first | apply Kd.R_alloc | apply Kd.R_drewN | apply Kd.R_drew)); exact Kd.R_mono HO_4.out (fun _ hk => hk.2)), (XSq.bq BK121), (XSq.bq BK134), GW134.out, GE134.out, NB121_134.out, NB134_121.out, (XSq.bB HB)⟩)
                      · skip
                        refine box_step ?hg (N := 6) ?hd (cs := #[.int .i64 0, .int .i64 0, .string (⟨#[]⟩ : ByteArray), .bool false]) (t := 29) ?hr ?_; (case hd => rfl); (case hg => rfl); (case hr => first | (go_simp; done) | (go_simp; rfl))
                        intro gb134 hg w23 hbox hb
                        have HS0_ := (hb.cell (World.block_lt_of_cell? _ _ (hHeld.1))).trans (hHeld.1)
                        have HS1_ := (hb.cell (World.block_lt_of_cell? _ _ (hHeld.2.1))).trans (hHeld.2.1)
                        have HS2_ := (hb.cell (World.block_lt_of_cell? _ _ (hHeld.2.2))).trans (hHeld.2.2)
                        have n0_ := Aside0.mk (Kd.R_below (by (with_reducible repeat (first | apply Kd.R_alloc | apply Kd.R_drewN | apply Kd.R_drew)); exact HO_4.out) hb)
                        have n1_ := Aside0.mk (Kd.R_below (by (with_reducible repeat (first | apply Kd.R_alloc | apply Kd.R_drewN | apply Kd.R_drew)); exact HO128.out) hb)
                        have n2_ := Aside0.mk (blk_below (g := gb121) (o := .cells #[.int .i64 0, .int .i64 0, .string (⟨#[]⟩ : ByteArray), .bool false] 29 (0, 0)) (XSq.bq BK121) hb)
                        have n3_ := Aside0.mk (below_step (XSq.bB HB) hb)
                        have n4_ := Aside0.mk (hbox)
                        have n5_ := Aside0.mk ((by rw [hg]; exact (below_size (XSq.bB HB)) : w.heap.size ≤ gb134))
                        have n6_ := Aside0.mk ((by rw [hg]; exact (below_size (XSq.bB HB)) : w.heap.size ≤ gb134))
                        have n7_ := Aside0.mk ((by rw [hg]; exact Nat.ne_of_lt (blk_lt (g := gb121) (o := .cells #[.int .i64 0, .int .i64 0, .string (⟨#[]⟩ : ByteArray), .bool false] 29 (0, 0)) (XSq.bq BK121)) : gb121 ≠ gb134))
                        have n8_ := Aside0.mk ((by rw [hg]; exact Nat.ne_of_gt (blk_lt (g := gb121) (o := .cells #[.int .i64 0, .int .i64 0, .string (⟨#[]⟩ : ByteArray), .bool false] 29 (0, 0)) (XSq.bq BK121)) : gb134 ≠ gb121))
                        clear HO_4
                        clear HO128
                        clear BK121
                        clear HB
                        have HO_4 := n0_
                        have HO128 := n1_
                        have BK121 := n2_
                        have HB := n3_
                        have BK134 := n4_
                        have GW134 := n5_
                        have GE134 := n6_
                        have NB121_134 := n7_
                        have NB134_121 := n8_
                        clear n0_ n1_ n2_ n3_ n4_ n5_ n6_ n7_ n8_
                        clear hb hbox hg
                        refine hK.out _ _ ⟨HS0_, HS1_, HS2_⟩ (fun hHeld => ?_)
                        clear hK K
                        refine norm_ (a' := ?_) ?_ ?_
                        rotate_left
                        · show Act.put _ (some 6) _ = _
                          simp only [Act.put, List.setIfInBounds_toArray, List.set_cons_zero, List.set_cons_succ, i64_w, i32_w]
                          rfl
                        refine one_ (i := 7) (N := some 34) #[true, true, true, true, true, true, true, true, true, true, true, false, true, false] rfl rfl (one_of HT_.out (by kernel_rfl)) (by decide) (fun K hK => ?_)
                        refine goes_ Tryd.func35 (by kernel_rfl) rfl #[.string (rdOf ByteArray.empty t126 1)] (by rfl) rfl rfl (by (try simp only [List.map_toArray, List.map_cons, List.map_nil]); first | done | rfl | (simp only [List.length_drop, List.length_take]; rfl)) ?_
                        with_reducible refine (spec_l1Read.calls kj2 (rdOf ByteArray.empty t126 1) t132 _ A16.out).mono ?_
                        rintro e w' ⟨rfl, ⟨nd, rfl⟩⟩
                        refine ⟨_, rfl, ?_⟩
                        refine hK.out _ _ ⟨hHeld.1, hHeld.2.1, hHeld.2.2⟩ (fun hHeld => ?_)
                        clear hK K
                        refine norm_ (a' := ?_) ?_ ?_
                        rotate_left
                        · show Act.put _ (some 34) _ = _
                          simp only [Act.put, List.setIfInBounds_toArray, List.set_cons_zero, List.set_cons_succ, i64_w, i32_w]
                          rfl
                        refine pure_ (i := 11) (N := some 38) (v := ?_) (a' := ?_) #[true, true, true, true, true, true, true, true, true, true, true, true, true, false] rfl rfl (any_of HT_.out (by kernel_rfl)) (fun _ _ _ h => h) (Or.inl ⟨by rfl, ?_⟩) ?_ ?_
                        rotate_left
                        · intro w'
                          go_simp
                          with_reducible rfl
                        rotate_left
                        · simp only [Act.put, List.setIfInBounds_toArray, List.set_cons_zero, List.set_cons_succ, i64_w, i32_w]
                          rfl
                        exact norm_ (by simp only [putAll, Act.put, List.setIfInBounds_toArray, List.set_cons_zero, List.set_cons_succ]) (hCont (gb134) _ ⟨hHeld, (by (with_reducible repeat (first | apply Kd.R_alloc | apply Kd.R_drewN | apply Kd.R_drew)); exact Kd.R_mono HO128.out (fun _ hk => hk.2)), (by (with_reducible repeat (first | apply Kd.R_alloc | apply Kd.R_drewN | apply Kd.R_drew)); exact Kd.R_mono HO_4.out (fun _ hk => hk.2)), (XSq.bq BK121), (XSq.bq BK134), GW134.out, GE134.out, NB121_134.out, NB134_121.out, (XSq.bB HB)⟩)
                    · skip
                      refine box_step ?hg (N := 6) ?hd (cs := #[.int .i64 0, .int .i64 0, .string (⟨#[]⟩ : ByteArray), .bool false]) (t := 29) ?hr ?_; (case hd => rfl); (case hg => rfl); (case hr => first | (go_simp; done) | (go_simp; rfl))
                      intro gb134 hg w23 hbox hb
                      have HS0_ := (hb.cell (World.block_lt_of_cell? _ _ (hHeld.1))).trans (hHeld.1)
                      have HS1_ := (hb.cell (World.block_lt_of_cell? _ _ (hHeld.2.1))).trans (hHeld.2.1)
                      have HS2_ := (hb.cell (World.block_lt_of_cell? _ _ (hHeld.2.2))).trans (hHeld.2.2)
                      have n0_ := Aside0.mk (Kd.R_below (by (with_reducible repeat (first | apply Kd.R_alloc | apply Kd.R_drewN | apply Kd.R_drew)); exact HO_4.out) hb)
                      have n1_ := Aside0.mk (Kd.R_below (by (with_reducible repeat (first | apply Kd.R_alloc | apply Kd.R_drewN | apply Kd.R_drew)); exact HO128.out) hb)
                      have n2_ := Aside0.mk (blk_below (g := gb121) (o := .cells #[.int .i64 0, .int .i64 0, .string (⟨#[]⟩ : ByteArray), .bool false] 29 (0, 0)) (XSq.bq BK121) hb)
                      have n3_ := Aside0.mk (below_step (XSq.bB HB) hb)
                      have n4_ := Aside0.mk (hbox)
                      have n5_ := Aside0.mk ((by rw [hg]; exact (below_size (XSq.bB HB)) : w.heap.size ≤ gb134))
                      have n6_ := Aside0.mk ((by rw [hg]; exact (below_size (XSq.bB HB)) : w.heap.size ≤ gb134))
                      have n7_ := Aside0.mk ((by rw [hg]; exact Nat.ne_of_lt (blk_lt (g := gb121) (o := .cells #[.int .i64 0, .int .i64 0, .string (⟨#[]⟩ : ByteArray), .bool false] 29 (0, 0)) (XSq.bq BK121)) : gb121 ≠ gb134))
                      have n8_ := Aside0.mk ((by rw [hg]; exact Nat.ne_of_gt (blk_lt (g := gb121) (o := .cells #[.int .i64 0, .int .i64 0, .string (⟨#[]⟩ : ByteArray), .bool false] 29 (0, 0)) (XSq.bq BK121)) : gb134 ≠ gb121))
                      clear HO_4
                      clear HO128
                      clear BK121
                      clear HB
                      have HO_4 := n0_
                      have HO128 := n1_
                      have BK121 := n2_
                      have HB := n3_
                      have BK134 := n4_
                      have GW134 := n5_
                      have GE134 := n6_
                      have NB121_134 := n7_
                      have NB134_121 := n8_
                      clear n0_ n1_ n2_ n3_ n4_ n5_ n6_ n7_ n8_
                      clear hb hbox hg
                      refine hK.out _ _ ⟨HS0_, HS1_, HS2_⟩ (fun hHeld => ?_)
                      clear hK K
                      refine norm_ (a' := ?_) ?_ ?_
                      rotate_left
                      · show Act.put _ (some 6) _ = _
                        simp only [Act.put, List.setIfInBounds_toArray, List.set_cons_zero, List.set_cons_succ, i64_w, i32_w]
                        rfl
                      refine one_ (i := 3) (N := some 30) #[true, true, true, true, true, true, true, false, true, true, true, false, true, false] rfl rfl (one_of HT_.out (by kernel_rfl)) (by decide) (fun K hK => ?_)
                      refine goes_ Tryd.func35 (by kernel_rfl) rfl #[.string (rdOf ByteArray.empty t126 0)] (by rfl) rfl rfl (by (try simp only [List.map_toArray, List.map_cons, List.map_nil]); first | done | rfl | (simp only [List.length_drop, List.length_take]; rfl)) ?_
                      with_reducible refine (spec_l1Read.calls kj2 (rdOf ByteArray.empty t126 0) t130 _ A14.out).mono ?_
                      rintro e w' ⟨rfl, ⟨nd, rfl⟩⟩
                      refine ⟨_, rfl, ?_⟩
                      refine hK.out _ _ ⟨hHeld.1, hHeld.2.1, hHeld.2.2⟩ (fun hHeld => ?_)
                      clear hK K
                      refine norm_ (a' := ?_) ?_ ?_
                      rotate_left
                      · show Act.put _ (some 30) _ = _
                        simp only [Act.put, List.setIfInBounds_toArray, List.set_cons_zero, List.set_cons_succ, i64_w, i32_w]
                        rfl
                      refine one_ (i := 7) (N := some 34) #[true, true, true, true, true, true, true, true, true, true, true, false, true, false] rfl rfl (one_of HT_.out (by kernel_rfl)) (by decide) (fun K hK => ?_)
                      refine goes_ Tryd.func35 (by kernel_rfl) rfl #[.string (rdOf ByteArray.empty t126 1)] (by rfl) rfl rfl (by (try simp only [List.map_toArray, List.map_cons, List.map_nil]); first | done | rfl | (simp only [List.length_drop, List.length_take]; rfl)) ?_
                      with_reducible refine (spec_l1Read.calls kj2 (rdOf ByteArray.empty t126 1) t132 _ A16.out).mono ?_
                      rintro e w' ⟨rfl, ⟨nd, rfl⟩⟩
                      refine ⟨_, rfl, ?_⟩
                      refine hK.out _ _ ⟨hHeld.1, hHeld.2.1, hHeld.2.2⟩ (fun hHeld => ?_)
                      clear hK K
                      refine norm_ (a' := ?_) ?_ ?_
                      rotate_left
                      · show Act.put _ (some 34) _ = _
                        simp only [Act.put, List.setIfInBounds_toArray, List.set_cons_zero, List.set_cons_succ, i64_w, i32_w]
                        rfl
                      refine pure_ (i := 11) (N := some 38) (v := ?_) (a' := ?_) #[true, true, true, true, true, true, true, true, true, true, true, true, true, false] rfl rfl (any_of HT_.out (by kernel_rfl)) (fun _ _ _ h => h) (Or.inl ⟨by rfl, ?_⟩) ?_ ?_
                      rotate_left
                      · intro w'
                        go_simp
                        with_reducible rfl
                      rotate_left
                      · simp only [Act.put, List.setIfInBounds_toArray, List.set_cons_zero, List.set_cons_succ, i64_w, i32_w]
                        rfl
                      exact norm_ (by simp only [putAll, Act.put, List.setIfInBounds_toArray, List.set_cons_zero, List.set_cons_succ]) (hCont (gb134) _ ⟨hHeld, (by (with_reducible repeat (first | apply Kd.R_alloc | apply Kd.R_drewN | apply Kd.R_drew)); exact Kd.R_mono HO128.out (fun _ hk => hk.2)), (by (with_reducible repeat (first | apply Kd.R_alloc | apply Kd.R_drewN | apply Kd.R_drew)); exact Kd.R_mono HO_4.out (fun _ hk => hk.2)), (XSq.bq BK121), (XSq.bq BK134), GW134.out, GE134.out, NB121_134.out, NB134_121.out, (XSq.bB HB)⟩)
                  rintro gb134 w24 ⟨hS_, h0_, h1_, h2_, h3_, h4_, h5_, h6_, h7_, h8_⟩
                  have n0_ : Aside0 (Kd.R Kd.string 9 w24 w.heap.size (fun k_ => some k_ ≠ (.slice (some ad125) t122.length co19 : Value).ownBlock) (.slice (some ad129) t126.length co21) t126) := ⟨h0_⟩
                  have n1_ : Aside0 (Kd.R Kd.string 9 w24 w.heap.size (fun k_ => some k_ ≠ (.slice (some ad129) t126.length co21 : Value).ownBlock) (.slice (some ad125) t122.length co19) t122) := ⟨h1_⟩
                  have n2_ : Aside0 (w24.heap[gb121]? = some (.cells #[.int .i64 0, .int .i64 0, .string (⟨#[]⟩ : ByteArray), .bool false] 29 (0, 0))) := ⟨h2_⟩
                  have n3_ : Aside0 (w24.heap[gb134]? = some (.cells #[.int .i64 0, .int .i64 0, .string (⟨#[]⟩ : ByteArray), .bool false] 29 (0, 0))) := ⟨h3_⟩
                  have n4_ : Aside0 (w.heap.size ≤ gb134) := ⟨h4_⟩
                  have n5_ : Aside0 (w.heap.size ≤ gb134) := ⟨h5_⟩
                  have n6_ : Aside0 (gb121 ≠ gb134) := ⟨h6_⟩
                  have n7_ : Aside0 (gb134 ≠ gb121) := ⟨h7_⟩
                  have n8_ : Aside0 (Below w.heap.size w w24) := ⟨h8_⟩
                  clear HO_4
                  clear HO128
                  clear BK121
                  clear HB
                  clear h0_ h1_ h2_ h3_ h4_ h5_ h6_ h7_ h8_
                  have HO128 := n0_
                  have HO_4 := n1_
                  have BK121 := n2_
                  have BK134 := n3_
                  have GW134 := n4_
                  have GE134 := n5_
                  have NB121_134 := n6_
                  have NB134_121 := n7_
                  have HB := n8_
                  clear n0_ n1_ n2_ n3_ n4_ n5_ n6_ n7_ n8_
                  have hHeld : w24.cell? ad129 = some (.string (rdOf ByteArray.empty t126 0)) ∧ w24.cell? ⟨ad129.block, ad129.off + 1, none⟩ = some (.string (rdOf ByteArray.empty t126 1)) ∧ w24.cell? ⟨ad125.block, ad125.off + 1, none⟩ = some (.string (rdOf ByteArray.empty t122 1)) := hS_
                  refine norm_ (a' := ?_) ?_ ?_
                  rotate_left
                  · simp only [putAll, Act.put, List.setIfInBounds_toArray, List.set_cons_zero, List.set_cons_succ]
                    rfl
                  refine one_ (i := 13) (N := none) #[true, true, true, true, true, true, true, true, true, true, true, true, true, true] rfl rfl (one_of HT_.out (by kernel_rfl)) (by decide) (fun K hK => ?_)
                  have hs25 : w24.cell? ⟨gb134, 0, none⟩ = some (.int .i64 0) := (blk_cell BK134.out 0).trans rfl
                  have hfs25 := blk_frozen BK134.out 0
                  have hns25_0 := NB121_134.out
                  have hms25_0 := NB134_121.out
                  have hs26 : w24.cell? ⟨gb134, 1, none⟩ = some (.int .i64 0) := (blk_cell BK134.out 1).trans rfl
                  have hfs26 := blk_frozen BK134.out 1
                  have hns26_0 := NB121_134.out
                  have hms26_0 := NB134_121.out
                  have hs27 : w24.cell? ⟨gb134, 2, none⟩ = some (.string (⟨#[]⟩ : ByteArray)) := (blk_cell BK134.out 2).trans rfl
                  have hfs27 := blk_frozen BK134.out 2
                  have hns27_0 := NB121_134.out
                  have hms27_0 := NB134_121.out
                  have hs28 : w24.cell? ⟨gb134, 3, none⟩ = some (.bool false) := (blk_cell BK134.out 3).trans rfl
                  have hfs28 := blk_frozen BK134.out 3
                  have hns28_0 := NB121_134.out
                  have hms28_0 := NB134_121.out
                  refine skip_ (w1 := ?_) (by rfl) rfl ?_ ?_
                  rotate_left
                  · go_simp
                    rfl
                  refine hK.out _ _ ⟨((cell_far (p := ⟨gb134, _, none⟩) (by first | exact Kd.own_blk (Kd.R_ne HO128.out BK134.out (by decide)) | (rw [add_block]; exact Kd.own_blk (Kd.R_ne HO128.out BK134.out (by decide))) | (show (Addr.add _ _).block ≠ _; rw [add_block]; exact Kd.own_blk (Kd.R_ne HO128.out BK134.out (by decide))) | (dsimp only; exact Kd.own_blk (Kd.R_ne HO128.out BK134.out (by decide)))) _).trans (((cell_far (p := ⟨gb134, _, none⟩) (by first | exact Kd.own_blk (Kd.R_ne HO128.out BK134.out (by decide)) | (rw [add_block]; exact Kd.own_blk (Kd.R_ne HO128.out BK134.out (by decide))) | (show (Addr.add _ _).block ≠ _; rw [add_block]; exact Kd.own_blk (Kd.R_ne HO128.out BK134.out (by decide))) | (dsimp only; exact Kd.own_blk (Kd.R_ne HO128.out BK134.out (by decide)))) _).trans (((cell_far (p := ⟨gb134, _, none⟩) (by first | exact Kd.own_blk (Kd.R_ne HO128.out BK134.out (by decide)) | (rw [add_block]; exact Kd.own_blk (Kd.R_ne HO128.out BK134.out (by decide))) | (show (Addr.add _ _).block ≠ _; rw [add_block]; exact Kd.own_blk (Kd.R_ne HO128.out BK134.out (by decide))) | (dsimp only; exact Kd.own_blk (Kd.R_ne HO128.out BK134.out (by decide)))) _).trans (((cell_far (p := ⟨gb134, _, none⟩) (by first | exact Kd.own_blk (Kd.R_ne HO128.out BK134.out (by decide)) | (rw [add_block]; exact Kd.own_blk (Kd.R_ne HO128.out BK134.out (by decide))) | (show (Addr.add _ _).block ≠ _; rw [add_block]; exact Kd.own_blk (Kd.R_ne HO128.out BK134.out (by decide))) | (dsimp only; exact Kd.own_blk (Kd.R_ne HO128.out BK134.out (by decide)))) _).trans (hHeld.1)))))))), ((cell_far (p := ⟨gb134, _, none⟩) (by first | exact Kd.own_blk (Kd.R_ne HO128.out BK134.out (by decide)) | (rw [add_block]; exact Kd.own_blk (Kd.R_ne HO128.out BK134.out (by decide))) | (show (Addr.add _ _).block ≠ _; rw [add_block]; exact Kd.own_blk (Kd.R_ne HO128.out BK134.out (by decide))) | (dsimp only; exact Kd.own_blk (Kd.R_ne HO128.out BK134.out (by decide)))) _).trans (((cell_far (p := ⟨gb134, _, none⟩) (by first | exact Kd.own_blk (Kd.R_ne HO128.out BK134.out (by decide)) | (rw [add_block]; exact Kd.own_blk (Kd.R_ne HO128.out BK134.out (by decide))) | (show (Addr.add _ _).block ≠ _; rw [add_block]; exact Kd.own_blk (Kd.R_ne HO128.out BK134.out (by decide))) | (dsimp only; exact Kd.own_blk (Kd.R_ne HO128.out BK134.out (by decide)))) _).trans (((cell_far (p := ⟨gb134, _, none⟩) (by first | exact Kd.own_blk (Kd.R_ne HO128.out BK134.out (by decide)) | (rw [add_block]; exact Kd.own_blk (Kd.R_ne HO128.out BK134.out (by decide))) | (show (Addr.add _ _).block ≠ _; rw [add_block]; exact Kd.own_blk (Kd.R_ne HO128.out BK134.out (by decide))) | (dsimp only; exact Kd.own_blk (Kd.R_ne HO128.out BK134.out (by decide)))) _).trans (((cell_far (p := ⟨gb134, _, none⟩) (by first | exact Kd.own_blk (Kd.R_ne HO128.out BK134.out (by decide)) | (rw [add_block]; exact Kd.own_blk (Kd.R_ne HO128.out BK134.out (by decide))) | (show (Addr.add _ _).block ≠ _; rw [add_block]; exact Kd.own_blk (Kd.R_ne HO128.out BK134.out (by decide))) | (dsimp only; exact Kd.own_blk (Kd.R_ne HO128.out BK134.out (by decide)))) _).trans (hHeld.2.1)))))))), ((cell_far (p := ⟨gb134, _, none⟩) (by first | exact Kd.own_blk (Kd.R_ne HO_4.out BK134.out (by decide)) | (rw [add_block]; exact Kd.own_blk (Kd.R_ne HO_4.out BK134.out (by decide))) | (show (Addr.add _ _).block ≠ _; rw [add_block]; exact Kd.own_blk (Kd.R_ne HO_4.out BK134.out (by decide))) | (dsimp only; exact Kd.own_blk (Kd.R_ne HO_4.out BK134.out (by decide)))) _).trans (((cell_far (p := ⟨gb134, _, none⟩) (by first | exact Kd.own_blk (Kd.R_ne HO_4.out BK134.out (by decide)) | (rw [add_block]; exact Kd.own_blk (Kd.R_ne HO_4.out BK134.out (by decide))) | (show (Addr.add _ _).block ≠ _; rw [add_block]; exact Kd.own_blk (Kd.R_ne HO_4.out BK134.out (by decide))) | (dsimp only; exact Kd.own_blk (Kd.R_ne HO_4.out BK134.out (by decide)))) _).trans (((cell_far (p := ⟨gb134, _, none⟩) (by first | exact Kd.own_blk (Kd.R_ne HO_4.out BK134.out (by decide)) | (rw [add_block]; exact Kd.own_blk (Kd.R_ne HO_4.out BK134.out (by decide))) | (show (Addr.add _ _).block ≠ _; rw [add_block]; exact Kd.own_blk (Kd.R_ne HO_4.out BK134.out (by decide))) | (dsimp only; exact Kd.own_blk (Kd.R_ne HO_4.out BK134.out (by decide)))) _).trans (((cell_far (p := ⟨gb134, _, none⟩) (by first | exact Kd.own_blk (Kd.R_ne HO_4.out BK134.out (by decide)) | (rw [add_block]; exact Kd.own_blk (Kd.R_ne HO_4.out BK134.out (by decide))) | (show (Addr.add _ _).block ≠ _; rw [add_block]; exact Kd.own_blk (Kd.R_ne HO_4.out BK134.out (by decide))) | (dsimp only; exact Kd.own_blk (Kd.R_ne HO_4.out BK134.out (by decide)))) _).trans (hHeld.2.2))))))))⟩ (fun hHeld => ?_)
                  clear hK K
                  refine done_ (done_of HT_.out (by kernel_rfl)) ?_
                  have hnb29 := NB134_121.out
                  have hnc29 := NB121_134.out
                  have hcz30_0 : w24.cell? ⟨gb134, 0, none⟩ = some (.int .i64 0) := (blk_cell BK134.out 0).trans rfl
                  have hcz30_1 : w24.cell? ⟨gb134, 1, none⟩ = some (.int .i64 0) := (blk_cell BK134.out 1).trans rfl
                  have hcz30_2 : w24.cell? ⟨gb134, 2, none⟩ = some (.string (⟨#[]⟩ : ByteArray)) := (blk_cell BK134.out 2).trans rfl
                  have hcz30_3 : w24.cell? ⟨gb134, 3, none⟩ = some (.bool false) := (blk_cell BK134.out 3).trans rfl
                  have hfz30_0 := blk_frozen BK134.out 0
                  have hfz30_1 := blk_frozen BK134.out 1
                  have hfz30_2 := blk_frozen BK134.out 2
                  have hfz30_3 := blk_frozen BK134.out 3
                  go_upto_region 9 with (fail)
                  go_cut [51] (fun v51 wc => ∃ (kq : Nat) (x51_17 : Bool), v51 = .bool x51_17 ∧ Aside0 (spec_miParse.j1 kq a0 ((rdOf ByteArray.empty t122 1).size : Int) x51_17 t130 t132 (rdOf ByteArray.empty t122 1) false = some (r1, r2, r3, r4, r5)) ∧ Aside0 (kq ≤ kj2) ∧ Aside0 (wc.heap[gb121]? = some (.cells #[.int .i64 0, .int .i64 0, .string (⟨#[]⟩ : ByteArray), .bool false] 29 (0, 0))) ∧ Aside0 (wc.heap[gb134]? = some (.cells #[.int .i64 t130, .int .i64 t132, .string (rdOf ByteArray.empty t122 1), .bool false] 29 (0, 0))) ∧ Aside0 (Below w.heap.size w wc))
                  case first =>
                    have H := HC18.out
                    clear HC18
                    by_cases c31 : ((rdOf ByteArray.empty t122 1).size : Int) > 0
                    · rw [if_pos c31] at H
                      have c31b0 : decide (0 < ((rdOf ByteArray.empty t122 1).size : Int)) = true := decide_eq_true c31
                      have c31b1 : decide (0 < (rdOf ByteArray.empty t122 1).size) = true := decide_eq_true (by omega)
                      clear c31
                      (first | rw [c31b0] | (simp only [i64_w, i32_w]; rw [c31b0]) | skip)
                      obtain ⟨ji32, hji32⟩ : ∃ j_ : Int, (wrap64 (((rdOf ByteArray.empty t122 1).size : Int) - 1)) = j_ := ⟨_, rfl⟩
                      replace H : (if 0 ≤ (ji32) then (if (ji32) < ((rdOf ByteArray.empty t122 1).size : Int) then (spec_miParse.j1 kj2 a0 ((rdOf ByteArray.empty t122 1).size : Int) ((bt (rdOf ByteArray.empty t122 1) (ji32)) == 33) t130 t132 (rdOf ByteArray.empty t122 1) false) else (none)) else (none)) = some (r1, r2, r3, r4, r5) := by first | (rw [hji32] at H; exact H) | (simp only [hji32] at H ⊢; exact H)
                      have hji32w : (IntKind.i64.wrap (((rdOf ByteArray.empty t122 1).size : Int) - 1)) = ji32 := (i64_w _).trans hji32
                      by_cases c33 : 0 ≤ (ji32)
                      · rw [if_pos c33] at H
                        have c33b0 : decide (0 ≤ (ji32)) = true := decide_eq_true c33
                        clear c33
                        by_cases c34 : (ji32) < ((rdOf ByteArray.empty t122 1).size : Int)
                        · rw [if_pos c34] at H
                          have c34b0 : decide ((ji32) < ((rdOf ByteArray.empty t122 1).size : Int)) = true := decide_eq_true c34
                          clear c34
                          have H' := Aside0.mk H
                          clear H
                          have hnb36 := NB134_121.out
                          have hnc36 := NB121_134.out
                          have hcz37_0 : w24.cell? ⟨gb134, 0, none⟩ = some (.int .i64 0) := (blk_cell BK134.out 0).trans rfl
                          have hcz37_1 : w24.cell? ⟨gb134, 1, none⟩ = some (.int .i64 0) := (blk_cell BK134.out 1).trans rfl
                          have hcz37_2 : w24.cell? ⟨gb134, 2, none⟩ = some (.string (⟨#[]⟩ : ByteArray)) := (blk_cell BK134.out 2).trans rfl
                          have hcz37_3 : w24.cell? ⟨gb134, 3, none⟩ = some (.bool false) := (blk_cell BK134.out 3).trans rfl
                          have hfz37_0 := blk_frozen BK134.out 0
                          have hfz37_1 := blk_frozen BK134.out 1
                          have hfz37_2 := blk_frozen BK134.out 2
                          have hfz37_3 := blk_frozen BK134.out 3
                          have p35 : 0 ≤ ((ji32) : Int) := of_decide_eq_true (by first | (with_reducible assumption) | assumption)
                          have q35 : (ji32) < ((rdOf ByteArray.empty t122 1).size : Int) := of_decide_eq_true (by first | (with_reducible assumption) | assumption)
                          have hx35 := bt_at (rdOf ByteArray.empty t122 1) (ji32)
                          replace p35 := eq_true p35
                          replace q35 := eq_true q35
                          go_wp2
                          go_meet
                          case rel => exact ⟨_, (((bt (rdOf ByteArray.empty t122 1) (ji32)) == 33)), (by first | rfl | (simp; done) | (simp only [← hji32] <;> (first | rfl | simp)) | (simp [*]; done)), H', ⟨by have := HJ2.out; first | omega | exact Nat.le_refl _⟩, ⟨by (with_reducible repeat (first | refine blk_drewN ?_ _ | refine blk_drew ?_ | refine blk_alloc ?_ _)); refine blk_far ?_ NB121_134.out _; (with_reducible repeat (first | refine blk_drewN ?_ _ | refine blk_drew ?_ | refine blk_alloc ?_ _)); refine blk_far ?_ NB121_134.out _; (with_reducible repeat (first | refine blk_drewN ?_ _ | refine blk_drew ?_ | refine blk_alloc ?_ _)); refine blk_far ?_ NB121_134.out _; (with_reducible repeat (first | refine blk_drewN ?_ _ | refine blk_drew ?_ | refine blk_alloc ?_ _)); refine blk_far ?_ NB121_134.out _; (with_reducible repeat (first | refine blk_drewN ?_ _ | refine blk_drew ?_ | refine blk_alloc ?_ _)); exact BK121.out⟩, ⟨by (with_reducible repeat (first | refine blk_drewN ?_ _ | refine blk_drew ?_ | refine blk_alloc ?_ _)); refine blk_put (cs := #[.int .i64 t130, .int .i64 t132, .string (rdOf ByteArray.empty t122 1), .bool false]) ?_ 3 _ rfl; (with_reducible repeat (first | refine blk_drewN ?_ _ | refine blk_drew ?_ | refine blk_alloc ?_ _)); refine blk_put (cs := #[.int .i64 t130, .int .i64 t132, .string (⟨#[]⟩ : ByteArray), .bool false]) ?_ 2 _ rfl; (with_reducible repeat (first | refine blk_drewN ?_ _ | refine blk_drew ?_ | refine blk_alloc ?_ _)); refine blk_put (cs := #[.int .i64 t130, .int .i64 0, .string (⟨#[]⟩ : ByteArray), .bool false]) ?_ 1 _ rfl; (with_reducible repeat (first | refine blk_drewN ?_ _ | refine blk_drew ?_ | refine blk_alloc ?_ _)); refine blk_put (cs := #[.int .i64 0, .int .i64 0, .string (⟨#[]⟩ : ByteArray), .bool false]) ?_ 0 _ rfl; (with_reducible repeat (first | refine blk_drewN ?_ _ | refine blk_drew ?_ | refine blk_alloc ?_ _)); exact BK134.out⟩, ⟨by repeat (first | (with_reducible first | exact HB.out | apply below_alloc | apply pw_below_drewN | apply below_drew1 | refine below_set ?_ GE121.out | refine below_set ?_ GE134.out) | exact HB.out)⟩⟩
                        · rw [if_neg c34] at H
                          exact absurd H (by simp)
                      · rw [if_neg c33] at H
                        exact absurd H (by simp)
                    · rw [if_neg c31] at H
                      have c31b0 : decide (0 < ((rdOf ByteArray.empty t122 1).size : Int)) = false := decide_eq_false c31
                      have c31b1 : decide (0 < (rdOf ByteArray.empty t122 1).size) = false := decide_eq_false (by omega)
                      clear c31
                      (first | rw [c31b0] | (simp only [i64_w, i32_w]; rw [c31b0]) | skip)
                      have H' := Aside0.mk H
                      clear H
                      go_wp2
                      go_meet
                      case rel => exact ⟨_, (false), (by first | rfl | (simp; done) | (simp [*]; done)), H', ⟨by have := HJ2.out; first | omega | exact Nat.le_refl _⟩, ⟨by (with_reducible repeat (first | refine blk_drewN ?_ _ | refine blk_drew ?_ | refine blk_alloc ?_ _)); refine blk_far ?_ NB121_134.out _; (with_reducible repeat (first | refine blk_drewN ?_ _ | refine blk_drew ?_ | refine blk_alloc ?_ _)); refine blk_far ?_ NB121_134.out _; (with_reducible repeat (first | refine blk_drewN ?_ _ | refine blk_drew ?_ | refine blk_alloc ?_ _)); refine blk_far ?_ NB121_134.out _; (with_reducible repeat (first | refine blk_drewN ?_ _ | refine blk_drew ?_ | refine blk_alloc ?_ _)); refine blk_far ?_ NB121_134.out _; (with_reducible repeat (first | refine blk_drewN ?_ _ | refine blk_drew ?_ | refine blk_alloc ?_ _)); exact BK121.out⟩, ⟨by (with_reducible repeat (first | refine blk_drewN ?_ _ | refine blk_drew ?_ | refine blk_alloc ?_ _)); refine blk_put (cs := #[.int .i64 t130, .int .i64 t132, .string (rdOf ByteArray.empty t122 1), .bool false]) ?_ 3 _ rfl; (with_reducible repeat (first | refine blk_drewN ?_ _ | refine blk_drew ?_ | refine blk_alloc ?_ _)); refine blk_put (cs := #[.int .i64 t130, .int .i64 t132, .string (⟨#[]⟩ : ByteArray), .bool false]) ?_ 2 _ rfl; (with_reducible repeat (first | refine blk_drewN ?_ _ | refine blk_drew ?_ | refine blk_alloc ?_ _)); refine blk_put (cs := #[.int .i64 t130, .int .i64 0, .string (⟨#[]⟩ : ByteArray), .bool false]) ?_ 1 _ rfl; (with_reducible repeat (first | refine blk_drewN ?_ _ | refine blk_drew ?_ | refine blk_alloc ?_ _)); refine blk_put (cs := #[.int .i64 0, .int .i64 0, .string (⟨#[]⟩ : ByteArray), .bool false]) ?_ 0 _ rfl; (with_reducible repeat (first | refine blk_drewN ?_ _ | refine blk_drew ?_ | refine blk_alloc ?_ _)); exact BK134.out⟩, ⟨by repeat (first | (with_reducible first | exact HB.out | apply below_alloc | apply pw_below_drewN | apply below_drew1 | refine below_set ?_ GE121.out | refine below_set ?_ GE134.out) | exact HB.out)⟩⟩
                  case rest =>
                    clear HC18
                    try clear c1
                    try clear p1
                    try clear q1
                    try clear hx1
                    try clear qi1
                    try clear c2
                    try clear p2
                    try clear c3
                    try clear p3
                    try clear q3
                    try clear hx3
                    try clear c6
                    try clear c6b0
                    try clear c6b1
                    try clear p6
                    try clear c8
                    try clear c10
                    try clear c10b0
                    try clear c10b1
                    try clear c12
                    try clear c12b0
                    try clear c12b1
                    try clear p12
                    try clear q12
                    try clear hx12
                    try clear qi12
                    try clear c13
                    try clear c13b0
                    try clear c13b1
                    try clear p13
                    try clear q13
                    try clear hx13
                    try clear qi13
                    try clear c15
                    try clear c15b0
                    try clear c15b1
                    try clear c17
                    try clear c17b0
                    try clear c17b1
                    try clear c20
                    try clear c29
                    try clear c31
                    try clear c31b0
                    try clear c31b1
                    try clear c33
                    try clear c33b0
                    try clear c34
                    try clear c34b0
                    try clear c35
                    try clear p35
                    try clear q35
                    try clear hx35
                    try clear c36
                    try clear hcz30_0
                    try clear hcz30_1
                    try clear hcz30_2
                    try clear hcz30_3
                    try clear hcz37_0
                    try clear hcz37_1
                    try clear hcz37_2
                    try clear hcz37_3
                    try clear hcz9_0
                    try clear hcz9_1
                    try clear hcz9_2
                    try clear hcz9_3
                    try clear hfz30_0
                    try clear hfz30_1
                    try clear hfz30_2
                    try clear hfz30_3
                    try clear hfz37_0
                    try clear hfz37_1
                    try clear hfz37_2
                    try clear hfz37_3
                    try clear hfz9_0
                    try clear hfz9_1
                    try clear hfz9_2
                    try clear hfz9_3
                    try clear hx125_0
                    try clear hx129_0
                    try clear hx131_0
                    try clear hx133_0
                    try clear p125
                    try clear p129
                    try clear p131
                    try clear p133
                    try clear p2
                    try clear p35
                    try clear q125
                    try clear q129
                    try clear q131
                    try clear q133
                    try clear q35
                    obtain ⟨kq, x51_17, rfl, HA, HJ17, BK121, BK134, HB⟩ := hcut
                    cases kq with
                    | zero => exact absurd HA.out (by simp [spec_miParse.j1])
                    | succ kj17 =>
                      have H := HA.out
                      clear HA
                      simp only [spec_miParse.j1] at H
                      by_cases c38 : x51_17 = true
                      · subst c38
                        have H1 : (if 0 ≤ (wrap64 (((rdOf ByteArray.empty t122 1).size : Int) - 1)) then (if (wrap64 (((rdOf ByteArray.empty t122 1).size : Int) - 1)) ≤ ((rdOf ByteArray.empty t122 1).size : Int) then ((spec_miGood.f kj17 t130 t132 ((rdOf ByteArray.empty t122 1).extract 0 ((wrap64 (((rdOf ByteArray.empty t122 1).size : Int) - 1)) : Int).toNat) true).bind fun t135 => (if t135 = true then ((spec_miText.f kj17 t130 t132 ((rdOf ByteArray.empty t122 1).extract 0 ((wrap64 (((rdOf ByteArray.empty t122 1).size : Int) - 1)) : Int).toNat) true).bind fun t136 => (some (t130, t132, (rdOf ByteArray.empty t122 1).extract 0 ((wrap64 (((rdOf ByteArray.empty t122 1).size : Int) - 1)) : Int).toNat, true, (t136.toList == a0.toList)))) else (some (t130, t132, (rdOf ByteArray.empty t122 1).extract 0 ((wrap64 (((rdOf ByteArray.empty t122 1).size : Int) - 1)) : Int).toNat, true, false)))) else (none)) else (none)) = some (r1, r2, r3, r4, r5) := by rw [if_pos rfl] at H; exact H
                        clear H
                        have H := H1
                        clear H1
                        obtain ⟨ji39, hji39⟩ : ∃ j_ : Int, (wrap64 (((rdOf ByteArray.empty t122 1).size : Int) - 1)) = j_ := ⟨_, rfl⟩
                        replace H : (if 0 ≤ (ji39) then (if (ji39) ≤ ((rdOf ByteArray.empty t122 1).size : Int) then ((spec_miGood.f kj17 t130 t132 ((rdOf ByteArray.empty t122 1).extract 0 ((ji39) : Int).toNat) true).bind fun t135 => (if t135 = true then ((spec_miText.f kj17 t130 t132 ((rdOf ByteArray.empty t122 1).extract 0 ((ji39) : Int).toNat) true).bind fun t136 => (some (t130, t132, (rdOf ByteArray.empty t122 1).extract 0 ((ji39) : Int).toNat, true, (t136.toList == a0.toList)))) else (some (t130, t132, (rdOf ByteArray.empty t122 1).extract 0 ((ji39) : Int).toNat, true, false)))) else (none)) else (none)) = some (r1, r2, r3, r4, r5) := by first | (rw [hji39] at H; exact H) | (simp only [hji39] at H ⊢; exact H)
                        have hji39w : (IntKind.i64.wrap (((rdOf ByteArray.empty t122 1).size : Int) - 1)) = ji39 := (i64_w _).trans hji39
                        by_cases c40 : 0 ≤ (ji39)
                        · rw [if_pos c40] at H
                          have c40b0 := eq_true c40
                          have c40b1 : decide (0 ≤ (ji39)) = true := decide_eq_true c40
                          clear c40
                          by_cases c41 : (ji39) ≤ ((rdOf ByteArray.empty t122 1).size : Int)
                          · rw [if_pos c41] at H
                            have c41b0 := eq_true c41
                            have c41b1 : decide ((ji39) ≤ ((rdOf ByteArray.empty t122 1).size : Int)) = true := decide_eq_true c41
                            clear c41
                            replace H := Option.bind_eq_some_iff.mp H
                            obtain ⟨t135, A420, H⟩ := H
                            replace H : (if t135 = true then ((spec_miText.f kj17 t130 t132 ((rdOf ByteArray.empty t122 1).extract 0 ((ji39) : Int).toNat) true).bind fun t136 => (some (t130, t132, (rdOf ByteArray.empty t122 1).extract 0 ((ji39) : Int).toNat, true, (t136.toList == a0.toList)))) else (some (t130, t132, (rdOf ByteArray.empty t122 1).extract 0 ((ji39) : Int).toNat, true, false))) = some (r1, r2, r3, r4, r5) := H
                            have A42 := Aside0.mk A420
                            clear A420
                            by_cases c43 : t135 = true
                            · subst c43
                              have H1 : ((spec_miText.f kj17 t130 t132 ((rdOf ByteArray.empty t122 1).extract 0 ((ji39) : Int).toNat) true).bind fun t136 => (some (t130, t132, (rdOf ByteArray.empty t122 1).extract 0 ((ji39) : Int).toNat, true, (t136.toList == a0.toList)))) = some (r1, r2, r3, r4, r5) := by rw [if_pos rfl] at H; exact H
                              clear H
                              have H := H1
                              clear H1
                              replace H := Option.bind_eq_some_iff.mp H
                              obtain ⟨t136, A440, H⟩ := H
                              replace H : (some (t130, t132, (rdOf ByteArray.empty t122 1).extract 0 ((ji39) : Int).toNat, true, (t136.toList == a0.toList))) = some (r1, r2, r3, r4, r5) := H
                              have A44 := Aside0.mk A440
                              clear A440
                              simp only [Option.some.injEq, Prod.mk.injEq] at H
                              obtain ⟨rfl, rfl, rfl, rfl, rfl⟩ := H
                              have hnb45 := NB134_121.out
                              have hnc45 := NB121_134.out
                              have hcz46_0 : wc.cell? ⟨gb134, 0, none⟩ = some (.int .i64 t130) := (blk_cell BK134.out 0).trans rfl
                              have hcz46_1 : wc.cell? ⟨gb134, 1, none⟩ = some (.int .i64 t132) := (blk_cell BK134.out 1).trans rfl
                              have hcz46_2 : wc.cell? ⟨gb134, 2, none⟩ = some (.string (rdOf ByteArray.empty t122 1)) := (blk_cell BK134.out 2).trans rfl
                              have hcz46_3 : wc.cell? ⟨gb134, 3, none⟩ = some (.bool false) := (blk_cell BK134.out 3).trans rfl
                              have hfz46_0 := blk_frozen BK134.out 0
                              have hfz46_1 := blk_frozen BK134.out 1
                              have hfz46_2 := blk_frozen BK134.out 2
                              have hfz46_3 := blk_frozen BK134.out 3
                              try go_wp2
                              have n0_ : Aside0 (((wc.setCell ⟨gb134, 2, none⟩ (.string ((rdOf ByteArray.empty t122 1).extract 0 ((ji39) : Int).toNat))).setCell ⟨gb134, 3, none⟩ (.bool true)).heap[gb121]? = some (.cells #[.int .i64 0, .int .i64 0, .string (⟨#[]⟩ : ByteArray), .bool false] 29 (0, 0))) := ⟨by (with_reducible repeat (first | refine blk_drewN ?_ _ | refine blk_drew ?_ | refine blk_alloc ?_ _)); refine blk_far ?_ NB121_134.out _; (with_reducible repeat (first | refine blk_drewN ?_ _ | refine blk_drew ?_ | refine blk_alloc ?_ _)); refine blk_far ?_ NB121_134.out _; (with_reducible repeat (first | refine blk_drewN ?_ _ | refine blk_drew ?_ | refine blk_alloc ?_ _)); exact BK121.out⟩
                              have n1_ : Aside0 (((wc.setCell ⟨gb134, 2, none⟩ (.string ((rdOf ByteArray.empty t122 1).extract 0 ((ji39) : Int).toNat))).setCell ⟨gb134, 3, none⟩ (.bool true)).heap[gb134]? = some (.cells #[.int .i64 t130, .int .i64 t132, .string ((rdOf ByteArray.empty t122 1).extract 0 ((ji39) : Int).toNat), .bool true] 29 (0, 0))) := ⟨by (with_reducible repeat (first | refine blk_drewN ?_ _ | refine blk_drew ?_ | refine blk_alloc ?_ _)); refine blk_put (cs := #[.int .i64 t130, .int .i64 t132, .string ((rdOf ByteArray.empty t122 1).extract 0 ((ji39) : Int).toNat), .bool false]) ?_ 3 _ rfl; (with_reducible repeat (first | refine blk_drewN ?_ _ | refine blk_drew ?_ | refine blk_alloc ?_ _)); refine blk_put (cs := #[.int .i64 t130, .int .i64 t132, .string (rdOf ByteArray.empty t122 1), .bool false]) ?_ 2 _ rfl; (with_reducible repeat (first | refine blk_drewN ?_ _ | refine blk_drew ?_ | refine blk_alloc ?_ _)); exact BK134.out⟩
                              have n2_ : Aside0 (Below w.heap.size w ((wc.setCell ⟨gb134, 2, none⟩ (.string ((rdOf ByteArray.empty t122 1).extract 0 ((ji39) : Int).toNat))).setCell ⟨gb134, 3, none⟩ (.bool true))) := ⟨by repeat (first | (with_reducible first | exact HB.out | apply below_alloc | apply pw_below_drewN | apply below_drew1 | refine below_set ?_ GE121.out | refine below_set ?_ GE134.out) | exact HB.out)⟩
                              (try clear BK121)
                              (try clear BK134)
                              (try clear HB)
                              generalize ((wc.setCell ⟨gb134, 2, none⟩ (.string ((rdOf ByteArray.empty t122 1).extract 0 ((ji39) : Int).toNat))).setCell ⟨gb134, 3, none⟩ (.bool true)) = w47 at n0_ n1_ n2_ ⊢
                              have BK121 := n0_
                              have BK134 := n1_
                              have HB := n2_
                              clear n0_ n1_ n2_
                              have n0_ := Aside0.mk (blk_drew BK121.out)
                              have n1_ := Aside0.mk (blk_drew BK134.out)
                              have n2_ := Aside0.mk (below_drew1 HB.out)
                              clear BK121
                              clear BK134
                              clear HB
                              have BK121 := n0_
                              have BK134 := n1_
                              have HB := n2_
                              clear n0_ n1_ n2_
                              refine start_ (n := 11) (S := fun w' => w'.cell? ⟨gb134, 0, none⟩ = some (.int .i64 t130) ∧ w'.cell? ⟨gb134, 1, none⟩ = some (.int .i64 t132) ∧ w'.cell? ⟨gb134, 2, none⟩ = some (.string ((rdOf ByteArray.empty t122 1).extract 0 ((ji39) : Int).toNat)) ∧ w'.cell? ⟨gb134, 3, none⟩ = some (.bool true)) (ds := []) #[false, false, false, false, false, false, false, false, false, false, false] (by kernel_rfl) rfl rfl ⟨(blk_cell BK134.out 0).trans rfl, (blk_cell BK134.out 1).trans rfl, (blk_cell BK134.out 2).trans rfl, (blk_cell BK134.out 3).trans rfl⟩ (fun hHeld => ?_); refine with_tabW spec_miParse.tab12 spec_miParse.bits12 (fun HT_ HW_ => ?_)
                              generalize w47.drew = w48 at BK121 BK134 HB hHeld ⊢
                              refine take_ (i := 0) (N := some 59) (v := ?_) (a' := ?_) #[true, false, false, false, false, false, false, false, false, false, false] rfl rfl (take_ofW HT_.out HW_.out (by kernel_rfl)) (fun _ _ _ h => h) (Or.inl ⟨by rfl, ?_⟩) hHeld ?_ ?_
                              rotate_left
                              · rintro w' ⟨s0, s1, s2, s3⟩
                                go_simp
                                with_reducible rfl
                              rotate_left
                              · simp only [Act.put, List.setIfInBounds_toArray, List.set_cons_zero, List.set_cons_succ, i64_w, i32_w]
                                rfl
                              refine take_ (i := 1) (N := some 60) (v := ?_) (a' := ?_) #[true, true, false, false, false, false, false, false, false, false, false] rfl rfl (take_ofW HT_.out HW_.out (by kernel_rfl)) (fun _ _ _ h => h) (Or.inl ⟨by rfl, ?_⟩) hHeld ?_ ?_
                              rotate_left
                              · rintro w' ⟨s0, s1, s2, s3⟩
                                go_simp
                                with_reducible rfl
                              rotate_left
                              · simp only [Act.put, List.setIfInBounds_toArray, List.set_cons_zero, List.set_cons_succ, i64_w, i32_w]
                                rfl
                              refine one_ (i := 2) (N := some 61) #[true, true, true, false, false, false, false, false, false, false, false] rfl rfl (one_of HT_.out (by kernel_rfl)) (by decide) (fun K hK => ?_)
                              refine goes_ Tryd.func24 (by kernel_rfl) rfl #[.agg #[.int .i64 t130, .int .i64 t132, .string ((rdOf ByteArray.empty t122 1).extract 0 ((ji39) : Int).toNat), .bool true]] (by rfl) rfl rfl (by (try simp only [List.map_toArray, List.map_cons, List.map_nil]); first | done | (simp only [hji39]; rfl) | rfl | (simp only [List.length_drop, List.length_take]; rfl)) ?_
                              with_reducible refine (spec_miGood.calls kj17 t130 t132 ((rdOf ByteArray.empty t122 1).extract 0 ((ji39) : Int).toNat) true true _ A42.out).mono ?_
                              rintro e w49 ⟨rfl, hb⟩
                              refine ⟨_, rfl, ?_⟩
                              have n0_ := Aside0.mk (blk_below (g := gb121) (o := .cells #[.int .i64 0, .int .i64 0, .string (⟨#[]⟩ : ByteArray), .bool false] 29 (0, 0)) (XSq.bq BK121) hb)
                              have n1_ := Aside0.mk (blk_below (g := gb134) (o := .cells #[.int .i64 t130, .int .i64 t132, .string ((rdOf ByteArray.empty t122 1).extract 0 ((ji39) : Int).toNat), .bool true] 29 (0, 0)) (XSq.bq BK134) hb)
                              have n2_ := Aside0.mk (below_step (XSq.bB HB) hb)
                              clear BK121
                              clear BK134
                              clear HB
                              have BK121 := n0_
                              have BK134 := n1_
                              have HB := n2_
                              clear n0_ n1_ n2_
                              (try clear hb)
                              (try clear hb2)
                              (try clear hk)
                              (try clear hi)
                              refine hK.out _ _ ⟨(blk_cell BK134.out 0).trans rfl, (blk_cell BK134.out 1).trans rfl, (blk_cell BK134.out 2).trans rfl, (blk_cell BK134.out 3).trans rfl⟩ (fun hHeld => ?_)
                              clear hK K
                              refine norm_ (a' := ?_) ?_ ?_
                              rotate_left
                              · show Act.put _ (some 61) _ = _
                                simp only [Act.put, List.setIfInBounds_toArray, List.set_cons_zero, List.set_cons_succ, i64_w, i32_w]
                                rfl
                              refine pure_ (i := 3) (N := some 62) (v := ?_) (a' := ?_) #[true, true, true, true, false, false, false, false, false, false, false] rfl rfl (any_of HT_.out (by kernel_rfl)) (fun _ _ _ h => h) (Or.inl ⟨by rfl, ?_⟩) ?_ ?_
                              rotate_left
                              · intro w'
                                go_simp
                                with_reducible rfl
                              rotate_left
                              · simp only [Act.put, List.setIfInBounds_toArray, List.set_cons_zero, List.set_cons_succ, i64_w, i32_w]
                                rfl
                              refine pure_ (i := 6) (N := some 65) (v := ?_) (a' := ?_) #[true, true, true, true, false, false, true, false, false, false, false] rfl rfl (any_of HT_.out (by kernel_rfl)) (fun _ _ _ h => h) (Or.inl ⟨by rfl, ?_⟩) ?_ ?_
                              rotate_left
                              · intro w'
                                go_simp
                                with_reducible rfl
                              rotate_left
                              · simp only [Act.put, List.setIfInBounds_toArray, List.set_cons_zero, List.set_cons_succ, i64_w, i32_w]
                                rfl
                              refine take_ (i := 4) (N := some 63) (v := ?_) (a' := ?_) #[true, true, true, true, true, false, true, false, false, false, false] rfl rfl (take_ofW HT_.out HW_.out (by kernel_rfl)) (fun _ _ _ h => h) (Or.inl ⟨by rfl, ?_⟩) hHeld ?_ ?_
                              rotate_left
                              · rintro w' ⟨s0, s1, s2, s3⟩
                                go_simp
                                with_reducible rfl
                              rotate_left
                              · simp only [Act.put, List.setIfInBounds_toArray, List.set_cons_zero, List.set_cons_succ, i64_w, i32_w]
                                rfl
                              refine one_ (i := 5) (N := some 64) #[true, true, true, true, true, true, true, false, false, false, false] rfl rfl (one_of HT_.out (by kernel_rfl)) (by decide) (fun K hK => ?_)
                              refine goes_ Tryd.func43 (by kernel_rfl) rfl #[.agg #[.int .i64 t130, .int .i64 t132, .string ((rdOf ByteArray.empty t122 1).extract 0 ((ji39) : Int).toNat), .bool true]] (by rfl) rfl rfl (by (try simp only [List.map_toArray, List.map_cons, List.map_nil]); first | done | (simp only [hji39]; rfl) | rfl | (simp only [List.length_drop, List.length_take]; rfl)) ?_
                              with_reducible refine (spec_miText.calls kj17 t130 t132 ((rdOf ByteArray.empty t122 1).extract 0 ((ji39) : Int).toNat) true t136 _ A44.out).mono ?_
                              rintro e w50 ⟨rfl, hb⟩
                              refine ⟨_, rfl, ?_⟩
                              have n0_ := Aside0.mk (blk_below (g := gb121) (o := .cells #[.int .i64 0, .int .i64 0, .string (⟨#[]⟩ : ByteArray), .bool false] 29 (0, 0)) (XSq.bq BK121) hb)
                              have n1_ := Aside0.mk (blk_below (g := gb134) (o := .cells #[.int .i64 t130, .int .i64 t132, .string ((rdOf ByteArray.empty t122 1).extract 0 ((ji39) : Int).toNat), .bool true] 29 (0, 0)) (XSq.bq BK134) hb)
                              have n2_ := Aside0.mk (below_step (XSq.bB HB) hb)
                              clear BK121
                              clear BK134
                              clear HB
                              have BK121 := n0_
                              have BK134 := n1_
                              have HB := n2_
                              clear n0_ n1_ n2_
                              (try clear hb)
                              (try clear hb2)
                              (try clear hk)
                              (try clear hi)
                              refine hK.out _ _ ⟨(blk_cell BK134.out 0).trans rfl, (blk_cell BK134.out 1).trans rfl, (blk_cell BK134.out 2).trans rfl, (blk_cell BK134.out 3).trans rfl⟩ (fun hHeld => ?_)
                              clear hK K
                              refine norm_ (a' := ?_) ?_ ?_
                              rotate_left
                              · show Act.put _ (some 64) _ = _
                                simp only [Act.put, List.setIfInBounds_toArray, List.set_cons_zero, List.set_cons_succ, i64_w, i32_w]
                                rfl
                              refine pure_ (i := 7) (N := some 66) (v := ?_) (a' := ?_) #[true, true, true, true, true, true, true, true, false, false, false] rfl rfl (any_of HT_.out (by kernel_rfl)) (fun _ _ _ h => h) (Or.inl ⟨by rfl, ?_⟩) ?_ ?_
                              rotate_left
                              · intro w'
                                go_simp
                                with_reducible rfl
                              rotate_left
                              · simp only [Act.put, List.setIfInBounds_toArray, List.set_cons_zero, List.set_cons_succ, i64_w, i32_w]
                                rfl
                              refine pure_ (i := 8) (N := some 67) (v := ?_) (a' := ?_) #[true, true, true, true, true, true, true, true, true, false, false] rfl rfl (any_of HT_.out (by kernel_rfl)) (fun _ _ _ h => h) (Or.inl ⟨by rfl, ?_⟩) ?_ ?_
                              rotate_left
                              · intro w'
                                go_simp
                                with_reducible rfl
                              rotate_left
                              · simp only [Act.put, List.setIfInBounds_toArray, List.set_cons_zero, List.set_cons_succ, i64_w, i32_w]
                                rfl
                              refine one_ (i := 9) (N := none) #[true, true, true, true, true, true, true, true, true, true, false] rfl rfl (one_of HT_.out (by kernel_rfl)) (by decide) (fun K hK => ?_)
                              have hs51 : w50.cell? ⟨gb121, 0, none⟩ = some (.int .i64 0) := (blk_cell BK121.out 0).trans rfl
                              have hfs51 := blk_frozen BK121.out 0
                              have hns51_1 := NB134_121.out
                              have hms51_1 := NB121_134.out
                              have hs52 : w50.cell? ⟨gb121, 1, none⟩ = some (.int .i64 0) := (blk_cell BK121.out 1).trans rfl
                              have hfs52 := blk_frozen BK121.out 1
                              have hns52_1 := NB134_121.out
                              have hms52_1 := NB121_134.out
                              have hs53 : w50.cell? ⟨gb121, 2, none⟩ = some (.string (⟨#[]⟩ : ByteArray)) := (blk_cell BK121.out 2).trans rfl
                              have hfs53 := blk_frozen BK121.out 2
                              have hns53_1 := NB134_121.out
                              have hms53_1 := NB121_134.out
                              have hs54 : w50.cell? ⟨gb121, 3, none⟩ = some (.bool false) := (blk_cell BK121.out 3).trans rfl
                              have hfs54 := blk_frozen BK121.out 3
                              have hns54_1 := NB134_121.out
                              have hms54_1 := NB121_134.out
                              refine skip_ (w1 := ?_) (by rfl) rfl ?_ ?_
                              rotate_left
                              · go_simp
                                rfl
                              refine hK.out _ _ ⟨((cell_far (p := ⟨gb121, _, none⟩) NB134_121.out _).trans (((cell_far (p := ⟨gb121, _, none⟩) NB134_121.out _).trans (((cell_far (p := ⟨gb121, _, none⟩) NB134_121.out _).trans (((cell_far (p := ⟨gb121, _, none⟩) NB134_121.out _).trans (hHeld.1)))))))), ((cell_far (p := ⟨gb121, _, none⟩) NB134_121.out _).trans (((cell_far (p := ⟨gb121, _, none⟩) NB134_121.out _).trans (((cell_far (p := ⟨gb121, _, none⟩) NB134_121.out _).trans (((cell_far (p := ⟨gb121, _, none⟩) NB134_121.out _).trans (hHeld.2.1)))))))), ((cell_far (p := ⟨gb121, _, none⟩) NB134_121.out _).trans (((cell_far (p := ⟨gb121, _, none⟩) NB134_121.out _).trans (((cell_far (p := ⟨gb121, _, none⟩) NB134_121.out _).trans (((cell_far (p := ⟨gb121, _, none⟩) NB134_121.out _).trans (hHeld.2.2.1)))))))), ((cell_far (p := ⟨gb121, _, none⟩) NB134_121.out _).trans (((cell_far (p := ⟨gb121, _, none⟩) NB134_121.out _).trans (((cell_far (p := ⟨gb121, _, none⟩) NB134_121.out _).trans (((cell_far (p := ⟨gb121, _, none⟩) NB134_121.out _).trans (hHeld.2.2.2))))))))⟩ (fun hHeld => ?_)
                              clear hK K
                              refine pure_ (i := 10) (N := some 3) (v := ?_) (a' := ?_) #[true, true, true, true, true, true, true, true, true, true, true] rfl rfl (any_of HT_.out (by kernel_rfl)) (fun _ _ _ h => h) (Or.inl ⟨by rfl, ?_⟩) ?_ ?_
                              rotate_left
                              · intro w'
                                go_simp
                                with_reducible rfl
                              rotate_left
                              · simp only [Act.put, List.setIfInBounds_toArray, List.set_cons_zero, List.set_cons_succ, i64_w, i32_w]
                                rfl
                              refine done_ (done_of HT_.out (by kernel_rfl)) ?_
                              try go_wp2
                              refine bodyPost_ret (results_ct rfl _ _ gb121 29 #[.int .i64 t130, .int .i64 t132, .string ((rdOf ByteArray.empty t122 1).extract 0 ((ji39) : Int).toNat), .bool true] (0, 0) _ rfl (by (with_reducible repeat (first | refine blk_drewN ?_ _ | refine blk_drew ?_ | refine blk_alloc ?_ _)); refine blk_put (cs := #[.int .i64 t130, .int .i64 t132, .string ((rdOf ByteArray.empty t122 1).extract 0 ((ji39) : Int).toNat), .bool false]) ?_ 3 _ rfl; (with_reducible repeat (first | refine blk_drewN ?_ _ | refine blk_drew ?_ | refine blk_alloc ?_ _)); refine blk_put (cs := #[.int .i64 t130, .int .i64 t132, .string (⟨#[]⟩ : ByteArray), .bool false]) ?_ 2 _ rfl; (with_reducible repeat (first | refine blk_drewN ?_ _ | refine blk_drew ?_ | refine blk_alloc ?_ _)); refine blk_put (cs := #[.int .i64 t130, .int .i64 0, .string (⟨#[]⟩ : ByteArray), .bool false]) ?_ 1 _ rfl; (with_reducible repeat (first | refine blk_drewN ?_ _ | refine blk_drew ?_ | refine blk_alloc ?_ _)); refine blk_put (cs := #[.int .i64 0, .int .i64 0, .string (⟨#[]⟩ : ByteArray), .bool false]) ?_ 0 _ rfl; (with_reducible repeat (first | refine blk_drewN ?_ _ | refine blk_drew ?_ | refine blk_alloc ?_ _)); exact BK121.out) Tryd.underlying29 rfl (by kernel_rfl)) rfl ?_
                              exact ⟨by first | rfl | (simp [errW_none, errW_some] <;> rfl) | (simp only [← hji39]; first | rfl | (simp [errW_none, errW_some] <;> rfl)) | (simp [*, errW_none, errW_some] <;> rfl), by repeat (first | (with_reducible first | exact HB.out | apply below_alloc | apply pw_below_drewN | apply below_drew1 | refine below_set ?_ GE121.out | refine below_set ?_ GE134.out) | exact HB.out)⟩
                            · replace c43 := Bool.eq_false_iff.mpr c43
                              subst c43
                              have H1 : (some (t130, t132, (rdOf ByteArray.empty t122 1).extract 0 ((ji39) : Int).toNat, true, false)) = some (r1, r2, r3, r4, r5) := by rw [if_neg (show ¬ (false = true) by decide)] at H; exact H
                              clear H
                              have H := H1
                              clear H1
                              simp only [Option.some.injEq, Prod.mk.injEq] at H
                              obtain ⟨rfl, rfl, rfl, rfl, rfl⟩ := H
                              have hnb55 := NB134_121.out
                              have hnc55 := NB121_134.out
                              have hcz56_0 : wc.cell? ⟨gb134, 0, none⟩ = some (.int .i64 t130) := (blk_cell BK134.out 0).trans rfl
                              have hcz56_1 : wc.cell? ⟨gb134, 1, none⟩ = some (.int .i64 t132) := (blk_cell BK134.out 1).trans rfl
                              have hcz56_2 : wc.cell? ⟨gb134, 2, none⟩ = some (.string (rdOf ByteArray.empty t122 1)) := (blk_cell BK134.out 2).trans rfl
                              have hcz56_3 : wc.cell? ⟨gb134, 3, none⟩ = some (.bool false) := (blk_cell BK134.out 3).trans rfl
                              have hfz56_0 := blk_frozen BK134.out 0
                              have hfz56_1 := blk_frozen BK134.out 1
                              have hfz56_2 := blk_frozen BK134.out 2
                              have hfz56_3 := blk_frozen BK134.out 3
                              try go_wp2
                              have n0_ : Aside0 (((wc.setCell ⟨gb134, 2, none⟩ (.string ((rdOf ByteArray.empty t122 1).extract 0 ((ji39) : Int).toNat))).setCell ⟨gb134, 3, none⟩ (.bool true)).heap[gb121]? = some (.cells #[.int .i64 0, .int .i64 0, .string (⟨#[]⟩ : ByteArray), .bool false] 29 (0, 0))) := ⟨by (with_reducible repeat (first | refine blk_drewN ?_ _ | refine blk_drew ?_ | refine blk_alloc ?_ _)); refine blk_far ?_ NB121_134.out _; (with_reducible repeat (first | refine blk_drewN ?_ _ | refine blk_drew ?_ | refine blk_alloc ?_ _)); refine blk_far ?_ NB121_134.out _; (with_reducible repeat (first | refine blk_drewN ?_ _ | refine blk_drew ?_ | refine blk_alloc ?_ _)); exact BK121.out⟩
                              have n1_ : Aside0 (((wc.setCell ⟨gb134, 2, none⟩ (.string ((rdOf ByteArray.empty t122 1).extract 0 ((ji39) : Int).toNat))).setCell ⟨gb134, 3, none⟩ (.bool true)).heap[gb134]? = some (.cells #[.int .i64 t130, .int .i64 t132, .string ((rdOf ByteArray.empty t122 1).extract 0 ((ji39) : Int).toNat), .bool true] 29 (0, 0))) := ⟨by (with_reducible repeat (first | refine blk_drewN ?_ _ | refine blk_drew ?_ | refine blk_alloc ?_ _)); refine blk_put (cs := #[.int .i64 t130, .int .i64 t132, .string ((rdOf ByteArray.empty t122 1).extract 0 ((ji39) : Int).toNat), .bool false]) ?_ 3 _ rfl; (with_reducible repeat (first | refine blk_drewN ?_ _ | refine blk_drew ?_ | refine blk_alloc ?_ _)); refine blk_put (cs := #[.int .i64 t130, .int .i64 t132, .string (rdOf ByteArray.empty t122 1), .bool false]) ?_ 2 _ rfl; (with_reducible repeat (first | refine blk_drewN ?_ _ | refine blk_drew ?_ | refine blk_alloc ?_ _)); exact BK134.out⟩
                              have n2_ : Aside0 (Below w.heap.size w ((wc.setCell ⟨gb134, 2, none⟩ (.string ((rdOf ByteArray.empty t122 1).extract 0 ((ji39) : Int).toNat))).setCell ⟨gb134, 3, none⟩ (.bool true))) := ⟨by repeat (first | (with_reducible first | exact HB.out | apply below_alloc | apply pw_below_drewN | apply below_drew1 | refine below_set ?_ GE121.out | refine below_set ?_ GE134.out) | exact HB.out)⟩
                              (try clear BK121)
                              (try clear BK134)
                              (try clear HB)
                              generalize ((wc.setCell ⟨gb134, 2, none⟩ (.string ((rdOf ByteArray.empty t122 1).extract 0 ((ji39) : Int).toNat))).setCell ⟨gb134, 3, none⟩ (.bool true)) = w57 at n0_ n1_ n2_ ⊢
                              have BK121 := n0_
                              have BK134 := n1_
                              have HB := n2_
                              clear n0_ n1_ n2_
                              have n0_ := Aside0.mk (blk_drew BK121.out)
                              have n1_ := Aside0.mk (blk_drew BK134.out)
                              have n2_ := Aside0.mk (below_drew1 HB.out)
                              clear BK121
                              clear BK134
                              clear HB
                              have BK121 := n0_
                              have BK134 := n1_
                              have HB := n2_
                              clear n0_ n1_ n2_
                              refine start_ (n := 11) (S := fun w' => w'.cell? ⟨gb134, 0, none⟩ = some (.int .i64 t130) ∧ w'.cell? ⟨gb134, 1, none⟩ = some (.int .i64 t132) ∧ w'.cell? ⟨gb134, 2, none⟩ = some (.string ((rdOf ByteArray.empty t122 1).extract 0 ((ji39) : Int).toNat)) ∧ w'.cell? ⟨gb134, 3, none⟩ = some (.bool true)) (ds := []) #[false, false, false, false, false, false, false, false, false, false, false] (by kernel_rfl) rfl rfl ⟨(blk_cell BK134.out 0).trans rfl, (blk_cell BK134.out 1).trans rfl, (blk_cell BK134.out 2).trans rfl, (blk_cell BK134.out 3).trans rfl⟩ (fun hHeld => ?_); refine with_tabW spec_miParse.tab12 spec_miParse.bits12 (fun HT_ HW_ => ?_)
                              generalize w57.drew = w58 at BK121 BK134 HB hHeld ⊢
                              refine take_ (i := 0) (N := some 59) (v := ?_) (a' := ?_) #[true, false, false, false, false, false, false, false, false, false, false] rfl rfl (take_ofW HT_.out HW_.out (by kernel_rfl)) (fun _ _ _ h => h) (Or.inl ⟨by rfl, ?_⟩) hHeld ?_ ?_
                              rotate_left
                              · rintro w' ⟨s0, s1, s2, s3⟩
                                go_simp
                                with_reducible rfl
                              rotate_left
                              · simp only [Act.put, List.setIfInBounds_toArray, List.set_cons_zero, List.set_cons_succ, i64_w, i32_w]
                                rfl
                              refine take_ (i := 1) (N := some 60) (v := ?_) (a' := ?_) #[true, true, false, false, false, false, false, false, false, false, false] rfl rfl (take_ofW HT_.out HW_.out (by kernel_rfl)) (fun _ _ _ h => h) (Or.inl ⟨by rfl, ?_⟩) hHeld ?_ ?_
                              rotate_left
                              · rintro w' ⟨s0, s1, s2, s3⟩
                                go_simp
                                with_reducible rfl
                              rotate_left
                              · simp only [Act.put, List.setIfInBounds_toArray, List.set_cons_zero, List.set_cons_succ, i64_w, i32_w]
                                rfl
                              refine one_ (i := 2) (N := some 61) #[true, true, true, false, false, false, false, false, false, false, false] rfl rfl (one_of HT_.out (by kernel_rfl)) (by decide) (fun K hK => ?_)
                              refine goes_ Tryd.func24 (by kernel_rfl) rfl #[.agg #[.int .i64 t130, .int .i64 t132, .string ((rdOf ByteArray.empty t122 1).extract 0 ((ji39) : Int).toNat), .bool true]] (by rfl) rfl rfl (by (try simp only [List.map_toArray, List.map_cons, List.map_nil]); first | done | (simp only [hji39]; rfl) | rfl | (simp only [List.length_drop, List.length_take]; rfl)) ?_
                              with_reducible refine (spec_miGood.calls kj17 t130 t132 ((rdOf ByteArray.empty t122 1).extract 0 ((ji39) : Int).toNat) true false _ A42.out).mono ?_
                              rintro e w59 ⟨rfl, hb⟩
                              refine ⟨_, rfl, ?_⟩
                              have n0_ := Aside0.mk (blk_below (g := gb121) (o := .cells #[.int .i64 0, .int .i64 0, .string (⟨#[]⟩ : ByteArray), .bool false] 29 (0, 0)) (XSq.bq BK121) hb)
                              have n1_ := Aside0.mk (blk_below (g := gb134) (o := .cells #[.int .i64 t130, .int .i64 t132, .string ((rdOf ByteArray.empty t122 1).extract 0 ((ji39) : Int).toNat), .bool true] 29 (0, 0)) (XSq.bq BK134) hb)
                              have n2_ := Aside0.mk (below_step (XSq.bB HB) hb)
                              clear BK121
                              clear BK134
                              clear HB
                              have BK121 := n0_
                              have BK134 := n1_
                              have HB := n2_
                              clear n0_ n1_ n2_
                              (try clear hb)
                              (try clear hb2)
                              (try clear hk)
                              (try clear hi)
                              refine hK.out _ _ ⟨(blk_cell BK134.out 0).trans rfl, (blk_cell BK134.out 1).trans rfl, (blk_cell BK134.out 2).trans rfl, (blk_cell BK134.out 3).trans rfl⟩ (fun hHeld => ?_)
                              clear hK K
                              refine norm_ (a' := ?_) ?_ ?_
                              rotate_left
                              · show Act.put _ (some 61) _ = _
                                simp only [Act.put, List.setIfInBounds_toArray, List.set_cons_zero, List.set_cons_succ, i64_w, i32_w]
                                rfl
                              refine pure_ (i := 3) (N := some 62) (v := ?_) (a' := ?_) #[true, true, true, true, false, false, false, false, false, false, false] rfl rfl (any_of HT_.out (by kernel_rfl)) (fun _ _ _ h => h) (Or.inl ⟨by rfl, ?_⟩) ?_ ?_
                              rotate_left
                              · intro w'
                                go_simp
                                with_reducible rfl
                              rotate_left
                              · simp only [Act.put, List.setIfInBounds_toArray, List.set_cons_zero, List.set_cons_succ, i64_w, i32_w]
                                rfl
                              refine pure_ (i := 4) (N := some 63) (v := undef) (a' := ?_) #[true, true, true, true, true, false, false, false, false, false, false] rfl rfl (any_of HT_.out (by kernel_rfl)) (fun _ _ _ h => h) (Or.inr ⟨by rfl, rfl⟩) ?_ ?_
                              rotate_left
                              · simp only [Act.put, List.setIfInBounds_toArray, List.set_cons_zero, List.set_cons_succ, i64_w, i32_w]
                                rfl
                              refine pure_ (i := 5) (N := some 64) (v := undef) (a' := ?_) #[true, true, true, true, true, true, false, false, false, false, false] rfl rfl (any_of HT_.out (by kernel_rfl)) (fun _ _ _ h => h) (Or.inr ⟨by rfl, rfl⟩) ?_ ?_
                              rotate_left
                              · simp only [Act.put, List.setIfInBounds_toArray, List.set_cons_zero, List.set_cons_succ, i64_w, i32_w]
                                rfl
                              refine pure_ (i := 6) (N := some 65) (v := undef) (a' := ?_) #[true, true, true, true, true, true, true, false, false, false, false] rfl rfl (any_of HT_.out (by kernel_rfl)) (fun _ _ _ h => h) (Or.inr ⟨by rfl, rfl⟩) ?_ ?_
                              rotate_left
                              · simp only [Act.put, List.setIfInBounds_toArray, List.set_cons_zero, List.set_cons_succ, i64_w, i32_w]
                                rfl
                              refine pure_ (i := 7) (N := some 66) (v := undef) (a' := ?_) #[true, true, true, true, true, true, true, true, false, false, false] rfl rfl (any_of HT_.out (by kernel_rfl)) (fun _ _ _ h => h) (Or.inr ⟨by rfl, rfl⟩) ?_ ?_
                              rotate_left
                              · simp only [Act.put, List.setIfInBounds_toArray, List.set_cons_zero, List.set_cons_succ, i64_w, i32_w]
                                rfl
                              refine pure_ (i := 8) (N := some 67) (v := ?_) (a' := ?_) #[true, true, true, true, true, true, true, true, true, false, false] rfl rfl (any_of HT_.out (by kernel_rfl)) (fun _ _ _ h => h) (Or.inl ⟨by rfl, ?_⟩) ?_ ?_
                              rotate_left
                              · intro w'
                                go_simp
                                with_reducible rfl
                              rotate_left
                              · simp only [Act.put, List.setIfInBounds_toArray, List.set_cons_zero, List.set_cons_succ, i64_w, i32_w]
                                rfl
                              refine one_ (i := 9) (N := none) #[true, true, true, true, true, true, true, true, true, true, false] rfl rfl (one_of HT_.out (by kernel_rfl)) (by decide) (fun K hK => ?_)
                              have hs60 : w59.cell? ⟨gb121, 0, none⟩ = some (.int .i64 0) := (blk_cell BK121.out 0).trans rfl
                              have hfs60 := blk_frozen BK121.out 0
                              have hns60_1 := NB134_121.out
                              have hms60_1 := NB121_134.out
                              have hs61 : w59.cell? ⟨gb121, 1, none⟩ = some (.int .i64 0) := (blk_cell BK121.out 1).trans rfl
                              have hfs61 := blk_frozen BK121.out 1
                              have hns61_1 := NB134_121.out
                              have hms61_1 := NB121_134.out
                              have hs62 : w59.cell? ⟨gb121, 2, none⟩ = some (.string (⟨#[]⟩ : ByteArray)) := (blk_cell BK121.out 2).trans rfl
                              have hfs62 := blk_frozen BK121.out 2
                              have hns62_1 := NB134_121.out
                              have hms62_1 := NB121_134.out
                              have hs63 : w59.cell? ⟨gb121, 3, none⟩ = some (.bool false) := (blk_cell BK121.out 3).trans rfl
                              have hfs63 := blk_frozen BK121.out 3
                              have hns63_1 := NB134_121.out
                              have hms63_1 := NB121_134.out
                              refine skip_ (w1 := ?_) (by rfl) rfl ?_ ?_
                              rotate_left
                              · go_simp
                                rfl
                              refine hK.out _ _ ⟨((cell_far (p := ⟨gb121, _, none⟩) NB134_121.out _).trans (((cell_far (p := ⟨gb121, _, none⟩) NB134_121.out _).trans (((cell_far (p := ⟨gb121, _, none⟩) NB134_121.out _).trans (((cell_far (p := ⟨gb121, _, none⟩) NB134_121.out _).trans (hHeld.1)))))))), ((cell_far (p := ⟨gb121, _, none⟩) NB134_121.out _).trans (((cell_far (p := ⟨gb121, _, none⟩) NB134_121.out _).trans (((cell_far (p := ⟨gb121, _, none⟩) NB134_121.out _).trans (((cell_far (p := ⟨gb121, _, none⟩) NB134_121.out _).trans (hHeld.2.1)))))))), ((cell_far (p := ⟨gb121, _, none⟩) NB134_121.out _).trans (((cell_far (p := ⟨gb121, _, none⟩) NB134_121.out _).trans (((cell_far (p := ⟨gb121, _, none⟩) NB134_121.out _).trans (((cell_far (p := ⟨gb121, _, none⟩) NB134_121.out _).trans (hHeld.2.2.1)))))))), ((cell_far (p := ⟨gb121, _, none⟩) NB134_121.out _).trans (((cell_far (p := ⟨gb121, _, none⟩) NB134_121.out _).trans (((cell_far (p := ⟨gb121, _, none⟩) NB134_121.out _).trans (((cell_far (p := ⟨gb121, _, none⟩) NB134_121.out _).trans (hHeld.2.2.2))))))))⟩ (fun hHeld => ?_)
                              clear hK K
                              refine pure_ (i := 10) (N := some 3) (v := ?_) (a' := ?_) #[true, true, true, true, true, true, true, true, true, true, true] rfl rfl (any_of HT_.out (by kernel_rfl)) (fun _ _ _ h => h) (Or.inl ⟨by rfl, ?_⟩) ?_ ?_
                              rotate_left
                              · intro w'
                                go_simp
                                with_reducible rfl
                              rotate_left
                              · simp only [Act.put, List.setIfInBounds_toArray, List.set_cons_zero, List.set_cons_succ, i64_w, i32_w]
                                rfl
                              refine done_ (done_of HT_.out (by kernel_rfl)) ?_
                              try go_wp2
                              refine bodyPost_ret (results_ct rfl _ _ gb121 29 #[.int .i64 t130, .int .i64 t132, .string ((rdOf ByteArray.empty t122 1).extract 0 ((ji39) : Int).toNat), .bool true] (0, 0) _ rfl (by (with_reducible repeat (first | refine blk_drewN ?_ _ | refine blk_drew ?_ | refine blk_alloc ?_ _)); refine blk_put (cs := #[.int .i64 t130, .int .i64 t132, .string ((rdOf ByteArray.empty t122 1).extract 0 ((ji39) : Int).toNat), .bool false]) ?_ 3 _ rfl; (with_reducible repeat (first | refine blk_drewN ?_ _ | refine blk_drew ?_ | refine blk_alloc ?_ _)); refine blk_put (cs := #[.int .i64 t130, .int .i64 t132, .string (⟨#[]⟩ : ByteArray), .bool false]) ?_ 2 _ rfl; (with_reducible repeat (first | refine blk_drewN ?_ _ | refine blk_drew ?_ | refine blk_alloc ?_ _)); refine blk_put (cs := #[.int .i64 t130, .int .i64 0, .string (⟨#[]⟩ : ByteArray), .bool false]) ?_ 1 _ rfl; (with_reducible repeat (first | refine blk_drewN ?_ _ | refine blk_drew ?_ | refine blk_alloc ?_ _)); refine blk_put (cs := #[.int .i64 0, .int .i64 0, .string (⟨#[]⟩ : ByteArray), .bool false]) ?_ 0 _ rfl; (with_reducible repeat (first | refine blk_drewN ?_ _ | refine blk_drew ?_ | refine blk_alloc ?_ _)); exact BK121.out) Tryd.underlying29 rfl (by kernel_rfl)) rfl ?_
                              exact ⟨by first | rfl | (simp [errW_none, errW_some] <;> rfl) | (simp only [← hji39]; first | rfl | (simp [errW_none, errW_some] <;> rfl)) | (simp [*, errW_none, errW_some] <;> rfl), by repeat (first | (with_reducible first | exact HB.out | apply below_alloc | apply pw_below_drewN | apply below_drew1 | refine below_set ?_ GE121.out | refine below_set ?_ GE134.out) | exact HB.out)⟩
                          · rw [if_neg c41] at H
                            exact absurd H (by simp)
                        · rw [if_neg c40] at H
                          exact absurd H (by simp)
                      · replace c38 := Bool.eq_false_iff.mpr c38
                        subst c38
                        have H1 : ((spec_miGood.f kj17 t130 t132 (rdOf ByteArray.empty t122 1) false).bind fun t137 => (if t137 = true then ((spec_miText.f kj17 t130 t132 (rdOf ByteArray.empty t122 1) false).bind fun t138 => (some (t130, t132, (rdOf ByteArray.empty t122 1), false, (t138.toList == a0.toList)))) else (some (t130, t132, (rdOf ByteArray.empty t122 1), false, false)))) = some (r1, r2, r3, r4, r5) := by rw [if_neg (show ¬ (false = true) by decide)] at H; exact H
                        clear H
                        have H := H1
                        clear H1
                        replace H := Option.bind_eq_some_iff.mp H
                        obtain ⟨t137, A640, H⟩ := H
                        replace H : (if t137 = true then ((spec_miText.f kj17 t130 t132 (rdOf ByteArray.empty t122 1) false).bind fun t138 => (some (t130, t132, (rdOf ByteArray.empty t122 1), false, (t138.toList == a0.toList)))) else (some (t130, t132, (rdOf ByteArray.empty t122 1), false, false))) = some (r1, r2, r3, r4, r5) := H
                        have A64 := Aside0.mk A640
                        clear A640
                        by_cases c65 : t137 = true
                        · subst c65
                          have H1 : ((spec_miText.f kj17 t130 t132 (rdOf ByteArray.empty t122 1) false).bind fun t138 => (some (t130, t132, (rdOf ByteArray.empty t122 1), false, (t138.toList == a0.toList)))) = some (r1, r2, r3, r4, r5) := by rw [if_pos rfl] at H; exact H
                          clear H
                          have H := H1
                          clear H1
                          replace H := Option.bind_eq_some_iff.mp H
                          obtain ⟨t138, A660, H⟩ := H
                          replace H : (some (t130, t132, (rdOf ByteArray.empty t122 1), false, (t138.toList == a0.toList))) = some (r1, r2, r3, r4, r5) := H
                          have A66 := Aside0.mk A660
                          clear A660
                          simp only [Option.some.injEq, Prod.mk.injEq] at H
                          obtain ⟨rfl, rfl, rfl, rfl, rfl⟩ := H
                          try go_wp2
                          have n0_ := Aside0.mk (blk_drew BK121.out)
                          have n1_ := Aside0.mk (blk_drew BK134.out)
                          have n2_ := Aside0.mk (below_drew1 HB.out)
                          clear BK121
                          clear BK134
                          clear HB
                          have BK121 := n0_
                          have BK134 := n1_
                          have HB := n2_
                          clear n0_ n1_ n2_
                          refine start_ (n := 11) (S := fun w' => w'.cell? ⟨gb134, 0, none⟩ = some (.int .i64 t130) ∧ w'.cell? ⟨gb134, 1, none⟩ = some (.int .i64 t132) ∧ w'.cell? ⟨gb134, 2, none⟩ = some (.string (rdOf ByteArray.empty t122 1)) ∧ w'.cell? ⟨gb134, 3, none⟩ = some (.bool false)) (ds := []) #[false, false, false, false, false, false, false, false, false, false, false] (by kernel_rfl) rfl rfl ⟨(blk_cell BK134.out 0).trans rfl, (blk_cell BK134.out 1).trans rfl, (blk_cell BK134.out 2).trans rfl, (blk_cell BK134.out 3).trans rfl⟩ (fun hHeld => ?_); refine with_tabW spec_miParse.tab12 spec_miParse.bits12 (fun HT_ HW_ => ?_)
                          generalize wc.drew = w67 at BK121 BK134 HB hHeld ⊢
                          refine take_ (i := 0) (N := some 59) (v := ?_) (a' := ?_) #[true, false, false, false, false, false, false, false, false, false, false] rfl rfl (take_ofW HT_.out HW_.out (by kernel_rfl)) (fun _ _ _ h => h) (Or.inl ⟨by rfl, ?_⟩) hHeld ?_ ?_
                          rotate_left
                          · rintro w' ⟨s0, s1, s2, s3⟩
                            go_simp
                            with_reducible rfl
                          rotate_left
                          · simp only [Act.put, List.setIfInBounds_toArray, List.set_cons_zero, List.set_cons_succ, i64_w, i32_w]
                            rfl
                          refine take_ (i := 1) (N := some 60) (v := ?_) (a' := ?_) #[true, true, false, false, false, false, false, false, false, false, false] rfl rfl (take_ofW HT_.out HW_.out (by kernel_rfl)) (fun _ _ _ h => h) (Or.inl ⟨by rfl, ?_⟩) hHeld ?_ ?_
                          rotate_left
                          · rintro w' ⟨s0, s1, s2, s3⟩
                            go_simp
                            with_reducible rfl
                          rotate_left
                          · simp only [Act.put, List.setIfInBounds_toArray, List.set_cons_zero, List.set_cons_succ, i64_w, i32_w]
                            rfl
                          refine one_ (i := 2) (N := some 61) #[true, true, true, false, false, false, false, false, false, false, false] rfl rfl (one_of HT_.out (by kernel_rfl)) (by decide) (fun K hK => ?_)
                          refine goes_ Tryd.func24 (by kernel_rfl) rfl #[.agg #[.int .i64 t130, .int .i64 t132, .string (rdOf ByteArray.empty t122 1), .bool false]] (by rfl) rfl rfl (by (try simp only [List.map_toArray, List.map_cons, List.map_nil]); first | done | rfl | (simp only [List.length_drop, List.length_take]; rfl)) ?_
                          with_reducible refine (spec_miGood.calls kj17 t130 t132 (rdOf ByteArray.empty t122 1) false true _ A64.out).mono ?_
                          rintro e w68 ⟨rfl, hb⟩
                          refine ⟨_, rfl, ?_⟩
                          have n0_ := Aside0.mk (blk_below (g := gb121) (o := .cells #[.int .i64 0, .int .i64 0, .string (⟨#[]⟩ : ByteArray), .bool false] 29 (0, 0)) (XSq.bq BK121) hb)
                          have n1_ := Aside0.mk (blk_below (g := gb134) (o := .cells #[.int .i64 t130, .int .i64 t132, .string (rdOf ByteArray.empty t122 1), .bool false] 29 (0, 0)) (XSq.bq BK134) hb)
                          have n2_ := Aside0.mk (below_step (XSq.bB HB) hb)
                          clear BK121
                          clear BK134
                          clear HB
                          have BK121 := n0_
                          have BK134 := n1_
                          have HB := n2_
                          clear n0_ n1_ n2_
                          (try clear hb)
                          (try clear hb2)
                          (try clear hk)
                          (try clear hi)
                          refine hK.out _ _ ⟨(blk_cell BK134.out 0).trans rfl, (blk_cell BK134.out 1).trans rfl, (blk_cell BK134.out 2).trans rfl, (blk_cell BK134.out 3).trans rfl⟩ (fun hHeld => ?_)
                          clear hK K
                          refine norm_ (a' := ?_) ?_ ?_
                          rotate_left
                          · show Act.put _ (some 61) _ = _
                            simp only [Act.put, List.setIfInBounds_toArray, List.set_cons_zero, List.set_cons_succ, i64_w, i32_w]
                            rfl
                          refine pure_ (i := 3) (N := some 62) (v := ?_) (a' := ?_) #[true, true, true, true, false, false, false, false, false, false, false] rfl rfl (any_of HT_.out (by kernel_rfl)) (fun _ _ _ h => h) (Or.inl ⟨by rfl, ?_⟩) ?_ ?_
                          rotate_left
                          · intro w'
                            go_simp
                            with_reducible rfl
                          rotate_left
                          · simp only [Act.put, List.setIfInBounds_toArray, List.set_cons_zero, List.set_cons_succ, i64_w, i32_w]
                            rfl
                          refine pure_ (i := 6) (N := some 65) (v := ?_) (a' := ?_) #[true, true, true, true, false, false, true, false, false, false, false] rfl rfl (any_of HT_.out (by kernel_rfl)) (fun _ _ _ h => h) (Or.inl ⟨by rfl, ?_⟩) ?_ ?_
                          rotate_left
                          · intro w'
                            go_simp
                            with_reducible rfl
                          rotate_left
                          · simp only [Act.put, List.setIfInBounds_toArray, List.set_cons_zero, List.set_cons_succ, i64_w, i32_w]
                            rfl
                          refine take_ (i := 4) (N := some 63) (v := ?_) (a' := ?_) #[true, true, true, true, true, false, true, false, false, false, false] rfl rfl (take_ofW HT_.out HW_.out (by kernel_rfl)) (fun _ _ _ h => h) (Or.inl ⟨by rfl, ?_⟩) hHeld ?_ ?_
                          rotate_left
                          · rintro w' ⟨s0, s1, s2, s3⟩
                            go_simp
                            with_reducible rfl
                          rotate_left
                          · simp only [Act.put, List.setIfInBounds_toArray, List.set_cons_zero, List.set_cons_succ, i64_w, i32_w]
                            rfl
                          refine one_ (i := 5) (N := some 64) #[true, true, true, true, true, true, true, false, false, false, false] rfl rfl (one_of HT_.out (by kernel_rfl)) (by decide) (fun K hK => ?_)
                          refine goes_ Tryd.func43 (by kernel_rfl) rfl #[.agg #[.int .i64 t130, .int .i64 t132, .string (rdOf ByteArray.empty t122 1), .bool false]] (by rfl) rfl rfl (by (try simp only [List.map_toArray, List.map_cons, List.map_nil]); first | done | rfl | (simp only [List.length_drop, List.length_take]; rfl)) ?_
                          with_reducible refine (spec_miText.calls kj17 t130 t132 (rdOf ByteArray.empty t122 1) false t138 _ A66.out).mono ?_
                          rintro e w69 ⟨rfl, hb⟩
                          refine ⟨_, rfl, ?_⟩
                          have n0_ := Aside0.mk (blk_below (g := gb121) (o := .cells #[.int .i64 0, .int .i64 0, .string (⟨#[]⟩ : ByteArray), .bool false] 29 (0, 0)) (XSq.bq BK121) hb)
                          have n1_ := Aside0.mk (blk_below (g := gb134) (o := .cells #[.int .i64 t130, .int .i64 t132, .string (rdOf ByteArray.empty t122 1), .bool false] 29 (0, 0)) (XSq.bq BK134) hb)
                          have n2_ := Aside0.mk (below_step (XSq.bB HB) hb)
                          clear BK121
                          clear BK134
                          clear HB
                          have BK121 := n0_
                          have BK134 := n1_
                          have HB := n2_
                          clear n0_ n1_ n2_
                          (try clear hb)
                          (try clear hb2)
                          (try clear hk)
                          (try clear hi)
                          refine hK.out _ _ ⟨(blk_cell BK134.out 0).trans rfl, (blk_cell BK134.out 1).trans rfl, (blk_cell BK134.out 2).trans rfl, (blk_cell BK134.out 3).trans rfl⟩ (fun hHeld => ?_)
                          clear hK K
                          refine norm_ (a' := ?_) ?_ ?_
                          rotate_left
                          · show Act.put _ (some 64) _ = _
                            simp only [Act.put, List.setIfInBounds_toArray, List.set_cons_zero, List.set_cons_succ, i64_w, i32_w]
                            rfl
                          refine pure_ (i := 7) (N := some 66) (v := ?_) (a' := ?_) #[true, true, true, true, true, true, true, true, false, false, false] rfl rfl (any_of HT_.out (by kernel_rfl)) (fun _ _ _ h => h) (Or.inl ⟨by rfl, ?_⟩) ?_ ?_
                          rotate_left
                          · intro w'
                            go_simp
                            with_reducible rfl
                          rotate_left
                          · simp only [Act.put, List.setIfInBounds_toArray, List.set_cons_zero, List.set_cons_succ, i64_w, i32_w]
                            rfl
                          refine pure_ (i := 8) (N := some 67) (v := ?_) (a' := ?_) #[true, true, true, true, true, true, true, true, true, false, false] rfl rfl (any_of HT_.out (by kernel_rfl)) (fun _ _ _ h => h) (Or.inl ⟨by rfl, ?_⟩) ?_ ?_
                          rotate_left
                          · intro w'
                            go_simp
                            with_reducible rfl
                          rotate_left
                          · simp only [Act.put, List.setIfInBounds_toArray, List.set_cons_zero, List.set_cons_succ, i64_w, i32_w]
                            rfl
                          refine one_ (i := 9) (N := none) #[true, true, true, true, true, true, true, true, true, true, false] rfl rfl (one_of HT_.out (by kernel_rfl)) (by decide) (fun K hK => ?_)
                          have hs70 : w69.cell? ⟨gb121, 0, none⟩ = some (.int .i64 0) := (blk_cell BK121.out 0).trans rfl
                          have hfs70 := blk_frozen BK121.out 0
                          have hns70_1 := NB134_121.out
                          have hms70_1 := NB121_134.out
                          have hs71 : w69.cell? ⟨gb121, 1, none⟩ = some (.int .i64 0) := (blk_cell BK121.out 1).trans rfl
                          have hfs71 := blk_frozen BK121.out 1
                          have hns71_1 := NB134_121.out
                          have hms71_1 := NB121_134.out
                          have hs72 : w69.cell? ⟨gb121, 2, none⟩ = some (.string (⟨#[]⟩ : ByteArray)) := (blk_cell BK121.out 2).trans rfl
                          have hfs72 := blk_frozen BK121.out 2
                          have hns72_1 := NB134_121.out
                          have hms72_1 := NB121_134.out
                          have hs73 : w69.cell? ⟨gb121, 3, none⟩ = some (.bool false) := (blk_cell BK121.out 3).trans rfl
                          have hfs73 := blk_frozen BK121.out 3
                          have hns73_1 := NB134_121.out
                          have hms73_1 := NB121_134.out
                          refine skip_ (w1 := ?_) (by rfl) rfl ?_ ?_
                          rotate_left
                          · go_simp
                            rfl
                          refine hK.out _ _ ⟨((cell_far (p := ⟨gb121, _, none⟩) NB134_121.out _).trans (((cell_far (p := ⟨gb121, _, none⟩) NB134_121.out _).trans (((cell_far (p := ⟨gb121, _, none⟩) NB134_121.out _).trans (((cell_far (p := ⟨gb121, _, none⟩) NB134_121.out _).trans (hHeld.1)))))))), ((cell_far (p := ⟨gb121, _, none⟩) NB134_121.out _).trans (((cell_far (p := ⟨gb121, _, none⟩) NB134_121.out _).trans (((cell_far (p := ⟨gb121, _, none⟩) NB134_121.out _).trans (((cell_far (p := ⟨gb121, _, none⟩) NB134_121.out _).trans (hHeld.2.1)))))))), ((cell_far (p := ⟨gb121, _, none⟩) NB134_121.out _).trans (((cell_far (p := ⟨gb121, _, none⟩) NB134_121.out _).trans (((cell_far (p := ⟨gb121, _, none⟩) NB134_121.out _).trans (((cell_far (p := ⟨gb121, _, none⟩) NB134_121.out _).trans (hHeld.2.2.1)))))))), ((cell_far (p := ⟨gb121, _, none⟩) NB134_121.out _).trans (((cell_far (p := ⟨gb121, _, none⟩) NB134_121.out _).trans (((cell_far (p := ⟨gb121, _, none⟩) NB134_121.out _).trans (((cell_far (p := ⟨gb121, _, none⟩) NB134_121.out _).trans (hHeld.2.2.2))))))))⟩ (fun hHeld => ?_)
                          clear hK K
                          refine pure_ (i := 10) (N := some 3) (v := ?_) (a' := ?_) #[true, true, true, true, true, true, true, true, true, true, true] rfl rfl (any_of HT_.out (by kernel_rfl)) (fun _ _ _ h => h) (Or.inl ⟨by rfl, ?_⟩) ?_ ?_
                          rotate_left
                          · intro w'
                            go_simp
                            with_reducible rfl
                          rotate_left
                          · simp only [Act.put, List.setIfInBounds_toArray, List.set_cons_zero, List.set_cons_succ, i64_w, i32_w]
                            rfl
                          refine done_ (done_of HT_.out (by kernel_rfl)) ?_
                          try go_wp2
                          refine bodyPost_ret (results_ct rfl _ _ gb121 29 #[.int .i64 t130, .int .i64 t132, .string (rdOf ByteArray.empty t122 1), .bool false] (0, 0) _ rfl (by (with_reducible repeat (first | refine blk_drewN ?_ _ | refine blk_drew ?_ | refine blk_alloc ?_ _)); refine blk_put (cs := #[.int .i64 t130, .int .i64 t132, .string (rdOf ByteArray.empty t122 1), .bool false]) ?_ 3 _ rfl; (with_reducible repeat (first | refine blk_drewN ?_ _ | refine blk_drew ?_ | refine blk_alloc ?_ _)); refine blk_put (cs := #[.int .i64 t130, .int .i64 t132, .string (⟨#[]⟩ : ByteArray), .bool false]) ?_ 2 _ rfl; (with_reducible repeat (first | refine blk_drewN ?_ _ | refine blk_drew ?_ | refine blk_alloc ?_ _)); refine blk_put (cs := #[.int .i64 t130, .int .i64 0, .string (⟨#[]⟩ : ByteArray), .bool false]) ?_ 1 _ rfl; (with_reducible repeat (first | refine blk_drewN ?_ _ | refine blk_drew ?_ | refine blk_alloc ?_ _)); refine blk_put (cs := #[.int .i64 0, .int .i64 0, .string (⟨#[]⟩ : ByteArray), .bool false]) ?_ 0 _ rfl; (with_reducible repeat (first | refine blk_drewN ?_ _ | refine blk_drew ?_ | refine blk_alloc ?_ _)); exact BK121.out) Tryd.underlying29 rfl (by kernel_rfl)) rfl ?_
                          exact ⟨by first | rfl | (simp [errW_none, errW_some] <;> rfl) | (simp [*, errW_none, errW_some] <;> rfl), by repeat (first | (with_reducible first | exact HB.out | apply below_alloc | apply pw_below_drewN | apply below_drew1 | refine below_set ?_ GE121.out | refine below_set ?_ GE134.out) | exact HB.out)⟩
                        · replace c65 := Bool.eq_false_iff.mpr c65
                          subst c65
                          have H1 : (some (t130, t132, (rdOf ByteArray.empty t122 1), false, false)) = some (r1, r2, r3, r4, r5) := by rw [if_neg (show ¬ (false = true) by decide)] at H; exact H
                          clear H
                          have H := H1
                          clear H1
                          simp only [Option.some.injEq, Prod.mk.injEq] at H
                          obtain ⟨rfl, rfl, rfl, rfl, rfl⟩ := H
                          try go_wp2
                          have n0_ := Aside0.mk (blk_drew BK121.out)
                          have n1_ := Aside0.mk (blk_drew BK134.out)
                          have n2_ := Aside0.mk (below_drew1 HB.out)
                          clear BK121
                          clear BK134
                          clear HB
                          have BK121 := n0_
                          have BK134 := n1_
                          have HB := n2_
                          clear n0_ n1_ n2_
                          refine start_ (n := 11) (S := fun w' => w'.cell? ⟨gb134, 0, none⟩ = some (.int .i64 t130) ∧ w'.cell? ⟨gb134, 1, none⟩ = some (.int .i64 t132) ∧ w'.cell? ⟨gb134, 2, none⟩ = some (.string (rdOf ByteArray.empty t122 1)) ∧ w'.cell? ⟨gb134, 3, none⟩ = some (.bool false)) (ds := []) #[false, false, false, false, false, false, false, false, false, false, false] (by kernel_rfl) rfl rfl ⟨(blk_cell BK134.out 0).trans rfl, (blk_cell BK134.out 1).trans rfl, (blk_cell BK134.out 2).trans rfl, (blk_cell BK134.out 3).trans rfl⟩ (fun hHeld => ?_); refine with_tabW spec_miParse.tab12 spec_miParse.bits12 (fun HT_ HW_ => ?_)
                          generalize wc.drew = w74 at BK121 BK134 HB hHeld ⊢
                          refine take_ (i := 0) (N := some 59) (v := ?_) (a' := ?_) #[true, false, false, false, false, false, false, false, false, false, false] rfl rfl (take_ofW HT_.out HW_.out (by kernel_rfl)) (fun _ _ _ h => h) (Or.inl ⟨by rfl, ?_⟩) hHeld ?_ ?_
                          rotate_left
                          · rintro w' ⟨s0, s1, s2, s3⟩
                            go_simp
                            with_reducible rfl
                          rotate_left
                          · simp only [Act.put, List.setIfInBounds_toArray, List.set_cons_zero, List.set_cons_succ, i64_w, i32_w]
                            rfl
                          refine take_ (i := 1) (N := some 60) (v := ?_) (a' := ?_) #[true, true, false, false, false, false, false, false, false, false, false] rfl rfl (take_ofW HT_.out HW_.out (by kernel_rfl)) (fun _ _ _ h => h) (Or.inl ⟨by rfl, ?_⟩) hHeld ?_ ?_
                          rotate_left
                          · rintro w' ⟨s0, s1, s2, s3⟩
                            go_simp
                            with_reducible rfl
                          rotate_left
                          · simp only [Act.put, List.setIfInBounds_toArray, List.set_cons_zero, List.set_cons_succ, i64_w, i32_w]
                            rfl
                          refine one_ (i := 2) (N := some 61) #[true, true, true, false, false, false, false, false, false, false, false] rfl rfl (one_of HT_.out (by kernel_rfl)) (by decide) (fun K hK => ?_)
                          refine goes_ Tryd.func24 (by kernel_rfl) rfl #[.agg #[.int .i64 t130, .int .i64 t132, .string (rdOf ByteArray.empty t122 1), .bool false]] (by rfl) rfl rfl (by (try simp only [List.map_toArray, List.map_cons, List.map_nil]); first | done | rfl | (simp only [List.length_drop, List.length_take]; rfl)) ?_
                          with_reducible refine (spec_miGood.calls kj17 t130 t132 (rdOf ByteArray.empty t122 1) false false _ A64.out).mono ?_
                          rintro e w75 ⟨rfl, hb⟩
                          refine ⟨_, rfl, ?_⟩
                          have n0_ := Aside0.mk (blk_below (g := gb121) (o := .cells #[.int .i64 0, .int .i64 0, .string (⟨#[]⟩ : ByteArray), .bool false] 29 (0, 0)) (XSq.bq BK121) hb)
                          have n1_ := Aside0.mk (blk_below (g := gb134) (o := .cells #[.int .i64 t130, .int .i64 t132, .string (rdOf ByteArray.empty t122 1), .bool false] 29 (0, 0)) (XSq.bq BK134) hb)
                          have n2_ := Aside0.mk (below_step (XSq.bB HB) hb)
                          clear BK121
                          clear BK134
                          clear HB
                          have BK121 := n0_
                          have BK134 := n1_
                          have HB := n2_
                          clear n0_ n1_ n2_
                          (try clear hb)
                          (try clear hb2)
                          (try clear hk)
                          (try clear hi)
                          refine hK.out _ _ ⟨(blk_cell BK134.out 0).trans rfl, (blk_cell BK134.out 1).trans rfl, (blk_cell BK134.out 2).trans rfl, (blk_cell BK134.out 3).trans rfl⟩ (fun hHeld => ?_)
                          clear hK K
                          refine norm_ (a' := ?_) ?_ ?_
                          rotate_left
                          · show Act.put _ (some 61) _ = _
                            simp only [Act.put, List.setIfInBounds_toArray, List.set_cons_zero, List.set_cons_succ, i64_w, i32_w]
                            rfl
                          refine pure_ (i := 3) (N := some 62) (v := ?_) (a' := ?_) #[true, true, true, true, false, false, false, false, false, false, false] rfl rfl (any_of HT_.out (by kernel_rfl)) (fun _ _ _ h => h) (Or.inl ⟨by rfl, ?_⟩) ?_ ?_
                          rotate_left
                          · intro w'
                            go_simp
                            with_reducible rfl
                          rotate_left
                          · simp only [Act.put, List.setIfInBounds_toArray, List.set_cons_zero, List.set_cons_succ, i64_w, i32_w]
                            rfl
                          refine pure_ (i := 4) (N := some 63) (v := undef) (a' := ?_) #[true, true, true, true, true, false, false, false, false, false, false] rfl rfl (any_of HT_.out (by kernel_rfl)) (fun _ _ _ h => h) (Or.inr ⟨by rfl, rfl⟩) ?_ ?_
                          rotate_left
                          · simp only [Act.put, List.setIfInBounds_toArray, List.set_cons_zero, List.set_cons_succ, i64_w, i32_w]
                            rfl
                          refine pure_ (i := 5) (N := some 64) (v := undef) (a' := ?_) #[true, true, true, true, true, true, false, false, false, false, false] rfl rfl (any_of HT_.out (by kernel_rfl)) (fun _ _ _ h => h) (Or.inr ⟨by rfl, rfl⟩) ?_ ?_
                          rotate_left
                          · simp only [Act.put, List.setIfInBounds_toArray, List.set_cons_zero, List.set_cons_succ, i64_w, i32_w]
                            rfl
                          refine pure_ (i := 6) (N := some 65) (v := undef) (a' := ?_) #[true, true, true, true, true, true, true, false, false, false, false] rfl rfl (any_of HT_.out (by kernel_rfl)) (fun _ _ _ h => h) (Or.inr ⟨by rfl, rfl⟩) ?_ ?_
                          rotate_left
                          · simp only [Act.put, List.setIfInBounds_toArray, List.set_cons_zero, List.set_cons_succ, i64_w, i32_w]
                            rfl
                          refine pure_ (i := 7) (N := some 66) (v := undef) (a' := ?_) #[true, true, true, true, true, true, true, true, false, false, false] rfl rfl (any_of HT_.out (by kernel_rfl)) (fun _ _ _ h => h) (Or.inr ⟨by rfl, rfl⟩) ?_ ?_
                          rotate_left
                          · simp only [Act.put, List.setIfInBounds_toArray, List.set_cons_zero, List.set_cons_succ, i64_w, i32_w]
                            rfl
                          refine pure_ (i := 8) (N := some 67) (v := ?_) (a' := ?_) #[true, true, true, true, true, true, true, true, true, false, false] rfl rfl (any_of HT_.out (by kernel_rfl)) (fun _ _ _ h => h) (Or.inl ⟨by rfl, ?_⟩) ?_ ?_
                          rotate_left
                          · intro w'
                            go_simp
                            with_reducible rfl
                          rotate_left
                          · simp only [Act.put, List.setIfInBounds_toArray, List.set_cons_zero, List.set_cons_succ, i64_w, i32_w]
                            rfl
                          refine one_ (i := 9) (N := none) #[true, true, true, true, true, true, true, true, true, true, false] rfl rfl (one_of HT_.out (by kernel_rfl)) (by decide) (fun K hK => ?_)
                          have hs76 : w75.cell? ⟨gb121, 0, none⟩ = some (.int .i64 0) := (blk_cell BK121.out 0).trans rfl
                          have hfs76 := blk_frozen BK121.out 0
                          have hns76_1 := NB134_121.out
                          have hms76_1 := NB121_134.out
                          have hs77 : w75.cell? ⟨gb121, 1, none⟩ = some (.int .i64 0) := (blk_cell BK121.out 1).trans rfl
                          have hfs77 := blk_frozen BK121.out 1
                          have hns77_1 := NB134_121.out
                          have hms77_1 := NB121_134.out
                          have hs78 : w75.cell? ⟨gb121, 2, none⟩ = some (.string (⟨#[]⟩ : ByteArray)) := (blk_cell BK121.out 2).trans rfl
                          have hfs78 := blk_frozen BK121.out 2
                          have hns78_1 := NB134_121.out
                          have hms78_1 := NB121_134.out
                          have hs79 : w75.cell? ⟨gb121, 3, none⟩ = some (.bool false) := (blk_cell BK121.out 3).trans rfl
                          have hfs79 := blk_frozen BK121.out 3
                          have hns79_1 := NB134_121.out
                          have hms79_1 := NB121_134.out
                          refine skip_ (w1 := ?_) (by rfl) rfl ?_ ?_
                          rotate_left
                          · go_simp
                            rfl
                          refine hK.out _ _ ⟨((cell_far (p := ⟨gb121, _, none⟩) NB134_121.out _).trans (((cell_far (p := ⟨gb121, _, none⟩) NB134_121.out _).trans (((cell_far (p := ⟨gb121, _, none⟩) NB134_121.out _).trans (((cell_far (p := ⟨gb121, _, none⟩) NB134_121.out _).trans (hHeld.1)))))))), ((cell_far (p := ⟨gb121, _, none⟩) NB134_121.out _).trans (((cell_far (p := ⟨gb121, _, none⟩) NB134_121.out _).trans (((cell_far (p := ⟨gb121, _, none⟩) NB134_121.out _).trans (((cell_far (p := ⟨gb121, _, none⟩) NB134_121.out _).trans (hHeld.2.1)))))))), ((cell_far (p := ⟨gb121, _, none⟩) NB134_121.out _).trans (((cell_far (p := ⟨gb121, _, none⟩) NB134_121.out _).trans (((cell_far (p := ⟨gb121, _, none⟩) NB134_121.out _).trans (((cell_far (p := ⟨gb121, _, none⟩) NB134_121.out _).trans (hHeld.2.2.1)))))))), ((cell_far (p := ⟨gb121, _, none⟩) NB134_121.out _).trans (((cell_far (p := ⟨gb121, _, none⟩) NB134_121.out _).trans (((cell_far (p := ⟨gb121, _, none⟩) NB134_121.out _).trans (((cell_far (p := ⟨gb121, _, none⟩) NB134_121.out _).trans (hHeld.2.2.2))))))))⟩ (fun hHeld => ?_)
                          clear hK K
                          refine pure_ (i := 10) (N := some 3) (v := ?_) (a' := ?_) #[true, true, true, true, true, true, true, true, true, true, true] rfl rfl (any_of HT_.out (by kernel_rfl)) (fun _ _ _ h => h) (Or.inl ⟨by rfl, ?_⟩) ?_ ?_
                          rotate_left
                          · intro w'
                            go_simp
                            with_reducible rfl
                          rotate_left
                          · simp only [Act.put, List.setIfInBounds_toArray, List.set_cons_zero, List.set_cons_succ, i64_w, i32_w]
                            rfl
                          refine done_ (done_of HT_.out (by kernel_rfl)) ?_
                          try go_wp2
                          refine bodyPost_ret (results_ct rfl _ _ gb121 29 #[.int .i64 t130, .int .i64 t132, .string (rdOf ByteArray.empty t122 1), .bool false] (0, 0) _ rfl (by (with_reducible repeat (first | refine blk_drewN ?_ _ | refine blk_drew ?_ | refine blk_alloc ?_ _)); refine blk_put (cs := #[.int .i64 t130, .int .i64 t132, .string (rdOf ByteArray.empty t122 1), .bool false]) ?_ 3 _ rfl; (with_reducible repeat (first | refine blk_drewN ?_ _ | refine blk_drew ?_ | refine blk_alloc ?_ _)); refine blk_put (cs := #[.int .i64 t130, .int .i64 t132, .string (⟨#[]⟩ : ByteArray), .bool false]) ?_ 2 _ rfl; (with_reducible repeat (first | refine blk_drewN ?_ _ | refine blk_drew ?_ | refine blk_alloc ?_ _)); refine blk_put (cs := #[.int .i64 t130, .int .i64 0, .string (⟨#[]⟩ : ByteArray), .bool false]) ?_ 1 _ rfl; (with_reducible repeat (first | refine blk_drewN ?_ _ | refine blk_drew ?_ | refine blk_alloc ?_ _)); refine blk_put (cs := #[.int .i64 0, .int .i64 0, .string (⟨#[]⟩ : ByteArray), .bool false]) ?_ 0 _ rfl; (with_reducible repeat (first | refine blk_drewN ?_ _ | refine blk_drew ?_ | refine blk_alloc ?_ _)); exact BK121.out) Tryd.underlying29 rfl (by kernel_rfl)) rfl ?_
                          exact ⟨by first | rfl | (simp [errW_none, errW_some] <;> rfl) | (simp [*, errW_none, errW_some] <;> rfl), by repeat (first | (with_reducible first | exact HB.out | apply below_alloc | apply pw_below_drewN | apply below_drew1 | refine below_set ?_ GE121.out | refine below_set ?_ GE134.out) | exact HB.out)⟩
                · rw [if_neg c17] at H
                  exact absurd H (by simp)
              · rw [if_neg c15] at H
                exact absurd H (by simp)
            · rw [if_neg c13] at H
              exact absurd H (by simp)
          · rw [if_neg c12] at H
            have c12b0 : ((t126.length : Int) == 2) = false := beq_eq_false_iff_ne.mpr c12
            have c12b1 : ((t126.length : Int) != 2) = true := bne_iff_ne.mpr c12
            simp only [Option.some.injEq, Prod.mk.injEq] at H
            obtain ⟨rfl, rfl, rfl, rfl, rfl⟩ := H
            obtain ⟨Ao80, co80, eo80⟩ := Kd.R_slice HO_4.out
            subst eo80
            have p125 : 0 ≤ (0 : Int) := (by omega)
            have q125 : 0 < (t122.length : Int) := of_decide_eq_true (by first | (with_reducible assumption) | assumption)
            obtain ⟨ad125, e125, hx125_0⟩ := Kd.at_string (Kd.R_reads' HO_4.out).2.2 0 p125 q125
            cases e125
            have qi125 : (0 < t122.length) = True := eq_true (by omega)
            (try rw [show ((0 : Int)).toNat = 0 from rfl] at hx125_0)
            (try rw [Addr.add_zero'] at hx125_0)
            replace p125 := eq_true p125
            replace q125 := eq_true q125
            go_wp2_with (first | ((with_reducible refine gate_callee (f := 34) rfl ?_); refine goesL_ (some 22) rfl rfl Tryd.func34 (by kernel_rfl) rfl #[.string (rdOf ByteArray.empty t122 0), .int .u8 120] rfl (by (try simp only [List.map_toArray, List.map_cons, List.map_nil]); first | done | rfl | (simp only [List.length_drop, List.length_take]; rfl)) ?_; (with_reducible refine (spec_l1Split.calls kj2 (rdOf ByteArray.empty t122 0) 120 t126 _ A11.out).mono ?_); rintro e w81 ⟨v127, rfl, ho0, hb⟩; refine ⟨_, rfl, ?_⟩; have n0_ := Aside0.mk (Kd.R_elder' (by (with_reducible repeat (first | apply Kd.R_alloc | apply Kd.R_drewN | apply Kd.R_drew)); exact HO_4.out) (Kd.R_base ho0) hb); have n1_ := Aside0.mk (Kd.R_lower (Kd.R_new' ho0 (Kd.R_lt (by (with_reducible repeat (first | apply Kd.R_alloc | apply Kd.R_drewN | apply Kd.R_drew)); exact HO_4.out))) (below_size (XSq.bB HB))); have n2_ := Aside0.mk (blk_below (g := gb121) (o := .cells #[.int .i64 0, .int .i64 0, .string (⟨#[]⟩ : ByteArray), .bool false] 29 (0, 0)) (XSq.bq BK121) hb); have n3_ := Aside0.mk (below_step (XSq.bB HB) hb); clear HO_4; clear BK121; clear HB; have HO_4 := n0_; have HO128 := n1_; have BK121 := n2_; have HB := n3_; clear n0_ n1_ n2_ n3_; (try clear hb); (try clear hb2); (try clear hk); (try clear hi); (try clear ho0); obtain ⟨Ao82, co82, eo82⟩ := Kd.R_slice HO128.out; subst eo82; have hcz83_0 : w81.cell? ⟨gb121, 0, none⟩ = some (.int .i64 0) := (blk_cell BK121.out 0).trans rfl; have hcz83_1 : w81.cell? ⟨gb121, 1, none⟩ = some (.int .i64 0) := (blk_cell BK121.out 1).trans rfl; have hcz83_2 : w81.cell? ⟨gb121, 2, none⟩ = some (.string (⟨#[]⟩ : ByteArray)) := (blk_cell BK121.out 2).trans rfl; have hcz83_3 : w81.cell? ⟨gb121, 3, none⟩ = some (.bool false) := (blk_cell BK121.out 3).trans rfl; have hfz83_0 := blk_frozen BK121.out 0; have hfz83_1 := blk_frozen BK121.out 1; have hfz83_2 := blk_frozen BK121.out 2; have hfz83_3 := blk_frozen BK121.out 3))
            refine bodyPost_ret (results_ct rfl _ _ gb121 29 #[.int .i64 0, .int .i64 0, .string (⟨#[]⟩ : ByteArray), .bool false] (0, 0) _ rfl (by (with_reducible repeat (first | refine blk_drewN ?_ _ | refine blk_drew ?_ | refine blk_alloc ?_ _)); refine blk_put (cs := #[.int .i64 0, .int .i64 0, .string (⟨#[]⟩ : ByteArray), .bool false]) ?_ 3 _ rfl; (with_reducible repeat (first | refine blk_drewN ?_ _ | refine blk_drew ?_ | refine blk_alloc ?_ _)); refine blk_put (cs := #[.int .i64 0, .int .i64 0, .string (⟨#[]⟩ : ByteArray), .bool false]) ?_ 2 _ rfl; (with_reducible repeat (first | refine blk_drewN ?_ _ | refine blk_drew ?_ | refine blk_alloc ?_ _)); refine blk_put (cs := #[.int .i64 0, .int .i64 0, .string (⟨#[]⟩ : ByteArray), .bool false]) ?_ 1 _ rfl; (with_reducible repeat (first | refine blk_drewN ?_ _ | refine blk_drew ?_ | refine blk_alloc ?_ _)); refine blk_put (cs := #[.int .i64 0, .int .i64 0, .string (⟨#[]⟩ : ByteArray), .bool false]) ?_ 0 _ rfl; (with_reducible repeat (first | refine blk_drewN ?_ _ | refine blk_drew ?_ | refine blk_alloc ?_ _)); exact BK121.out) Tryd.underlying29 rfl (by kernel_rfl)) rfl ?_
            exact ⟨by first | rfl | (simp [errW_none, errW_some] <;> rfl) | (simp [*, errW_none, errW_some] <;> rfl), by repeat (first | (with_reducible first | exact HB.out | apply below_alloc | apply pw_below_drewN | apply below_drew1 | refine below_set ?_ GE121.out) | exact HB.out)⟩
        · rw [if_neg c10] at H
          exact absurd H (by simp)

end Go.Proofs.YtjhokefoocajpaaDoor.PFnExactParseMaze
