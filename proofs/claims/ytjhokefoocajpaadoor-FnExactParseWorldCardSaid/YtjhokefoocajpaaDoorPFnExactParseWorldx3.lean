-- Made by wip/tools/xkit.py (a program of this session's) with the kit's printer.
import Derived.Test.YtjhokefoocajpaaDoorPFnExactParseWorldx0
import Derived.Test.YtjhokefoocajpaaDoorPFnExactParseWorldx1
import Derived.Test.YtjhokefoocajpaaDoorPFnExactParseWorldx2
namespace Go.Proofs.YtjhokefoocajpaaDoor.PFnExactParseWorld
open Go.RowKit Go.Proofs.YtjhokefoocajpaaDoorW.PrintWords Go.Proofs.YtjhokefoocajpaaDoorW.PrintLast Go.Proofs.YtjhokefoocajpaaDoorW.PrintMore
attribute [local go_sem] max2_int min2_int max_two min_two max_three min_three max_four min_four   -- for this text's walks alone
set_option linter.unusedVariables false
set_option linter.unusedSimpArgs false

/-! ### spec_woParse: function 16 -/
mutual
def spec_woParse.j0 : Nat → List ByteArray → Bool → Option (ByteArray × Int × Int × ByteArray × Int × Int × Int × Bool)
  | 0, _, _ => none
  | k + 1, x4, x17 => if x17 = true then (some ((⟨#[]⟩ : ByteArray), 0, 0, (⟨#[]⟩ : ByteArray), 0, 0, 0, false)) else (if 1 < (x4.length : Int) then ((spec_l1Split.f k (rdOf ByteArray.empty x4 1) 120).bind fun t122 => (if 3 < (x4.length : Int) then ((spec_l1Split.f k (rdOf ByteArray.empty x4 3) 44).bind fun t126 => (if (t122.length : Int) = 2 then (spec_woParse.j1 k x4 t122 t126 ((t126.length : Int) != 3)) else (spec_woParse.j1 k x4 t122 t126 true))) else (none))) else (none))
def spec_woParse.j1 : Nat → List ByteArray → List ByteArray → List ByteArray → Bool → Option (ByteArray × Int × Int × ByteArray × Int × Int × Int × Bool)
  | 0, _, _, _, _ => none
  | k + 1, x4, x5, x6, x34 => if x34 = true then (some ((⟨#[]⟩ : ByteArray), 0, 0, (⟨#[]⟩ : ByteArray), 0, 0, 0, false)) else (if 0 < (x4.length : Int) then (if 0 < (x5.length : Int) then ((spec_l1Read.f k (rdOf ByteArray.empty x5 0)).bind fun t131 => (if 1 < (x5.length : Int) then ((spec_l1Read.f k (rdOf ByteArray.empty x5 1)).bind fun t133 => (if 2 < (x4.length : Int) then (if 0 < (x6.length : Int) then ((spec_l1Read.f k (rdOf ByteArray.empty x6 0)).bind fun t136 => (if 1 < (x6.length : Int) then ((spec_l1Read.f k (rdOf ByteArray.empty x6 1)).bind fun t138 => (if 2 < (x6.length : Int) then ((spec_l1Read.f k (rdOf ByteArray.empty x6 2)).bind fun t140 => ((spec_woGood.f k (rdOf ByteArray.empty x4 0) t131 t133 (rdOf ByteArray.empty x4 2) t136 t138 t140).bind fun t142 => (if t142 = true then (some (rdOf ByteArray.empty x4 0, t131, t133, rdOf ByteArray.empty x4 2, t136, t138, t140, true)) else (some ((⟨#[]⟩ : ByteArray), 0, 0, (⟨#[]⟩ : ByteArray), 0, 0, 0, false))))) else (none))) else (none))) else (none)) else (none))) else (none))) else (none)) else (none))
end
def spec_woParse.f (k : Nat) (a0 : ByteArray) : Option (ByteArray × Int × Int × ByteArray × Int × Int × Int × Bool) := (spec_l1Split.f k a0 58).bind fun t118 => (if (a0.size : Int) > 120 then (spec_woParse.j0 k t118 true) else (spec_woParse.j0 k t118 ((t118.length : Int) != 4)))
theorem spec_woParse.mono_l : ∀ k, (∀ y0 y1, LeO (spec_woParse.j0 k y0 y1) (spec_woParse.j0 (k + 1) y0 y1)) ∧ (∀ y0 y1 y2 y3, LeO (spec_woParse.j1 k y0 y1 y2 y3) (spec_woParse.j1 (k + 1) y0 y1 y2 y3))
  | 0 => ⟨fun _ _ r h => by simp [spec_woParse.j0] at h, fun _ _ _ _ r h => by simp [spec_woParse.j1] at h⟩
  | k + 1 => by
    obtain ⟨ih0, ih1⟩ := spec_woParse.mono_l k
    refine ⟨?_, ?_⟩
    · intro y0 y1
      unfold spec_woParse.j0
      repeat' first
      | (with_reducible exact ih0 _ _)
      | (with_reducible exact ih1 _ _ _ _)
      | (with_reducible exact spec_l1Read.mono _ _)
      | (with_reducible exact spec_l1Split.mono _ _ _)
      | (with_reducible exact spec_woGood.mono _ _ _ _ _ _ _ _)
      | (with_reducible exact LeO.refl _)
      | (with_reducible exact LeO.none _)
      | (with_reducible refine LeO.ite ?_ ?_)
      | (with_reducible refine LeO.bind ?_ (fun _ => ?_))
      | exact ih0 _ _
      | exact ih1 _ _ _ _
      | exact spec_l1Read.mono _ _
      | exact spec_l1Split.mono _ _ _
      | exact spec_woGood.mono _ _ _ _ _ _ _ _
      | exact LeO.none _
      | refine LeO.ite ?_ ?_
      | refine LeO.bind ?_ (fun _ => ?_)
    · intro y0 y1 y2 y3
      unfold spec_woParse.j1
      repeat' first
      | (with_reducible exact ih0 _ _)
      | (with_reducible exact ih1 _ _ _ _)
      | (with_reducible exact spec_l1Read.mono _ _)
      | (with_reducible exact spec_l1Split.mono _ _ _)
      | (with_reducible exact spec_woGood.mono _ _ _ _ _ _ _ _)
      | (with_reducible exact LeO.refl _)
      | (with_reducible exact LeO.none _)
      | (with_reducible refine LeO.ite ?_ ?_)
      | (with_reducible refine LeO.bind ?_ (fun _ => ?_))
      | exact ih0 _ _
      | exact ih1 _ _ _ _
      | exact spec_l1Read.mono _ _
      | exact spec_l1Split.mono _ _ _
      | exact spec_woGood.mono _ _ _ _ _ _ _ _
      | exact LeO.none _
      | refine LeO.ite ?_ ?_
      | refine LeO.bind ?_ (fun _ => ?_)
theorem spec_woParse.mono : ∀ a0 k, LeO (spec_woParse.f k a0) (spec_woParse.f (k + 1) a0) := by
  intro a0 k; obtain ⟨ih0, ih1⟩ := spec_woParse.mono_l k
  unfold spec_woParse.f
  repeat' first
      | (with_reducible exact ih0 _ _)
      | (with_reducible exact ih1 _ _ _ _)
      | (with_reducible exact spec_l1Read.mono _ _)
      | (with_reducible exact spec_l1Split.mono _ _ _)
      | (with_reducible exact spec_woGood.mono _ _ _ _ _ _ _ _)
      | (with_reducible exact LeO.refl _)
      | (with_reducible exact LeO.none _)
      | (with_reducible refine LeO.ite ?_ ?_)
      | (with_reducible refine LeO.bind ?_ (fun _ => ?_))
      | exact ih0 _ _
      | exact ih1 _ _ _ _
      | exact spec_l1Read.mono _ _
      | exact spec_l1Split.mono _ _ _
      | exact spec_woGood.mono _ _ _ _ _ _ _ _
      | exact LeO.none _
      | refine LeO.ite ?_ ?_
      | refine LeO.bind ?_ (fun _ => ?_)
def spec_woParse.T4 : Bool × List (List Nat × List Nat) := (true, [([], []), ([0], [0]), ([1], [1]), ([2], [2]), ([], []), ([4], [4]), ([5], [5]), ([6, 3], [6]), ([3, 7, 0, 1, 2, 3], [3]), ([7, 8, 0, 1, 2, 3, 4, 5, 6, 7, 8], [7])])
def spec_woParse.B4 : List Nat := [0, 1, 3, 7, 0, 16, 48, 127, 255, 511]
theorem spec_woParse.tab4 : rtab .any (opsOf Tryd.f16 4) = spec_woParse.T4 := by kernel_rfl
theorem spec_woParse.bits4 : waitsOk spec_woParse.T4.2 spec_woParse.B4 = true := by kernel_rfl
def spec_woParse.T7 : Bool × List (List Nat × List Nat) := (true, [([], []), ([0], [0]), ([1], [1]), ([], []), ([3], [3]), ([4], [4]), ([5], [5]), ([], []), ([7], [7]), ([8], [8]), ([9, 6], [9]), ([], []), ([11], [11]), ([12], [12]), ([], []), ([14], [14]), ([15], [15]), ([16, 10], [16]), ([], []), ([18], [18]), ([19], [19]), ([20, 17], [20]), ([], []), ([22], [22]), ([23], [23]), ([24, 21], [24]), ([2, 6, 10, 13, 17, 21, 25], [2, 6, 10, 13, 17, 21, 25]), ([], []), ([27, 26, 25, 0, 1, 2, 3, 4, 5, 6, 7, 8, 9, 10, 11, 12, 13, 14, 15, 16, 17, 18, 19, 20, 21, 22, 23, 24, 25, 26, 27], [26, 27])])
def spec_woParse.B7 : List Nat := [0, 1, 3, 0, 8, 24, 56, 0, 128, 384, 1016, 0, 2048, 6144, 0, 16384, 49152, 116728, 0, 262144, 786432, 2082808, 0, 4194304, 12582912, 33540088, 67108863, 0, 268435455]
theorem spec_woParse.tab7 : rtab .any (opsOf Tryd.f16 7) = spec_woParse.T7 := by kernel_rfl
theorem spec_woParse.bits7 : waitsOk spec_woParse.T7.2 spec_woParse.B7 = true := by kernel_rfl
set_option maxHeartbeats 8000000 in
set_option maxRecDepth 100000 in
theorem spec_woParse.calls (k : Nat) (a0 : ByteArray) (r1 : ByteArray) (r2 : Int) (r3 : Int) (r4 : ByteArray) (r5 : Int) (r6 : Int) (r7 : Int) (r8 : Bool) (w : World) (h : spec_woParse.f k a0 = some (r1, r2, r3, r4, r5, r6, r7, r8)) :
  Calls Tryd.prog 16 #[.string a0] w fun e w' => e = .returned (.tuple #[.agg #[.string r1, .int .i64 r2, .int .i64 r3, .string r4, .int .i64 r5, .int .i64 r6, .int .i64 r7], .bool r8]) ∧ Below w.heap.size w w' := by
 have hu23 := Tryd.underlying23
 have HB := Aside0.mk (Below.refl w.heap.size w)
 have H : ((spec_l1Split.f k a0 58).bind fun t118 => (if (a0.size : Int) > 120 then (spec_woParse.j0 k t118 true) else (spec_woParse.j0 k t118 ((t118.length : Int) != 4)))) = some (r1, r2, r3, r4, r5, r6, r7, r8) := h
 clear h
 replace H := Option.bind_eq_some_iff.mp H
 obtain ⟨t118, A20, H⟩ := H
 replace H : (if (a0.size : Int) > 120 then (spec_woParse.j0 k t118 true) else (spec_woParse.j0 k t118 ((t118.length : Int) != 4))) = some (r1, r2, r3, r4, r5, r6, r7, r8) := H
 have A2 := Aside0.mk A20
 clear A20
 have HC3 := Aside0.mk H
 clear H
 go_enter Tryd.func16, Tryd.ntmps16
 go_upto_region 2 with (first | ((with_reducible refine gate_dst (N := 2) rfl ?_); (try (refine gate_guard (by rfl) ?_; dsimp only)); refine box_event ?hg (N := 2) ?hd (cs := #[.string ⟨#[]⟩, .int .i64 0, .int .i64 0, .string ⟨#[]⟩, .int .i64 0, .int .i64 0, .int .i64 0]) (t := 23) ?hr ?_; (case hd => rfl); (case hg => rfl); (case hr => first | (go_simp; done) | (go_simp; rfl)); intro gb117 hg w4 hbox hb; have BK117 := Aside0.mk (hbox); have GW117 := XSq.gw hg (XSq.bB HB); have GE117 := XSq.gw hg (XSq.bB HB); replace HB := Aside0.mk (below_step (XSq.bB HB) hb); clear hb hbox hg) | ((with_reducible refine gate_callee (f := 34) rfl ?_); refine goesL_ (some 9) rfl rfl Tryd.func34 (by kernel_rfl) rfl #[.string a0, .int .u8 58] rfl (by (try simp only [List.map_toArray, List.map_cons, List.map_nil]); first | done | rfl | (simp only [List.length_drop, List.length_take]; rfl)) ?_; (with_reducible refine (spec_l1Split.calls k a0 58 t118 _ A2.out).mono ?_); rintro e w5 ⟨v119, rfl, ho0, hb⟩; refine ⟨_, rfl, ?_⟩; have HO120 := Aside0.mk (Kd.R_lower ho0 (below_size (XSq.bB HB))); replace BK117 := Aside0.mk (blk_below (g := gb117) (o := .cells #[.string ⟨#[]⟩, .int .i64 0, .int .i64 0, .string ⟨#[]⟩, .int .i64 0, .int .i64 0, .int .i64 0] 23 (0, 0)) (XSq.bq BK117) hb); replace HB := Aside0.mk (below_step (XSq.bB HB) hb); clear hb; (try clear hb2); (try clear hk); (try clear hi); (try clear ho0)))
 (try simp only [Act.put, List.setIfInBounds_toArray, List.set_cons_zero, List.set_cons_succ])
 go_cut [17] (fun v17 wc => ∃ (kq : Nat) (x17_2 : Bool), v17 = .bool x17_2 ∧ Aside0 (spec_woParse.j0 kq t118 x17_2 = some (r1, r2, r3, r4, r5, r6, r7, r8)) ∧ Aside0 (kq ≤ k) ∧ Aside0 (Kd.R Kd.string 9 wc w.heap.size (fun _ => True) v119 t118) ∧ Aside0 (wc.heap[gb117]? = some (.cells #[.string ⟨#[]⟩, .int .i64 0, .int .i64 0, .string ⟨#[]⟩, .int .i64 0, .int .i64 0, .int .i64 0] 23 (0, 0))) ∧ Aside0 (Below w.heap.size w wc))
 case first =>
  have H := HC3.out; clear HC3
  by_cases c6 : (a0.size : Int) > 120
  ·
   rw [if_pos c6] at H
   have c6b0 : decide (120 < (a0.size : Int)) = true := decide_eq_true c6; have c6b1 : decide (120 < a0.size) = true := decide_eq_true (by omega); clear c6
   (first | rw [c6b0] | (simp only [i64_w, i32_w]; rw [c6b0]) | skip)
   have H' := Aside0.mk H; clear H
   go_wp2
   go_meet
   case rel => exact ⟨_, (true), (by first | rfl | (simp; done) | (simp [*]; done)), H', ⟨by first | omega | exact Nat.le_refl _⟩, ⟨by (with_reducible repeat (first | apply Kd.R_alloc | apply Kd.R_drewN | apply Kd.R_drew)); exact HO120.out⟩, ⟨by (with_reducible repeat (first | refine blk_drewN ?_ _ | refine blk_drew ?_ | refine blk_alloc ?_ _)); exact BK117.out⟩, ⟨by repeat (first | (with_reducible first | exact HB.out | apply below_alloc | apply pw_below_drewN | apply below_drew1 | refine below_set ?_ GE117.out) | exact HB.out)⟩⟩
  ·
   rw [if_neg c6] at H
   have c6b0 : decide (120 < (a0.size : Int)) = false := decide_eq_false c6; have c6b1 : decide (120 < a0.size) = false := decide_eq_false (by omega); clear c6
   (first | rw [c6b0] | (simp only [i64_w, i32_w]; rw [c6b0]) | skip)
   have H' := Aside0.mk H; clear H; obtain ⟨Ao7, co7, eo7⟩ := Kd.R_slice HO120.out; subst eo7
   go_wp2
   go_meet
   case rel => exact ⟨_, (((t118.length : Int) != 4)), (by first | rfl | (simp; done) | (simp [*]; done)), H', ⟨by first | omega | exact Nat.le_refl _⟩, ⟨by (with_reducible repeat (first | apply Kd.R_alloc | apply Kd.R_drewN | apply Kd.R_drew)); exact HO120.out⟩, ⟨by (with_reducible repeat (first | refine blk_drewN ?_ _ | refine blk_drew ?_ | refine blk_alloc ?_ _)); exact BK117.out⟩, ⟨by repeat (first | (with_reducible first | exact HB.out | apply below_alloc | apply pw_below_drewN | apply below_drew1 | refine below_set ?_ GE117.out) | exact HB.out)⟩⟩
 case rest =>
  clear HC3
  try clear c1
  try clear p2
  try clear c3
  try clear c6
  try clear c6b0
  try clear c6b1
  obtain ⟨kq, x17_2, rfl, HA, HJ2, HO_4, BK117, HB⟩ := hcut; cases kq with
  | zero => exact absurd HA.out (by simp [spec_woParse.j0])
  | succ kj2 =>
   have H := HA.out; clear HA
   simp only [spec_woParse.j0] at H
   by_cases c8 : x17_2 = true
   ·
    subst c8
    have H1 : (some ((⟨#[]⟩ : ByteArray), 0, 0, (⟨#[]⟩ : ByteArray), 0, 0, 0, false)) = some (r1, r2, r3, r4, r5, r6, r7, r8) := by rw [if_pos rfl] at H; exact H
    clear H; have H := H1; clear H1
    simp only [Option.some.injEq, Prod.mk.injEq] at H
    obtain ⟨rfl, rfl, rfl, rfl, rfl, rfl, rfl, rfl⟩ := H; have hcz9_0 : wc.cell? ⟨gb117, 0, none⟩ = some (.string ⟨#[]⟩) := (blk_cell BK117.out 0).trans rfl; have hcz9_1 : wc.cell? ⟨gb117, 1, none⟩ = some (.int .i64 0) := (blk_cell BK117.out 1).trans rfl; have hcz9_2 : wc.cell? ⟨gb117, 2, none⟩ = some (.int .i64 0) := (blk_cell BK117.out 2).trans rfl; have hcz9_3 : wc.cell? ⟨gb117, 3, none⟩ = some (.string ⟨#[]⟩) := (blk_cell BK117.out 3).trans rfl; have hcz9_4 : wc.cell? ⟨gb117, 4, none⟩ = some (.int .i64 0) := (blk_cell BK117.out 4).trans rfl; have hcz9_5 : wc.cell? ⟨gb117, 5, none⟩ = some (.int .i64 0) := (blk_cell BK117.out 5).trans rfl; have hcz9_6 : wc.cell? ⟨gb117, 6, none⟩ = some (.int .i64 0) := (blk_cell BK117.out 6).trans rfl; have hfz9_0 := blk_frozen BK117.out 0; have hfz9_1 := blk_frozen BK117.out 1; have hfz9_2 := blk_frozen BK117.out 2; have hfz9_3 := blk_frozen BK117.out 3; have hfz9_4 := blk_frozen BK117.out 4; have hfz9_5 := blk_frozen BK117.out 5; have hfz9_6 := blk_frozen BK117.out 6
    go_wp2
    refine bodyPost_ret (results_ct rfl _ _ gb117 23 #[.string ⟨#[]⟩, .int .i64 0, .int .i64 0, .string ⟨#[]⟩, .int .i64 0, .int .i64 0, .int .i64 0] (0, 0) _ rfl (by (with_reducible repeat (first | refine blk_drewN ?_ _ | refine blk_drew ?_ | refine blk_alloc ?_ _)); refine blk_put (cs := #[.string ⟨#[]⟩, .int .i64 0, .int .i64 0, .string ⟨#[]⟩, .int .i64 0, .int .i64 0, .int .i64 0]) ?_ 6 _ rfl; (with_reducible repeat (first | refine blk_drewN ?_ _ | refine blk_drew ?_ | refine blk_alloc ?_ _)); refine blk_put (cs := #[.string ⟨#[]⟩, .int .i64 0, .int .i64 0, .string ⟨#[]⟩, .int .i64 0, .int .i64 0, .int .i64 0]) ?_ 5 _ rfl; (with_reducible repeat (first | refine blk_drewN ?_ _ | refine blk_drew ?_ | refine blk_alloc ?_ _)); refine blk_put (cs := #[.string ⟨#[]⟩, .int .i64 0, .int .i64 0, .string ⟨#[]⟩, .int .i64 0, .int .i64 0, .int .i64 0]) ?_ 4 _ rfl; (with_reducible repeat (first | refine blk_drewN ?_ _ | refine blk_drew ?_ | refine blk_alloc ?_ _)); refine blk_put (cs := #[.string ⟨#[]⟩, .int .i64 0, .int .i64 0, .string ⟨#[]⟩, .int .i64 0, .int .i64 0, .int .i64 0]) ?_ 3 _ rfl; (with_reducible repeat (first | refine blk_drewN ?_ _ | refine blk_drew ?_ | refine blk_alloc ?_ _)); refine blk_put (cs := #[.string ⟨#[]⟩, .int .i64 0, .int .i64 0, .string ⟨#[]⟩, .int .i64 0, .int .i64 0, .int .i64 0]) ?_ 2 _ rfl; (with_reducible repeat (first | refine blk_drewN ?_ _ | refine blk_drew ?_ | refine blk_alloc ?_ _)); refine blk_put (cs := #[.string ⟨#[]⟩, .int .i64 0, .int .i64 0, .string ⟨#[]⟩, .int .i64 0, .int .i64 0, .int .i64 0]) ?_ 1 _ rfl; (with_reducible repeat (first | refine blk_drewN ?_ _ | refine blk_drew ?_ | refine blk_alloc ?_ _)); refine blk_put (cs := #[.string ⟨#[]⟩, .int .i64 0, .int .i64 0, .string ⟨#[]⟩, .int .i64 0, .int .i64 0, .int .i64 0]) ?_ 0 _ rfl; (with_reducible repeat (first | refine blk_drewN ?_ _ | refine blk_drew ?_ | refine blk_alloc ?_ _)); exact BK117.out) Tryd.underlying23 rfl (by kernel_rfl)) rfl ?_
    exact ⟨by first | rfl | (simp [errW_none, errW_some] <;> rfl) | (simp [*, errW_none, errW_some] <;> rfl), by repeat (first | (with_reducible first | exact HB.out | apply below_alloc | apply pw_below_drewN | apply below_drew1 | refine below_set ?_ GE117.out) | exact HB.out)⟩
   ·
    replace c8 := Bool.eq_false_iff.mpr c8; subst c8
    have H1 : (if 1 < (t118.length : Int) then ((spec_l1Split.f kj2 (rdOf ByteArray.empty t118 1) 120).bind fun t122 => (if 3 < (t118.length : Int) then ((spec_l1Split.f kj2 (rdOf ByteArray.empty t118 3) 44).bind fun t126 => (if (t122.length : Int) = 2 then (spec_woParse.j1 kj2 t118 t122 t126 ((t126.length : Int) != 3)) else (spec_woParse.j1 kj2 t118 t122 t126 true))) else (none))) else (none)) = some (r1, r2, r3, r4, r5, r6, r7, r8) := by rw [if_neg (show ¬ (false = true) by decide)] at H; exact H
    clear H; have H := H1; clear H1
    by_cases c10 : 1 < (t118.length : Int)
    ·
     rw [if_pos c10] at H
     have c10b0 : decide (1 < (t118.length : Int)) = true := decide_eq_true c10; have c10b1 : decide (1 < t118.length) = true := decide_eq_true (by omega); clear c10; replace H := Option.bind_eq_some_iff.mp H; obtain ⟨t122, A110, H⟩ := H; replace H : (if 3 < (t118.length : Int) then ((spec_l1Split.f kj2 (rdOf ByteArray.empty t118 3) 44).bind fun t126 => (if (t122.length : Int) = 2 then (spec_woParse.j1 kj2 t118 t122 t126 ((t126.length : Int) != 3)) else (spec_woParse.j1 kj2 t118 t122 t126 true))) else (none)) = some (r1, r2, r3, r4, r5, r6, r7, r8) := H; have A11 := Aside0.mk A110; clear A110
     by_cases c12 : 3 < (t118.length : Int)
     ·
      rw [if_pos c12] at H
      have c12b0 : decide (3 < (t118.length : Int)) = true := decide_eq_true c12; have c12b1 : decide (3 < t118.length) = true := decide_eq_true (by omega); clear c12; replace H := Option.bind_eq_some_iff.mp H; obtain ⟨t126, A130, H⟩ := H; replace H : (if (t122.length : Int) = 2 then (spec_woParse.j1 kj2 t118 t122 t126 ((t126.length : Int) != 3)) else (spec_woParse.j1 kj2 t118 t122 t126 true)) = some (r1, r2, r3, r4, r5, r6, r7, r8) := H; have A13 := Aside0.mk A130; clear A130; have HC14 := Aside0.mk H; clear H
      try go_wp2
      replace HO_4 := Aside0.mk (Kd.R_drew HO_4.out); replace BK117 := Aside0.mk (blk_drew BK117.out); replace HB := Aside0.mk (below_drew1 HB.out); obtain ⟨Ao16, co16, eo16⟩ := Kd.R_slice HO_4.out
      (first | subst eo16 | (injection eo16 with f1_ f2_ f3_; have f4_ := f1_.symm; have f5_ := f3_.symm; clear f1_ f2_ f3_; subst f4_; subst f5_))
      have p121 : 0 ≤ (1 : Int) := (by omega); have q121 : 1 < (t118.length : Int) := of_decide_eq_true (by first | (with_reducible assumption) | assumption); obtain ⟨ad121, e121, hx121_0⟩ := Kd.at_string (Kd.R_reads' HO_4.out).2.2 1 p121 q121; cases e121
      (try simp only [show (1 : Int).toNat = 1 from rfl, Nat.reduceMul, Nat.reduceEqDiff, Go.Addr.add, ↓reduceIte] at hx121_0)
      have qi121 : (1 < t118.length) = True := eq_true (by omega)
      (try rw [show ((1 : Int)).toNat = 1 from rfl] at hx121_0)
      replace p121 := eq_true p121; replace q121 := eq_true q121; have p125 : 0 ≤ (3 : Int) := (by omega); have q125 : 3 < (t118.length : Int) := of_decide_eq_true (by first | (with_reducible assumption) | assumption); obtain ⟨ad125, e125, hx125_0⟩ := Kd.at_string (Kd.R_reads' HO_4.out).2.2 3 p125 q125; obtain rfl : ad121 = ad125 := (by injection e125)
      (try simp only [show (3 : Int).toNat = 3 from rfl, Nat.reduceMul, Nat.reduceEqDiff, Go.Addr.add, ↓reduceIte] at hx125_0)
      have qi125 : (3 < t118.length) = True := eq_true (by omega)
      (try rw [show ((3 : Int)).toNat = 3 from rfl] at hx125_0)
      replace p125 := eq_true p125; replace q125 := eq_true q125
      refine start_ (n := 10) (S := fun w' => w'.cell? ⟨ad121.block, ad121.off + 1, none⟩ = some (.string (rdOf ByteArray.empty t118 1)) ∧ w'.cell? ⟨ad121.block, ad121.off + 3, none⟩ = some (.string (rdOf ByteArray.empty t118 3))) (ds := []) #[false, false, false, false, false, false, false, false, false, false] (by kernel_rfl) rfl rfl ⟨hx121_0, hx125_0⟩ (fun hHeld => ?_); refine with_tabW spec_woParse.tab4 spec_woParse.bits4 (fun HT_ HW_ => ?_)
      generalize wc.drew = w15 at HO_4 BK117 HB hx121_0 hx125_0 hHeld ⊢
      refine pure_ (i := 0) (N := some 19) (v := ?_) (a' := ?_) #[true, false, false, false, false, false, false, false, false, false] rfl rfl (any_of HT_.out (by kernel_rfl)) (fun _ _ _ h => h) (Or.inl ⟨by rfl, ?_⟩) ?_ ?_
      rotate_left
      ·
       intro w'
       go_simp
       with_reducible rfl
      rotate_left
      ·
       simp only [Act.put, List.setIfInBounds_toArray, List.set_cons_zero, List.set_cons_succ, i64_w, i32_w]
       rfl
      refine pure_ (i := 1) (N := some 20) (v := ?_) (a' := ?_) #[true, true, false, false, false, false, false, false, false, false] rfl rfl (any_of HT_.out (by kernel_rfl)) (fun _ _ _ h => h) (Or.inl ⟨by rfl, ?_⟩) ?_ ?_
      rotate_left
      ·
       intro w'
       go_simp
       with_reducible rfl
      rotate_left
      ·
       simp only [Act.put, List.setIfInBounds_toArray, List.set_cons_zero, List.set_cons_succ, i64_w, i32_w]
       rfl
      refine pure_ (i := 4) (N := some 23) (v := ?_) (a' := ?_) #[true, true, false, false, true, false, false, false, false, false] rfl rfl (any_of HT_.out (by kernel_rfl)) (fun _ _ _ h => h) (Or.inl ⟨by rfl, ?_⟩) ?_ ?_
      rotate_left
      ·
       intro w'
       go_simp
       with_reducible rfl
      rotate_left
      ·
       simp only [Act.put, List.setIfInBounds_toArray, List.set_cons_zero, List.set_cons_succ, i64_w, i32_w]
       rfl
      refine pure_ (i := 5) (N := some 24) (v := ?_) (a' := ?_) #[true, true, false, false, true, true, false, false, false, false] rfl rfl (any_of HT_.out (by kernel_rfl)) (fun _ _ _ h => h) (Or.inl ⟨by rfl, ?_⟩) ?_ ?_
      rotate_left
      ·
       intro w'
       go_simp
       with_reducible rfl
      rotate_left
      ·
       simp only [Act.put, List.setIfInBounds_toArray, List.set_cons_zero, List.set_cons_succ, i64_w, i32_w]
       rfl
      refine take_ (i := 2) (N := some 21) (v := ?_) (a' := ?_) #[true, true, true, false, true, true, false, false, false, false] rfl rfl (take_ofW HT_.out HW_.out (by kernel_rfl)) (fun _ _ _ h => h) (Or.inl ⟨by rfl, ?_⟩) hHeld ?_ ?_
      rotate_left
      ·
       rintro w' ⟨s0, s1⟩
       go_simp
       with_reducible rfl
      rotate_left
      ·
       simp only [Act.put, List.setIfInBounds_toArray, List.set_cons_zero, List.set_cons_succ, i64_w, i32_w]
       rfl
      refine take_ (i := 6) (N := some 25) (v := ?_) (a' := ?_) #[true, true, true, false, true, true, true, false, false, false] rfl rfl (take_ofW HT_.out HW_.out (by kernel_rfl)) (fun _ _ _ h => h) (Or.inl ⟨by rfl, ?_⟩) hHeld ?_ ?_
      rotate_left
      ·
       rintro w' ⟨s0, s1⟩
       go_simp
       with_reducible rfl
      rotate_left
      ·
       simp only [Act.put, List.setIfInBounds_toArray, List.set_cons_zero, List.set_cons_succ, i64_w, i32_w]
       rfl
      refine one_ (i := 3) (N := some 22) #[true, true, true, true, true, true, true, false, false, false] rfl rfl (one_of HT_.out (by kernel_rfl)) (by decide) (fun K hK => ?_)
      refine goes_ Tryd.func34 (by kernel_rfl) rfl #[.string (rdOf ByteArray.empty t118 1), .int .u8 120] (by rfl) rfl rfl (by (try simp only [List.map_toArray, List.map_cons, List.map_nil]); first | done | rfl | (simp only [List.length_drop, List.length_take]; rfl)) ?_
      with_reducible refine (spec_l1Split.calls kj2 (rdOf ByteArray.empty t118 1) 120 t122 _ A11.out).mono ?_
      rintro e w17 ⟨v123, rfl, ho0, hb⟩; have HS0_ := (hb.cell (World.block_lt_of_cell? _ _ (hHeld.1))).trans (hHeld.1); have HS1_ := (hb.cell (World.block_lt_of_cell? _ _ (hHeld.2))).trans (hHeld.2)
      refine ⟨_, rfl, ?_⟩
      have HO124 := Aside0.mk (Kd.R_lower (Kd.R_new' ho0 (Kd.R_lt (XSq.pR HO_4))) (below_size (XSq.bB HB))); replace HO_4 := Aside0.mk (Kd.R_elder' (XSq.pR HO_4) (Kd.R_base ho0) hb); replace BK117 := Aside0.mk (blk_below (g := gb117) (o := .cells #[.string ⟨#[]⟩, .int .i64 0, .int .i64 0, .string ⟨#[]⟩, .int .i64 0, .int .i64 0, .int .i64 0] 23 (0, 0)) (XSq.bq BK117) hb); replace HB := Aside0.mk (below_step (XSq.bB HB) hb); clear hb
      (try clear ho0)
      refine hK.out _ _ ⟨HS0_, HS1_⟩ (fun hHeld => ?_)
      clear hK K
      refine norm_ (a' := ?_) ?_ ?_
      rotate_left
      ·
       show Act.put _ (some 22) _ = _
       simp only [Act.put, List.setIfInBounds_toArray, List.set_cons_zero, List.set_cons_succ, i64_w, i32_w]
       rfl
      refine one_ (i := 7) (N := some 26) #[true, true, true, true, true, true, true, true, false, false] rfl rfl (one_of HT_.out (by kernel_rfl)) (by decide) (fun K hK => ?_)
      refine goes_ Tryd.func34 (by kernel_rfl) rfl #[.string (rdOf ByteArray.empty t118 3), .int .u8 44] (by rfl) rfl rfl (by (try simp only [List.map_toArray, List.map_cons, List.map_nil]); first | done | rfl | (simp only [List.length_drop, List.length_take]; rfl)) ?_
      with_reducible refine (spec_l1Split.calls kj2 (rdOf ByteArray.empty t118 3) 44 t126 _ A13.out).mono ?_
      rintro e w18 ⟨v127, rfl, ho0, hb⟩; have HS0_ := (hb.cell (World.block_lt_of_cell? _ _ (hHeld.1))).trans (hHeld.1); have HS1_ := (hb.cell (World.block_lt_of_cell? _ _ (hHeld.2))).trans (hHeld.2)
      refine ⟨_, rfl, ?_⟩
      have HO128 := Aside0.mk (Kd.R_lower (Kd.R_new' (Kd.R_new' ho0 (Kd.R_lt (XSq.pR HO_4))) (Kd.R_lt (XSq.pR HO124))) (below_size (XSq.bB HB))); replace HO_4 := Aside0.mk (Kd.R_elder' (XSq.pR HO_4) (Kd.R_base ho0) hb); replace HO124 := Aside0.mk (Kd.R_elder' (XSq.pR HO124) (Kd.R_base ho0) hb); replace BK117 := Aside0.mk (blk_below (g := gb117) (o := .cells #[.string ⟨#[]⟩, .int .i64 0, .int .i64 0, .string ⟨#[]⟩, .int .i64 0, .int .i64 0, .int .i64 0] 23 (0, 0)) (XSq.bq BK117) hb); replace HB := Aside0.mk (below_step (XSq.bB HB) hb); clear hb
      (try clear ho0)
      refine hK.out _ _ ⟨HS0_, HS1_⟩ (fun hHeld => ?_)
      clear hK K
      refine norm_ (a' := ?_) ?_ ?_
      rotate_left
      ·
       show Act.put _ (some 26) _ = _
       simp only [Act.put, List.setIfInBounds_toArray, List.set_cons_zero, List.set_cons_succ, i64_w, i32_w]
       rfl
      refine pure_ (i := 8) (N := some 5) (v := ?_) (a' := ?_) #[true, true, true, true, true, true, true, true, true, false] rfl rfl (any_of HT_.out (by kernel_rfl)) (fun _ _ _ h => h) (Or.inl ⟨by rfl, ?_⟩) ?_ ?_
      rotate_left
      ·
       intro w'
       go_simp
       with_reducible rfl
      rotate_left
      ·
       simp only [Act.put, List.setIfInBounds_toArray, List.set_cons_zero, List.set_cons_succ, i64_w, i32_w]
       rfl
      refine pure_ (i := 9) (N := some 6) (v := ?_) (a' := ?_) #[true, true, true, true, true, true, true, true, true, true] rfl rfl (any_of HT_.out (by kernel_rfl)) (fun _ _ _ h => h) (Or.inl ⟨by rfl, ?_⟩) ?_ ?_
      rotate_left
      ·
       intro w'
       go_simp
       with_reducible rfl
      rotate_left
      ·
       simp only [Act.put, List.setIfInBounds_toArray, List.set_cons_zero, List.set_cons_succ, i64_w, i32_w]
       rfl
      refine done_ (done_of HT_.out (by kernel_rfl)) ?_
      go_upto_region 5 with (fail)
      go_cut [34] (fun v34 wc => ∃ (kq : Nat) (x34_13 : Bool), v34 = .bool x34_13 ∧ Aside0 (spec_woParse.j1 kq t118 t122 t126 x34_13 = some (r1, r2, r3, r4, r5, r6, r7, r8)) ∧ Aside0 (kq ≤ kj2) ∧ Aside0 (Kd.R Kd.string 9 wc w.heap.size (fun k_ => some k_ ≠ (v123 : Value).ownBlock ∧ some k_ ≠ (v127 : Value).ownBlock) (.slice (some ad121) t118.length co16) t118) ∧ Aside0 (Kd.R Kd.string 9 wc w.heap.size (fun k_ => some k_ ≠ ((.slice (some ad121) t118.length co16) : Value).ownBlock ∧ some k_ ≠ (v127 : Value).ownBlock) v123 t122) ∧ Aside0 (Kd.R Kd.string 9 wc w.heap.size (fun k_ => some k_ ≠ ((.slice (some ad121) t118.length co16) : Value).ownBlock ∧ some k_ ≠ (v123 : Value).ownBlock) v127 t126) ∧ Aside0 (wc.heap[gb117]? = some (.cells #[.string ⟨#[]⟩, .int .i64 0, .int .i64 0, .string ⟨#[]⟩, .int .i64 0, .int .i64 0, .int .i64 0] 23 (0, 0))) ∧ Aside0 (Below w.heap.size w wc))
      case first =>
       have H := HC14.out; clear HC14
       by_cases c19 : (t122.length : Int) = 2
       ·
        rw [if_pos c19] at H
        have c19b0 : ((t122.length : Int) == 2) = true := beq_iff_eq.mpr c19; have c19b1 : ((t122.length : Int) != 2) = false := bne_eq_false_iff_eq.mpr c19; clear c19
        (first | rw [c19b0] | (simp only [i64_w, i32_w]; rw [c19b0]) | skip)
        have H' := Aside0.mk H; clear H; obtain ⟨Ao20, co20, eo20⟩ := Kd.R_slice HO124.out; subst eo20; obtain ⟨Ao21, co21, eo21⟩ := Kd.R_slice HO128.out; subst eo21
        go_wp2
        go_meet
        case rel => exact ⟨_, (((t126.length : Int) != 3)), (by first | rfl | (simp; done) | (simp [*]; done)), H', ⟨by have := HJ2.out; first | omega | exact Nat.le_refl _⟩, ⟨by (with_reducible repeat (first | apply Kd.R_alloc | apply Kd.R_drewN | apply Kd.R_drew)); exact Kd.R_mono HO_4.out (fun _ hk => ⟨hk.1.2, hk.2⟩)⟩, ⟨by (with_reducible repeat (first | apply Kd.R_alloc | apply Kd.R_drewN | apply Kd.R_drew)); exact Kd.R_mono HO124.out (fun _ hk => ⟨hk.1.2, hk.2⟩)⟩, ⟨by (with_reducible repeat (first | apply Kd.R_alloc | apply Kd.R_drewN | apply Kd.R_drew)); exact Kd.R_mono HO128.out (fun _ hk => ⟨hk.1.2, hk.2⟩)⟩, ⟨by (with_reducible repeat (first | refine blk_drewN ?_ _ | refine blk_drew ?_ | refine blk_alloc ?_ _)); exact BK117.out⟩, ⟨by repeat (first | (with_reducible first | exact HB.out | apply below_alloc | apply pw_below_drewN | apply below_drew1 | refine below_set ?_ GE117.out) | exact HB.out)⟩⟩
       ·
        rw [if_neg c19] at H
        have c19b0 : ((t122.length : Int) == 2) = false := beq_eq_false_iff_ne.mpr c19; have c19b1 : ((t122.length : Int) != 2) = true := bne_iff_ne.mpr c19
        (first | rw [c19b0] | (simp only [i64_w, i32_w]; rw [c19b0]) | skip)
        have H' := Aside0.mk H; clear H; obtain ⟨Ao22, co22, eo22⟩ := Kd.R_slice HO124.out; subst eo22
        go_wp2
        go_meet
        case rel => exact ⟨_, (true), (by first | rfl | (simp; done) | (simp [*]; done)), H', ⟨by have := HJ2.out; first | omega | exact Nat.le_refl _⟩, ⟨by (with_reducible repeat (first | apply Kd.R_alloc | apply Kd.R_drewN | apply Kd.R_drew)); exact Kd.R_mono HO_4.out (fun _ hk => ⟨hk.1.2, hk.2⟩)⟩, ⟨by (with_reducible repeat (first | apply Kd.R_alloc | apply Kd.R_drewN | apply Kd.R_drew)); exact Kd.R_mono HO124.out (fun _ hk => ⟨hk.1.2, hk.2⟩)⟩, ⟨by (with_reducible repeat (first | apply Kd.R_alloc | apply Kd.R_drewN | apply Kd.R_drew)); exact Kd.R_mono HO128.out (fun _ hk => ⟨hk.1.2, hk.2⟩)⟩, ⟨by (with_reducible repeat (first | refine blk_drewN ?_ _ | refine blk_drew ?_ | refine blk_alloc ?_ _)); exact BK117.out⟩, ⟨by repeat (first | (with_reducible first | exact HB.out | apply below_alloc | apply pw_below_drewN | apply below_drew1 | refine below_set ?_ GE117.out) | exact HB.out)⟩⟩
      case rest =>
       clear HC14
       try clear c1
       try clear p1
       try clear q1
       try clear hx1
       try clear qi1
       try clear p2
       try clear c3
       try clear c6
       try clear c6b0
       try clear c6b1
       try clear c8
       try clear c10
       try clear c10b0
       try clear c10b1
       try clear c12
       try clear c12b0
       try clear c12b1
       try clear p12
       try clear q12
       try clear hx12
       try clear qi12
       try clear c16
       try clear c19
       try clear c19b0
       try clear c19b1
       try clear hcz9_0
       try clear hcz9_1
       try clear hcz9_2
       try clear hcz9_3
       try clear hcz9_4
       try clear hcz9_5
       try clear hcz9_6
       try clear hfz9_0
       try clear hfz9_1
       try clear hfz9_2
       try clear hfz9_3
       try clear hfz9_4
       try clear hfz9_5
       try clear hfz9_6
       try clear hx121_0
       try clear hx125_0
       try clear p121
       try clear p125
       try clear p2
       try clear q121
       try clear q125
       obtain ⟨kq, x34_13, rfl, HA, HJ13, HO_4, HO_5, HO_6, BK117, HB⟩ := hcut; cases kq with
       | zero => exact absurd HA.out (by simp [spec_woParse.j1])
       | succ kj13 =>
        have H := HA.out; clear HA
        simp only [spec_woParse.j1] at H
        by_cases c23 : x34_13 = true
        ·
         subst c23
         have H1 : (some ((⟨#[]⟩ : ByteArray), 0, 0, (⟨#[]⟩ : ByteArray), 0, 0, 0, false)) = some (r1, r2, r3, r4, r5, r6, r7, r8) := by rw [if_pos rfl] at H; exact H
         clear H; have H := H1; clear H1
         simp only [Option.some.injEq, Prod.mk.injEq] at H
         obtain ⟨rfl, rfl, rfl, rfl, rfl, rfl, rfl, rfl⟩ := H; have hcz24_0 : wc.cell? ⟨gb117, 0, none⟩ = some (.string ⟨#[]⟩) := (blk_cell BK117.out 0).trans rfl; have hcz24_1 : wc.cell? ⟨gb117, 1, none⟩ = some (.int .i64 0) := (blk_cell BK117.out 1).trans rfl; have hcz24_2 : wc.cell? ⟨gb117, 2, none⟩ = some (.int .i64 0) := (blk_cell BK117.out 2).trans rfl; have hcz24_3 : wc.cell? ⟨gb117, 3, none⟩ = some (.string ⟨#[]⟩) := (blk_cell BK117.out 3).trans rfl; have hcz24_4 : wc.cell? ⟨gb117, 4, none⟩ = some (.int .i64 0) := (blk_cell BK117.out 4).trans rfl; have hcz24_5 : wc.cell? ⟨gb117, 5, none⟩ = some (.int .i64 0) := (blk_cell BK117.out 5).trans rfl; have hcz24_6 : wc.cell? ⟨gb117, 6, none⟩ = some (.int .i64 0) := (blk_cell BK117.out 6).trans rfl; have hfz24_0 := blk_frozen BK117.out 0; have hfz24_1 := blk_frozen BK117.out 1; have hfz24_2 := blk_frozen BK117.out 2; have hfz24_3 := blk_frozen BK117.out 3; have hfz24_4 := blk_frozen BK117.out 4; have hfz24_5 := blk_frozen BK117.out 5; have hfz24_6 := blk_frozen BK117.out 6
         go_wp2
         refine bodyPost_ret (results_ct rfl _ _ gb117 23 #[.string ⟨#[]⟩, .int .i64 0, .int .i64 0, .string ⟨#[]⟩, .int .i64 0, .int .i64 0, .int .i64 0] (0, 0) _ rfl (by (with_reducible repeat (first | refine blk_drewN ?_ _ | refine blk_drew ?_ | refine blk_alloc ?_ _)); refine blk_put (cs := #[.string ⟨#[]⟩, .int .i64 0, .int .i64 0, .string ⟨#[]⟩, .int .i64 0, .int .i64 0, .int .i64 0]) ?_ 6 _ rfl; (with_reducible repeat (first | refine blk_drewN ?_ _ | refine blk_drew ?_ | refine blk_alloc ?_ _)); refine blk_put (cs := #[.string ⟨#[]⟩, .int .i64 0, .int .i64 0, .string ⟨#[]⟩, .int .i64 0, .int .i64 0, .int .i64 0]) ?_ 5 _ rfl; (with_reducible repeat (first | refine blk_drewN ?_ _ | refine blk_drew ?_ | refine blk_alloc ?_ _)); refine blk_put (cs := #[.string ⟨#[]⟩, .int .i64 0, .int .i64 0, .string ⟨#[]⟩, .int .i64 0, .int .i64 0, .int .i64 0]) ?_ 4 _ rfl; (with_reducible repeat (first | refine blk_drewN ?_ _ | refine blk_drew ?_ | refine blk_alloc ?_ _)); refine blk_put (cs := #[.string ⟨#[]⟩, .int .i64 0, .int .i64 0, .string ⟨#[]⟩, .int .i64 0, .int .i64 0, .int .i64 0]) ?_ 3 _ rfl; (with_reducible repeat (first | refine blk_drewN ?_ _ | refine blk_drew ?_ | refine blk_alloc ?_ _)); refine blk_put (cs := #[.string ⟨#[]⟩, .int .i64 0, .int .i64 0, .string ⟨#[]⟩, .int .i64 0, .int .i64 0, .int .i64 0]) ?_ 2 _ rfl; (with_reducible repeat (first | refine blk_drewN ?_ _ | refine blk_drew ?_ | refine blk_alloc ?_ _)); refine blk_put (cs := #[.string ⟨#[]⟩, .int .i64 0, .int .i64 0, .string ⟨#[]⟩, .int .i64 0, .int .i64 0, .int .i64 0]) ?_ 1 _ rfl; (with_reducible repeat (first | refine blk_drewN ?_ _ | refine blk_drew ?_ | refine blk_alloc ?_ _)); refine blk_put (cs := #[.string ⟨#[]⟩, .int .i64 0, .int .i64 0, .string ⟨#[]⟩, .int .i64 0, .int .i64 0, .int .i64 0]) ?_ 0 _ rfl; (with_reducible repeat (first | refine blk_drewN ?_ _ | refine blk_drew ?_ | refine blk_alloc ?_ _)); exact BK117.out) Tryd.underlying23 rfl (by kernel_rfl)) rfl ?_
         exact ⟨by first | rfl | (simp [errW_none, errW_some] <;> rfl) | (simp [*, errW_none, errW_some] <;> rfl), by repeat (first | (with_reducible first | exact HB.out | apply below_alloc | apply pw_below_drewN | apply below_drew1 | refine below_set ?_ GE117.out) | exact HB.out)⟩
        ·
         replace c23 := Bool.eq_false_iff.mpr c23; subst c23
         have H1 : (if 0 < (t118.length : Int) then (if 0 < (t122.length : Int) then ((spec_l1Read.f kj13 (rdOf ByteArray.empty t122 0)).bind fun t131 => (if 1 < (t122.length : Int) then ((spec_l1Read.f kj13 (rdOf ByteArray.empty t122 1)).bind fun t133 => (if 2 < (t118.length : Int) then (if 0 < (t126.length : Int) then ((spec_l1Read.f kj13 (rdOf ByteArray.empty t126 0)).bind fun t136 => (if 1 < (t126.length : Int) then ((spec_l1Read.f kj13 (rdOf ByteArray.empty t126 1)).bind fun t138 => (if 2 < (t126.length : Int) then ((spec_l1Read.f kj13 (rdOf ByteArray.empty t126 2)).bind fun t140 => ((spec_woGood.f kj13 (rdOf ByteArray.empty t118 0) t131 t133 (rdOf ByteArray.empty t118 2) t136 t138 t140).bind fun t142 => (if t142 = true then (some (rdOf ByteArray.empty t118 0, t131, t133, rdOf ByteArray.empty t118 2, t136, t138, t140, true)) else (some ((⟨#[]⟩ : ByteArray), 0, 0, (⟨#[]⟩ : ByteArray), 0, 0, 0, false))))) else (none))) else (none))) else (none)) else (none))) else (none))) else (none)) else (none)) = some (r1, r2, r3, r4, r5, r6, r7, r8) := by rw [if_neg (show ¬ (false = true) by decide)] at H; exact H
         clear H; have H := H1; clear H1
         by_cases c25 : 0 < (t118.length : Int)
         ·
          rw [if_pos c25] at H
          have c25b0 : decide (0 < (t118.length : Int)) = true := decide_eq_true c25; have c25b1 : decide (0 < t118.length) = true := decide_eq_true (by omega); clear c25
          by_cases c26 : 0 < (t122.length : Int)
          ·
           rw [if_pos c26] at H
           have c26b0 : decide (0 < (t122.length : Int)) = true := decide_eq_true c26; have c26b1 : decide (0 < t122.length) = true := decide_eq_true (by omega); clear c26; replace H := Option.bind_eq_some_iff.mp H; obtain ⟨t131, A270, H⟩ := H; replace H : (if 1 < (t122.length : Int) then ((spec_l1Read.f kj13 (rdOf ByteArray.empty t122 1)).bind fun t133 => (if 2 < (t118.length : Int) then (if 0 < (t126.length : Int) then ((spec_l1Read.f kj13 (rdOf ByteArray.empty t126 0)).bind fun t136 => (if 1 < (t126.length : Int) then ((spec_l1Read.f kj13 (rdOf ByteArray.empty t126 1)).bind fun t138 => (if 2 < (t126.length : Int) then ((spec_l1Read.f kj13 (rdOf ByteArray.empty t126 2)).bind fun t140 => ((spec_woGood.f kj13 (rdOf ByteArray.empty t118 0) t131 t133 (rdOf ByteArray.empty t118 2) t136 t138 t140).bind fun t142 => (if t142 = true then (some (rdOf ByteArray.empty t118 0, t131, t133, rdOf ByteArray.empty t118 2, t136, t138, t140, true)) else (some ((⟨#[]⟩ : ByteArray), 0, 0, (⟨#[]⟩ : ByteArray), 0, 0, 0, false))))) else (none))) else (none))) else (none)) else (none))) else (none)) = some (r1, r2, r3, r4, r5, r6, r7, r8) := H; have A27 := Aside0.mk A270; clear A270
           by_cases c28 : 1 < (t122.length : Int)
           ·
            rw [if_pos c28] at H
            have c28b0 : decide (1 < (t122.length : Int)) = true := decide_eq_true c28; have c28b1 : decide (1 < t122.length) = true := decide_eq_true (by omega); clear c28; replace H := Option.bind_eq_some_iff.mp H; obtain ⟨t133, A290, H⟩ := H; replace H : (if 2 < (t118.length : Int) then (if 0 < (t126.length : Int) then ((spec_l1Read.f kj13 (rdOf ByteArray.empty t126 0)).bind fun t136 => (if 1 < (t126.length : Int) then ((spec_l1Read.f kj13 (rdOf ByteArray.empty t126 1)).bind fun t138 => (if 2 < (t126.length : Int) then ((spec_l1Read.f kj13 (rdOf ByteArray.empty t126 2)).bind fun t140 => ((spec_woGood.f kj13 (rdOf ByteArray.empty t118 0) t131 t133 (rdOf ByteArray.empty t118 2) t136 t138 t140).bind fun t142 => (if t142 = true then (some (rdOf ByteArray.empty t118 0, t131, t133, rdOf ByteArray.empty t118 2, t136, t138, t140, true)) else (some ((⟨#[]⟩ : ByteArray), 0, 0, (⟨#[]⟩ : ByteArray), 0, 0, 0, false))))) else (none))) else (none))) else (none)) else (none)) = some (r1, r2, r3, r4, r5, r6, r7, r8) := H; have A29 := Aside0.mk A290; clear A290
            by_cases c30 : 2 < (t118.length : Int)
            ·
             rw [if_pos c30] at H
             have c30b0 : decide (2 < (t118.length : Int)) = true := decide_eq_true c30; have c30b1 : decide (2 < t118.length) = true := decide_eq_true (by omega); clear c30
             by_cases c31 : 0 < (t126.length : Int)
             ·
              rw [if_pos c31] at H
              have c31b0 : decide (0 < (t126.length : Int)) = true := decide_eq_true c31; have c31b1 : decide (0 < t126.length) = true := decide_eq_true (by omega); clear c31; replace H := Option.bind_eq_some_iff.mp H; obtain ⟨t136, A320, H⟩ := H; replace H : (if 1 < (t126.length : Int) then ((spec_l1Read.f kj13 (rdOf ByteArray.empty t126 1)).bind fun t138 => (if 2 < (t126.length : Int) then ((spec_l1Read.f kj13 (rdOf ByteArray.empty t126 2)).bind fun t140 => ((spec_woGood.f kj13 (rdOf ByteArray.empty t118 0) t131 t133 (rdOf ByteArray.empty t118 2) t136 t138 t140).bind fun t142 => (if t142 = true then (some (rdOf ByteArray.empty t118 0, t131, t133, rdOf ByteArray.empty t118 2, t136, t138, t140, true)) else (some ((⟨#[]⟩ : ByteArray), 0, 0, (⟨#[]⟩ : ByteArray), 0, 0, 0, false))))) else (none))) else (none)) = some (r1, r2, r3, r4, r5, r6, r7, r8) := H; have A32 := Aside0.mk A320; clear A320
              by_cases c33 : 1 < (t126.length : Int)
              ·
               rw [if_pos c33] at H
               have c33b0 : decide (1 < (t126.length : Int)) = true := decide_eq_true c33; have c33b1 : decide (1 < t126.length) = true := decide_eq_true (by omega); clear c33; replace H := Option.bind_eq_some_iff.mp H; obtain ⟨t138, A340, H⟩ := H; replace H : (if 2 < (t126.length : Int) then ((spec_l1Read.f kj13 (rdOf ByteArray.empty t126 2)).bind fun t140 => ((spec_woGood.f kj13 (rdOf ByteArray.empty t118 0) t131 t133 (rdOf ByteArray.empty t118 2) t136 t138 t140).bind fun t142 => (if t142 = true then (some (rdOf ByteArray.empty t118 0, t131, t133, rdOf ByteArray.empty t118 2, t136, t138, t140, true)) else (some ((⟨#[]⟩ : ByteArray), 0, 0, (⟨#[]⟩ : ByteArray), 0, 0, 0, false))))) else (none)) = some (r1, r2, r3, r4, r5, r6, r7, r8) := H; have A34 := Aside0.mk A340; clear A340
               by_cases c35 : 2 < (t126.length : Int)
               ·
                rw [if_pos c35] at H
                have c35b0 : decide (2 < (t126.length : Int)) = true := decide_eq_true c35; have c35b1 : decide (2 < t126.length) = true := decide_eq_true (by omega); clear c35; replace H := Option.bind_eq_some_iff.mp H; obtain ⟨t140, A360, H⟩ := H; replace H : ((spec_woGood.f kj13 (rdOf ByteArray.empty t118 0) t131 t133 (rdOf ByteArray.empty t118 2) t136 t138 t140).bind fun t142 => (if t142 = true then (some (rdOf ByteArray.empty t118 0, t131, t133, rdOf ByteArray.empty t118 2, t136, t138, t140, true)) else (some ((⟨#[]⟩ : ByteArray), 0, 0, (⟨#[]⟩ : ByteArray), 0, 0, 0, false)))) = some (r1, r2, r3, r4, r5, r6, r7, r8) := H; have A36 := Aside0.mk A360; clear A360; replace H := Option.bind_eq_some_iff.mp H; obtain ⟨t142, A370, H⟩ := H; replace H : (if t142 = true then (some (rdOf ByteArray.empty t118 0, t131, t133, rdOf ByteArray.empty t118 2, t136, t138, t140, true)) else (some ((⟨#[]⟩ : ByteArray), 0, 0, (⟨#[]⟩ : ByteArray), 0, 0, 0, false))) = some (r1, r2, r3, r4, r5, r6, r7, r8) := H; have A37 := Aside0.mk A370; clear A370
                by_cases c38 : t142 = true
                ·
                 subst c38
                 have H1 : (some (rdOf ByteArray.empty t118 0, t131, t133, rdOf ByteArray.empty t118 2, t136, t138, t140, true)) = some (r1, r2, r3, r4, r5, r6, r7, r8) := by rw [if_pos rfl] at H; exact H
                 clear H; have H := H1; clear H1
                 simp only [Option.some.injEq, Prod.mk.injEq] at H
                 obtain ⟨rfl, rfl, rfl, rfl, rfl, rfl, rfl, rfl⟩ := H
                 try go_wp2
                 replace HO_4 := Aside0.mk (Kd.R_drew HO_4.out); replace HO_5 := Aside0.mk (Kd.R_drew HO_5.out); replace HO_6 := Aside0.mk (Kd.R_drew HO_6.out); replace BK117 := Aside0.mk (blk_drew BK117.out); replace HB := Aside0.mk (below_drew1 HB.out); have p129 : 0 ≤ (0 : Int) := (by omega); have q129 : 0 < (t118.length : Int) := of_decide_eq_true (by first | (with_reducible assumption) | assumption); obtain ⟨ad129, e129, hx129_0⟩ := Kd.at_string (Kd.R_reads' HO_4.out).2.2 0 p129 q129; obtain rfl : ad121 = ad129 := (by injection e129); have qi129 : (0 < t118.length) = True := eq_true (by omega)
                 (try rw [show ((0 : Int)).toNat = 0 from rfl] at hx129_0)
                 (try rw [Addr.add_zero'] at hx129_0)
                 replace p129 := eq_true p129; replace q129 := eq_true q129; obtain ⟨Ao40, co40, eo40⟩ := Kd.R_slice HO_5.out
                 (first | subst eo40 | (injection eo40 with f1_ f2_ f3_; have f4_ := f1_.symm; have f5_ := f3_.symm; clear f1_ f2_ f3_; subst f4_; subst f5_))
                 have p130 : 0 ≤ (0 : Int) := (by omega); have q130 : 0 < (t122.length : Int) := of_decide_eq_true (by first | (with_reducible assumption) | assumption); obtain ⟨ad130, e130, hx130_0⟩ := Kd.at_string (Kd.R_reads' HO_5.out).2.2 0 p130 q130; cases e130; have qi130 : (0 < t122.length) = True := eq_true (by omega)
                 (try rw [show ((0 : Int)).toNat = 0 from rfl] at hx130_0)
                 (try rw [Addr.add_zero'] at hx130_0)
                 replace p130 := eq_true p130; replace q130 := eq_true q130; have p132 : 0 ≤ (1 : Int) := (by omega); have q132 : 1 < (t122.length : Int) := of_decide_eq_true (by first | (with_reducible assumption) | assumption); obtain ⟨ad132, e132, hx132_0⟩ := Kd.at_string (Kd.R_reads' HO_5.out).2.2 1 p132 q132; obtain rfl : ad130 = ad132 := (by injection e132)
                 (try simp only [show (1 : Int).toNat = 1 from rfl, Nat.reduceMul, Nat.reduceEqDiff, Go.Addr.add, ↓reduceIte] at hx132_0)
                 have qi132 : (1 < t122.length) = True := eq_true (by omega)
                 (try rw [show ((1 : Int)).toNat = 1 from rfl] at hx132_0)
                 replace p132 := eq_true p132; replace q132 := eq_true q132; have p134 : 0 ≤ (2 : Int) := (by omega); have q134 : 2 < (t118.length : Int) := of_decide_eq_true (by first | (with_reducible assumption) | assumption); obtain ⟨ad134, e134, hx134_0⟩ := Kd.at_string (Kd.R_reads' HO_4.out).2.2 2 p134 q134; obtain rfl : ad121 = ad134 := (by injection e134)
                 (try simp only [show (2 : Int).toNat = 2 from rfl, Nat.reduceMul, Nat.reduceEqDiff, Go.Addr.add, ↓reduceIte] at hx134_0)
                 have qi134 : (2 < t118.length) = True := eq_true (by omega)
                 (try rw [show ((2 : Int)).toNat = 2 from rfl] at hx134_0)
                 replace p134 := eq_true p134; replace q134 := eq_true q134; obtain ⟨Ao41, co41, eo41⟩ := Kd.R_slice HO_6.out
                 (first | subst eo41 | (injection eo41 with f1_ f2_ f3_; have f4_ := f1_.symm; have f5_ := f3_.symm; clear f1_ f2_ f3_; subst f4_; subst f5_))
                 have p135 : 0 ≤ (0 : Int) := (by omega); have q135 : 0 < (t126.length : Int) := of_decide_eq_true (by first | (with_reducible assumption) | assumption); obtain ⟨ad135, e135, hx135_0⟩ := Kd.at_string (Kd.R_reads' HO_6.out).2.2 0 p135 q135; cases e135; have qi135 : (0 < t126.length) = True := eq_true (by omega)
                 (try rw [show ((0 : Int)).toNat = 0 from rfl] at hx135_0)
                 (try rw [Addr.add_zero'] at hx135_0)
                 replace p135 := eq_true p135; replace q135 := eq_true q135; have p137 : 0 ≤ (1 : Int) := (by omega); have q137 : 1 < (t126.length : Int) := of_decide_eq_true (by first | (with_reducible assumption) | assumption); obtain ⟨ad137, e137, hx137_0⟩ := Kd.at_string (Kd.R_reads' HO_6.out).2.2 1 p137 q137; obtain rfl : ad135 = ad137 := (by injection e137)
                 (try simp only [show (1 : Int).toNat = 1 from rfl, Nat.reduceMul, Nat.reduceEqDiff, Go.Addr.add, ↓reduceIte] at hx137_0)
                 have qi137 : (1 < t126.length) = True := eq_true (by omega)
                 (try rw [show ((1 : Int)).toNat = 1 from rfl] at hx137_0)
                 replace p137 := eq_true p137; replace q137 := eq_true q137; have p139 : 0 ≤ (2 : Int) := (by omega); have q139 : 2 < (t126.length : Int) := of_decide_eq_true (by first | (with_reducible assumption) | assumption); obtain ⟨ad139, e139, hx139_0⟩ := Kd.at_string (Kd.R_reads' HO_6.out).2.2 2 p139 q139; obtain rfl : ad135 = ad139 := (by injection e139)
                 (try simp only [show (2 : Int).toNat = 2 from rfl, Nat.reduceMul, Nat.reduceEqDiff, Go.Addr.add, ↓reduceIte] at hx139_0)
                 have qi139 : (2 < t126.length) = True := eq_true (by omega)
                 (try rw [show ((2 : Int)).toNat = 2 from rfl] at hx139_0)
                 replace p139 := eq_true p139; replace q139 := eq_true q139
                 refine start_ (n := 29) (S := fun w' => w'.cell? ad121 = some (.string (rdOf ByteArray.empty t118 0)) ∧ w'.cell? ad130 = some (.string (rdOf ByteArray.empty t122 0)) ∧ w'.cell? ⟨ad130.block, ad130.off + 1, none⟩ = some (.string (rdOf ByteArray.empty t122 1)) ∧ w'.cell? ⟨ad121.block, ad121.off + 2, none⟩ = some (.string (rdOf ByteArray.empty t118 2)) ∧ w'.cell? ad135 = some (.string (rdOf ByteArray.empty t126 0)) ∧ w'.cell? ⟨ad135.block, ad135.off + 1, none⟩ = some (.string (rdOf ByteArray.empty t126 1)) ∧ w'.cell? ⟨ad135.block, ad135.off + 2, none⟩ = some (.string (rdOf ByteArray.empty t126 2))) (ds := []) #[false, false, false, false, false, false, false, false, false, false, false, false, false, false, false, false, false, false, false, false, false, false, false, false, false, false, false, false, false] (by kernel_rfl) rfl rfl ⟨hx129_0, hx130_0, hx132_0, hx134_0, hx135_0, hx137_0, hx139_0⟩ (fun hHeld => ?_); refine with_tabW spec_woParse.tab7 spec_woParse.bits7 (fun HT_ HW_ => ?_)
                 generalize wc.drew = w39 at HO_4 HO_5 HO_6 BK117 HB hx129_0 hx130_0 hx132_0 hx134_0 hx135_0 hx137_0 hx139_0 hHeld ⊢
                 refine pure_ (i := 0) (N := some 36) (v := ?_) (a' := ?_) #[true, false, false, false, false, false, false, false, false, false, false, false, false, false, false, false, false, false, false, false, false, false, false, false, false, false, false, false, false] rfl rfl (any_of HT_.out (by kernel_rfl)) (fun _ _ _ h => h) (Or.inl ⟨by rfl, ?_⟩) ?_ ?_
                 rotate_left
                 ·
                  intro w'
                  go_simp
                  with_reducible rfl
                 rotate_left
                 ·
                  simp only [Act.put, List.setIfInBounds_toArray, List.set_cons_zero, List.set_cons_succ, i64_w, i32_w]
                  rfl
                 refine pure_ (i := 1) (N := some 37) (v := ?_) (a' := ?_) #[true, true, false, false, false, false, false, false, false, false, false, false, false, false, false, false, false, false, false, false, false, false, false, false, false, false, false, false, false] rfl rfl (any_of HT_.out (by kernel_rfl)) (fun _ _ _ h => h) (Or.inl ⟨by rfl, ?_⟩) ?_ ?_
                 rotate_left
                 ·
                  intro w'
                  go_simp
                  with_reducible rfl
                 rotate_left
                 ·
                  simp only [Act.put, List.setIfInBounds_toArray, List.set_cons_zero, List.set_cons_succ, i64_w, i32_w]
                  rfl
                 refine pure_ (i := 3) (N := some 39) (v := ?_) (a' := ?_) #[true, true, false, true, false, false, false, false, false, false, false, false, false, false, false, false, false, false, false, false, false, false, false, false, false, false, false, false, false] rfl rfl (any_of HT_.out (by kernel_rfl)) (fun _ _ _ h => h) (Or.inl ⟨by rfl, ?_⟩) ?_ ?_
                 rotate_left
                 ·
                  intro w'
                  go_simp
                  with_reducible rfl
                 rotate_left
                 ·
                  simp only [Act.put, List.setIfInBounds_toArray, List.set_cons_zero, List.set_cons_succ, i64_w, i32_w]
                  rfl
                 refine pure_ (i := 4) (N := some 40) (v := ?_) (a' := ?_) #[true, true, false, true, true, false, false, false, false, false, false, false, false, false, false, false, false, false, false, false, false, false, false, false, false, false, false, false, false] rfl rfl (any_of HT_.out (by kernel_rfl)) (fun _ _ _ h => h) (Or.inl ⟨by rfl, ?_⟩) ?_ ?_
                 rotate_left
                 ·
                  intro w'
                  go_simp
                  with_reducible rfl
                 rotate_left
                 ·
                  simp only [Act.put, List.setIfInBounds_toArray, List.set_cons_zero, List.set_cons_succ, i64_w, i32_w]
                  rfl
                 refine pure_ (i := 7) (N := some 43) (v := ?_) (a' := ?_) #[true, true, false, true, true, false, false, true, false, false, false, false, false, false, false, false, false, false, false, false, false, false, false, false, false, false, false, false, false] rfl rfl (any_of HT_.out (by kernel_rfl)) (fun _ _ _ h => h) (Or.inl ⟨by rfl, ?_⟩) ?_ ?_
                 rotate_left
                 ·
                  intro w'
                  go_simp
                  with_reducible rfl
                 rotate_left
                 ·
                  simp only [Act.put, List.setIfInBounds_toArray, List.set_cons_zero, List.set_cons_succ, i64_w, i32_w]
                  rfl
                 refine pure_ (i := 8) (N := some 44) (v := ?_) (a' := ?_) #[true, true, false, true, true, false, false, true, true, false, false, false, false, false, false, false, false, false, false, false, false, false, false, false, false, false, false, false, false] rfl rfl (any_of HT_.out (by kernel_rfl)) (fun _ _ _ h => h) (Or.inl ⟨by rfl, ?_⟩) ?_ ?_
                 rotate_left
                 ·
                  intro w'
                  go_simp
                  with_reducible rfl
                 rotate_left
                 ·
                  simp only [Act.put, List.setIfInBounds_toArray, List.set_cons_zero, List.set_cons_succ, i64_w, i32_w]
                  rfl
                 refine pure_ (i := 11) (N := some 47) (v := ?_) (a' := ?_) #[true, true, false, true, true, false, false, true, true, false, false, true, false, false, false, false, false, false, false, false, false, false, false, false, false, false, false, false, false] rfl rfl (any_of HT_.out (by kernel_rfl)) (fun _ _ _ h => h) (Or.inl ⟨by rfl, ?_⟩) ?_ ?_
                 rotate_left
                 ·
                  intro w'
                  go_simp
                  with_reducible rfl
                 rotate_left
                 ·
                  simp only [Act.put, List.setIfInBounds_toArray, List.set_cons_zero, List.set_cons_succ, i64_w, i32_w]
                  rfl
                 refine pure_ (i := 12) (N := some 48) (v := ?_) (a' := ?_) #[true, true, false, true, true, false, false, true, true, false, false, true, true, false, false, false, false, false, false, false, false, false, false, false, false, false, false, false, false] rfl rfl (any_of HT_.out (by kernel_rfl)) (fun _ _ _ h => h) (Or.inl ⟨by rfl, ?_⟩) ?_ ?_
                 rotate_left
                 ·
                  intro w'
                  go_simp
                  with_reducible rfl
                 rotate_left
                 ·
                  simp only [Act.put, List.setIfInBounds_toArray, List.set_cons_zero, List.set_cons_succ, i64_w, i32_w]
                  rfl
                 refine pure_ (i := 14) (N := some 50) (v := ?_) (a' := ?_) #[true, true, false, true, true, false, false, true, true, false, false, true, true, false, true, false, false, false, false, false, false, false, false, false, false, false, false, false, false] rfl rfl (any_of HT_.out (by kernel_rfl)) (fun _ _ _ h => h) (Or.inl ⟨by rfl, ?_⟩) ?_ ?_
                 rotate_left
                 ·
                  intro w'
                  go_simp
                  with_reducible rfl
                 rotate_left
                 ·
                  simp only [Act.put, List.setIfInBounds_toArray, List.set_cons_zero, List.set_cons_succ, i64_w, i32_w]
                  rfl
                 refine pure_ (i := 15) (N := some 51) (v := ?_) (a' := ?_) #[true, true, false, true, true, false, false, true, true, false, false, true, true, false, true, true, false, false, false, false, false, false, false, false, false, false, false, false, false] rfl rfl (any_of HT_.out (by kernel_rfl)) (fun _ _ _ h => h) (Or.inl ⟨by rfl, ?_⟩) ?_ ?_
                 rotate_left
                 ·
                  intro w'
                  go_simp
                  with_reducible rfl
                 rotate_left
                 ·
                  simp only [Act.put, List.setIfInBounds_toArray, List.set_cons_zero, List.set_cons_succ, i64_w, i32_w]
                  rfl
                 refine pure_ (i := 18) (N := some 54) (v := ?_) (a' := ?_) #[true, true, false, true, true, false, false, true, true, false, false, true, true, false, true, true, false, false, true, false, false, false, false, false, false, false, false, false, false] rfl rfl (any_of HT_.out (by kernel_rfl)) (fun _ _ _ h => h) (Or.inl ⟨by rfl, ?_⟩) ?_ ?_
                 rotate_left
                 ·
                  intro w'
                  go_simp
                  with_reducible rfl
                 rotate_left
                 ·
                  simp only [Act.put, List.setIfInBounds_toArray, List.set_cons_zero, List.set_cons_succ, i64_w, i32_w]
                  rfl
                 refine pure_ (i := 19) (N := some 55) (v := ?_) (a' := ?_) #[true, true, false, true, true, false, false, true, true, false, false, true, true, false, true, true, false, false, true, true, false, false, false, false, false, false, false, false, false] rfl rfl (any_of HT_.out (by kernel_rfl)) (fun _ _ _ h => h) (Or.inl ⟨by rfl, ?_⟩) ?_ ?_
                 rotate_left
                 ·
                  intro w'
                  go_simp
                  with_reducible rfl
                 rotate_left
                 ·
                  simp only [Act.put, List.setIfInBounds_toArray, List.set_cons_zero, List.set_cons_succ, i64_w, i32_w]
                  rfl
                 refine pure_ (i := 22) (N := some 58) (v := ?_) (a' := ?_) #[true, true, false, true, true, false, false, true, true, false, false, true, true, false, true, true, false, false, true, true, false, false, true, false, false, false, false, false, false] rfl rfl (any_of HT_.out (by kernel_rfl)) (fun _ _ _ h => h) (Or.inl ⟨by rfl, ?_⟩) ?_ ?_
                 rotate_left
                 ·
                  intro w'
                  go_simp
                  with_reducible rfl
                 rotate_left
                 ·
                  simp only [Act.put, List.setIfInBounds_toArray, List.set_cons_zero, List.set_cons_succ, i64_w, i32_w]
                  rfl
                 refine pure_ (i := 23) (N := some 59) (v := ?_) (a' := ?_) #[true, true, false, true, true, false, false, true, true, false, false, true, true, false, true, true, false, false, true, true, false, false, true, true, false, false, false, false, false] rfl rfl (any_of HT_.out (by kernel_rfl)) (fun _ _ _ h => h) (Or.inl ⟨by rfl, ?_⟩) ?_ ?_
                 rotate_left
                 ·
                  intro w'
                  go_simp
                  with_reducible rfl
                 rotate_left
                 ·
                  simp only [Act.put, List.setIfInBounds_toArray, List.set_cons_zero, List.set_cons_succ, i64_w, i32_w]
                  rfl
                 refine take_ (i := 2) (N := some 38) (v := ?_) (a' := ?_) #[true, true, true, true, true, false, false, true, true, false, false, true, true, false, true, true, false, false, true, true, false, false, true, true, false, false, false, false, false] rfl rfl (take_ofW HT_.out HW_.out (by kernel_rfl)) (fun _ _ _ h => h) (Or.inl ⟨by rfl, ?_⟩) hHeld ?_ ?_
                 rotate_left
                 ·
                  rintro w' ⟨s0, s1, s2, s3, s4, s5, s6⟩
                  go_simp
                  with_reducible rfl
                 rotate_left
                 ·
                  simp only [Act.put, List.setIfInBounds_toArray, List.set_cons_zero, List.set_cons_succ, i64_w, i32_w]
                  rfl
                 refine take_ (i := 5) (N := some 41) (v := ?_) (a' := ?_) #[true, true, true, true, true, true, false, true, true, false, false, true, true, false, true, true, false, false, true, true, false, false, true, true, false, false, false, false, false] rfl rfl (take_ofW HT_.out HW_.out (by kernel_rfl)) (fun _ _ _ h => h) (Or.inl ⟨by rfl, ?_⟩) hHeld ?_ ?_
                 rotate_left
                 ·
                  rintro w' ⟨s0, s1, s2, s3, s4, s5, s6⟩
                  go_simp
                  with_reducible rfl
                 rotate_left
                 ·
                  simp only [Act.put, List.setIfInBounds_toArray, List.set_cons_zero, List.set_cons_succ, i64_w, i32_w]
                  rfl
                 refine take_ (i := 9) (N := some 45) (v := ?_) (a' := ?_) #[true, true, true, true, true, true, false, true, true, true, false, true, true, false, true, true, false, false, true, true, false, false, true, true, false, false, false, false, false] rfl rfl (take_ofW HT_.out HW_.out (by kernel_rfl)) (fun _ _ _ h => h) (Or.inl ⟨by rfl, ?_⟩) hHeld ?_ ?_
                 rotate_left
                 ·
                  rintro w' ⟨s0, s1, s2, s3, s4, s5, s6⟩
                  go_simp
                  with_reducible rfl
                 rotate_left
                 ·
                  simp only [Act.put, List.setIfInBounds_toArray, List.set_cons_zero, List.set_cons_succ, i64_w, i32_w]
                  rfl
                 refine take_ (i := 13) (N := some 49) (v := ?_) (a' := ?_) #[true, true, true, true, true, true, false, true, true, true, false, true, true, true, true, true, false, false, true, true, false, false, true, true, false, false, false, false, false] rfl rfl (take_ofW HT_.out HW_.out (by kernel_rfl)) (fun _ _ _ h => h) (Or.inl ⟨by rfl, ?_⟩) hHeld ?_ ?_
                 rotate_left
                 ·
                  rintro w' ⟨s0, s1, s2, s3, s4, s5, s6⟩
                  go_simp
                  with_reducible rfl
                 rotate_left
                 ·
                  simp only [Act.put, List.setIfInBounds_toArray, List.set_cons_zero, List.set_cons_succ, i64_w, i32_w]
                  rfl
                 refine take_ (i := 16) (N := some 52) (v := ?_) (a' := ?_) #[true, true, true, true, true, true, false, true, true, true, false, true, true, true, true, true, true, false, true, true, false, false, true, true, false, false, false, false, false] rfl rfl (take_ofW HT_.out HW_.out (by kernel_rfl)) (fun _ _ _ h => h) (Or.inl ⟨by rfl, ?_⟩) hHeld ?_ ?_
                 rotate_left
                 ·
                  rintro w' ⟨s0, s1, s2, s3, s4, s5, s6⟩
                  go_simp
                  with_reducible rfl
                 rotate_left
                 ·
                  simp only [Act.put, List.setIfInBounds_toArray, List.set_cons_zero, List.set_cons_succ, i64_w, i32_w]
                  rfl
                 refine take_ (i := 20) (N := some 56) (v := ?_) (a' := ?_) #[true, true, true, true, true, true, false, true, true, true, false, true, true, true, true, true, true, false, true, true, true, false, true, true, false, false, false, false, false] rfl rfl (take_ofW HT_.out HW_.out (by kernel_rfl)) (fun _ _ _ h => h) (Or.inl ⟨by rfl, ?_⟩) hHeld ?_ ?_
                 rotate_left
                 ·
                  rintro w' ⟨s0, s1, s2, s3, s4, s5, s6⟩
                  go_simp
                  with_reducible rfl
                 rotate_left
                 ·
                  simp only [Act.put, List.setIfInBounds_toArray, List.set_cons_zero, List.set_cons_succ, i64_w, i32_w]
                  rfl
                 refine take_ (i := 24) (N := some 60) (v := ?_) (a' := ?_) #[true, true, true, true, true, true, false, true, true, true, false, true, true, true, true, true, true, false, true, true, true, false, true, true, true, false, false, false, false] rfl rfl (take_ofW HT_.out HW_.out (by kernel_rfl)) (fun _ _ _ h => h) (Or.inl ⟨by rfl, ?_⟩) hHeld ?_ ?_
                 rotate_left
                 ·
                  rintro w' ⟨s0, s1, s2, s3, s4, s5, s6⟩
                  go_simp
                  with_reducible rfl
                 rotate_left
                 ·
                  simp only [Act.put, List.setIfInBounds_toArray, List.set_cons_zero, List.set_cons_succ, i64_w, i32_w]
                  rfl
                 refine join_ (σ := Nat) 1 #[true, true, true, true, true, true, true, true, true, true, true, true, true, true, true, true, true, true, true, true, true, true, true, true, true, true, true, true, false] (fun s_ => [(42, .int .i64 t131), (46, .int .i64 t133), (53, .int .i64 t136), (57, .int .i64 t138), (61, .int .i64 t140), (7, .pointer (some ⟨s_, 0, none⟩)), (62, .agg #[.string (rdOf ByteArray.empty t118 0), .int .i64 t131, .int .i64 t133, .string (rdOf ByteArray.empty t118 2), .int .i64 t136, .int .i64 t138, .int .i64 t140])]) (fun s_ w' => (w'.cell? ad121 = some (.string (rdOf ByteArray.empty t118 0)) ∧ w'.cell? ad130 = some (.string (rdOf ByteArray.empty t122 0)) ∧ w'.cell? ⟨ad130.block, ad130.off + 1, none⟩ = some (.string (rdOf ByteArray.empty t122 1)) ∧ w'.cell? ⟨ad121.block, ad121.off + 2, none⟩ = some (.string (rdOf ByteArray.empty t118 2)) ∧ w'.cell? ad135 = some (.string (rdOf ByteArray.empty t126 0)) ∧ w'.cell? ⟨ad135.block, ad135.off + 1, none⟩ = some (.string (rdOf ByteArray.empty t126 1)) ∧ w'.cell? ⟨ad135.block, ad135.off + 2, none⟩ = some (.string (rdOf ByteArray.empty t126 2))) ∧ (Kd.R Kd.string 9 w' w.heap.size (fun k_ => some k_ ≠ (.slice (some ad130) t122.length co40 : Value).ownBlock ∧ some k_ ≠ (.slice (some ad135) t126.length co41 : Value).ownBlock) (.slice (some ad121) t118.length co16) t118) ∧ (Kd.R Kd.string 9 w' w.heap.size (fun k_ => some k_ ≠ (.slice (some ad121) t118.length co16 : Value).ownBlock ∧ some k_ ≠ (.slice (some ad135) t126.length co41 : Value).ownBlock) (.slice (some ad130) t122.length co40) t122) ∧ (Kd.R Kd.string 9 w' w.heap.size (fun k_ => some k_ ≠ (.slice (some ad121) t118.length co16 : Value).ownBlock ∧ some k_ ≠ (.slice (some ad130) t122.length co40 : Value).ownBlock) (.slice (some ad135) t126.length co41) t126) ∧ (w'.heap[gb117]? = some (.cells #[.string ⟨#[]⟩, .int .i64 0, .int .i64 0, .string ⟨#[]⟩, .int .i64 0, .int .i64 0, .int .i64 0] 23 (0, 0))) ∧ (w'.heap[s_]? = some (.cells #[.string ⟨#[]⟩, .int .i64 0, .int .i64 0, .string ⟨#[]⟩, .int .i64 0, .int .i64 0, .int .i64 0] 23 (0, 0))) ∧ (w.heap.size ≤ s_) ∧ (w.heap.size ≤ s_) ∧ (gb117 ≠ s_) ∧ (s_ ≠ gb117) ∧ (Below w.heap.size w w')) ?f1 ?c1
                 case' c1 =>
                  intro hJ6_10_17_21_25_27
                  refine join_ (σ := Unit) 2 #[true, true, true, true, true, true, true, true, true, true, true, true, true, true, true, true, true, true, true, true, true, true, true, true, true, true, true, false, false] (fun s_ => [(42, .int .i64 t131), (46, .int .i64 t133), (53, .int .i64 t136), (57, .int .i64 t138), (61, .int .i64 t140), (62, .agg #[.string (rdOf ByteArray.empty t118 0), .int .i64 t131, .int .i64 t133, .string (rdOf ByteArray.empty t118 2), .int .i64 t136, .int .i64 t138, .int .i64 t140])]) (fun s_ w' => (w'.cell? ad121 = some (.string (rdOf ByteArray.empty t118 0)) ∧ w'.cell? ad130 = some (.string (rdOf ByteArray.empty t122 0)) ∧ w'.cell? ⟨ad130.block, ad130.off + 1, none⟩ = some (.string (rdOf ByteArray.empty t122 1)) ∧ w'.cell? ⟨ad121.block, ad121.off + 2, none⟩ = some (.string (rdOf ByteArray.empty t118 2)) ∧ w'.cell? ad135 = some (.string (rdOf ByteArray.empty t126 0)) ∧ w'.cell? ⟨ad135.block, ad135.off + 1, none⟩ = some (.string (rdOf ByteArray.empty t126 1)) ∧ w'.cell? ⟨ad135.block, ad135.off + 2, none⟩ = some (.string (rdOf ByteArray.empty t126 2))) ∧ (Kd.R Kd.string 9 w' w.heap.size (fun k_ => some k_ ≠ (.slice (some ad130) t122.length co40 : Value).ownBlock ∧ some k_ ≠ (.slice (some ad135) t126.length co41 : Value).ownBlock) (.slice (some ad121) t118.length co16) t118) ∧ (Kd.R Kd.string 9 w' w.heap.size (fun k_ => some k_ ≠ (.slice (some ad121) t118.length co16 : Value).ownBlock ∧ some k_ ≠ (.slice (some ad135) t126.length co41 : Value).ownBlock) (.slice (some ad130) t122.length co40) t122) ∧ (Kd.R Kd.string 9 w' w.heap.size (fun k_ => some k_ ≠ (.slice (some ad121) t118.length co16 : Value).ownBlock ∧ some k_ ≠ (.slice (some ad130) t122.length co40 : Value).ownBlock) (.slice (some ad135) t126.length co41) t126) ∧ (w'.heap[gb117]? = some (.cells #[.string ⟨#[]⟩, .int .i64 0, .int .i64 0, .string ⟨#[]⟩, .int .i64 0, .int .i64 0, .int .i64 0] 23 (0, 0))) ∧ (Below w.heap.size w w')) ?f2 ?c2
                 case' c2 =>
                  intro hJ6_10_17_21_25
                  refine join_ (σ := Nat) 3 #[true, true, true, true, true, true, true, true, true, true, true, true, true, true, true, true, true, true, true, true, true, true, true, true, true, false, false, true, false] (fun s_ => [(42, .int .i64 t131), (46, .int .i64 t133), (53, .int .i64 t136), (57, .int .i64 t138), (7, .pointer (some ⟨s_, 0, none⟩))]) (fun s_ w' => (w'.cell? ad121 = some (.string (rdOf ByteArray.empty t118 0)) ∧ w'.cell? ad130 = some (.string (rdOf ByteArray.empty t122 0)) ∧ w'.cell? ⟨ad130.block, ad130.off + 1, none⟩ = some (.string (rdOf ByteArray.empty t122 1)) ∧ w'.cell? ⟨ad121.block, ad121.off + 2, none⟩ = some (.string (rdOf ByteArray.empty t118 2)) ∧ w'.cell? ad135 = some (.string (rdOf ByteArray.empty t126 0)) ∧ w'.cell? ⟨ad135.block, ad135.off + 1, none⟩ = some (.string (rdOf ByteArray.empty t126 1)) ∧ w'.cell? ⟨ad135.block, ad135.off + 2, none⟩ = some (.string (rdOf ByteArray.empty t126 2))) ∧ (Kd.R Kd.string 9 w' w.heap.size (fun k_ => some k_ ≠ (.slice (some ad130) t122.length co40 : Value).ownBlock ∧ some k_ ≠ (.slice (some ad135) t126.length co41 : Value).ownBlock) (.slice (some ad121) t118.length co16) t118) ∧ (Kd.R Kd.string 9 w' w.heap.size (fun k_ => some k_ ≠ (.slice (some ad121) t118.length co16 : Value).ownBlock ∧ some k_ ≠ (.slice (some ad135) t126.length co41 : Value).ownBlock) (.slice (some ad130) t122.length co40) t122) ∧ (Kd.R Kd.string 9 w' w.heap.size (fun k_ => some k_ ≠ (.slice (some ad121) t118.length co16 : Value).ownBlock ∧ some k_ ≠ (.slice (some ad130) t122.length co40 : Value).ownBlock) (.slice (some ad135) t126.length co41) t126) ∧ (w'.heap[gb117]? = some (.cells #[.string ⟨#[]⟩, .int .i64 0, .int .i64 0, .string ⟨#[]⟩, .int .i64 0, .int .i64 0, .int .i64 0] 23 (0, 0))) ∧ (w'.heap[s_]? = some (.cells #[.string ⟨#[]⟩, .int .i64 0, .int .i64 0, .string ⟨#[]⟩, .int .i64 0, .int .i64 0, .int .i64 0] 23 (0, 0))) ∧ (w.heap.size ≤ s_) ∧ (w.heap.size ≤ s_) ∧ (gb117 ≠ s_) ∧ (s_ ≠ gb117) ∧ (Below w.heap.size w w')) ?f3 ?c3
                 case' c3 =>
                  intro hJ6_10_17_21_27
                  refine join_ (σ := Unit) 4 #[true, true, true, true, true, true, true, true, true, true, true, true, true, true, true, true, true, true, true, true, true, true, true, true, true, false, false, false, false] (fun s_ => [(42, .int .i64 t131), (46, .int .i64 t133), (53, .int .i64 t136), (57, .int .i64 t138)]) (fun s_ w' => (w'.cell? ad121 = some (.string (rdOf ByteArray.empty t118 0)) ∧ w'.cell? ad130 = some (.string (rdOf ByteArray.empty t122 0)) ∧ w'.cell? ⟨ad130.block, ad130.off + 1, none⟩ = some (.string (rdOf ByteArray.empty t122 1)) ∧ w'.cell? ⟨ad121.block, ad121.off + 2, none⟩ = some (.string (rdOf ByteArray.empty t118 2)) ∧ w'.cell? ad135 = some (.string (rdOf ByteArray.empty t126 0)) ∧ w'.cell? ⟨ad135.block, ad135.off + 1, none⟩ = some (.string (rdOf ByteArray.empty t126 1)) ∧ w'.cell? ⟨ad135.block, ad135.off + 2, none⟩ = some (.string (rdOf ByteArray.empty t126 2))) ∧ (Kd.R Kd.string 9 w' w.heap.size (fun k_ => some k_ ≠ (.slice (some ad130) t122.length co40 : Value).ownBlock ∧ some k_ ≠ (.slice (some ad135) t126.length co41 : Value).ownBlock) (.slice (some ad121) t118.length co16) t118) ∧ (Kd.R Kd.string 9 w' w.heap.size (fun k_ => some k_ ≠ (.slice (some ad121) t118.length co16 : Value).ownBlock ∧ some k_ ≠ (.slice (some ad135) t126.length co41 : Value).ownBlock) (.slice (some ad130) t122.length co40) t122) ∧ (Kd.R Kd.string 9 w' w.heap.size (fun k_ => some k_ ≠ (.slice (some ad121) t118.length co16 : Value).ownBlock ∧ some k_ ≠ (.slice (some ad130) t122.length co40 : Value).ownBlock) (.slice (some ad135) t126.length co41) t126) ∧ (w'.heap[gb117]? = some (.cells #[.string ⟨#[]⟩, .int .i64 0, .int .i64 0, .string ⟨#[]⟩, .int .i64 0, .int .i64 0, .int .i64 0] 23 (0, 0))) ∧ (Below w.heap.size w w')) ?f4 ?c4
                 case' c4 =>
                  intro hJ6_10_17_21
                  refine join_ (σ := Nat) 4 #[true, true, true, true, true, true, true, true, true, true, true, true, true, true, true, true, true, true, true, true, true, false, true, true, true, false, false, true, false] (fun s_ => [(42, .int .i64 t131), (46, .int .i64 t133), (53, .int .i64 t136), (7, .pointer (some ⟨s_, 0, none⟩))]) (fun s_ w' => (w'.cell? ad121 = some (.string (rdOf ByteArray.empty t118 0)) ∧ w'.cell? ad130 = some (.string (rdOf ByteArray.empty t122 0)) ∧ w'.cell? ⟨ad130.block, ad130.off + 1, none⟩ = some (.string (rdOf ByteArray.empty t122 1)) ∧ w'.cell? ⟨ad121.block, ad121.off + 2, none⟩ = some (.string (rdOf ByteArray.empty t118 2)) ∧ w'.cell? ad135 = some (.string (rdOf ByteArray.empty t126 0)) ∧ w'.cell? ⟨ad135.block, ad135.off + 1, none⟩ = some (.string (rdOf ByteArray.empty t126 1)) ∧ w'.cell? ⟨ad135.block, ad135.off + 2, none⟩ = some (.string (rdOf ByteArray.empty t126 2))) ∧ (Kd.R Kd.string 9 w' w.heap.size (fun k_ => some k_ ≠ (.slice (some ad130) t122.length co40 : Value).ownBlock ∧ some k_ ≠ (.slice (some ad135) t126.length co41 : Value).ownBlock) (.slice (some ad121) t118.length co16) t118) ∧ (Kd.R Kd.string 9 w' w.heap.size (fun k_ => some k_ ≠ (.slice (some ad121) t118.length co16 : Value).ownBlock ∧ some k_ ≠ (.slice (some ad135) t126.length co41 : Value).ownBlock) (.slice (some ad130) t122.length co40) t122) ∧ (Kd.R Kd.string 9 w' w.heap.size (fun k_ => some k_ ≠ (.slice (some ad121) t118.length co16 : Value).ownBlock ∧ some k_ ≠ (.slice (some ad130) t122.length co40 : Value).ownBlock) (.slice (some ad135) t126.length co41) t126) ∧ (w'.heap[gb117]? = some (.cells #[.string ⟨#[]⟩, .int .i64 0, .int .i64 0, .string ⟨#[]⟩, .int .i64 0, .int .i64 0, .int .i64 0] 23 (0, 0))) ∧ (w'.heap[s_]? = some (.cells #[.string ⟨#[]⟩, .int .i64 0, .int .i64 0, .string ⟨#[]⟩, .int .i64 0, .int .i64 0, .int .i64 0] 23 (0, 0))) ∧ (w.heap.size ≤ s_) ∧ (w.heap.size ≤ s_) ∧ (gb117 ≠ s_) ∧ (s_ ≠ gb117) ∧ (Below w.heap.size w w')) ?f5 ?c5
                 case' c5 =>
                  intro hJ6_10_17_27
                  refine join_ (σ := Unit) 5 #[true, true, true, true, true, true, true, true, true, true, true, true, true, true, true, true, true, true, true, true, true, false, true, true, true, false, false, false, false] (fun s_ => [(42, .int .i64 t131), (46, .int .i64 t133), (53, .int .i64 t136)]) (fun s_ w' => (w'.cell? ad121 = some (.string (rdOf ByteArray.empty t118 0)) ∧ w'.cell? ad130 = some (.string (rdOf ByteArray.empty t122 0)) ∧ w'.cell? ⟨ad130.block, ad130.off + 1, none⟩ = some (.string (rdOf ByteArray.empty t122 1)) ∧ w'.cell? ⟨ad121.block, ad121.off + 2, none⟩ = some (.string (rdOf ByteArray.empty t118 2)) ∧ w'.cell? ad135 = some (.string (rdOf ByteArray.empty t126 0)) ∧ w'.cell? ⟨ad135.block, ad135.off + 1, none⟩ = some (.string (rdOf ByteArray.empty t126 1)) ∧ w'.cell? ⟨ad135.block, ad135.off + 2, none⟩ = some (.string (rdOf ByteArray.empty t126 2))) ∧ (Kd.R Kd.string 9 w' w.heap.size (fun k_ => some k_ ≠ (.slice (some ad130) t122.length co40 : Value).ownBlock ∧ some k_ ≠ (.slice (some ad135) t126.length co41 : Value).ownBlock) (.slice (some ad121) t118.length co16) t118) ∧ (Kd.R Kd.string 9 w' w.heap.size (fun k_ => some k_ ≠ (.slice (some ad121) t118.length co16 : Value).ownBlock ∧ some k_ ≠ (.slice (some ad135) t126.length co41 : Value).ownBlock) (.slice (some ad130) t122.length co40) t122) ∧ (Kd.R Kd.string 9 w' w.heap.size (fun k_ => some k_ ≠ (.slice (some ad121) t118.length co16 : Value).ownBlock ∧ some k_ ≠ (.slice (some ad130) t122.length co40 : Value).ownBlock) (.slice (some ad135) t126.length co41) t126) ∧ (w'.heap[gb117]? = some (.cells #[.string ⟨#[]⟩, .int .i64 0, .int .i64 0, .string ⟨#[]⟩, .int .i64 0, .int .i64 0, .int .i64 0] 23 (0, 0))) ∧ (Below w.heap.size w w')) ?f6 ?c6
                 case' c6 =>
                  intro hJ6_10_17
                  refine join_ (σ := Nat) 5 #[true, true, true, true, true, true, true, true, true, true, true, true, true, true, true, true, true, false, true, true, true, false, true, true, true, false, false, true, false] (fun s_ => [(42, .int .i64 t131), (46, .int .i64 t133), (7, .pointer (some ⟨s_, 0, none⟩))]) (fun s_ w' => (w'.cell? ad121 = some (.string (rdOf ByteArray.empty t118 0)) ∧ w'.cell? ad130 = some (.string (rdOf ByteArray.empty t122 0)) ∧ w'.cell? ⟨ad130.block, ad130.off + 1, none⟩ = some (.string (rdOf ByteArray.empty t122 1)) ∧ w'.cell? ⟨ad121.block, ad121.off + 2, none⟩ = some (.string (rdOf ByteArray.empty t118 2)) ∧ w'.cell? ad135 = some (.string (rdOf ByteArray.empty t126 0)) ∧ w'.cell? ⟨ad135.block, ad135.off + 1, none⟩ = some (.string (rdOf ByteArray.empty t126 1)) ∧ w'.cell? ⟨ad135.block, ad135.off + 2, none⟩ = some (.string (rdOf ByteArray.empty t126 2))) ∧ (Kd.R Kd.string 9 w' w.heap.size (fun k_ => some k_ ≠ (.slice (some ad130) t122.length co40 : Value).ownBlock ∧ some k_ ≠ (.slice (some ad135) t126.length co41 : Value).ownBlock) (.slice (some ad121) t118.length co16) t118) ∧ (Kd.R Kd.string 9 w' w.heap.size (fun k_ => some k_ ≠ (.slice (some ad121) t118.length co16 : Value).ownBlock ∧ some k_ ≠ (.slice (some ad135) t126.length co41 : Value).ownBlock) (.slice (some ad130) t122.length co40) t122) ∧ (Kd.R Kd.string 9 w' w.heap.size (fun k_ => some k_ ≠ (.slice (some ad121) t118.length co16 : Value).ownBlock ∧ some k_ ≠ (.slice (some ad130) t122.length co40 : Value).ownBlock) (.slice (some ad135) t126.length co41) t126) ∧ (w'.heap[gb117]? = some (.cells #[.string ⟨#[]⟩, .int .i64 0, .int .i64 0, .string ⟨#[]⟩, .int .i64 0, .int .i64 0, .int .i64 0] 23 (0, 0))) ∧ (w'.heap[s_]? = some (.cells #[.string ⟨#[]⟩, .int .i64 0, .int .i64 0, .string ⟨#[]⟩, .int .i64 0, .int .i64 0, .int .i64 0] 23 (0, 0))) ∧ (w.heap.size ≤ s_) ∧ (w.heap.size ≤ s_) ∧ (gb117 ≠ s_) ∧ (s_ ≠ gb117) ∧ (Below w.heap.size w w')) ?f7 ?c7
                 case' c7 =>
                  intro hJ6_10_27
                  refine join_ (σ := Unit) 6 #[true, true, true, true, true, true, true, true, true, true, true, true, true, true, true, true, true, false, true, true, true, false, true, true, true, false, false, false, false] (fun s_ => [(42, .int .i64 t131), (46, .int .i64 t133)]) (fun s_ w' => (w'.cell? ad121 = some (.string (rdOf ByteArray.empty t118 0)) ∧ w'.cell? ad130 = some (.string (rdOf ByteArray.empty t122 0)) ∧ w'.cell? ⟨ad130.block, ad130.off + 1, none⟩ = some (.string (rdOf ByteArray.empty t122 1)) ∧ w'.cell? ⟨ad121.block, ad121.off + 2, none⟩ = some (.string (rdOf ByteArray.empty t118 2)) ∧ w'.cell? ad135 = some (.string (rdOf ByteArray.empty t126 0)) ∧ w'.cell? ⟨ad135.block, ad135.off + 1, none⟩ = some (.string (rdOf ByteArray.empty t126 1)) ∧ w'.cell? ⟨ad135.block, ad135.off + 2, none⟩ = some (.string (rdOf ByteArray.empty t126 2))) ∧ (Kd.R Kd.string 9 w' w.heap.size (fun k_ => some k_ ≠ (.slice (some ad130) t122.length co40 : Value).ownBlock ∧ some k_ ≠ (.slice (some ad135) t126.length co41 : Value).ownBlock) (.slice (some ad121) t118.length co16) t118) ∧ (Kd.R Kd.string 9 w' w.heap.size (fun k_ => some k_ ≠ (.slice (some ad121) t118.length co16 : Value).ownBlock ∧ some k_ ≠ (.slice (some ad135) t126.length co41 : Value).ownBlock) (.slice (some ad130) t122.length co40) t122) ∧ (Kd.R Kd.string 9 w' w.heap.size (fun k_ => some k_ ≠ (.slice (some ad121) t118.length co16 : Value).ownBlock ∧ some k_ ≠ (.slice (some ad130) t122.length co40 : Value).ownBlock) (.slice (some ad135) t126.length co41) t126) ∧ (w'.heap[gb117]? = some (.cells #[.string ⟨#[]⟩, .int .i64 0, .int .i64 0, .string ⟨#[]⟩, .int .i64 0, .int .i64 0, .int .i64 0] 23 (0, 0))) ∧ (Below w.heap.size w w')) ?f8 ?c8
                 case' c8 =>
                  intro hJ6_10
                  refine join_ (σ := Nat) 6 #[true, true, true, true, true, true, true, true, true, true, false, true, true, true, true, true, true, false, true, true, true, false, true, true, true, false, false, true, false] (fun s_ => [(42, .int .i64 t131), (7, .pointer (some ⟨s_, 0, none⟩))]) (fun s_ w' => (w'.cell? ad121 = some (.string (rdOf ByteArray.empty t118 0)) ∧ w'.cell? ad130 = some (.string (rdOf ByteArray.empty t122 0)) ∧ w'.cell? ⟨ad130.block, ad130.off + 1, none⟩ = some (.string (rdOf ByteArray.empty t122 1)) ∧ w'.cell? ⟨ad121.block, ad121.off + 2, none⟩ = some (.string (rdOf ByteArray.empty t118 2)) ∧ w'.cell? ad135 = some (.string (rdOf ByteArray.empty t126 0)) ∧ w'.cell? ⟨ad135.block, ad135.off + 1, none⟩ = some (.string (rdOf ByteArray.empty t126 1)) ∧ w'.cell? ⟨ad135.block, ad135.off + 2, none⟩ = some (.string (rdOf ByteArray.empty t126 2))) ∧ (Kd.R Kd.string 9 w' w.heap.size (fun k_ => some k_ ≠ (.slice (some ad130) t122.length co40 : Value).ownBlock ∧ some k_ ≠ (.slice (some ad135) t126.length co41 : Value).ownBlock) (.slice (some ad121) t118.length co16) t118) ∧ (Kd.R Kd.string 9 w' w.heap.size (fun k_ => some k_ ≠ (.slice (some ad121) t118.length co16 : Value).ownBlock ∧ some k_ ≠ (.slice (some ad135) t126.length co41 : Value).ownBlock) (.slice (some ad130) t122.length co40) t122) ∧ (Kd.R Kd.string 9 w' w.heap.size (fun k_ => some k_ ≠ (.slice (some ad121) t118.length co16 : Value).ownBlock ∧ some k_ ≠ (.slice (some ad130) t122.length co40 : Value).ownBlock) (.slice (some ad135) t126.length co41) t126) ∧ (w'.heap[gb117]? = some (.cells #[.string ⟨#[]⟩, .int .i64 0, .int .i64 0, .string ⟨#[]⟩, .int .i64 0, .int .i64 0, .int .i64 0] 23 (0, 0))) ∧ (w'.heap[s_]? = some (.cells #[.string ⟨#[]⟩, .int .i64 0, .int .i64 0, .string ⟨#[]⟩, .int .i64 0, .int .i64 0, .int .i64 0] 23 (0, 0))) ∧ (w.heap.size ≤ s_) ∧ (w.heap.size ≤ s_) ∧ (gb117 ≠ s_) ∧ (s_ ≠ gb117) ∧ (Below w.heap.size w w')) ?f9 ?c9
                 case' c9 =>
                  intro hJ6_27
                  refine join_ (σ := Unit) 7 #[true, true, true, true, true, true, true, true, true, true, false, true, true, true, true, true, true, false, true, true, true, false, true, true, true, false, false, false, false] (fun s_ => [(42, .int .i64 t131)]) (fun s_ w' => (w'.cell? ad121 = some (.string (rdOf ByteArray.empty t118 0)) ∧ w'.cell? ad130 = some (.string (rdOf ByteArray.empty t122 0)) ∧ w'.cell? ⟨ad130.block, ad130.off + 1, none⟩ = some (.string (rdOf ByteArray.empty t122 1)) ∧ w'.cell? ⟨ad121.block, ad121.off + 2, none⟩ = some (.string (rdOf ByteArray.empty t118 2)) ∧ w'.cell? ad135 = some (.string (rdOf ByteArray.empty t126 0)) ∧ w'.cell? ⟨ad135.block, ad135.off + 1, none⟩ = some (.string (rdOf ByteArray.empty t126 1)) ∧ w'.cell? ⟨ad135.block, ad135.off + 2, none⟩ = some (.string (rdOf ByteArray.empty t126 2))) ∧ (Kd.R Kd.string 9 w' w.heap.size (fun k_ => some k_ ≠ (.slice (some ad130) t122.length co40 : Value).ownBlock ∧ some k_ ≠ (.slice (some ad135) t126.length co41 : Value).ownBlock) (.slice (some ad121) t118.length co16) t118) ∧ (Kd.R Kd.string 9 w' w.heap.size (fun k_ => some k_ ≠ (.slice (some ad121) t118.length co16 : Value).ownBlock ∧ some k_ ≠ (.slice (some ad135) t126.length co41 : Value).ownBlock) (.slice (some ad130) t122.length co40) t122) ∧ (Kd.R Kd.string 9 w' w.heap.size (fun k_ => some k_ ≠ (.slice (some ad121) t118.length co16 : Value).ownBlock ∧ some k_ ≠ (.slice (some ad130) t122.length co40 : Value).ownBlock) (.slice (some ad135) t126.length co41) t126) ∧ (w'.heap[gb117]? = some (.cells #[.string ⟨#[]⟩, .int .i64 0, .int .i64 0, .string ⟨#[]⟩, .int .i64 0, .int .i64 0, .int .i64 0] 23 (0, 0))) ∧ (Below w.heap.size w w')) ?f10 ?c10
                 case' c10 =>
                  intro hJ6
                  refine join_ (σ := Nat) 7 #[true, true, true, true, true, true, false, true, true, true, false, true, true, true, true, true, true, false, true, true, true, false, true, true, true, false, false, true, false] (fun s_ => [(7, .pointer (some ⟨s_, 0, none⟩))]) (fun s_ w' => (w'.cell? ad121 = some (.string (rdOf ByteArray.empty t118 0)) ∧ w'.cell? ad130 = some (.string (rdOf ByteArray.empty t122 0)) ∧ w'.cell? ⟨ad130.block, ad130.off + 1, none⟩ = some (.string (rdOf ByteArray.empty t122 1)) ∧ w'.cell? ⟨ad121.block, ad121.off + 2, none⟩ = some (.string (rdOf ByteArray.empty t118 2)) ∧ w'.cell? ad135 = some (.string (rdOf ByteArray.empty t126 0)) ∧ w'.cell? ⟨ad135.block, ad135.off + 1, none⟩ = some (.string (rdOf ByteArray.empty t126 1)) ∧ w'.cell? ⟨ad135.block, ad135.off + 2, none⟩ = some (.string (rdOf ByteArray.empty t126 2))) ∧ (Kd.R Kd.string 9 w' w.heap.size (fun k_ => some k_ ≠ (.slice (some ad130) t122.length co40 : Value).ownBlock ∧ some k_ ≠ (.slice (some ad135) t126.length co41 : Value).ownBlock) (.slice (some ad121) t118.length co16) t118) ∧ (Kd.R Kd.string 9 w' w.heap.size (fun k_ => some k_ ≠ (.slice (some ad121) t118.length co16 : Value).ownBlock ∧ some k_ ≠ (.slice (some ad135) t126.length co41 : Value).ownBlock) (.slice (some ad130) t122.length co40) t122) ∧ (Kd.R Kd.string 9 w' w.heap.size (fun k_ => some k_ ≠ (.slice (some ad121) t118.length co16 : Value).ownBlock ∧ some k_ ≠ (.slice (some ad130) t122.length co40 : Value).ownBlock) (.slice (some ad135) t126.length co41) t126) ∧ (w'.heap[gb117]? = some (.cells #[.string ⟨#[]⟩, .int .i64 0, .int .i64 0, .string ⟨#[]⟩, .int .i64 0, .int .i64 0, .int .i64 0] 23 (0, 0))) ∧ (w'.heap[s_]? = some (.cells #[.string ⟨#[]⟩, .int .i64 0, .int .i64 0, .string ⟨#[]⟩, .int .i64 0, .int .i64 0, .int .i64 0] 23 (0, 0))) ∧ (w.heap.size ≤ s_) ∧ (w.heap.size ≤ s_) ∧ (gb117 ≠ s_) ∧ (s_ ≠ gb117) ∧ (Below w.heap.size w w')) ?f11 ?c11
                 case c11 =>
                  intro hJ27
                  refine two_ (i := 6) (j := 27) (Ni := some 42) (Nj := some 7) #[true, true, true, true, true, true, true, true, true, true, false, true, true, true, true, true, true, false, true, true, true, false, true, true, true, false, false, false, false] #[true, true, true, true, true, true, false, true, true, true, false, true, true, true, true, true, true, false, true, true, true, false, true, true, true, false, false, true, false] rfl rfl rfl rfl (two_of HT_.out (by kernel_rfl)) (by decide) (by decide) (fun K hK => ?_) (fun K hK => ?_)
                  ·
                   refine goes_ Tryd.func35 (by kernel_rfl) rfl #[.string (rdOf ByteArray.empty t122 0)] (by rfl) rfl rfl (by (try simp only [List.map_toArray, List.map_cons, List.map_nil]); first | done | rfl | (simp only [List.length_drop, List.length_take]; rfl)) ?_
                   with_reducible refine (spec_l1Read.calls kj13 (rdOf ByteArray.empty t122 0) t131 _ A27.out).mono ?_
                   rintro e w' ⟨rfl, ⟨nd, rfl⟩⟩
                   refine ⟨_, rfl, ?_⟩
                   refine hK.out _ _ ⟨hHeld.1, hHeld.2.1, hHeld.2.2.1, hHeld.2.2.2.1, hHeld.2.2.2.2.1, hHeld.2.2.2.2.2.1, hHeld.2.2.2.2.2.2⟩ (fun hHeld => ?_)
                   clear hK K
                   refine norm_ (a' := ?_) ?_ ?_
                   rotate_left
                   ·
                    show Act.put _ (some 42) _ = _
                    simp only [Act.put, List.setIfInBounds_toArray, List.set_cons_zero, List.set_cons_succ, i64_w, i32_w]
                    rfl
                   exact norm_ (by simp only [putAll, Act.put, List.setIfInBounds_toArray, List.set_cons_zero, List.set_cons_succ] <;> rfl) (hJ6 () _ ⟨hHeld, (XSq.pR HO_4), (XSq.pR HO_5), (XSq.pR HO_6), (XSq.bq BK117), (XSq.bB HB)⟩)
                  ·
                   refine box_step ?hg (N := 7) ?hd (cs := #[.string ⟨#[]⟩, .int .i64 0, .int .i64 0, .string ⟨#[]⟩, .int .i64 0, .int .i64 0, .int .i64 0]) (t := 23) ?hr ?_; (case hd => rfl); (case hg => rfl); (case hr => first | (go_simp; done) | (go_simp; rfl))
                   intro gb141 hg w42 hbox hb; have HS0_ := (hb.cell (World.block_lt_of_cell? _ _ (hHeld.1))).trans (hHeld.1); have HS1_ := (hb.cell (World.block_lt_of_cell? _ _ (hHeld.2.1))).trans (hHeld.2.1); have HS2_ := (hb.cell (World.block_lt_of_cell? _ _ (hHeld.2.2.1))).trans (hHeld.2.2.1); have HS3_ := (hb.cell (World.block_lt_of_cell? _ _ (hHeld.2.2.2.1))).trans (hHeld.2.2.2.1); have HS4_ := (hb.cell (World.block_lt_of_cell? _ _ (hHeld.2.2.2.2.1))).trans (hHeld.2.2.2.2.1); have HS5_ := (hb.cell (World.block_lt_of_cell? _ _ (hHeld.2.2.2.2.2.1))).trans (hHeld.2.2.2.2.2.1); have HS6_ := (hb.cell (World.block_lt_of_cell? _ _ (hHeld.2.2.2.2.2.2))).trans (hHeld.2.2.2.2.2.2); have n0_ := Aside0.mk (Kd.R_below (XSq.pR HO_4) hb); have n1_ := Aside0.mk (Kd.R_below (XSq.pR HO_5) hb); have n2_ := Aside0.mk (Kd.R_below (XSq.pR HO_6) hb); have n3_ := Aside0.mk (blk_below (g := gb117) (o := .cells #[.string ⟨#[]⟩, .int .i64 0, .int .i64 0, .string ⟨#[]⟩, .int .i64 0, .int .i64 0, .int .i64 0] 23 (0, 0)) (XSq.bq BK117) hb); have n4_ := Aside0.mk (below_step (XSq.bB HB) hb); have n5_ := Aside0.mk (hbox); have n6_ := XSq.gw hg (XSq.bB HB); have n7_ := XSq.gw hg (XSq.bB HB); have n8_ := Aside0.mk ((by rw [hg]; exact Nat.ne_of_lt (blk_lt (g := gb117) (o := .cells #[.string ⟨#[]⟩, .int .i64 0, .int .i64 0, .string ⟨#[]⟩, .int .i64 0, .int .i64 0, .int .i64 0] 23 (0, 0)) (XSq.bq BK117)) : gb117 ≠ gb141)); have n9_ := Aside0.mk ((by rw [hg]; exact Nat.ne_of_gt (blk_lt (g := gb117) (o := .cells #[.string ⟨#[]⟩, .int .i64 0, .int .i64 0, .string ⟨#[]⟩, .int .i64 0, .int .i64 0, .int .i64 0] 23 (0, 0)) (XSq.bq BK117)) : gb141 ≠ gb117)); clear HO_4 HO_5 HO_6 BK117 HB; have HO_4 := n0_; have HO_5 := n1_; have HO_6 := n2_; have BK117 := n3_; have HB := n4_; have BK141 := n5_; have GW141 := n6_; have GE141 := n7_; have NB117_141 := n8_; have NB141_117 := n9_; clear n0_ n1_ n2_ n3_ n4_ n5_ n6_ n7_ n8_ n9_ hb hbox hg
                   refine hK.out _ _ ⟨HS0_, HS1_, HS2_, HS3_, HS4_, HS5_, HS6_⟩ (fun hHeld => ?_)
                   clear hK K
                   refine norm_ (a' := ?_) ?_ ?_
                   rotate_left
                   ·
                    show Act.put _ (some 7) _ = _
                    simp only [Act.put, List.setIfInBounds_toArray, List.set_cons_zero, List.set_cons_succ, i64_w, i32_w]
                    rfl
                   exact norm_ (by simp only [putAll, Act.put, List.setIfInBounds_toArray, List.set_cons_zero, List.set_cons_succ] <;> rfl) (hJ27 (gb141) _ ⟨hHeld, (XSq.pR HO_4), (XSq.pR HO_5), (XSq.pR HO_6), (XSq.bq BK117), (XSq.bq BK141), GW141.out, GE141.out, NB117_141.out, NB141_117.out, (XSq.bB HB)⟩)
                 case f11 =>
                  ·
                   rintro gb141 w43 ⟨hS_, h0_, h1_, h2_, h3_, h4_, h5_, h6_, h7_, h8_, h9_⟩; have BK141 : Aside0 (w43.heap[gb141]? = some (.cells #[.string ⟨#[]⟩, .int .i64 0, .int .i64 0, .string ⟨#[]⟩, .int .i64 0, .int .i64 0, .int .i64 0] 23 (0, 0))) := ⟨h4_⟩; have GW141 : Aside0 (w.heap.size ≤ gb141) := ⟨h5_⟩; have GE141 : Aside0 (w.heap.size ≤ gb141) := ⟨h6_⟩; have NB117_141 : Aside0 (gb117 ≠ gb141) := ⟨h7_⟩; have NB141_117 : Aside0 (gb141 ≠ gb117) := ⟨h8_⟩; replace HO_4 : Aside0 (Kd.R Kd.string 9 w43 w.heap.size (fun k_ => some k_ ≠ (.slice (some ad130) t122.length co40 : Value).ownBlock ∧ some k_ ≠ (.slice (some ad135) t126.length co41 : Value).ownBlock) (.slice (some ad121) t118.length co16) t118) := ⟨h0_⟩; replace HO_5 : Aside0 (Kd.R Kd.string 9 w43 w.heap.size (fun k_ => some k_ ≠ (.slice (some ad121) t118.length co16 : Value).ownBlock ∧ some k_ ≠ (.slice (some ad135) t126.length co41 : Value).ownBlock) (.slice (some ad130) t122.length co40) t122) := ⟨h1_⟩; replace HO_6 : Aside0 (Kd.R Kd.string 9 w43 w.heap.size (fun k_ => some k_ ≠ (.slice (some ad121) t118.length co16 : Value).ownBlock ∧ some k_ ≠ (.slice (some ad130) t122.length co40 : Value).ownBlock) (.slice (some ad135) t126.length co41) t126) := ⟨h2_⟩; replace BK117 : Aside0 (w43.heap[gb117]? = some (.cells #[.string ⟨#[]⟩, .int .i64 0, .int .i64 0, .string ⟨#[]⟩, .int .i64 0, .int .i64 0, .int .i64 0] 23 (0, 0))) := ⟨h3_⟩; replace HB : Aside0 (Below w.heap.size w w43) := ⟨h9_⟩; clear h0_ h1_ h2_ h3_ h4_ h5_ h6_ h7_ h8_ h9_; have hHeld : w43.cell? ad121 = some (.string (rdOf ByteArray.empty t118 0)) ∧ w43.cell? ad130 = some (.string (rdOf ByteArray.empty t122 0)) ∧ w43.cell? ⟨ad130.block, ad130.off + 1, none⟩ = some (.string (rdOf ByteArray.empty t122 1)) ∧ w43.cell? ⟨ad121.block, ad121.off + 2, none⟩ = some (.string (rdOf ByteArray.empty t118 2)) ∧ w43.cell? ad135 = some (.string (rdOf ByteArray.empty t126 0)) ∧ w43.cell? ⟨ad135.block, ad135.off + 1, none⟩ = some (.string (rdOf ByteArray.empty t126 1)) ∧ w43.cell? ⟨ad135.block, ad135.off + 2, none⟩ = some (.string (rdOf ByteArray.empty t126 2)) := hS_
                   refine norm_ (a' := ?_) ?_ ?_
                   rotate_left
                   ·
                    simp only [putAll, Act.put, List.setIfInBounds_toArray, List.set_cons_zero, List.set_cons_succ]
                    rfl
                   refine one_ (i := 6) (N := some 42) #[true, true, true, true, true, true, true, true, true, true, false, true, true, true, true, true, true, false, true, true, true, false, true, true, true, false, false, true, false] rfl rfl (one_of HT_.out (by kernel_rfl)) (by decide) (fun K hK => ?_)
                   refine goes_ Tryd.func35 (by kernel_rfl) rfl #[.string (rdOf ByteArray.empty t122 0)] (by rfl) rfl rfl (by (try simp only [List.map_toArray, List.map_cons, List.map_nil]); first | done | rfl | (simp only [List.length_drop, List.length_take]; rfl)) ?_
                   with_reducible refine (spec_l1Read.calls kj13 (rdOf ByteArray.empty t122 0) t131 _ A27.out).mono ?_
                   rintro e w' ⟨rfl, ⟨nd, rfl⟩⟩
                   refine ⟨_, rfl, ?_⟩
                   refine hK.out _ _ ⟨hHeld.1, hHeld.2.1, hHeld.2.2.1, hHeld.2.2.2.1, hHeld.2.2.2.2.1, hHeld.2.2.2.2.2.1, hHeld.2.2.2.2.2.2⟩ (fun hHeld => ?_)
                   clear hK K
                   refine norm_ (a' := ?_) ?_ ?_
                   rotate_left
                   ·
                    show Act.put _ (some 42) _ = _
                    simp only [Act.put, List.setIfInBounds_toArray, List.set_cons_zero, List.set_cons_succ, i64_w, i32_w]
                    rfl
                   exact norm_ (by simp only [putAll, Act.put, List.setIfInBounds_toArray, List.set_cons_zero, List.set_cons_succ] <;> rfl) (hJ6_27 (gb141) _ ⟨hHeld, (XSq.pR HO_4), (XSq.pR HO_5), (XSq.pR HO_6), (XSq.bq BK117), (XSq.bq BK141), GW141.out, GE141.out, NB117_141.out, NB141_117.out, (XSq.bB HB)⟩)
                 case f10 =>
                  ·
                   rintro _ w42 ⟨hS_, h0_, h1_, h2_, h3_, h4_⟩; replace HO_4 : Aside0 (Kd.R Kd.string 9 w42 w.heap.size (fun k_ => some k_ ≠ (.slice (some ad130) t122.length co40 : Value).ownBlock ∧ some k_ ≠ (.slice (some ad135) t126.length co41 : Value).ownBlock) (.slice (some ad121) t118.length co16) t118) := ⟨h0_⟩; replace HO_5 : Aside0 (Kd.R Kd.string 9 w42 w.heap.size (fun k_ => some k_ ≠ (.slice (some ad121) t118.length co16 : Value).ownBlock ∧ some k_ ≠ (.slice (some ad135) t126.length co41 : Value).ownBlock) (.slice (some ad130) t122.length co40) t122) := ⟨h1_⟩; replace HO_6 : Aside0 (Kd.R Kd.string 9 w42 w.heap.size (fun k_ => some k_ ≠ (.slice (some ad121) t118.length co16 : Value).ownBlock ∧ some k_ ≠ (.slice (some ad130) t122.length co40 : Value).ownBlock) (.slice (some ad135) t126.length co41) t126) := ⟨h2_⟩; replace BK117 : Aside0 (w42.heap[gb117]? = some (.cells #[.string ⟨#[]⟩, .int .i64 0, .int .i64 0, .string ⟨#[]⟩, .int .i64 0, .int .i64 0, .int .i64 0] 23 (0, 0))) := ⟨h3_⟩; replace HB : Aside0 (Below w.heap.size w w42) := ⟨h4_⟩; clear h0_ h1_ h2_ h3_ h4_; have hHeld : w42.cell? ad121 = some (.string (rdOf ByteArray.empty t118 0)) ∧ w42.cell? ad130 = some (.string (rdOf ByteArray.empty t122 0)) ∧ w42.cell? ⟨ad130.block, ad130.off + 1, none⟩ = some (.string (rdOf ByteArray.empty t122 1)) ∧ w42.cell? ⟨ad121.block, ad121.off + 2, none⟩ = some (.string (rdOf ByteArray.empty t118 2)) ∧ w42.cell? ad135 = some (.string (rdOf ByteArray.empty t126 0)) ∧ w42.cell? ⟨ad135.block, ad135.off + 1, none⟩ = some (.string (rdOf ByteArray.empty t126 1)) ∧ w42.cell? ⟨ad135.block, ad135.off + 2, none⟩ = some (.string (rdOf ByteArray.empty t126 2)) := hS_
                   refine norm_ (a' := ?_) ?_ ?_
                   rotate_left
                   ·
                    simp only [putAll, Act.put, List.setIfInBounds_toArray, List.set_cons_zero, List.set_cons_succ]
                    rfl
                   refine two_ (i := 10) (j := 27) (Ni := some 46) (Nj := some 7) #[true, true, true, true, true, true, true, true, true, true, true, true, true, true, true, true, true, false, true, true, true, false, true, true, true, false, false, false, false] #[true, true, true, true, true, true, true, true, true, true, false, true, true, true, true, true, true, false, true, true, true, false, true, true, true, false, false, true, false] rfl rfl rfl rfl (two_of HT_.out (by kernel_rfl)) (by decide) (by decide) (fun K hK => ?_) (fun K hK => ?_)
                   ·
                    refine goes_ Tryd.func35 (by kernel_rfl) rfl #[.string (rdOf ByteArray.empty t122 1)] (by rfl) rfl rfl (by (try simp only [List.map_toArray, List.map_cons, List.map_nil]); first | done | rfl | (simp only [List.length_drop, List.length_take]; rfl)) ?_
                    with_reducible refine (spec_l1Read.calls kj13 (rdOf ByteArray.empty t122 1) t133 _ A29.out).mono ?_
                    rintro e w' ⟨rfl, ⟨nd, rfl⟩⟩
                    refine ⟨_, rfl, ?_⟩
                    refine hK.out _ _ ⟨hHeld.1, hHeld.2.1, hHeld.2.2.1, hHeld.2.2.2.1, hHeld.2.2.2.2.1, hHeld.2.2.2.2.2.1, hHeld.2.2.2.2.2.2⟩ (fun hHeld => ?_)
                    clear hK K
                    refine norm_ (a' := ?_) ?_ ?_
                    rotate_left
                    ·
                     show Act.put _ (some 46) _ = _
                     simp only [Act.put, List.setIfInBounds_toArray, List.set_cons_zero, List.set_cons_succ, i64_w, i32_w]
                     rfl
                    exact norm_ (by simp only [putAll, Act.put, List.setIfInBounds_toArray, List.set_cons_zero, List.set_cons_succ] <;> rfl) (hJ6_10 () _ ⟨hHeld, (XSq.pR HO_4), (XSq.pR HO_5), (XSq.pR HO_6), (XSq.bq BK117), (XSq.bB HB)⟩)
                   ·
                    refine box_step ?hg (N := 7) ?hd (cs := #[.string ⟨#[]⟩, .int .i64 0, .int .i64 0, .string ⟨#[]⟩, .int .i64 0, .int .i64 0, .int .i64 0]) (t := 23) ?hr ?_; (case hd => rfl); (case hg => rfl); (case hr => first | (go_simp; done) | (go_simp; rfl))
                    intro gb141 hg w43 hbox hb; have HS0_ := (hb.cell (World.block_lt_of_cell? _ _ (hHeld.1))).trans (hHeld.1); have HS1_ := (hb.cell (World.block_lt_of_cell? _ _ (hHeld.2.1))).trans (hHeld.2.1); have HS2_ := (hb.cell (World.block_lt_of_cell? _ _ (hHeld.2.2.1))).trans (hHeld.2.2.1); have HS3_ := (hb.cell (World.block_lt_of_cell? _ _ (hHeld.2.2.2.1))).trans (hHeld.2.2.2.1); have HS4_ := (hb.cell (World.block_lt_of_cell? _ _ (hHeld.2.2.2.2.1))).trans (hHeld.2.2.2.2.1); have HS5_ := (hb.cell (World.block_lt_of_cell? _ _ (hHeld.2.2.2.2.2.1))).trans (hHeld.2.2.2.2.2.1); have HS6_ := (hb.cell (World.block_lt_of_cell? _ _ (hHeld.2.2.2.2.2.2))).trans (hHeld.2.2.2.2.2.2); have n0_ := Aside0.mk (Kd.R_below (XSq.pR HO_4) hb); have n1_ := Aside0.mk (Kd.R_below (XSq.pR HO_5) hb); have n2_ := Aside0.mk (Kd.R_below (XSq.pR HO_6) hb); have n3_ := Aside0.mk (blk_below (g := gb117) (o := .cells #[.string ⟨#[]⟩, .int .i64 0, .int .i64 0, .string ⟨#[]⟩, .int .i64 0, .int .i64 0, .int .i64 0] 23 (0, 0)) (XSq.bq BK117) hb); have n4_ := Aside0.mk (below_step (XSq.bB HB) hb); have n5_ := Aside0.mk (hbox); have n6_ := XSq.gw hg (XSq.bB HB); have n7_ := XSq.gw hg (XSq.bB HB); have n8_ := Aside0.mk ((by rw [hg]; exact Nat.ne_of_lt (blk_lt (g := gb117) (o := .cells #[.string ⟨#[]⟩, .int .i64 0, .int .i64 0, .string ⟨#[]⟩, .int .i64 0, .int .i64 0, .int .i64 0] 23 (0, 0)) (XSq.bq BK117)) : gb117 ≠ gb141)); have n9_ := Aside0.mk ((by rw [hg]; exact Nat.ne_of_gt (blk_lt (g := gb117) (o := .cells #[.string ⟨#[]⟩, .int .i64 0, .int .i64 0, .string ⟨#[]⟩, .int .i64 0, .int .i64 0, .int .i64 0] 23 (0, 0)) (XSq.bq BK117)) : gb141 ≠ gb117)); clear HO_4 HO_5 HO_6 BK117 HB; have HO_4 := n0_; have HO_5 := n1_; have HO_6 := n2_; have BK117 := n3_; have HB := n4_; have BK141 := n5_; have GW141 := n6_; have GE141 := n7_; have NB117_141 := n8_; have NB141_117 := n9_; clear n0_ n1_ n2_ n3_ n4_ n5_ n6_ n7_ n8_ n9_ hb hbox hg
                    refine hK.out _ _ ⟨HS0_, HS1_, HS2_, HS3_, HS4_, HS5_, HS6_⟩ (fun hHeld => ?_)
                    clear hK K
                    refine norm_ (a' := ?_) ?_ ?_
                    rotate_left
                    ·
                     show Act.put _ (some 7) _ = _
                     simp only [Act.put, List.setIfInBounds_toArray, List.set_cons_zero, List.set_cons_succ, i64_w, i32_w]
                     rfl
                    exact norm_ (by simp only [putAll, Act.put, List.setIfInBounds_toArray, List.set_cons_zero, List.set_cons_succ] <;> rfl) (hJ6_27 (gb141) _ ⟨hHeld, (XSq.pR HO_4), (XSq.pR HO_5), (XSq.pR HO_6), (XSq.bq BK117), (XSq.bq BK141), GW141.out, GE141.out, NB117_141.out, NB141_117.out, (XSq.bB HB)⟩)
                 case f9 =>
                  ·
                   rintro gb141 w43 ⟨hS_, h0_, h1_, h2_, h3_, h4_, h5_, h6_, h7_, h8_, h9_⟩; have BK141 : Aside0 (w43.heap[gb141]? = some (.cells #[.string ⟨#[]⟩, .int .i64 0, .int .i64 0, .string ⟨#[]⟩, .int .i64 0, .int .i64 0, .int .i64 0] 23 (0, 0))) := ⟨h4_⟩; have GW141 : Aside0 (w.heap.size ≤ gb141) := ⟨h5_⟩; have GE141 : Aside0 (w.heap.size ≤ gb141) := ⟨h6_⟩; have NB117_141 : Aside0 (gb117 ≠ gb141) := ⟨h7_⟩; have NB141_117 : Aside0 (gb141 ≠ gb117) := ⟨h8_⟩; replace HO_4 : Aside0 (Kd.R Kd.string 9 w43 w.heap.size (fun k_ => some k_ ≠ (.slice (some ad130) t122.length co40 : Value).ownBlock ∧ some k_ ≠ (.slice (some ad135) t126.length co41 : Value).ownBlock) (.slice (some ad121) t118.length co16) t118) := ⟨h0_⟩; replace HO_5 : Aside0 (Kd.R Kd.string 9 w43 w.heap.size (fun k_ => some k_ ≠ (.slice (some ad121) t118.length co16 : Value).ownBlock ∧ some k_ ≠ (.slice (some ad135) t126.length co41 : Value).ownBlock) (.slice (some ad130) t122.length co40) t122) := ⟨h1_⟩; replace HO_6 : Aside0 (Kd.R Kd.string 9 w43 w.heap.size (fun k_ => some k_ ≠ (.slice (some ad121) t118.length co16 : Value).ownBlock ∧ some k_ ≠ (.slice (some ad130) t122.length co40 : Value).ownBlock) (.slice (some ad135) t126.length co41) t126) := ⟨h2_⟩; replace BK117 : Aside0 (w43.heap[gb117]? = some (.cells #[.string ⟨#[]⟩, .int .i64 0, .int .i64 0, .string ⟨#[]⟩, .int .i64 0, .int .i64 0, .int .i64 0] 23 (0, 0))) := ⟨h3_⟩; replace HB : Aside0 (Below w.heap.size w w43) := ⟨h9_⟩; clear h0_ h1_ h2_ h3_ h4_ h5_ h6_ h7_ h8_ h9_; have hHeld : w43.cell? ad121 = some (.string (rdOf ByteArray.empty t118 0)) ∧ w43.cell? ad130 = some (.string (rdOf ByteArray.empty t122 0)) ∧ w43.cell? ⟨ad130.block, ad130.off + 1, none⟩ = some (.string (rdOf ByteArray.empty t122 1)) ∧ w43.cell? ⟨ad121.block, ad121.off + 2, none⟩ = some (.string (rdOf ByteArray.empty t118 2)) ∧ w43.cell? ad135 = some (.string (rdOf ByteArray.empty t126 0)) ∧ w43.cell? ⟨ad135.block, ad135.off + 1, none⟩ = some (.string (rdOf ByteArray.empty t126 1)) ∧ w43.cell? ⟨ad135.block, ad135.off + 2, none⟩ = some (.string (rdOf ByteArray.empty t126 2)) := hS_
                   refine norm_ (a' := ?_) ?_ ?_
                   rotate_left
                   ·
                    simp only [putAll, Act.put, List.setIfInBounds_toArray, List.set_cons_zero, List.set_cons_succ]
                    rfl
                   refine one_ (i := 10) (N := some 46) #[true, true, true, true, true, true, true, true, true, true, true, true, true, true, true, true, true, false, true, true, true, false, true, true, true, false, false, true, false] rfl rfl (one_of HT_.out (by kernel_rfl)) (by decide) (fun K hK => ?_)
                   refine goes_ Tryd.func35 (by kernel_rfl) rfl #[.string (rdOf ByteArray.empty t122 1)] (by rfl) rfl rfl (by (try simp only [List.map_toArray, List.map_cons, List.map_nil]); first | done | rfl | (simp only [List.length_drop, List.length_take]; rfl)) ?_
                   with_reducible refine (spec_l1Read.calls kj13 (rdOf ByteArray.empty t122 1) t133 _ A29.out).mono ?_
                   rintro e w' ⟨rfl, ⟨nd, rfl⟩⟩
                   refine ⟨_, rfl, ?_⟩
                   refine hK.out _ _ ⟨hHeld.1, hHeld.2.1, hHeld.2.2.1, hHeld.2.2.2.1, hHeld.2.2.2.2.1, hHeld.2.2.2.2.2.1, hHeld.2.2.2.2.2.2⟩ (fun hHeld => ?_)
                   clear hK K
                   refine norm_ (a' := ?_) ?_ ?_
                   rotate_left
                   ·
                    show Act.put _ (some 46) _ = _
                    simp only [Act.put, List.setIfInBounds_toArray, List.set_cons_zero, List.set_cons_succ, i64_w, i32_w]
                    rfl
                   exact norm_ (by simp only [putAll, Act.put, List.setIfInBounds_toArray, List.set_cons_zero, List.set_cons_succ] <;> rfl) (hJ6_10_27 (gb141) _ ⟨hHeld, (XSq.pR HO_4), (XSq.pR HO_5), (XSq.pR HO_6), (XSq.bq BK117), (XSq.bq BK141), GW141.out, GE141.out, NB117_141.out, NB141_117.out, (XSq.bB HB)⟩)
                 case f8 =>
                  ·
                   rintro _ w42 ⟨hS_, h0_, h1_, h2_, h3_, h4_⟩; replace HO_4 : Aside0 (Kd.R Kd.string 9 w42 w.heap.size (fun k_ => some k_ ≠ (.slice (some ad130) t122.length co40 : Value).ownBlock ∧ some k_ ≠ (.slice (some ad135) t126.length co41 : Value).ownBlock) (.slice (some ad121) t118.length co16) t118) := ⟨h0_⟩; replace HO_5 : Aside0 (Kd.R Kd.string 9 w42 w.heap.size (fun k_ => some k_ ≠ (.slice (some ad121) t118.length co16 : Value).ownBlock ∧ some k_ ≠ (.slice (some ad135) t126.length co41 : Value).ownBlock) (.slice (some ad130) t122.length co40) t122) := ⟨h1_⟩; replace HO_6 : Aside0 (Kd.R Kd.string 9 w42 w.heap.size (fun k_ => some k_ ≠ (.slice (some ad121) t118.length co16 : Value).ownBlock ∧ some k_ ≠ (.slice (some ad130) t122.length co40 : Value).ownBlock) (.slice (some ad135) t126.length co41) t126) := ⟨h2_⟩; replace BK117 : Aside0 (w42.heap[gb117]? = some (.cells #[.string ⟨#[]⟩, .int .i64 0, .int .i64 0, .string ⟨#[]⟩, .int .i64 0, .int .i64 0, .int .i64 0] 23 (0, 0))) := ⟨h3_⟩; replace HB : Aside0 (Below w.heap.size w w42) := ⟨h4_⟩; clear h0_ h1_ h2_ h3_ h4_; have hHeld : w42.cell? ad121 = some (.string (rdOf ByteArray.empty t118 0)) ∧ w42.cell? ad130 = some (.string (rdOf ByteArray.empty t122 0)) ∧ w42.cell? ⟨ad130.block, ad130.off + 1, none⟩ = some (.string (rdOf ByteArray.empty t122 1)) ∧ w42.cell? ⟨ad121.block, ad121.off + 2, none⟩ = some (.string (rdOf ByteArray.empty t118 2)) ∧ w42.cell? ad135 = some (.string (rdOf ByteArray.empty t126 0)) ∧ w42.cell? ⟨ad135.block, ad135.off + 1, none⟩ = some (.string (rdOf ByteArray.empty t126 1)) ∧ w42.cell? ⟨ad135.block, ad135.off + 2, none⟩ = some (.string (rdOf ByteArray.empty t126 2)) := hS_
                   refine norm_ (a' := ?_) ?_ ?_
                   rotate_left
                   ·
                    simp only [putAll, Act.put, List.setIfInBounds_toArray, List.set_cons_zero, List.set_cons_succ]
                    rfl
                   refine two_ (i := 17) (j := 27) (Ni := some 53) (Nj := some 7) #[true, true, true, true, true, true, true, true, true, true, true, true, true, true, true, true, true, true, true, true, true, false, true, true, true, false, false, false, false] #[true, true, true, true, true, true, true, true, true, true, true, true, true, true, true, true, true, false, true, true, true, false, true, true, true, false, false, true, false] rfl rfl rfl rfl (two_of HT_.out (by kernel_rfl)) (by decide) (by decide) (fun K hK => ?_) (fun K hK => ?_)
                   ·
                    refine goes_ Tryd.func35 (by kernel_rfl) rfl #[.string (rdOf ByteArray.empty t126 0)] (by rfl) rfl rfl (by (try simp only [List.map_toArray, List.map_cons, List.map_nil]); first | done | rfl | (simp only [List.length_drop, List.length_take]; rfl)) ?_
                    with_reducible refine (spec_l1Read.calls kj13 (rdOf ByteArray.empty t126 0) t136 _ A32.out).mono ?_
                    rintro e w' ⟨rfl, ⟨nd, rfl⟩⟩
                    refine ⟨_, rfl, ?_⟩
                    refine hK.out _ _ ⟨hHeld.1, hHeld.2.1, hHeld.2.2.1, hHeld.2.2.2.1, hHeld.2.2.2.2.1, hHeld.2.2.2.2.2.1, hHeld.2.2.2.2.2.2⟩ (fun hHeld => ?_)
                    clear hK K
                    refine norm_ (a' := ?_) ?_ ?_
                    rotate_left
                    ·
                     show Act.put _ (some 53) _ = _
                     simp only [Act.put, List.setIfInBounds_toArray, List.set_cons_zero, List.set_cons_succ, i64_w, i32_w]
                     rfl
                    exact norm_ (by simp only [putAll, Act.put, List.setIfInBounds_toArray, List.set_cons_zero, List.set_cons_succ] <;> rfl) (hJ6_10_17 () _ ⟨hHeld, (XSq.pR HO_4), (XSq.pR HO_5), (XSq.pR HO_6), (XSq.bq BK117), (XSq.bB HB)⟩)
                   ·
                    refine box_step ?hg (N := 7) ?hd (cs := #[.string ⟨#[]⟩, .int .i64 0, .int .i64 0, .string ⟨#[]⟩, .int .i64 0, .int .i64 0, .int .i64 0]) (t := 23) ?hr ?_; (case hd => rfl); (case hg => rfl); (case hr => first | (go_simp; done) | (go_simp; rfl))
                    intro gb141 hg w43 hbox hb; have HS0_ := (hb.cell (World.block_lt_of_cell? _ _ (hHeld.1))).trans (hHeld.1); have HS1_ := (hb.cell (World.block_lt_of_cell? _ _ (hHeld.2.1))).trans (hHeld.2.1); have HS2_ := (hb.cell (World.block_lt_of_cell? _ _ (hHeld.2.2.1))).trans (hHeld.2.2.1); have HS3_ := (hb.cell (World.block_lt_of_cell? _ _ (hHeld.2.2.2.1))).trans (hHeld.2.2.2.1); have HS4_ := (hb.cell (World.block_lt_of_cell? _ _ (hHeld.2.2.2.2.1))).trans (hHeld.2.2.2.2.1); have HS5_ := (hb.cell (World.block_lt_of_cell? _ _ (hHeld.2.2.2.2.2.1))).trans (hHeld.2.2.2.2.2.1); have HS6_ := (hb.cell (World.block_lt_of_cell? _ _ (hHeld.2.2.2.2.2.2))).trans (hHeld.2.2.2.2.2.2); have n0_ := Aside0.mk (Kd.R_below (XSq.pR HO_4) hb); have n1_ := Aside0.mk (Kd.R_below (XSq.pR HO_5) hb); have n2_ := Aside0.mk (Kd.R_below (XSq.pR HO_6) hb); have n3_ := Aside0.mk (blk_below (g := gb117) (o := .cells #[.string ⟨#[]⟩, .int .i64 0, .int .i64 0, .string ⟨#[]⟩, .int .i64 0, .int .i64 0, .int .i64 0] 23 (0, 0)) (XSq.bq BK117) hb); have n4_ := Aside0.mk (below_step (XSq.bB HB) hb); have n5_ := Aside0.mk (hbox); have n6_ := XSq.gw hg (XSq.bB HB); have n7_ := XSq.gw hg (XSq.bB HB); have n8_ := Aside0.mk ((by rw [hg]; exact Nat.ne_of_lt (blk_lt (g := gb117) (o := .cells #[.string ⟨#[]⟩, .int .i64 0, .int .i64 0, .string ⟨#[]⟩, .int .i64 0, .int .i64 0, .int .i64 0] 23 (0, 0)) (XSq.bq BK117)) : gb117 ≠ gb141)); have n9_ := Aside0.mk ((by rw [hg]; exact Nat.ne_of_gt (blk_lt (g := gb117) (o := .cells #[.string ⟨#[]⟩, .int .i64 0, .int .i64 0, .string ⟨#[]⟩, .int .i64 0, .int .i64 0, .int .i64 0] 23 (0, 0)) (XSq.bq BK117)) : gb141 ≠ gb117)); clear HO_4 HO_5 HO_6 BK117 HB; have HO_4 := n0_; have HO_5 := n1_; have HO_6 := n2_; have BK117 := n3_; have HB := n4_; have BK141 := n5_; have GW141 := n6_; have GE141 := n7_; have NB117_141 := n8_; have NB141_117 := n9_; clear n0_ n1_ n2_ n3_ n4_ n5_ n6_ n7_ n8_ n9_ hb hbox hg
                    refine hK.out _ _ ⟨HS0_, HS1_, HS2_, HS3_, HS4_, HS5_, HS6_⟩ (fun hHeld => ?_)
                    clear hK K
                    refine norm_ (a' := ?_) ?_ ?_
                    rotate_left
                    ·
                     show Act.put _ (some 7) _ = _
                     simp only [Act.put, List.setIfInBounds_toArray, List.set_cons_zero, List.set_cons_succ, i64_w, i32_w]
                     rfl
                    exact norm_ (by simp only [putAll, Act.put, List.setIfInBounds_toArray, List.set_cons_zero, List.set_cons_succ] <;> rfl) (hJ6_10_27 (gb141) _ ⟨hHeld, (XSq.pR HO_4), (XSq.pR HO_5), (XSq.pR HO_6), (XSq.bq BK117), (XSq.bq BK141), GW141.out, GE141.out, NB117_141.out, NB141_117.out, (XSq.bB HB)⟩)
                 case f7 =>
                  ·
                   rintro gb141 w43 ⟨hS_, h0_, h1_, h2_, h3_, h4_, h5_, h6_, h7_, h8_, h9_⟩; have BK141 : Aside0 (w43.heap[gb141]? = some (.cells #[.string ⟨#[]⟩, .int .i64 0, .int .i64 0, .string ⟨#[]⟩, .int .i64 0, .int .i64 0, .int .i64 0] 23 (0, 0))) := ⟨h4_⟩; have GW141 : Aside0 (w.heap.size ≤ gb141) := ⟨h5_⟩; have GE141 : Aside0 (w.heap.size ≤ gb141) := ⟨h6_⟩; have NB117_141 : Aside0 (gb117 ≠ gb141) := ⟨h7_⟩; have NB141_117 : Aside0 (gb141 ≠ gb117) := ⟨h8_⟩; replace HO_4 : Aside0 (Kd.R Kd.string 9 w43 w.heap.size (fun k_ => some k_ ≠ (.slice (some ad130) t122.length co40 : Value).ownBlock ∧ some k_ ≠ (.slice (some ad135) t126.length co41 : Value).ownBlock) (.slice (some ad121) t118.length co16) t118) := ⟨h0_⟩; replace HO_5 : Aside0 (Kd.R Kd.string 9 w43 w.heap.size (fun k_ => some k_ ≠ (.slice (some ad121) t118.length co16 : Value).ownBlock ∧ some k_ ≠ (.slice (some ad135) t126.length co41 : Value).ownBlock) (.slice (some ad130) t122.length co40) t122) := ⟨h1_⟩; replace HO_6 : Aside0 (Kd.R Kd.string 9 w43 w.heap.size (fun k_ => some k_ ≠ (.slice (some ad121) t118.length co16 : Value).ownBlock ∧ some k_ ≠ (.slice (some ad130) t122.length co40 : Value).ownBlock) (.slice (some ad135) t126.length co41) t126) := ⟨h2_⟩; replace BK117 : Aside0 (w43.heap[gb117]? = some (.cells #[.string ⟨#[]⟩, .int .i64 0, .int .i64 0, .string ⟨#[]⟩, .int .i64 0, .int .i64 0, .int .i64 0] 23 (0, 0))) := ⟨h3_⟩; replace HB : Aside0 (Below w.heap.size w w43) := ⟨h9_⟩; clear h0_ h1_ h2_ h3_ h4_ h5_ h6_ h7_ h8_ h9_; have hHeld : w43.cell? ad121 = some (.string (rdOf ByteArray.empty t118 0)) ∧ w43.cell? ad130 = some (.string (rdOf ByteArray.empty t122 0)) ∧ w43.cell? ⟨ad130.block, ad130.off + 1, none⟩ = some (.string (rdOf ByteArray.empty t122 1)) ∧ w43.cell? ⟨ad121.block, ad121.off + 2, none⟩ = some (.string (rdOf ByteArray.empty t118 2)) ∧ w43.cell? ad135 = some (.string (rdOf ByteArray.empty t126 0)) ∧ w43.cell? ⟨ad135.block, ad135.off + 1, none⟩ = some (.string (rdOf ByteArray.empty t126 1)) ∧ w43.cell? ⟨ad135.block, ad135.off + 2, none⟩ = some (.string (rdOf ByteArray.empty t126 2)) := hS_
                   refine norm_ (a' := ?_) ?_ ?_
                   rotate_left
                   ·
                    simp only [putAll, Act.put, List.setIfInBounds_toArray, List.set_cons_zero, List.set_cons_succ]
                    rfl
                   refine one_ (i := 17) (N := some 53) #[true, true, true, true, true, true, true, true, true, true, true, true, true, true, true, true, true, true, true, true, true, false, true, true, true, false, false, true, false] rfl rfl (one_of HT_.out (by kernel_rfl)) (by decide) (fun K hK => ?_)
                   refine goes_ Tryd.func35 (by kernel_rfl) rfl #[.string (rdOf ByteArray.empty t126 0)] (by rfl) rfl rfl (by (try simp only [List.map_toArray, List.map_cons, List.map_nil]); first | done | rfl | (simp only [List.length_drop, List.length_take]; rfl)) ?_
                   with_reducible refine (spec_l1Read.calls kj13 (rdOf ByteArray.empty t126 0) t136 _ A32.out).mono ?_
                   rintro e w' ⟨rfl, ⟨nd, rfl⟩⟩
                   refine ⟨_, rfl, ?_⟩
                   refine hK.out _ _ ⟨hHeld.1, hHeld.2.1, hHeld.2.2.1, hHeld.2.2.2.1, hHeld.2.2.2.2.1, hHeld.2.2.2.2.2.1, hHeld.2.2.2.2.2.2⟩ (fun hHeld => ?_)
                   clear hK K
                   refine norm_ (a' := ?_) ?_ ?_
                   rotate_left
                   ·
                    show Act.put _ (some 53) _ = _
                    simp only [Act.put, List.setIfInBounds_toArray, List.set_cons_zero, List.set_cons_succ, i64_w, i32_w]
                    rfl
                   exact norm_ (by simp only [putAll, Act.put, List.setIfInBounds_toArray, List.set_cons_zero, List.set_cons_succ] <;> rfl) (hJ6_10_17_27 (gb141) _ ⟨hHeld, (XSq.pR HO_4), (XSq.pR HO_5), (XSq.pR HO_6), (XSq.bq BK117), (XSq.bq BK141), GW141.out, GE141.out, NB117_141.out, NB141_117.out, (XSq.bB HB)⟩)
                 case f6 =>
                  ·
                   rintro _ w42 ⟨hS_, h0_, h1_, h2_, h3_, h4_⟩; replace HO_4 : Aside0 (Kd.R Kd.string 9 w42 w.heap.size (fun k_ => some k_ ≠ (.slice (some ad130) t122.length co40 : Value).ownBlock ∧ some k_ ≠ (.slice (some ad135) t126.length co41 : Value).ownBlock) (.slice (some ad121) t118.length co16) t118) := ⟨h0_⟩; replace HO_5 : Aside0 (Kd.R Kd.string 9 w42 w.heap.size (fun k_ => some k_ ≠ (.slice (some ad121) t118.length co16 : Value).ownBlock ∧ some k_ ≠ (.slice (some ad135) t126.length co41 : Value).ownBlock) (.slice (some ad130) t122.length co40) t122) := ⟨h1_⟩; replace HO_6 : Aside0 (Kd.R Kd.string 9 w42 w.heap.size (fun k_ => some k_ ≠ (.slice (some ad121) t118.length co16 : Value).ownBlock ∧ some k_ ≠ (.slice (some ad130) t122.length co40 : Value).ownBlock) (.slice (some ad135) t126.length co41) t126) := ⟨h2_⟩; replace BK117 : Aside0 (w42.heap[gb117]? = some (.cells #[.string ⟨#[]⟩, .int .i64 0, .int .i64 0, .string ⟨#[]⟩, .int .i64 0, .int .i64 0, .int .i64 0] 23 (0, 0))) := ⟨h3_⟩; replace HB : Aside0 (Below w.heap.size w w42) := ⟨h4_⟩; clear h0_ h1_ h2_ h3_ h4_; have hHeld : w42.cell? ad121 = some (.string (rdOf ByteArray.empty t118 0)) ∧ w42.cell? ad130 = some (.string (rdOf ByteArray.empty t122 0)) ∧ w42.cell? ⟨ad130.block, ad130.off + 1, none⟩ = some (.string (rdOf ByteArray.empty t122 1)) ∧ w42.cell? ⟨ad121.block, ad121.off + 2, none⟩ = some (.string (rdOf ByteArray.empty t118 2)) ∧ w42.cell? ad135 = some (.string (rdOf ByteArray.empty t126 0)) ∧ w42.cell? ⟨ad135.block, ad135.off + 1, none⟩ = some (.string (rdOf ByteArray.empty t126 1)) ∧ w42.cell? ⟨ad135.block, ad135.off + 2, none⟩ = some (.string (rdOf ByteArray.empty t126 2)) := hS_
                   refine norm_ (a' := ?_) ?_ ?_
                   rotate_left
                   ·
                    simp only [putAll, Act.put, List.setIfInBounds_toArray, List.set_cons_zero, List.set_cons_succ]
                    rfl
                   refine two_ (i := 21) (j := 27) (Ni := some 57) (Nj := some 7) #[true, true, true, true, true, true, true, true, true, true, true, true, true, true, true, true, true, true, true, true, true, true, true, true, true, false, false, false, false] #[true, true, true, true, true, true, true, true, true, true, true, true, true, true, true, true, true, true, true, true, true, false, true, true, true, false, false, true, false] rfl rfl rfl rfl (two_of HT_.out (by kernel_rfl)) (by decide) (by decide) (fun K hK => ?_) (fun K hK => ?_)
                   ·
                    refine goes_ Tryd.func35 (by kernel_rfl) rfl #[.string (rdOf ByteArray.empty t126 1)] (by rfl) rfl rfl (by (try simp only [List.map_toArray, List.map_cons, List.map_nil]); first | done | rfl | (simp only [List.length_drop, List.length_take]; rfl)) ?_
                    with_reducible refine (spec_l1Read.calls kj13 (rdOf ByteArray.empty t126 1) t138 _ A34.out).mono ?_
                    rintro e w' ⟨rfl, ⟨nd, rfl⟩⟩
                    refine ⟨_, rfl, ?_⟩
                    refine hK.out _ _ ⟨hHeld.1, hHeld.2.1, hHeld.2.2.1, hHeld.2.2.2.1, hHeld.2.2.2.2.1, hHeld.2.2.2.2.2.1, hHeld.2.2.2.2.2.2⟩ (fun hHeld => ?_)
                    clear hK K
                    refine norm_ (a' := ?_) ?_ ?_
                    rotate_left
                    ·
                     show Act.put _ (some 57) _ = _
                     simp only [Act.put, List.setIfInBounds_toArray, List.set_cons_zero, List.set_cons_succ, i64_w, i32_w]
                     rfl
                    exact norm_ (by simp only [putAll, Act.put, List.setIfInBounds_toArray, List.set_cons_zero, List.set_cons_succ] <;> rfl) (hJ6_10_17_21 () _ ⟨hHeld, (XSq.pR HO_4), (XSq.pR HO_5), (XSq.pR HO_6), (XSq.bq BK117), (XSq.bB HB)⟩)
                   ·
                    refine box_step ?hg (N := 7) ?hd (cs := #[.string ⟨#[]⟩, .int .i64 0, .int .i64 0, .string ⟨#[]⟩, .int .i64 0, .int .i64 0, .int .i64 0]) (t := 23) ?hr ?_; (case hd => rfl); (case hg => rfl); (case hr => first | (go_simp; done) | (go_simp; rfl))
                    intro gb141 hg w43 hbox hb; have HS0_ := (hb.cell (World.block_lt_of_cell? _ _ (hHeld.1))).trans (hHeld.1); have HS1_ := (hb.cell (World.block_lt_of_cell? _ _ (hHeld.2.1))).trans (hHeld.2.1); have HS2_ := (hb.cell (World.block_lt_of_cell? _ _ (hHeld.2.2.1))).trans (hHeld.2.2.1); have HS3_ := (hb.cell (World.block_lt_of_cell? _ _ (hHeld.2.2.2.1))).trans (hHeld.2.2.2.1); have HS4_ := (hb.cell (World.block_lt_of_cell? _ _ (hHeld.2.2.2.2.1))).trans (hHeld.2.2.2.2.1); have HS5_ := (hb.cell (World.block_lt_of_cell? _ _ (hHeld.2.2.2.2.2.1))).trans (hHeld.2.2.2.2.2.1); have HS6_ := (hb.cell (World.block_lt_of_cell? _ _ (hHeld.2.2.2.2.2.2))).trans (hHeld.2.2.2.2.2.2); have n0_ := Aside0.mk (Kd.R_below (XSq.pR HO_4) hb); have n1_ := Aside0.mk (Kd.R_below (XSq.pR HO_5) hb); have n2_ := Aside0.mk (Kd.R_below (XSq.pR HO_6) hb); have n3_ := Aside0.mk (blk_below (g := gb117) (o := .cells #[.string ⟨#[]⟩, .int .i64 0, .int .i64 0, .string ⟨#[]⟩, .int .i64 0, .int .i64 0, .int .i64 0] 23 (0, 0)) (XSq.bq BK117) hb); have n4_ := Aside0.mk (below_step (XSq.bB HB) hb); have n5_ := Aside0.mk (hbox); have n6_ := XSq.gw hg (XSq.bB HB); have n7_ := XSq.gw hg (XSq.bB HB); have n8_ := Aside0.mk ((by rw [hg]; exact Nat.ne_of_lt (blk_lt (g := gb117) (o := .cells #[.string ⟨#[]⟩, .int .i64 0, .int .i64 0, .string ⟨#[]⟩, .int .i64 0, .int .i64 0, .int .i64 0] 23 (0, 0)) (XSq.bq BK117)) : gb117 ≠ gb141)); have n9_ := Aside0.mk ((by rw [hg]; exact Nat.ne_of_gt (blk_lt (g := gb117) (o := .cells #[.string ⟨#[]⟩, .int .i64 0, .int .i64 0, .string ⟨#[]⟩, .int .i64 0, .int .i64 0, .int .i64 0] 23 (0, 0)) (XSq.bq BK117)) : gb141 ≠ gb117)); clear HO_4 HO_5 HO_6 BK117 HB; have HO_4 := n0_; have HO_5 := n1_; have HO_6 := n2_; have BK117 := n3_; have HB := n4_; have BK141 := n5_; have GW141 := n6_; have GE141 := n7_; have NB117_141 := n8_; have NB141_117 := n9_; clear n0_ n1_ n2_ n3_ n4_ n5_ n6_ n7_ n8_ n9_ hb hbox hg
                    refine hK.out _ _ ⟨HS0_, HS1_, HS2_, HS3_, HS4_, HS5_, HS6_⟩ (fun hHeld => ?_)
                    clear hK K
                    refine norm_ (a' := ?_) ?_ ?_
                    rotate_left
                    ·
                     show Act.put _ (some 7) _ = _
                     simp only [Act.put, List.setIfInBounds_toArray, List.set_cons_zero, List.set_cons_succ, i64_w, i32_w]
                     rfl
                    exact norm_ (by simp only [putAll, Act.put, List.setIfInBounds_toArray, List.set_cons_zero, List.set_cons_succ] <;> rfl) (hJ6_10_17_27 (gb141) _ ⟨hHeld, (XSq.pR HO_4), (XSq.pR HO_5), (XSq.pR HO_6), (XSq.bq BK117), (XSq.bq BK141), GW141.out, GE141.out, NB117_141.out, NB141_117.out, (XSq.bB HB)⟩)
                 case f5 =>
                  ·
                   rintro gb141 w43 ⟨hS_, h0_, h1_, h2_, h3_, h4_, h5_, h6_, h7_, h8_, h9_⟩; have BK141 : Aside0 (w43.heap[gb141]? = some (.cells #[.string ⟨#[]⟩, .int .i64 0, .int .i64 0, .string ⟨#[]⟩, .int .i64 0, .int .i64 0, .int .i64 0] 23 (0, 0))) := ⟨h4_⟩; have GW141 : Aside0 (w.heap.size ≤ gb141) := ⟨h5_⟩; have GE141 : Aside0 (w.heap.size ≤ gb141) := ⟨h6_⟩; have NB117_141 : Aside0 (gb117 ≠ gb141) := ⟨h7_⟩; have NB141_117 : Aside0 (gb141 ≠ gb117) := ⟨h8_⟩; replace HO_4 : Aside0 (Kd.R Kd.string 9 w43 w.heap.size (fun k_ => some k_ ≠ (.slice (some ad130) t122.length co40 : Value).ownBlock ∧ some k_ ≠ (.slice (some ad135) t126.length co41 : Value).ownBlock) (.slice (some ad121) t118.length co16) t118) := ⟨h0_⟩; replace HO_5 : Aside0 (Kd.R Kd.string 9 w43 w.heap.size (fun k_ => some k_ ≠ (.slice (some ad121) t118.length co16 : Value).ownBlock ∧ some k_ ≠ (.slice (some ad135) t126.length co41 : Value).ownBlock) (.slice (some ad130) t122.length co40) t122) := ⟨h1_⟩; replace HO_6 : Aside0 (Kd.R Kd.string 9 w43 w.heap.size (fun k_ => some k_ ≠ (.slice (some ad121) t118.length co16 : Value).ownBlock ∧ some k_ ≠ (.slice (some ad130) t122.length co40 : Value).ownBlock) (.slice (some ad135) t126.length co41) t126) := ⟨h2_⟩; replace BK117 : Aside0 (w43.heap[gb117]? = some (.cells #[.string ⟨#[]⟩, .int .i64 0, .int .i64 0, .string ⟨#[]⟩, .int .i64 0, .int .i64 0, .int .i64 0] 23 (0, 0))) := ⟨h3_⟩; replace HB : Aside0 (Below w.heap.size w w43) := ⟨h9_⟩; clear h0_ h1_ h2_ h3_ h4_ h5_ h6_ h7_ h8_ h9_; have hHeld : w43.cell? ad121 = some (.string (rdOf ByteArray.empty t118 0)) ∧ w43.cell? ad130 = some (.string (rdOf ByteArray.empty t122 0)) ∧ w43.cell? ⟨ad130.block, ad130.off + 1, none⟩ = some (.string (rdOf ByteArray.empty t122 1)) ∧ w43.cell? ⟨ad121.block, ad121.off + 2, none⟩ = some (.string (rdOf ByteArray.empty t118 2)) ∧ w43.cell? ad135 = some (.string (rdOf ByteArray.empty t126 0)) ∧ w43.cell? ⟨ad135.block, ad135.off + 1, none⟩ = some (.string (rdOf ByteArray.empty t126 1)) ∧ w43.cell? ⟨ad135.block, ad135.off + 2, none⟩ = some (.string (rdOf ByteArray.empty t126 2)) := hS_
                   refine norm_ (a' := ?_) ?_ ?_
                   rotate_left
                   ·
                    simp only [putAll, Act.put, List.setIfInBounds_toArray, List.set_cons_zero, List.set_cons_succ]
                    rfl
                   refine one_ (i := 21) (N := some 57) #[true, true, true, true, true, true, true, true, true, true, true, true, true, true, true, true, true, true, true, true, true, true, true, true, true, false, false, true, false] rfl rfl (one_of HT_.out (by kernel_rfl)) (by decide) (fun K hK => ?_)
                   refine goes_ Tryd.func35 (by kernel_rfl) rfl #[.string (rdOf ByteArray.empty t126 1)] (by rfl) rfl rfl (by (try simp only [List.map_toArray, List.map_cons, List.map_nil]); first | done | rfl | (simp only [List.length_drop, List.length_take]; rfl)) ?_
                   with_reducible refine (spec_l1Read.calls kj13 (rdOf ByteArray.empty t126 1) t138 _ A34.out).mono ?_
                   rintro e w' ⟨rfl, ⟨nd, rfl⟩⟩
                   refine ⟨_, rfl, ?_⟩
                   refine hK.out _ _ ⟨hHeld.1, hHeld.2.1, hHeld.2.2.1, hHeld.2.2.2.1, hHeld.2.2.2.2.1, hHeld.2.2.2.2.2.1, hHeld.2.2.2.2.2.2⟩ (fun hHeld => ?_)
                   clear hK K
                   refine norm_ (a' := ?_) ?_ ?_
                   rotate_left
                   ·
                    show Act.put _ (some 57) _ = _
                    simp only [Act.put, List.setIfInBounds_toArray, List.set_cons_zero, List.set_cons_succ, i64_w, i32_w]
                    rfl
                   exact norm_ (by simp only [putAll, Act.put, List.setIfInBounds_toArray, List.set_cons_zero, List.set_cons_succ] <;> rfl) (hJ6_10_17_21_27 (gb141) _ ⟨hHeld, (XSq.pR HO_4), (XSq.pR HO_5), (XSq.pR HO_6), (XSq.bq BK117), (XSq.bq BK141), GW141.out, GE141.out, NB117_141.out, NB141_117.out, (XSq.bB HB)⟩)
                 case f4 =>
                  ·
                   rintro _ w42 ⟨hS_, h0_, h1_, h2_, h3_, h4_⟩; replace HO_4 : Aside0 (Kd.R Kd.string 9 w42 w.heap.size (fun k_ => some k_ ≠ (.slice (some ad130) t122.length co40 : Value).ownBlock ∧ some k_ ≠ (.slice (some ad135) t126.length co41 : Value).ownBlock) (.slice (some ad121) t118.length co16) t118) := ⟨h0_⟩; replace HO_5 : Aside0 (Kd.R Kd.string 9 w42 w.heap.size (fun k_ => some k_ ≠ (.slice (some ad121) t118.length co16 : Value).ownBlock ∧ some k_ ≠ (.slice (some ad135) t126.length co41 : Value).ownBlock) (.slice (some ad130) t122.length co40) t122) := ⟨h1_⟩; replace HO_6 : Aside0 (Kd.R Kd.string 9 w42 w.heap.size (fun k_ => some k_ ≠ (.slice (some ad121) t118.length co16 : Value).ownBlock ∧ some k_ ≠ (.slice (some ad130) t122.length co40 : Value).ownBlock) (.slice (some ad135) t126.length co41) t126) := ⟨h2_⟩; replace BK117 : Aside0 (w42.heap[gb117]? = some (.cells #[.string ⟨#[]⟩, .int .i64 0, .int .i64 0, .string ⟨#[]⟩, .int .i64 0, .int .i64 0, .int .i64 0] 23 (0, 0))) := ⟨h3_⟩; replace HB : Aside0 (Below w.heap.size w w42) := ⟨h4_⟩; clear h0_ h1_ h2_ h3_ h4_; have hHeld : w42.cell? ad121 = some (.string (rdOf ByteArray.empty t118 0)) ∧ w42.cell? ad130 = some (.string (rdOf ByteArray.empty t122 0)) ∧ w42.cell? ⟨ad130.block, ad130.off + 1, none⟩ = some (.string (rdOf ByteArray.empty t122 1)) ∧ w42.cell? ⟨ad121.block, ad121.off + 2, none⟩ = some (.string (rdOf ByteArray.empty t118 2)) ∧ w42.cell? ad135 = some (.string (rdOf ByteArray.empty t126 0)) ∧ w42.cell? ⟨ad135.block, ad135.off + 1, none⟩ = some (.string (rdOf ByteArray.empty t126 1)) ∧ w42.cell? ⟨ad135.block, ad135.off + 2, none⟩ = some (.string (rdOf ByteArray.empty t126 2)) := hS_
                   refine norm_ (a' := ?_) ?_ ?_
                   rotate_left
                   ·
                    simp only [putAll, Act.put, List.setIfInBounds_toArray, List.set_cons_zero, List.set_cons_succ]
                    rfl
                   refine two_ (i := 25) (j := 27) (Ni := some 61) (Nj := some 7) #[true, true, true, true, true, true, true, true, true, true, true, true, true, true, true, true, true, true, true, true, true, true, true, true, true, true, false, false, false] #[true, true, true, true, true, true, true, true, true, true, true, true, true, true, true, true, true, true, true, true, true, true, true, true, true, false, false, true, false] rfl rfl rfl rfl (two_of HT_.out (by kernel_rfl)) (by decide) (by decide) (fun K hK => ?_) (fun K hK => ?_)
                   ·
                    refine goes_ Tryd.func35 (by kernel_rfl) rfl #[.string (rdOf ByteArray.empty t126 2)] (by rfl) rfl rfl (by (try simp only [List.map_toArray, List.map_cons, List.map_nil]); first | done | rfl | (simp only [List.length_drop, List.length_take]; rfl)) ?_
                    with_reducible refine (spec_l1Read.calls kj13 (rdOf ByteArray.empty t126 2) t140 _ A36.out).mono ?_
                    rintro e w' ⟨rfl, ⟨nd, rfl⟩⟩
                    refine ⟨_, rfl, ?_⟩
                    refine hK.out _ _ ⟨hHeld.1, hHeld.2.1, hHeld.2.2.1, hHeld.2.2.2.1, hHeld.2.2.2.2.1, hHeld.2.2.2.2.2.1, hHeld.2.2.2.2.2.2⟩ (fun hHeld => ?_)
                    clear hK K
                    refine norm_ (a' := ?_) ?_ ?_
                    rotate_left
                    ·
                     show Act.put _ (some 61) _ = _
                     simp only [Act.put, List.setIfInBounds_toArray, List.set_cons_zero, List.set_cons_succ, i64_w, i32_w]
                     rfl
                    refine pure_ (i := 26) (N := some 62) (v := ?_) (a' := ?_) #[true, true, true, true, true, true, true, true, true, true, true, true, true, true, true, true, true, true, true, true, true, true, true, true, true, true, true, false, false] rfl rfl (any_of HT_.out (by kernel_rfl)) (fun _ _ _ h => h) (Or.inl ⟨by rfl, ?_⟩) ?_ ?_
                    rotate_left
                    ·
                     intro w'
                     go_simp
                     with_reducible rfl
                    rotate_left
                    ·
                     simp only [Act.put, List.setIfInBounds_toArray, List.set_cons_zero, List.set_cons_succ, i64_w, i32_w]
                     rfl
                    exact norm_ (by simp only [putAll, Act.put, List.setIfInBounds_toArray, List.set_cons_zero, List.set_cons_succ] <;> rfl) (hJ6_10_17_21_25 () _ ⟨hHeld, (XSq.pR HO_4), (XSq.pR HO_5), (XSq.pR HO_6), (XSq.bq BK117), (XSq.bB HB)⟩)
                   ·
                    refine box_step ?hg (N := 7) ?hd (cs := #[.string ⟨#[]⟩, .int .i64 0, .int .i64 0, .string ⟨#[]⟩, .int .i64 0, .int .i64 0, .int .i64 0]) (t := 23) ?hr ?_; (case hd => rfl); (case hg => rfl); (case hr => first | (go_simp; done) | (go_simp; rfl))
                    intro gb141 hg w43 hbox hb; have HS0_ := (hb.cell (World.block_lt_of_cell? _ _ (hHeld.1))).trans (hHeld.1); have HS1_ := (hb.cell (World.block_lt_of_cell? _ _ (hHeld.2.1))).trans (hHeld.2.1); have HS2_ := (hb.cell (World.block_lt_of_cell? _ _ (hHeld.2.2.1))).trans (hHeld.2.2.1); have HS3_ := (hb.cell (World.block_lt_of_cell? _ _ (hHeld.2.2.2.1))).trans (hHeld.2.2.2.1); have HS4_ := (hb.cell (World.block_lt_of_cell? _ _ (hHeld.2.2.2.2.1))).trans (hHeld.2.2.2.2.1); have HS5_ := (hb.cell (World.block_lt_of_cell? _ _ (hHeld.2.2.2.2.2.1))).trans (hHeld.2.2.2.2.2.1); have HS6_ := (hb.cell (World.block_lt_of_cell? _ _ (hHeld.2.2.2.2.2.2))).trans (hHeld.2.2.2.2.2.2); have n0_ := Aside0.mk (Kd.R_below (XSq.pR HO_4) hb); have n1_ := Aside0.mk (Kd.R_below (XSq.pR HO_5) hb); have n2_ := Aside0.mk (Kd.R_below (XSq.pR HO_6) hb); have n3_ := Aside0.mk (blk_below (g := gb117) (o := .cells #[.string ⟨#[]⟩, .int .i64 0, .int .i64 0, .string ⟨#[]⟩, .int .i64 0, .int .i64 0, .int .i64 0] 23 (0, 0)) (XSq.bq BK117) hb); have n4_ := Aside0.mk (below_step (XSq.bB HB) hb); have n5_ := Aside0.mk (hbox); have n6_ := XSq.gw hg (XSq.bB HB); have n7_ := XSq.gw hg (XSq.bB HB); have n8_ := Aside0.mk ((by rw [hg]; exact Nat.ne_of_lt (blk_lt (g := gb117) (o := .cells #[.string ⟨#[]⟩, .int .i64 0, .int .i64 0, .string ⟨#[]⟩, .int .i64 0, .int .i64 0, .int .i64 0] 23 (0, 0)) (XSq.bq BK117)) : gb117 ≠ gb141)); have n9_ := Aside0.mk ((by rw [hg]; exact Nat.ne_of_gt (blk_lt (g := gb117) (o := .cells #[.string ⟨#[]⟩, .int .i64 0, .int .i64 0, .string ⟨#[]⟩, .int .i64 0, .int .i64 0, .int .i64 0] 23 (0, 0)) (XSq.bq BK117)) : gb141 ≠ gb117)); clear HO_4 HO_5 HO_6 BK117 HB; have HO_4 := n0_; have HO_5 := n1_; have HO_6 := n2_; have BK117 := n3_; have HB := n4_; have BK141 := n5_; have GW141 := n6_; have GE141 := n7_; have NB117_141 := n8_; have NB141_117 := n9_; clear n0_ n1_ n2_ n3_ n4_ n5_ n6_ n7_ n8_ n9_ hb hbox hg
                    refine hK.out _ _ ⟨HS0_, HS1_, HS2_, HS3_, HS4_, HS5_, HS6_⟩ (fun hHeld => ?_)
                    clear hK K
                    refine norm_ (a' := ?_) ?_ ?_
                    rotate_left
                    ·
                     show Act.put _ (some 7) _ = _
                     simp only [Act.put, List.setIfInBounds_toArray, List.set_cons_zero, List.set_cons_succ, i64_w, i32_w]
                     rfl
                    exact norm_ (by simp only [putAll, Act.put, List.setIfInBounds_toArray, List.set_cons_zero, List.set_cons_succ] <;> rfl) (hJ6_10_17_21_27 (gb141) _ ⟨hHeld, (XSq.pR HO_4), (XSq.pR HO_5), (XSq.pR HO_6), (XSq.bq BK117), (XSq.bq BK141), GW141.out, GE141.out, NB117_141.out, NB141_117.out, (XSq.bB HB)⟩)
                 case f3 =>
                  ·
                   rintro gb141 w43 ⟨hS_, h0_, h1_, h2_, h3_, h4_, h5_, h6_, h7_, h8_, h9_⟩; have BK141 : Aside0 (w43.heap[gb141]? = some (.cells #[.string ⟨#[]⟩, .int .i64 0, .int .i64 0, .string ⟨#[]⟩, .int .i64 0, .int .i64 0, .int .i64 0] 23 (0, 0))) := ⟨h4_⟩; have GW141 : Aside0 (w.heap.size ≤ gb141) := ⟨h5_⟩; have GE141 : Aside0 (w.heap.size ≤ gb141) := ⟨h6_⟩; have NB117_141 : Aside0 (gb117 ≠ gb141) := ⟨h7_⟩; have NB141_117 : Aside0 (gb141 ≠ gb117) := ⟨h8_⟩; replace HO_4 : Aside0 (Kd.R Kd.string 9 w43 w.heap.size (fun k_ => some k_ ≠ (.slice (some ad130) t122.length co40 : Value).ownBlock ∧ some k_ ≠ (.slice (some ad135) t126.length co41 : Value).ownBlock) (.slice (some ad121) t118.length co16) t118) := ⟨h0_⟩; replace HO_5 : Aside0 (Kd.R Kd.string 9 w43 w.heap.size (fun k_ => some k_ ≠ (.slice (some ad121) t118.length co16 : Value).ownBlock ∧ some k_ ≠ (.slice (some ad135) t126.length co41 : Value).ownBlock) (.slice (some ad130) t122.length co40) t122) := ⟨h1_⟩; replace HO_6 : Aside0 (Kd.R Kd.string 9 w43 w.heap.size (fun k_ => some k_ ≠ (.slice (some ad121) t118.length co16 : Value).ownBlock ∧ some k_ ≠ (.slice (some ad130) t122.length co40 : Value).ownBlock) (.slice (some ad135) t126.length co41) t126) := ⟨h2_⟩; replace BK117 : Aside0 (w43.heap[gb117]? = some (.cells #[.string ⟨#[]⟩, .int .i64 0, .int .i64 0, .string ⟨#[]⟩, .int .i64 0, .int .i64 0, .int .i64 0] 23 (0, 0))) := ⟨h3_⟩; replace HB : Aside0 (Below w.heap.size w w43) := ⟨h9_⟩; clear h0_ h1_ h2_ h3_ h4_ h5_ h6_ h7_ h8_ h9_; have hHeld : w43.cell? ad121 = some (.string (rdOf ByteArray.empty t118 0)) ∧ w43.cell? ad130 = some (.string (rdOf ByteArray.empty t122 0)) ∧ w43.cell? ⟨ad130.block, ad130.off + 1, none⟩ = some (.string (rdOf ByteArray.empty t122 1)) ∧ w43.cell? ⟨ad121.block, ad121.off + 2, none⟩ = some (.string (rdOf ByteArray.empty t118 2)) ∧ w43.cell? ad135 = some (.string (rdOf ByteArray.empty t126 0)) ∧ w43.cell? ⟨ad135.block, ad135.off + 1, none⟩ = some (.string (rdOf ByteArray.empty t126 1)) ∧ w43.cell? ⟨ad135.block, ad135.off + 2, none⟩ = some (.string (rdOf ByteArray.empty t126 2)) := hS_
                   refine norm_ (a' := ?_) ?_ ?_
                   rotate_left
                   ·
                    simp only [putAll, Act.put, List.setIfInBounds_toArray, List.set_cons_zero, List.set_cons_succ]
                    rfl
                   refine one_ (i := 25) (N := some 61) #[true, true, true, true, true, true, true, true, true, true, true, true, true, true, true, true, true, true, true, true, true, true, true, true, true, true, false, true, false] rfl rfl (one_of HT_.out (by kernel_rfl)) (by decide) (fun K hK => ?_)
                   refine goes_ Tryd.func35 (by kernel_rfl) rfl #[.string (rdOf ByteArray.empty t126 2)] (by rfl) rfl rfl (by (try simp only [List.map_toArray, List.map_cons, List.map_nil]); first | done | rfl | (simp only [List.length_drop, List.length_take]; rfl)) ?_
                   with_reducible refine (spec_l1Read.calls kj13 (rdOf ByteArray.empty t126 2) t140 _ A36.out).mono ?_
                   rintro e w' ⟨rfl, ⟨nd, rfl⟩⟩
                   refine ⟨_, rfl, ?_⟩
                   refine hK.out _ _ ⟨hHeld.1, hHeld.2.1, hHeld.2.2.1, hHeld.2.2.2.1, hHeld.2.2.2.2.1, hHeld.2.2.2.2.2.1, hHeld.2.2.2.2.2.2⟩ (fun hHeld => ?_)
                   clear hK K
                   refine norm_ (a' := ?_) ?_ ?_
                   rotate_left
                   ·
                    show Act.put _ (some 61) _ = _
                    simp only [Act.put, List.setIfInBounds_toArray, List.set_cons_zero, List.set_cons_succ, i64_w, i32_w]
                    rfl
                   refine pure_ (i := 26) (N := some 62) (v := ?_) (a' := ?_) #[true, true, true, true, true, true, true, true, true, true, true, true, true, true, true, true, true, true, true, true, true, true, true, true, true, true, true, true, false] rfl rfl (any_of HT_.out (by kernel_rfl)) (fun _ _ _ h => h) (Or.inl ⟨by rfl, ?_⟩) ?_ ?_
                   rotate_left
                   ·
                    intro w'
                    go_simp
                    with_reducible rfl
                   rotate_left
                   ·
                    simp only [Act.put, List.setIfInBounds_toArray, List.set_cons_zero, List.set_cons_succ, i64_w, i32_w]
                    rfl
                   exact norm_ (by simp only [putAll, Act.put, List.setIfInBounds_toArray, List.set_cons_zero, List.set_cons_succ] <;> rfl) (hJ6_10_17_21_25_27 (gb141) _ ⟨hHeld, (XSq.pR HO_4), (XSq.pR HO_5), (XSq.pR HO_6), (XSq.bq BK117), (XSq.bq BK141), GW141.out, GE141.out, NB117_141.out, NB141_117.out, (XSq.bB HB)⟩)
                 case f2 =>
                  ·
                   rintro _ w42 ⟨hS_, h0_, h1_, h2_, h3_, h4_⟩; replace HO_4 : Aside0 (Kd.R Kd.string 9 w42 w.heap.size (fun k_ => some k_ ≠ (.slice (some ad130) t122.length co40 : Value).ownBlock ∧ some k_ ≠ (.slice (some ad135) t126.length co41 : Value).ownBlock) (.slice (some ad121) t118.length co16) t118) := ⟨h0_⟩; replace HO_5 : Aside0 (Kd.R Kd.string 9 w42 w.heap.size (fun k_ => some k_ ≠ (.slice (some ad121) t118.length co16 : Value).ownBlock ∧ some k_ ≠ (.slice (some ad135) t126.length co41 : Value).ownBlock) (.slice (some ad130) t122.length co40) t122) := ⟨h1_⟩; replace HO_6 : Aside0 (Kd.R Kd.string 9 w42 w.heap.size (fun k_ => some k_ ≠ (.slice (some ad121) t118.length co16 : Value).ownBlock ∧ some k_ ≠ (.slice (some ad130) t122.length co40 : Value).ownBlock) (.slice (some ad135) t126.length co41) t126) := ⟨h2_⟩; replace BK117 : Aside0 (w42.heap[gb117]? = some (.cells #[.string ⟨#[]⟩, .int .i64 0, .int .i64 0, .string ⟨#[]⟩, .int .i64 0, .int .i64 0, .int .i64 0] 23 (0, 0))) := ⟨h3_⟩; replace HB : Aside0 (Below w.heap.size w w42) := ⟨h4_⟩; clear h0_ h1_ h2_ h3_ h4_; have hHeld : w42.cell? ad121 = some (.string (rdOf ByteArray.empty t118 0)) ∧ w42.cell? ad130 = some (.string (rdOf ByteArray.empty t122 0)) ∧ w42.cell? ⟨ad130.block, ad130.off + 1, none⟩ = some (.string (rdOf ByteArray.empty t122 1)) ∧ w42.cell? ⟨ad121.block, ad121.off + 2, none⟩ = some (.string (rdOf ByteArray.empty t118 2)) ∧ w42.cell? ad135 = some (.string (rdOf ByteArray.empty t126 0)) ∧ w42.cell? ⟨ad135.block, ad135.off + 1, none⟩ = some (.string (rdOf ByteArray.empty t126 1)) ∧ w42.cell? ⟨ad135.block, ad135.off + 2, none⟩ = some (.string (rdOf ByteArray.empty t126 2)) := hS_
                   refine norm_ (a' := ?_) ?_ ?_
                   rotate_left
                   ·
                    simp only [putAll, Act.put, List.setIfInBounds_toArray, List.set_cons_zero, List.set_cons_succ]
                    rfl
                   refine one_ (i := 27) (N := some 7) #[true, true, true, true, true, true, true, true, true, true, true, true, true, true, true, true, true, true, true, true, true, true, true, true, true, true, true, true, false] rfl rfl (one_of HT_.out (by kernel_rfl)) (by decide) (fun K hK => ?_)
                   refine box_step ?hg (N := 7) ?hd (cs := #[.string ⟨#[]⟩, .int .i64 0, .int .i64 0, .string ⟨#[]⟩, .int .i64 0, .int .i64 0, .int .i64 0]) (t := 23) ?hr ?_; (case hd => rfl); (case hg => rfl); (case hr => first | (go_simp; done) | (go_simp; rfl))
                   intro gb141 hg w43 hbox hb; have HS0_ := (hb.cell (World.block_lt_of_cell? _ _ (hHeld.1))).trans (hHeld.1); have HS1_ := (hb.cell (World.block_lt_of_cell? _ _ (hHeld.2.1))).trans (hHeld.2.1); have HS2_ := (hb.cell (World.block_lt_of_cell? _ _ (hHeld.2.2.1))).trans (hHeld.2.2.1); have HS3_ := (hb.cell (World.block_lt_of_cell? _ _ (hHeld.2.2.2.1))).trans (hHeld.2.2.2.1); have HS4_ := (hb.cell (World.block_lt_of_cell? _ _ (hHeld.2.2.2.2.1))).trans (hHeld.2.2.2.2.1); have HS5_ := (hb.cell (World.block_lt_of_cell? _ _ (hHeld.2.2.2.2.2.1))).trans (hHeld.2.2.2.2.2.1); have HS6_ := (hb.cell (World.block_lt_of_cell? _ _ (hHeld.2.2.2.2.2.2))).trans (hHeld.2.2.2.2.2.2); have n0_ := Aside0.mk (Kd.R_below (XSq.pR HO_4) hb); have n1_ := Aside0.mk (Kd.R_below (XSq.pR HO_5) hb); have n2_ := Aside0.mk (Kd.R_below (XSq.pR HO_6) hb); have n3_ := Aside0.mk (blk_below (g := gb117) (o := .cells #[.string ⟨#[]⟩, .int .i64 0, .int .i64 0, .string ⟨#[]⟩, .int .i64 0, .int .i64 0, .int .i64 0] 23 (0, 0)) (XSq.bq BK117) hb); have n4_ := Aside0.mk (below_step (XSq.bB HB) hb); have n5_ := Aside0.mk (hbox); have n6_ := XSq.gw hg (XSq.bB HB); have n7_ := XSq.gw hg (XSq.bB HB); have n8_ := Aside0.mk ((by rw [hg]; exact Nat.ne_of_lt (blk_lt (g := gb117) (o := .cells #[.string ⟨#[]⟩, .int .i64 0, .int .i64 0, .string ⟨#[]⟩, .int .i64 0, .int .i64 0, .int .i64 0] 23 (0, 0)) (XSq.bq BK117)) : gb117 ≠ gb141)); have n9_ := Aside0.mk ((by rw [hg]; exact Nat.ne_of_gt (blk_lt (g := gb117) (o := .cells #[.string ⟨#[]⟩, .int .i64 0, .int .i64 0, .string ⟨#[]⟩, .int .i64 0, .int .i64 0, .int .i64 0] 23 (0, 0)) (XSq.bq BK117)) : gb141 ≠ gb117)); clear HO_4 HO_5 HO_6 BK117 HB; have HO_4 := n0_; have HO_5 := n1_; have HO_6 := n2_; have BK117 := n3_; have HB := n4_; have BK141 := n5_; have GW141 := n6_; have GE141 := n7_; have NB117_141 := n8_; have NB141_117 := n9_; clear n0_ n1_ n2_ n3_ n4_ n5_ n6_ n7_ n8_ n9_ hb hbox hg
                   refine hK.out _ _ ⟨HS0_, HS1_, HS2_, HS3_, HS4_, HS5_, HS6_⟩ (fun hHeld => ?_)
                   clear hK K
                   refine norm_ (a' := ?_) ?_ ?_
                   rotate_left
                   ·
                    show Act.put _ (some 7) _ = _
                    simp only [Act.put, List.setIfInBounds_toArray, List.set_cons_zero, List.set_cons_succ, i64_w, i32_w]
                    rfl
                   exact norm_ (by simp only [putAll, Act.put, List.setIfInBounds_toArray, List.set_cons_zero, List.set_cons_succ] <;> rfl) (hJ6_10_17_21_25_27 (gb141) _ ⟨hHeld, (XSq.pR HO_4), (XSq.pR HO_5), (XSq.pR HO_6), (XSq.bq BK117), (XSq.bq BK141), GW141.out, GE141.out, NB117_141.out, NB141_117.out, (XSq.bB HB)⟩)
                 case f1 =>
                  rintro gb141 w43 ⟨hS_, h0_, h1_, h2_, h3_, h4_, h5_, h6_, h7_, h8_, h9_⟩; have BK141 : Aside0 (w43.heap[gb141]? = some (.cells #[.string ⟨#[]⟩, .int .i64 0, .int .i64 0, .string ⟨#[]⟩, .int .i64 0, .int .i64 0, .int .i64 0] 23 (0, 0))) := ⟨h4_⟩; have GW141 : Aside0 (w.heap.size ≤ gb141) := ⟨h5_⟩; have GE141 : Aside0 (w.heap.size ≤ gb141) := ⟨h6_⟩; have NB117_141 : Aside0 (gb117 ≠ gb141) := ⟨h7_⟩; have NB141_117 : Aside0 (gb141 ≠ gb117) := ⟨h8_⟩; replace HO_4 : Aside0 (Kd.R Kd.string 9 w43 w.heap.size (fun k_ => some k_ ≠ (.slice (some ad130) t122.length co40 : Value).ownBlock ∧ some k_ ≠ (.slice (some ad135) t126.length co41 : Value).ownBlock) (.slice (some ad121) t118.length co16) t118) := ⟨h0_⟩; replace HO_5 : Aside0 (Kd.R Kd.string 9 w43 w.heap.size (fun k_ => some k_ ≠ (.slice (some ad121) t118.length co16 : Value).ownBlock ∧ some k_ ≠ (.slice (some ad135) t126.length co41 : Value).ownBlock) (.slice (some ad130) t122.length co40) t122) := ⟨h1_⟩; replace HO_6 : Aside0 (Kd.R Kd.string 9 w43 w.heap.size (fun k_ => some k_ ≠ (.slice (some ad121) t118.length co16 : Value).ownBlock ∧ some k_ ≠ (.slice (some ad130) t122.length co40 : Value).ownBlock) (.slice (some ad135) t126.length co41) t126) := ⟨h2_⟩; replace BK117 : Aside0 (w43.heap[gb117]? = some (.cells #[.string ⟨#[]⟩, .int .i64 0, .int .i64 0, .string ⟨#[]⟩, .int .i64 0, .int .i64 0, .int .i64 0] 23 (0, 0))) := ⟨h3_⟩; replace HB : Aside0 (Below w.heap.size w w43) := ⟨h9_⟩; clear h0_ h1_ h2_ h3_ h4_ h5_ h6_ h7_ h8_ h9_; have hHeld : w43.cell? ad121 = some (.string (rdOf ByteArray.empty t118 0)) ∧ w43.cell? ad130 = some (.string (rdOf ByteArray.empty t122 0)) ∧ w43.cell? ⟨ad130.block, ad130.off + 1, none⟩ = some (.string (rdOf ByteArray.empty t122 1)) ∧ w43.cell? ⟨ad121.block, ad121.off + 2, none⟩ = some (.string (rdOf ByteArray.empty t118 2)) ∧ w43.cell? ad135 = some (.string (rdOf ByteArray.empty t126 0)) ∧ w43.cell? ⟨ad135.block, ad135.off + 1, none⟩ = some (.string (rdOf ByteArray.empty t126 1)) ∧ w43.cell? ⟨ad135.block, ad135.off + 2, none⟩ = some (.string (rdOf ByteArray.empty t126 2)) := hS_
                  refine norm_ (a' := ?_) ?_ ?_
                  rotate_left
                  ·
                   simp only [putAll, Act.put, List.setIfInBounds_toArray, List.set_cons_zero, List.set_cons_succ]
                   rfl
                  refine one_ (i := 28) (N := none) #[true, true, true, true, true, true, true, true, true, true, true, true, true, true, true, true, true, true, true, true, true, true, true, true, true, true, true, true, true] rfl rfl (one_of HT_.out (by kernel_rfl)) (by decide) (fun K hK => ?_)
                  have hs44 : w43.cell? ⟨gb141, 0, none⟩ = some (.string ⟨#[]⟩) := (blk_cell BK141.out 0).trans rfl; have hfs44 := blk_frozen BK141.out 0; have hns44_0 := NB117_141.out; have hms44_0 := NB141_117.out; have hs45 : w43.cell? ⟨gb141, 1, none⟩ = some (.int .i64 0) := (blk_cell BK141.out 1).trans rfl; have hfs45 := blk_frozen BK141.out 1; have hns45_0 := NB117_141.out; have hms45_0 := NB141_117.out; have hs46 : w43.cell? ⟨gb141, 2, none⟩ = some (.int .i64 0) := (blk_cell BK141.out 2).trans rfl; have hfs46 := blk_frozen BK141.out 2; have hns46_0 := NB117_141.out; have hms46_0 := NB141_117.out; have hs47 : w43.cell? ⟨gb141, 3, none⟩ = some (.string ⟨#[]⟩) := (blk_cell BK141.out 3).trans rfl; have hfs47 := blk_frozen BK141.out 3; have hns47_0 := NB117_141.out; have hms47_0 := NB141_117.out; have hs48 : w43.cell? ⟨gb141, 4, none⟩ = some (.int .i64 0) := (blk_cell BK141.out 4).trans rfl; have hfs48 := blk_frozen BK141.out 4; have hns48_0 := NB117_141.out; have hms48_0 := NB141_117.out; have hs49 : w43.cell? ⟨gb141, 5, none⟩ = some (.int .i64 0) := (blk_cell BK141.out 5).trans rfl; have hfs49 := blk_frozen BK141.out 5; have hns49_0 := NB117_141.out; have hms49_0 := NB141_117.out; have hs50 : w43.cell? ⟨gb141, 6, none⟩ = some (.int .i64 0) := (blk_cell BK141.out 6).trans rfl; have hfs50 := blk_frozen BK141.out 6; have hns50_0 := NB117_141.out; have hms50_0 := NB141_117.out
                  refine skip_ (w1 := ?_) (by rfl) rfl ?_ ?_
                  rotate_left
                  ·
                   go_simp
                   rfl
                  refine hK.out _ _ ⟨((cell_far (p := ⟨gb141, _, none⟩) (XSq.fr (Kd.own_blk (Kd.R_ne HO_4.out BK141.out (by decide)))) _).trans (((cell_far (p := ⟨gb141, _, none⟩) (XSq.fr (Kd.own_blk (Kd.R_ne HO_4.out BK141.out (by decide)))) _).trans (((cell_far (p := ⟨gb141, _, none⟩) (XSq.fr (Kd.own_blk (Kd.R_ne HO_4.out BK141.out (by decide)))) _).trans (((cell_far (p := ⟨gb141, _, none⟩) (XSq.fr (Kd.own_blk (Kd.R_ne HO_4.out BK141.out (by decide)))) _).trans (((cell_far (p := ⟨gb141, _, none⟩) (XSq.fr (Kd.own_blk (Kd.R_ne HO_4.out BK141.out (by decide)))) _).trans (((cell_far (p := ⟨gb141, _, none⟩) (XSq.fr (Kd.own_blk (Kd.R_ne HO_4.out BK141.out (by decide)))) _).trans (((cell_far (p := ⟨gb141, _, none⟩) (XSq.fr (Kd.own_blk (Kd.R_ne HO_4.out BK141.out (by decide)))) _).trans (hHeld.1)))))))))))))), ((cell_far (p := ⟨gb141, _, none⟩) (XSq.fr (Kd.own_blk (Kd.R_ne HO_5.out BK141.out (by decide)))) _).trans (((cell_far (p := ⟨gb141, _, none⟩) (XSq.fr (Kd.own_blk (Kd.R_ne HO_5.out BK141.out (by decide)))) _).trans (((cell_far (p := ⟨gb141, _, none⟩) (XSq.fr (Kd.own_blk (Kd.R_ne HO_5.out BK141.out (by decide)))) _).trans (((cell_far (p := ⟨gb141, _, none⟩) (XSq.fr (Kd.own_blk (Kd.R_ne HO_5.out BK141.out (by decide)))) _).trans (((cell_far (p := ⟨gb141, _, none⟩) (XSq.fr (Kd.own_blk (Kd.R_ne HO_5.out BK141.out (by decide)))) _).trans (((cell_far (p := ⟨gb141, _, none⟩) (XSq.fr (Kd.own_blk (Kd.R_ne HO_5.out BK141.out (by decide)))) _).trans (((cell_far (p := ⟨gb141, _, none⟩) (XSq.fr (Kd.own_blk (Kd.R_ne HO_5.out BK141.out (by decide)))) _).trans (hHeld.2.1)))))))))))))), ((cell_far (p := ⟨gb141, _, none⟩) (XSq.fr (Kd.own_blk (Kd.R_ne HO_5.out BK141.out (by decide)))) _).trans (((cell_far (p := ⟨gb141, _, none⟩) (XSq.fr (Kd.own_blk (Kd.R_ne HO_5.out BK141.out (by decide)))) _).trans (((cell_far (p := ⟨gb141, _, none⟩) (XSq.fr (Kd.own_blk (Kd.R_ne HO_5.out BK141.out (by decide)))) _).trans (((cell_far (p := ⟨gb141, _, none⟩) (XSq.fr (Kd.own_blk (Kd.R_ne HO_5.out BK141.out (by decide)))) _).trans (((cell_far (p := ⟨gb141, _, none⟩) (XSq.fr (Kd.own_blk (Kd.R_ne HO_5.out BK141.out (by decide)))) _).trans (((cell_far (p := ⟨gb141, _, none⟩) (XSq.fr (Kd.own_blk (Kd.R_ne HO_5.out BK141.out (by decide)))) _).trans (((cell_far (p := ⟨gb141, _, none⟩) (XSq.fr (Kd.own_blk (Kd.R_ne HO_5.out BK141.out (by decide)))) _).trans (hHeld.2.2.1)))))))))))))), ((cell_far (p := ⟨gb141, _, none⟩) (XSq.fr (Kd.own_blk (Kd.R_ne HO_4.out BK141.out (by decide)))) _).trans (((cell_far (p := ⟨gb141, _, none⟩) (XSq.fr (Kd.own_blk (Kd.R_ne HO_4.out BK141.out (by decide)))) _).trans (((cell_far (p := ⟨gb141, _, none⟩) (XSq.fr (Kd.own_blk (Kd.R_ne HO_4.out BK141.out (by decide)))) _).trans (((cell_far (p := ⟨gb141, _, none⟩) (XSq.fr (Kd.own_blk (Kd.R_ne HO_4.out BK141.out (by decide)))) _).trans (((cell_far (p := ⟨gb141, _, none⟩) (XSq.fr (Kd.own_blk (Kd.R_ne HO_4.out BK141.out (by decide)))) _).trans (((cell_far (p := ⟨gb141, _, none⟩) (XSq.fr (Kd.own_blk (Kd.R_ne HO_4.out BK141.out (by decide)))) _).trans (((cell_far (p := ⟨gb141, _, none⟩) (XSq.fr (Kd.own_blk (Kd.R_ne HO_4.out BK141.out (by decide)))) _).trans (hHeld.2.2.2.1)))))))))))))), ((cell_far (p := ⟨gb141, _, none⟩) (XSq.fr (Kd.own_blk (Kd.R_ne HO_6.out BK141.out (by decide)))) _).trans (((cell_far (p := ⟨gb141, _, none⟩) (XSq.fr (Kd.own_blk (Kd.R_ne HO_6.out BK141.out (by decide)))) _).trans (((cell_far (p := ⟨gb141, _, none⟩) (XSq.fr (Kd.own_blk (Kd.R_ne HO_6.out BK141.out (by decide)))) _).trans (((cell_far (p := ⟨gb141, _, none⟩) (XSq.fr (Kd.own_blk (Kd.R_ne HO_6.out BK141.out (by decide)))) _).trans (((cell_far (p := ⟨gb141, _, none⟩) (XSq.fr (Kd.own_blk (Kd.R_ne HO_6.out BK141.out (by decide)))) _).trans (((cell_far (p := ⟨gb141, _, none⟩) (XSq.fr (Kd.own_blk (Kd.R_ne HO_6.out BK141.out (by decide)))) _).trans (((cell_far (p := ⟨gb141, _, none⟩) (XSq.fr (Kd.own_blk (Kd.R_ne HO_6.out BK141.out (by decide)))) _).trans (hHeld.2.2.2.2.1)))))))))))))), ((cell_far (p := ⟨gb141, _, none⟩) (XSq.fr (Kd.own_blk (Kd.R_ne HO_6.out BK141.out (by decide)))) _).trans (((cell_far (p := ⟨gb141, _, none⟩) (XSq.fr (Kd.own_blk (Kd.R_ne HO_6.out BK141.out (by decide)))) _).trans (((cell_far (p := ⟨gb141, _, none⟩) (XSq.fr (Kd.own_blk (Kd.R_ne HO_6.out BK141.out (by decide)))) _).trans (((cell_far (p := ⟨gb141, _, none⟩) (XSq.fr (Kd.own_blk (Kd.R_ne HO_6.out BK141.out (by decide)))) _).trans (((cell_far (p := ⟨gb141, _, none⟩) (XSq.fr (Kd.own_blk (Kd.R_ne HO_6.out BK141.out (by decide)))) _).trans (((cell_far (p := ⟨gb141, _, none⟩) (XSq.fr (Kd.own_blk (Kd.R_ne HO_6.out BK141.out (by decide)))) _).trans (((cell_far (p := ⟨gb141, _, none⟩) (XSq.fr (Kd.own_blk (Kd.R_ne HO_6.out BK141.out (by decide)))) _).trans (hHeld.2.2.2.2.2.1)))))))))))))), ((cell_far (p := ⟨gb141, _, none⟩) (XSq.fr (Kd.own_blk (Kd.R_ne HO_6.out BK141.out (by decide)))) _).trans (((cell_far (p := ⟨gb141, _, none⟩) (XSq.fr (Kd.own_blk (Kd.R_ne HO_6.out BK141.out (by decide)))) _).trans (((cell_far (p := ⟨gb141, _, none⟩) (XSq.fr (Kd.own_blk (Kd.R_ne HO_6.out BK141.out (by decide)))) _).trans (((cell_far (p := ⟨gb141, _, none⟩) (XSq.fr (Kd.own_blk (Kd.R_ne HO_6.out BK141.out (by decide)))) _).trans (((cell_far (p := ⟨gb141, _, none⟩) (XSq.fr (Kd.own_blk (Kd.R_ne HO_6.out BK141.out (by decide)))) _).trans (((cell_far (p := ⟨gb141, _, none⟩) (XSq.fr (Kd.own_blk (Kd.R_ne HO_6.out BK141.out (by decide)))) _).trans (((cell_far (p := ⟨gb141, _, none⟩) (XSq.fr (Kd.own_blk (Kd.R_ne HO_6.out BK141.out (by decide)))) _).trans (hHeld.2.2.2.2.2.2))))))))))))))⟩ (fun hHeld => ?_)
                  clear hK K
                  refine done_ (done_of HT_.out (by kernel_rfl)) ?_
                  have hnb51 := NB141_117.out; have hnc51 := NB117_141.out; have hcz52_0 : w43.cell? ⟨gb141, 0, none⟩ = some (.string ⟨#[]⟩) := (blk_cell BK141.out 0).trans rfl; have hcz52_1 : w43.cell? ⟨gb141, 1, none⟩ = some (.int .i64 0) := (blk_cell BK141.out 1).trans rfl; have hcz52_2 : w43.cell? ⟨gb141, 2, none⟩ = some (.int .i64 0) := (blk_cell BK141.out 2).trans rfl; have hcz52_3 : w43.cell? ⟨gb141, 3, none⟩ = some (.string ⟨#[]⟩) := (blk_cell BK141.out 3).trans rfl; have hcz52_4 : w43.cell? ⟨gb141, 4, none⟩ = some (.int .i64 0) := (blk_cell BK141.out 4).trans rfl; have hcz52_5 : w43.cell? ⟨gb141, 5, none⟩ = some (.int .i64 0) := (blk_cell BK141.out 5).trans rfl; have hcz52_6 : w43.cell? ⟨gb141, 6, none⟩ = some (.int .i64 0) := (blk_cell BK141.out 6).trans rfl; have hfz52_0 := blk_frozen BK141.out 0; have hfz52_1 := blk_frozen BK141.out 1; have hfz52_2 := blk_frozen BK141.out 2; have hfz52_3 := blk_frozen BK141.out 3; have hfz52_4 := blk_frozen BK141.out 4; have hfz52_5 := blk_frozen BK141.out 5; have hfz52_6 := blk_frozen BK141.out 6
                  try go_wp2_with (first | ((with_reducible refine gate_callee (f := 36) rfl ?_); refine goesL_ (some 64) rfl rfl Tryd.func36 (by kernel_rfl) rfl #[.agg #[.string (rdOf ByteArray.empty t118 0), .int .i64 t131, .int .i64 t133, .string (rdOf ByteArray.empty t118 2), .int .i64 t136, .int .i64 t138, .int .i64 t140]] rfl (by (try simp only [List.map_toArray, List.map_cons, List.map_nil]); first | done | rfl | (simp only [List.length_drop, List.length_take]; rfl)) ?_; (with_reducible refine (spec_woGood.calls kj13 (rdOf ByteArray.empty t118 0) t131 t133 (rdOf ByteArray.empty t118 2) t136 t138 t140 true _ A37.out).mono ?_); rintro e w53 ⟨rfl, hb⟩; refine ⟨_, rfl, ?_⟩; have n0_ := Aside0.mk (Kd.R_below (by (with_reducible repeat (first | apply Kd.R_alloc | apply Kd.R_drewN | apply Kd.R_drew)); exact (Kd.R_mono (Kd.R_far (p := ⟨gb141, 6, none⟩) (Kd.R_far (p := ⟨gb141, 5, none⟩) (Kd.R_far (p := ⟨gb141, 4, none⟩) (Kd.R_far (p := ⟨gb141, 3, none⟩) (Kd.R_far (p := ⟨gb141, 2, none⟩) (Kd.R_far (p := ⟨gb141, 1, none⟩) (Kd.R_far (p := ⟨gb141, 0, none⟩) (Kd.R_types HO_4.out BK141.out (by decide)) (fun _ hk => hk.2) (.string (rdOf ByteArray.empty t118 0))) (fun _ hk => hk.2) (.int .i64 t131)) (fun _ hk => hk.2) (.int .i64 t133)) (fun _ hk => hk.2) (.string (rdOf ByteArray.empty t118 2))) (fun _ hk => hk.2) (.int .i64 t136)) (fun _ hk => hk.2) (.int .i64 t138)) (fun _ hk => hk.2) (.int .i64 t140)) (fun _ h_ => h_.1))) hb); have n1_ := Aside0.mk (Kd.R_below (by (with_reducible repeat (first | apply Kd.R_alloc | apply Kd.R_drewN | apply Kd.R_drew)); exact (Kd.R_mono (Kd.R_far (p := ⟨gb141, 6, none⟩) (Kd.R_far (p := ⟨gb141, 5, none⟩) (Kd.R_far (p := ⟨gb141, 4, none⟩) (Kd.R_far (p := ⟨gb141, 3, none⟩) (Kd.R_far (p := ⟨gb141, 2, none⟩) (Kd.R_far (p := ⟨gb141, 1, none⟩) (Kd.R_far (p := ⟨gb141, 0, none⟩) (Kd.R_types HO_5.out BK141.out (by decide)) (fun _ hk => hk.2) (.string (rdOf ByteArray.empty t118 0))) (fun _ hk => hk.2) (.int .i64 t131)) (fun _ hk => hk.2) (.int .i64 t133)) (fun _ hk => hk.2) (.string (rdOf ByteArray.empty t118 2))) (fun _ hk => hk.2) (.int .i64 t136)) (fun _ hk => hk.2) (.int .i64 t138)) (fun _ hk => hk.2) (.int .i64 t140)) (fun _ h_ => h_.1))) hb); have n2_ := Aside0.mk (Kd.R_below (by (with_reducible repeat (first | apply Kd.R_alloc | apply Kd.R_drewN | apply Kd.R_drew)); exact (Kd.R_mono (Kd.R_far (p := ⟨gb141, 6, none⟩) (Kd.R_far (p := ⟨gb141, 5, none⟩) (Kd.R_far (p := ⟨gb141, 4, none⟩) (Kd.R_far (p := ⟨gb141, 3, none⟩) (Kd.R_far (p := ⟨gb141, 2, none⟩) (Kd.R_far (p := ⟨gb141, 1, none⟩) (Kd.R_far (p := ⟨gb141, 0, none⟩) (Kd.R_types HO_6.out BK141.out (by decide)) (fun _ hk => hk.2) (.string (rdOf ByteArray.empty t118 0))) (fun _ hk => hk.2) (.int .i64 t131)) (fun _ hk => hk.2) (.int .i64 t133)) (fun _ hk => hk.2) (.string (rdOf ByteArray.empty t118 2))) (fun _ hk => hk.2) (.int .i64 t136)) (fun _ hk => hk.2) (.int .i64 t138)) (fun _ hk => hk.2) (.int .i64 t140)) (fun _ h_ => h_.1))) hb); have n3_ := Aside0.mk (blk_below (g := gb117) (o := .cells #[.string ⟨#[]⟩, .int .i64 0, .int .i64 0, .string ⟨#[]⟩, .int .i64 0, .int .i64 0, .int .i64 0] 23 (0, 0)) (by (with_reducible repeat (first | refine blk_drewN ?_ _ | refine blk_drew ?_ | refine blk_alloc ?_ _)); refine blk_far ?_ NB117_141.out _; (with_reducible repeat (first | refine blk_drewN ?_ _ | refine blk_drew ?_ | refine blk_alloc ?_ _)); refine blk_far ?_ NB117_141.out _; (with_reducible repeat (first | refine blk_drewN ?_ _ | refine blk_drew ?_ | refine blk_alloc ?_ _)); refine blk_far ?_ NB117_141.out _; (with_reducible repeat (first | refine blk_drewN ?_ _ | refine blk_drew ?_ | refine blk_alloc ?_ _)); refine blk_far ?_ NB117_141.out _; (with_reducible repeat (first | refine blk_drewN ?_ _ | refine blk_drew ?_ | refine blk_alloc ?_ _)); refine blk_far ?_ NB117_141.out _; (with_reducible repeat (first | refine blk_drewN ?_ _ | refine blk_drew ?_ | refine blk_alloc ?_ _)); refine blk_far ?_ NB117_141.out _; (with_reducible repeat (first | refine blk_drewN ?_ _ | refine blk_drew ?_ | refine blk_alloc ?_ _)); refine blk_far ?_ NB117_141.out _; (with_reducible repeat (first | refine blk_drewN ?_ _ | refine blk_drew ?_ | refine blk_alloc ?_ _)); exact BK117.out) hb); have n4_ := Aside0.mk (blk_below (g := gb141) (o := .cells #[.string (rdOf ByteArray.empty t118 0), .int .i64 t131, .int .i64 t133, .string (rdOf ByteArray.empty t118 2), .int .i64 t136, .int .i64 t138, .int .i64 t140] 23 (0, 0)) (by (with_reducible repeat (first | refine blk_drewN ?_ _ | refine blk_drew ?_ | refine blk_alloc ?_ _)); refine blk_put (cs := #[.string (rdOf ByteArray.empty t118 0), .int .i64 t131, .int .i64 t133, .string (rdOf ByteArray.empty t118 2), .int .i64 t136, .int .i64 t138, .int .i64 0]) ?_ 6 _ rfl; (with_reducible repeat (first | refine blk_drewN ?_ _ | refine blk_drew ?_ | refine blk_alloc ?_ _)); refine blk_put (cs := #[.string (rdOf ByteArray.empty t118 0), .int .i64 t131, .int .i64 t133, .string (rdOf ByteArray.empty t118 2), .int .i64 t136, .int .i64 0, .int .i64 0]) ?_ 5 _ rfl; (with_reducible repeat (first | refine blk_drewN ?_ _ | refine blk_drew ?_ | refine blk_alloc ?_ _)); refine blk_put (cs := #[.string (rdOf ByteArray.empty t118 0), .int .i64 t131, .int .i64 t133, .string (rdOf ByteArray.empty t118 2), .int .i64 0, .int .i64 0, .int .i64 0]) ?_ 4 _ rfl; (with_reducible repeat (first | refine blk_drewN ?_ _ | refine blk_drew ?_ | refine blk_alloc ?_ _)); refine blk_put (cs := #[.string (rdOf ByteArray.empty t118 0), .int .i64 t131, .int .i64 t133, .string ⟨#[]⟩, .int .i64 0, .int .i64 0, .int .i64 0]) ?_ 3 _ rfl; (with_reducible repeat (first | refine blk_drewN ?_ _ | refine blk_drew ?_ | refine blk_alloc ?_ _)); refine blk_put (cs := #[.string (rdOf ByteArray.empty t118 0), .int .i64 t131, .int .i64 0, .string ⟨#[]⟩, .int .i64 0, .int .i64 0, .int .i64 0]) ?_ 2 _ rfl; (with_reducible repeat (first | refine blk_drewN ?_ _ | refine blk_drew ?_ | refine blk_alloc ?_ _)); refine blk_put (cs := #[.string (rdOf ByteArray.empty t118 0), .int .i64 0, .int .i64 0, .string ⟨#[]⟩, .int .i64 0, .int .i64 0, .int .i64 0]) ?_ 1 _ rfl; (with_reducible repeat (first | refine blk_drewN ?_ _ | refine blk_drew ?_ | refine blk_alloc ?_ _)); refine blk_put (cs := #[.string ⟨#[]⟩, .int .i64 0, .int .i64 0, .string ⟨#[]⟩, .int .i64 0, .int .i64 0, .int .i64 0]) ?_ 0 _ rfl; (with_reducible repeat (first | refine blk_drewN ?_ _ | refine blk_drew ?_ | refine blk_alloc ?_ _)); exact BK141.out) hb); have n5_ := Aside0.mk (below_step (XSq.bB HB) hb); clear HO_4; clear HO_5; clear HO_6; clear BK117; clear BK141; clear HB; have HO_4 := n0_; have HO_5 := n1_; have HO_6 := n2_; have BK117 := n3_; have BK141 := n4_; have HB := n5_; clear n0_ n1_ n2_ n3_ n4_ n5_; clear hb; (try clear hb2); (try clear hk); (try clear hi); have hcz54_0 : w53.cell? ⟨gb141, 0, none⟩ = some (.string (rdOf ByteArray.empty t118 0)) := (blk_cell BK141.out 0).trans rfl; have hcz54_1 : w53.cell? ⟨gb141, 1, none⟩ = some (.int .i64 t131) := (blk_cell BK141.out 1).trans rfl; have hcz54_2 : w53.cell? ⟨gb141, 2, none⟩ = some (.int .i64 t133) := (blk_cell BK141.out 2).trans rfl; have hcz54_3 : w53.cell? ⟨gb141, 3, none⟩ = some (.string (rdOf ByteArray.empty t118 2)) := (blk_cell BK141.out 3).trans rfl; have hcz54_4 : w53.cell? ⟨gb141, 4, none⟩ = some (.int .i64 t136) := (blk_cell BK141.out 4).trans rfl; have hcz54_5 : w53.cell? ⟨gb141, 5, none⟩ = some (.int .i64 t138) := (blk_cell BK141.out 5).trans rfl; have hcz54_6 : w53.cell? ⟨gb141, 6, none⟩ = some (.int .i64 t140) := (blk_cell BK141.out 6).trans rfl; have hfz54_0 := blk_frozen BK141.out 0; have hfz54_1 := blk_frozen BK141.out 1; have hfz54_2 := blk_frozen BK141.out 2; have hfz54_3 := blk_frozen BK141.out 3; have hfz54_4 := blk_frozen BK141.out 4; have hfz54_5 := blk_frozen BK141.out 5; have hfz54_6 := blk_frozen BK141.out 6; have hcz55_0 : w53.cell? ⟨gb117, 0, none⟩ = some (.string ⟨#[]⟩) := (blk_cell BK117.out 0).trans rfl; have hcz55_1 : w53.cell? ⟨gb117, 1, none⟩ = some (.int .i64 0) := (blk_cell BK117.out 1).trans rfl; have hcz55_2 : w53.cell? ⟨gb117, 2, none⟩ = some (.int .i64 0) := (blk_cell BK117.out 2).trans rfl; have hcz55_3 : w53.cell? ⟨gb117, 3, none⟩ = some (.string ⟨#[]⟩) := (blk_cell BK117.out 3).trans rfl; have hcz55_4 : w53.cell? ⟨gb117, 4, none⟩ = some (.int .i64 0) := (blk_cell BK117.out 4).trans rfl; have hcz55_5 : w53.cell? ⟨gb117, 5, none⟩ = some (.int .i64 0) := (blk_cell BK117.out 5).trans rfl; have hcz55_6 : w53.cell? ⟨gb117, 6, none⟩ = some (.int .i64 0) := (blk_cell BK117.out 6).trans rfl; have hfz55_0 := blk_frozen BK117.out 0; have hfz55_1 := blk_frozen BK117.out 1; have hfz55_2 := blk_frozen BK117.out 2; have hfz55_3 := blk_frozen BK117.out 3; have hfz55_4 := blk_frozen BK117.out 4; have hfz55_5 := blk_frozen BK117.out 5; have hfz55_6 := blk_frozen BK117.out 6))
                  refine bodyPost_ret (results_ct rfl _ _ gb117 23 #[.string (rdOf ByteArray.empty t118 0), .int .i64 t131, .int .i64 t133, .string (rdOf ByteArray.empty t118 2), .int .i64 t136, .int .i64 t138, .int .i64 t140] (0, 0) _ rfl (by (with_reducible repeat (first | refine blk_drewN ?_ _ | refine blk_drew ?_ | refine blk_alloc ?_ _)); refine blk_put (cs := #[.string (rdOf ByteArray.empty t118 0), .int .i64 t131, .int .i64 t133, .string (rdOf ByteArray.empty t118 2), .int .i64 t136, .int .i64 t138, .int .i64 0]) ?_ 6 _ rfl; (with_reducible repeat (first | refine blk_drewN ?_ _ | refine blk_drew ?_ | refine blk_alloc ?_ _)); refine blk_put (cs := #[.string (rdOf ByteArray.empty t118 0), .int .i64 t131, .int .i64 t133, .string (rdOf ByteArray.empty t118 2), .int .i64 t136, .int .i64 0, .int .i64 0]) ?_ 5 _ rfl; (with_reducible repeat (first | refine blk_drewN ?_ _ | refine blk_drew ?_ | refine blk_alloc ?_ _)); refine blk_put (cs := #[.string (rdOf ByteArray.empty t118 0), .int .i64 t131, .int .i64 t133, .string (rdOf ByteArray.empty t118 2), .int .i64 0, .int .i64 0, .int .i64 0]) ?_ 4 _ rfl; (with_reducible repeat (first | refine blk_drewN ?_ _ | refine blk_drew ?_ | refine blk_alloc ?_ _)); refine blk_put (cs := #[.string (rdOf ByteArray.empty t118 0), .int .i64 t131, .int .i64 t133, .string ⟨#[]⟩, .int .i64 0, .int .i64 0, .int .i64 0]) ?_ 3 _ rfl; (with_reducible repeat (first | refine blk_drewN ?_ _ | refine blk_drew ?_ | refine blk_alloc ?_ _)); refine blk_put (cs := #[.string (rdOf ByteArray.empty t118 0), .int .i64 t131, .int .i64 0, .string ⟨#[]⟩, .int .i64 0, .int .i64 0, .int .i64 0]) ?_ 2 _ rfl; (with_reducible repeat (first | refine blk_drewN ?_ _ | refine blk_drew ?_ | refine blk_alloc ?_ _)); refine blk_put (cs := #[.string (rdOf ByteArray.empty t118 0), .int .i64 0, .int .i64 0, .string ⟨#[]⟩, .int .i64 0, .int .i64 0, .int .i64 0]) ?_ 1 _ rfl; (with_reducible repeat (first | refine blk_drewN ?_ _ | refine blk_drew ?_ | refine blk_alloc ?_ _)); refine blk_put (cs := #[.string ⟨#[]⟩, .int .i64 0, .int .i64 0, .string ⟨#[]⟩, .int .i64 0, .int .i64 0, .int .i64 0]) ?_ 0 _ rfl; (with_reducible repeat (first | refine blk_drewN ?_ _ | refine blk_drew ?_ | refine blk_alloc ?_ _)); exact BK117.out) Tryd.underlying23 rfl (by kernel_rfl)) rfl ?_
                  exact ⟨by first | rfl | (simp [errW_none, errW_some] <;> rfl) | (simp [*, errW_none, errW_some] <;> rfl), by repeat (first | (with_reducible first | exact HB.out | apply below_alloc | apply pw_below_drewN | apply below_drew1 | refine below_set ?_ GE117.out | refine below_set ?_ GE141.out) | exact HB.out)⟩
                ·
                 replace c38 := Bool.eq_false_iff.mpr c38; subst c38
                 have H1 : (some ((⟨#[]⟩ : ByteArray), 0, 0, (⟨#[]⟩ : ByteArray), 0, 0, 0, false)) = some (r1, r2, r3, r4, r5, r6, r7, r8) := by rw [if_neg (show ¬ (false = true) by decide)] at H; exact H
                 clear H; have H := H1; clear H1
                 simp only [Option.some.injEq, Prod.mk.injEq] at H
                 obtain ⟨rfl, rfl, rfl, rfl, rfl, rfl, rfl, rfl⟩ := H
                 try go_wp2
                 replace HO_4 := Aside0.mk (Kd.R_drew HO_4.out); replace HO_5 := Aside0.mk (Kd.R_drew HO_5.out); replace HO_6 := Aside0.mk (Kd.R_drew HO_6.out); replace BK117 := Aside0.mk (blk_drew BK117.out); replace HB := Aside0.mk (below_drew1 HB.out); have p129 : 0 ≤ (0 : Int) := (by omega); have q129 : 0 < (t118.length : Int) := of_decide_eq_true (by first | (with_reducible assumption) | assumption); obtain ⟨ad129, e129, hx129_0⟩ := Kd.at_string (Kd.R_reads' HO_4.out).2.2 0 p129 q129; obtain rfl : ad121 = ad129 := (by injection e129); have qi129 : (0 < t118.length) = True := eq_true (by omega)
                 (try rw [show ((0 : Int)).toNat = 0 from rfl] at hx129_0)
                 (try rw [Addr.add_zero'] at hx129_0)
                 replace p129 := eq_true p129; replace q129 := eq_true q129; obtain ⟨Ao57, co57, eo57⟩ := Kd.R_slice HO_5.out
                 (first | subst eo57 | (injection eo57 with f1_ f2_ f3_; have f4_ := f1_.symm; have f5_ := f3_.symm; clear f1_ f2_ f3_; subst f4_; subst f5_))
                 have p130 : 0 ≤ (0 : Int) := (by omega); have q130 : 0 < (t122.length : Int) := of_decide_eq_true (by first | (with_reducible assumption) | assumption); obtain ⟨ad130, e130, hx130_0⟩ := Kd.at_string (Kd.R_reads' HO_5.out).2.2 0 p130 q130; cases e130; have qi130 : (0 < t122.length) = True := eq_true (by omega)
                 (try rw [show ((0 : Int)).toNat = 0 from rfl] at hx130_0)
                 (try rw [Addr.add_zero'] at hx130_0)
                 replace p130 := eq_true p130; replace q130 := eq_true q130; have p132 : 0 ≤ (1 : Int) := (by omega); have q132 : 1 < (t122.length : Int) := of_decide_eq_true (by first | (with_reducible assumption) | assumption); obtain ⟨ad132, e132, hx132_0⟩ := Kd.at_string (Kd.R_reads' HO_5.out).2.2 1 p132 q132; obtain rfl : ad130 = ad132 := (by injection e132)
                 (try simp only [show (1 : Int).toNat = 1 from rfl, Nat.reduceMul, Nat.reduceEqDiff, Go.Addr.add, ↓reduceIte] at hx132_0)
                 have qi132 : (1 < t122.length) = True := eq_true (by omega)
                 (try rw [show ((1 : Int)).toNat = 1 from rfl] at hx132_0)
                 replace p132 := eq_true p132; replace q132 := eq_true q132; have p134 : 0 ≤ (2 : Int) := (by omega); have q134 : 2 < (t118.length : Int) := of_decide_eq_true (by first | (with_reducible assumption) | assumption); obtain ⟨ad134, e134, hx134_0⟩ := Kd.at_string (Kd.R_reads' HO_4.out).2.2 2 p134 q134; obtain rfl : ad121 = ad134 := (by injection e134)
                 (try simp only [show (2 : Int).toNat = 2 from rfl, Nat.reduceMul, Nat.reduceEqDiff, Go.Addr.add, ↓reduceIte] at hx134_0)
                 have qi134 : (2 < t118.length) = True := eq_true (by omega)
                 (try rw [show ((2 : Int)).toNat = 2 from rfl] at hx134_0)
                 replace p134 := eq_true p134; replace q134 := eq_true q134; obtain ⟨Ao58, co58, eo58⟩ := Kd.R_slice HO_6.out
                 (first | subst eo58 | (injection eo58 with f1_ f2_ f3_; have f4_ := f1_.symm; have f5_ := f3_.symm; clear f1_ f2_ f3_; subst f4_; subst f5_))
                 have p135 : 0 ≤ (0 : Int) := (by omega); have q135 : 0 < (t126.length : Int) := of_decide_eq_true (by first | (with_reducible assumption) | assumption); obtain ⟨ad135, e135, hx135_0⟩ := Kd.at_string (Kd.R_reads' HO_6.out).2.2 0 p135 q135; cases e135; have qi135 : (0 < t126.length) = True := eq_true (by omega)
                 (try rw [show ((0 : Int)).toNat = 0 from rfl] at hx135_0)
                 (try rw [Addr.add_zero'] at hx135_0)
                 replace p135 := eq_true p135; replace q135 := eq_true q135; have p137 : 0 ≤ (1 : Int) := (by omega); have q137 : 1 < (t126.length : Int) := of_decide_eq_true (by first | (with_reducible assumption) | assumption); obtain ⟨ad137, e137, hx137_0⟩ := Kd.at_string (Kd.R_reads' HO_6.out).2.2 1 p137 q137; obtain rfl : ad135 = ad137 := (by injection e137)
                 (try simp only [show (1 : Int).toNat = 1 from rfl, Nat.reduceMul, Nat.reduceEqDiff, Go.Addr.add, ↓reduceIte] at hx137_0)
                 have qi137 : (1 < t126.length) = True := eq_true (by omega)
                 (try rw [show ((1 : Int)).toNat = 1 from rfl] at hx137_0)
                 replace p137 := eq_true p137; replace q137 := eq_true q137; have p139 : 0 ≤ (2 : Int) := (by omega); have q139 : 2 < (t126.length : Int) := of_decide_eq_true (by first | (with_reducible assumption) | assumption); obtain ⟨ad139, e139, hx139_0⟩ := Kd.at_string (Kd.R_reads' HO_6.out).2.2 2 p139 q139; obtain rfl : ad135 = ad139 := (by injection e139)
                 (try simp only [show (2 : Int).toNat = 2 from rfl, Nat.reduceMul, Nat.reduceEqDiff, Go.Addr.add, ↓reduceIte] at hx139_0)
                 have qi139 : (2 < t126.length) = True := eq_true (by omega)
                 (try rw [show ((2 : Int)).toNat = 2 from rfl] at hx139_0)
                 replace p139 := eq_true p139; replace q139 := eq_true q139
                 refine start_ (n := 29) (S := fun w' => w'.cell? ad121 = some (.string (rdOf ByteArray.empty t118 0)) ∧ w'.cell? ad130 = some (.string (rdOf ByteArray.empty t122 0)) ∧ w'.cell? ⟨ad130.block, ad130.off + 1, none⟩ = some (.string (rdOf ByteArray.empty t122 1)) ∧ w'.cell? ⟨ad121.block, ad121.off + 2, none⟩ = some (.string (rdOf ByteArray.empty t118 2)) ∧ w'.cell? ad135 = some (.string (rdOf ByteArray.empty t126 0)) ∧ w'.cell? ⟨ad135.block, ad135.off + 1, none⟩ = some (.string (rdOf ByteArray.empty t126 1)) ∧ w'.cell? ⟨ad135.block, ad135.off + 2, none⟩ = some (.string (rdOf ByteArray.empty t126 2))) (ds := []) #[false, false, false, false, false, false, false, false, false, false, false, false, false, false, false, false, false, false, false, false, false, false, false, false, false, false, false, false, false] (by kernel_rfl) rfl rfl ⟨hx129_0, hx130_0, hx132_0, hx134_0, hx135_0, hx137_0, hx139_0⟩ (fun hHeld => ?_); refine with_tabW spec_woParse.tab7 spec_woParse.bits7 (fun HT_ HW_ => ?_)
                 generalize wc.drew = w56 at HO_4 HO_5 HO_6 BK117 HB hx129_0 hx130_0 hx132_0 hx134_0 hx135_0 hx137_0 hx139_0 hHeld ⊢
                 refine pure_ (i := 0) (N := some 36) (v := ?_) (a' := ?_) #[true, false, false, false, false, false, false, false, false, false, false, false, false, false, false, false, false, false, false, false, false, false, false, false, false, false, false, false, false] rfl rfl (any_of HT_.out (by kernel_rfl)) (fun _ _ _ h => h) (Or.inl ⟨by rfl, ?_⟩) ?_ ?_
                 rotate_left
                 ·
                  intro w'
                  go_simp
                  with_reducible rfl
                 rotate_left
                 ·
                  simp only [Act.put, List.setIfInBounds_toArray, List.set_cons_zero, List.set_cons_succ, i64_w, i32_w]
                  rfl
                 refine pure_ (i := 1) (N := some 37) (v := ?_) (a' := ?_) #[true, true, false, false, false, false, false, false, false, false, false, false, false, false, false, false, false, false, false, false, false, false, false, false, false, false, false, false, false] rfl rfl (any_of HT_.out (by kernel_rfl)) (fun _ _ _ h => h) (Or.inl ⟨by rfl, ?_⟩) ?_ ?_
                 rotate_left
                 ·
                  intro w'
                  go_simp
                  with_reducible rfl
                 rotate_left
                 ·
                  simp only [Act.put, List.setIfInBounds_toArray, List.set_cons_zero, List.set_cons_succ, i64_w, i32_w]
                  rfl
                 refine pure_ (i := 3) (N := some 39) (v := ?_) (a' := ?_) #[true, true, false, true, false, false, false, false, false, false, false, false, false, false, false, false, false, false, false, false, false, false, false, false, false, false, false, false, false] rfl rfl (any_of HT_.out (by kernel_rfl)) (fun _ _ _ h => h) (Or.inl ⟨by rfl, ?_⟩) ?_ ?_
                 rotate_left
                 ·
                  intro w'
                  go_simp
                  with_reducible rfl
                 rotate_left
                 ·
                  simp only [Act.put, List.setIfInBounds_toArray, List.set_cons_zero, List.set_cons_succ, i64_w, i32_w]
                  rfl
                 refine pure_ (i := 4) (N := some 40) (v := ?_) (a' := ?_) #[true, true, false, true, true, false, false, false, false, false, false, false, false, false, false, false, false, false, false, false, false, false, false, false, false, false, false, false, false] rfl rfl (any_of HT_.out (by kernel_rfl)) (fun _ _ _ h => h) (Or.inl ⟨by rfl, ?_⟩) ?_ ?_
                 rotate_left
                 ·
                  intro w'
                  go_simp
                  with_reducible rfl
                 rotate_left
                 ·
                  simp only [Act.put, List.setIfInBounds_toArray, List.set_cons_zero, List.set_cons_succ, i64_w, i32_w]
                  rfl
                 refine pure_ (i := 7) (N := some 43) (v := ?_) (a' := ?_) #[true, true, false, true, true, false, false, true, false, false, false, false, false, false, false, false, false, false, false, false, false, false, false, false, false, false, false, false, false] rfl rfl (any_of HT_.out (by kernel_rfl)) (fun _ _ _ h => h) (Or.inl ⟨by rfl, ?_⟩) ?_ ?_
                 rotate_left
                 ·
                  intro w'
                  go_simp
                  with_reducible rfl
                 rotate_left
                 ·
                  simp only [Act.put, List.setIfInBounds_toArray, List.set_cons_zero, List.set_cons_succ, i64_w, i32_w]
                  rfl
                 refine pure_ (i := 8) (N := some 44) (v := ?_) (a' := ?_) #[true, true, false, true, true, false, false, true, true, false, false, false, false, false, false, false, false, false, false, false, false, false, false, false, false, false, false, false, false] rfl rfl (any_of HT_.out (by kernel_rfl)) (fun _ _ _ h => h) (Or.inl ⟨by rfl, ?_⟩) ?_ ?_
                 rotate_left
                 ·
                  intro w'
                  go_simp
                  with_reducible rfl
                 rotate_left
                 ·
                  simp only [Act.put, List.setIfInBounds_toArray, List.set_cons_zero, List.set_cons_succ, i64_w, i32_w]
                  rfl
                 refine pure_ (i := 11) (N := some 47) (v := ?_) (a' := ?_) #[true, true, false, true, true, false, false, true, true, false, false, true, false, false, false, false, false, false, false, false, false, false, false, false, false, false, false, false, false] rfl rfl (any_of HT_.out (by kernel_rfl)) (fun _ _ _ h => h) (Or.inl ⟨by rfl, ?_⟩) ?_ ?_
                 rotate_left
                 ·
                  intro w'
                  go_simp
                  with_reducible rfl
                 rotate_left
                 ·
                  simp only [Act.put, List.setIfInBounds_toArray, List.set_cons_zero, List.set_cons_succ, i64_w, i32_w]
                  rfl
                 refine pure_ (i := 12) (N := some 48) (v := ?_) (a' := ?_) #[true, true, false, true, true, false, false, true, true, false, false, true, true, false, false, false, false, false, false, false, false, false, false, false, false, false, false, false, false] rfl rfl (any_of HT_.out (by kernel_rfl)) (fun _ _ _ h => h) (Or.inl ⟨by rfl, ?_⟩) ?_ ?_
                 rotate_left
                 ·
                  intro w'
                  go_simp
                  with_reducible rfl
                 rotate_left
                 ·
                  simp only [Act.put, List.setIfInBounds_toArray, List.set_cons_zero, List.set_cons_succ, i64_w, i32_w]
                  rfl
                 refine pure_ (i := 14) (N := some 50) (v := ?_) (a' := ?_) #[true, true, false, true, true, false, false, true, true, false, false, true, true, false, true, false, false, false, false, false, false, false, false, false, false, false, false, false, false] rfl rfl (any_of HT_.out (by kernel_rfl)) (fun _ _ _ h => h) (Or.inl ⟨by rfl, ?_⟩) ?_ ?_
                 rotate_left
                 ·
                  intro w'
                  go_simp
                  with_reducible rfl
                 rotate_left
                 ·
                  simp only [Act.put, List.setIfInBounds_toArray, List.set_cons_zero, List.set_cons_succ, i64_w, i32_w]
                  rfl
                 refine pure_ (i := 15) (N := some 51) (v := ?_) (a' := ?_) #[true, true, false, true, true, false, false, true, true, false, false, true, true, false, true, true, false, false, false, false, false, false, false, false, false, false, false, false, false] rfl rfl (any_of HT_.out (by kernel_rfl)) (fun _ _ _ h => h) (Or.inl ⟨by rfl, ?_⟩) ?_ ?_
                 rotate_left
                 ·
                  intro w'
                  go_simp
                  with_reducible rfl
                 rotate_left
                 ·
                  simp only [Act.put, List.setIfInBounds_toArray, List.set_cons_zero, List.set_cons_succ, i64_w, i32_w]
                  rfl
                 refine pure_ (i := 18) (N := some 54) (v := ?_) (a' := ?_) #[true, true, false, true, true, false, false, true, true, false, false, true, true, false, true, true, false, false, true, false, false, false, false, false, false, false, false, false, false] rfl rfl (any_of HT_.out (by kernel_rfl)) (fun _ _ _ h => h) (Or.inl ⟨by rfl, ?_⟩) ?_ ?_
                 rotate_left
                 ·
                  intro w'
                  go_simp
                  with_reducible rfl
                 rotate_left
                 ·
                  simp only [Act.put, List.setIfInBounds_toArray, List.set_cons_zero, List.set_cons_succ, i64_w, i32_w]
                  rfl
                 refine pure_ (i := 19) (N := some 55) (v := ?_) (a' := ?_) #[true, true, false, true, true, false, false, true, true, false, false, true, true, false, true, true, false, false, true, true, false, false, false, false, false, false, false, false, false] rfl rfl (any_of HT_.out (by kernel_rfl)) (fun _ _ _ h => h) (Or.inl ⟨by rfl, ?_⟩) ?_ ?_
                 rotate_left
                 ·
                  intro w'
                  go_simp
                  with_reducible rfl
                 rotate_left
                 ·
                  simp only [Act.put, List.setIfInBounds_toArray, List.set_cons_zero, List.set_cons_succ, i64_w, i32_w]
                  rfl
                 refine pure_ (i := 22) (N := some 58) (v := ?_) (a' := ?_) #[true, true, false, true, true, false, false, true, true, false, false, true, true, false, true, true, false, false, true, true, false, false, true, false, false, false, false, false, false] rfl rfl (any_of HT_.out (by kernel_rfl)) (fun _ _ _ h => h) (Or.inl ⟨by rfl, ?_⟩) ?_ ?_
                 rotate_left
                 ·
                  intro w'
                  go_simp
                  with_reducible rfl
                 rotate_left
                 ·
                  simp only [Act.put, List.setIfInBounds_toArray, List.set_cons_zero, List.set_cons_succ, i64_w, i32_w]
                  rfl
                 refine pure_ (i := 23) (N := some 59) (v := ?_) (a' := ?_) #[true, true, false, true, true, false, false, true, true, false, false, true, true, false, true, true, false, false, true, true, false, false, true, true, false, false, false, false, false] rfl rfl (any_of HT_.out (by kernel_rfl)) (fun _ _ _ h => h) (Or.inl ⟨by rfl, ?_⟩) ?_ ?_
                 rotate_left
                 ·
                  intro w'
                  go_simp
                  with_reducible rfl
                 rotate_left
                 ·
                  simp only [Act.put, List.setIfInBounds_toArray, List.set_cons_zero, List.set_cons_succ, i64_w, i32_w]
                  rfl
                 refine take_ (i := 2) (N := some 38) (v := ?_) (a' := ?_) #[true, true, true, true, true, false, false, true, true, false, false, true, true, false, true, true, false, false, true, true, false, false, true, true, false, false, false, false, false] rfl rfl (take_ofW HT_.out HW_.out (by kernel_rfl)) (fun _ _ _ h => h) (Or.inl ⟨by rfl, ?_⟩) hHeld ?_ ?_
                 rotate_left
                 ·
                  rintro w' ⟨s0, s1, s2, s3, s4, s5, s6⟩
                  go_simp
                  with_reducible rfl
                 rotate_left
                 ·
                  simp only [Act.put, List.setIfInBounds_toArray, List.set_cons_zero, List.set_cons_succ, i64_w, i32_w]
                  rfl
                 refine take_ (i := 5) (N := some 41) (v := ?_) (a' := ?_) #[true, true, true, true, true, true, false, true, true, false, false, true, true, false, true, true, false, false, true, true, false, false, true, true, false, false, false, false, false] rfl rfl (take_ofW HT_.out HW_.out (by kernel_rfl)) (fun _ _ _ h => h) (Or.inl ⟨by rfl, ?_⟩) hHeld ?_ ?_
                 rotate_left
                 ·
                  rintro w' ⟨s0, s1, s2, s3, s4, s5, s6⟩
                  go_simp
                  with_reducible rfl
                 rotate_left
                 ·
                  simp only [Act.put, List.setIfInBounds_toArray, List.set_cons_zero, List.set_cons_succ, i64_w, i32_w]
                  rfl
                 refine take_ (i := 9) (N := some 45) (v := ?_) (a' := ?_) #[true, true, true, true, true, true, false, true, true, true, false, true, true, false, true, true, false, false, true, true, false, false, true, true, false, false, false, false, false] rfl rfl (take_ofW HT_.out HW_.out (by kernel_rfl)) (fun _ _ _ h => h) (Or.inl ⟨by rfl, ?_⟩) hHeld ?_ ?_
                 rotate_left
                 ·
                  rintro w' ⟨s0, s1, s2, s3, s4, s5, s6⟩
                  go_simp
                  with_reducible rfl
                 rotate_left
                 ·
                  simp only [Act.put, List.setIfInBounds_toArray, List.set_cons_zero, List.set_cons_succ, i64_w, i32_w]
                  rfl
                 refine take_ (i := 13) (N := some 49) (v := ?_) (a' := ?_) #[true, true, true, true, true, true, false, true, true, true, false, true, true, true, true, true, false, false, true, true, false, false, true, true, false, false, false, false, false] rfl rfl (take_ofW HT_.out HW_.out (by kernel_rfl)) (fun _ _ _ h => h) (Or.inl ⟨by rfl, ?_⟩) hHeld ?_ ?_
                 rotate_left
                 ·
                  rintro w' ⟨s0, s1, s2, s3, s4, s5, s6⟩
                  go_simp
                  with_reducible rfl
                 rotate_left
                 ·
                  simp only [Act.put, List.setIfInBounds_toArray, List.set_cons_zero, List.set_cons_succ, i64_w, i32_w]
                  rfl
                 refine take_ (i := 16) (N := some 52) (v := ?_) (a' := ?_) #[true, true, true, true, true, true, false, true, true, true, false, true, true, true, true, true, true, false, true, true, false, false, true, true, false, false, false, false, false] rfl rfl (take_ofW HT_.out HW_.out (by kernel_rfl)) (fun _ _ _ h => h) (Or.inl ⟨by rfl, ?_⟩) hHeld ?_ ?_
                 rotate_left
                 ·
                  rintro w' ⟨s0, s1, s2, s3, s4, s5, s6⟩
                  go_simp
                  with_reducible rfl
                 rotate_left
                 ·
                  simp only [Act.put, List.setIfInBounds_toArray, List.set_cons_zero, List.set_cons_succ, i64_w, i32_w]
                  rfl
                 refine take_ (i := 20) (N := some 56) (v := ?_) (a' := ?_) #[true, true, true, true, true, true, false, true, true, true, false, true, true, true, true, true, true, false, true, true, true, false, true, true, false, false, false, false, false] rfl rfl (take_ofW HT_.out HW_.out (by kernel_rfl)) (fun _ _ _ h => h) (Or.inl ⟨by rfl, ?_⟩) hHeld ?_ ?_
                 rotate_left
                 ·
                  rintro w' ⟨s0, s1, s2, s3, s4, s5, s6⟩
                  go_simp
                  with_reducible rfl
                 rotate_left
                 ·
                  simp only [Act.put, List.setIfInBounds_toArray, List.set_cons_zero, List.set_cons_succ, i64_w, i32_w]
                  rfl
                 refine take_ (i := 24) (N := some 60) (v := ?_) (a' := ?_) #[true, true, true, true, true, true, false, true, true, true, false, true, true, true, true, true, true, false, true, true, true, false, true, true, true, false, false, false, false] rfl rfl (take_ofW HT_.out HW_.out (by kernel_rfl)) (fun _ _ _ h => h) (Or.inl ⟨by rfl, ?_⟩) hHeld ?_ ?_
                 rotate_left
                 ·
                  rintro w' ⟨s0, s1, s2, s3, s4, s5, s6⟩
                  go_simp
                  with_reducible rfl
                 rotate_left
                 ·
                  simp only [Act.put, List.setIfInBounds_toArray, List.set_cons_zero, List.set_cons_succ, i64_w, i32_w]
                  rfl
                 refine join_ (σ := Nat) 1 #[true, true, true, true, true, true, true, true, true, true, true, true, true, true, true, true, true, true, true, true, true, true, true, true, true, true, true, true, false] (fun s_ => [(42, .int .i64 t131), (46, .int .i64 t133), (53, .int .i64 t136), (57, .int .i64 t138), (61, .int .i64 t140), (7, .pointer (some ⟨s_, 0, none⟩)), (62, .agg #[.string (rdOf ByteArray.empty t118 0), .int .i64 t131, .int .i64 t133, .string (rdOf ByteArray.empty t118 2), .int .i64 t136, .int .i64 t138, .int .i64 t140])]) (fun s_ w' => (w'.cell? ad121 = some (.string (rdOf ByteArray.empty t118 0)) ∧ w'.cell? ad130 = some (.string (rdOf ByteArray.empty t122 0)) ∧ w'.cell? ⟨ad130.block, ad130.off + 1, none⟩ = some (.string (rdOf ByteArray.empty t122 1)) ∧ w'.cell? ⟨ad121.block, ad121.off + 2, none⟩ = some (.string (rdOf ByteArray.empty t118 2)) ∧ w'.cell? ad135 = some (.string (rdOf ByteArray.empty t126 0)) ∧ w'.cell? ⟨ad135.block, ad135.off + 1, none⟩ = some (.string (rdOf ByteArray.empty t126 1)) ∧ w'.cell? ⟨ad135.block, ad135.off + 2, none⟩ = some (.string (rdOf ByteArray.empty t126 2))) ∧ (Kd.R Kd.string 9 w' w.heap.size (fun k_ => some k_ ≠ (.slice (some ad130) t122.length co57 : Value).ownBlock ∧ some k_ ≠ (.slice (some ad135) t126.length co58 : Value).ownBlock) (.slice (some ad121) t118.length co16) t118) ∧ (Kd.R Kd.string 9 w' w.heap.size (fun k_ => some k_ ≠ (.slice (some ad121) t118.length co16 : Value).ownBlock ∧ some k_ ≠ (.slice (some ad135) t126.length co58 : Value).ownBlock) (.slice (some ad130) t122.length co57) t122) ∧ (Kd.R Kd.string 9 w' w.heap.size (fun k_ => some k_ ≠ (.slice (some ad121) t118.length co16 : Value).ownBlock ∧ some k_ ≠ (.slice (some ad130) t122.length co57 : Value).ownBlock) (.slice (some ad135) t126.length co58) t126) ∧ (w'.heap[gb117]? = some (.cells #[.string ⟨#[]⟩, .int .i64 0, .int .i64 0, .string ⟨#[]⟩, .int .i64 0, .int .i64 0, .int .i64 0] 23 (0, 0))) ∧ (w'.heap[s_]? = some (.cells #[.string ⟨#[]⟩, .int .i64 0, .int .i64 0, .string ⟨#[]⟩, .int .i64 0, .int .i64 0, .int .i64 0] 23 (0, 0))) ∧ (w.heap.size ≤ s_) ∧ (w.heap.size ≤ s_) ∧ (gb117 ≠ s_) ∧ (s_ ≠ gb117) ∧ (Below w.heap.size w w')) ?f12 ?c12
                 case' c12 =>
                  intro hJ6_10_17_21_25_27
                  refine join_ (σ := Unit) 2 #[true, true, true, true, true, true, true, true, true, true, true, true, true, true, true, true, true, true, true, true, true, true, true, true, true, true, true, false, false] (fun s_ => [(42, .int .i64 t131), (46, .int .i64 t133), (53, .int .i64 t136), (57, .int .i64 t138), (61, .int .i64 t140), (62, .agg #[.string (rdOf ByteArray.empty t118 0), .int .i64 t131, .int .i64 t133, .string (rdOf ByteArray.empty t118 2), .int .i64 t136, .int .i64 t138, .int .i64 t140])]) (fun s_ w' => (w'.cell? ad121 = some (.string (rdOf ByteArray.empty t118 0)) ∧ w'.cell? ad130 = some (.string (rdOf ByteArray.empty t122 0)) ∧ w'.cell? ⟨ad130.block, ad130.off + 1, none⟩ = some (.string (rdOf ByteArray.empty t122 1)) ∧ w'.cell? ⟨ad121.block, ad121.off + 2, none⟩ = some (.string (rdOf ByteArray.empty t118 2)) ∧ w'.cell? ad135 = some (.string (rdOf ByteArray.empty t126 0)) ∧ w'.cell? ⟨ad135.block, ad135.off + 1, none⟩ = some (.string (rdOf ByteArray.empty t126 1)) ∧ w'.cell? ⟨ad135.block, ad135.off + 2, none⟩ = some (.string (rdOf ByteArray.empty t126 2))) ∧ (Kd.R Kd.string 9 w' w.heap.size (fun k_ => some k_ ≠ (.slice (some ad130) t122.length co57 : Value).ownBlock ∧ some k_ ≠ (.slice (some ad135) t126.length co58 : Value).ownBlock) (.slice (some ad121) t118.length co16) t118) ∧ (Kd.R Kd.string 9 w' w.heap.size (fun k_ => some k_ ≠ (.slice (some ad121) t118.length co16 : Value).ownBlock ∧ some k_ ≠ (.slice (some ad135) t126.length co58 : Value).ownBlock) (.slice (some ad130) t122.length co57) t122) ∧ (Kd.R Kd.string 9 w' w.heap.size (fun k_ => some k_ ≠ (.slice (some ad121) t118.length co16 : Value).ownBlock ∧ some k_ ≠ (.slice (some ad130) t122.length co57 : Value).ownBlock) (.slice (some ad135) t126.length co58) t126) ∧ (w'.heap[gb117]? = some (.cells #[.string ⟨#[]⟩, .int .i64 0, .int .i64 0, .string ⟨#[]⟩, .int .i64 0, .int .i64 0, .int .i64 0] 23 (0, 0))) ∧ (Below w.heap.size w w')) ?f13 ?c13
                 case' c13 =>
                  intro hJ6_10_17_21_25
                  refine join_ (σ := Nat) 3 #[true, true, true, true, true, true, true, true, true, true, true, true, true, true, true, true, true, true, true, true, true, true, true, true, true, false, false, true, false] (fun s_ => [(42, .int .i64 t131), (46, .int .i64 t133), (53, .int .i64 t136), (57, .int .i64 t138), (7, .pointer (some ⟨s_, 0, none⟩))]) (fun s_ w' => (w'.cell? ad121 = some (.string (rdOf ByteArray.empty t118 0)) ∧ w'.cell? ad130 = some (.string (rdOf ByteArray.empty t122 0)) ∧ w'.cell? ⟨ad130.block, ad130.off + 1, none⟩ = some (.string (rdOf ByteArray.empty t122 1)) ∧ w'.cell? ⟨ad121.block, ad121.off + 2, none⟩ = some (.string (rdOf ByteArray.empty t118 2)) ∧ w'.cell? ad135 = some (.string (rdOf ByteArray.empty t126 0)) ∧ w'.cell? ⟨ad135.block, ad135.off + 1, none⟩ = some (.string (rdOf ByteArray.empty t126 1)) ∧ w'.cell? ⟨ad135.block, ad135.off + 2, none⟩ = some (.string (rdOf ByteArray.empty t126 2))) ∧ (Kd.R Kd.string 9 w' w.heap.size (fun k_ => some k_ ≠ (.slice (some ad130) t122.length co57 : Value).ownBlock ∧ some k_ ≠ (.slice (some ad135) t126.length co58 : Value).ownBlock) (.slice (some ad121) t118.length co16) t118) ∧ (Kd.R Kd.string 9 w' w.heap.size (fun k_ => some k_ ≠ (.slice (some ad121) t118.length co16 : Value).ownBlock ∧ some k_ ≠ (.slice (some ad135) t126.length co58 : Value).ownBlock) (.slice (some ad130) t122.length co57) t122) ∧ (Kd.R Kd.string 9 w' w.heap.size (fun k_ => some k_ ≠ (.slice (some ad121) t118.length co16 : Value).ownBlock ∧ some k_ ≠ (.slice (some ad130) t122.length co57 : Value).ownBlock) (.slice (some ad135) t126.length co58) t126) ∧ (w'.heap[gb117]? = some (.cells #[.string ⟨#[]⟩, .int .i64 0, .int .i64 0, .string ⟨#[]⟩, .int .i64 0, .int .i64 0, .int .i64 0] 23 (0, 0))) ∧ (w'.heap[s_]? = some (.cells #[.string ⟨#[]⟩, .int .i64 0, .int .i64 0, .string ⟨#[]⟩, .int .i64 0, .int .i64 0, .int .i64 0] 23 (0, 0))) ∧ (w.heap.size ≤ s_) ∧ (w.heap.size ≤ s_) ∧ (gb117 ≠ s_) ∧ (s_ ≠ gb117) ∧ (Below w.heap.size w w')) ?f14 ?c14
                 case' c14 =>
                  intro hJ6_10_17_21_27
                  refine join_ (σ := Unit) 4 #[true, true, true, true, true, true, true, true, true, true, true, true, true, true, true, true, true, true, true, true, true, true, true, true, true, false, false, false, false] (fun s_ => [(42, .int .i64 t131), (46, .int .i64 t133), (53, .int .i64 t136), (57, .int .i64 t138)]) (fun s_ w' => (w'.cell? ad121 = some (.string (rdOf ByteArray.empty t118 0)) ∧ w'.cell? ad130 = some (.string (rdOf ByteArray.empty t122 0)) ∧ w'.cell? ⟨ad130.block, ad130.off + 1, none⟩ = some (.string (rdOf ByteArray.empty t122 1)) ∧ w'.cell? ⟨ad121.block, ad121.off + 2, none⟩ = some (.string (rdOf ByteArray.empty t118 2)) ∧ w'.cell? ad135 = some (.string (rdOf ByteArray.empty t126 0)) ∧ w'.cell? ⟨ad135.block, ad135.off + 1, none⟩ = some (.string (rdOf ByteArray.empty t126 1)) ∧ w'.cell? ⟨ad135.block, ad135.off + 2, none⟩ = some (.string (rdOf ByteArray.empty t126 2))) ∧ (Kd.R Kd.string 9 w' w.heap.size (fun k_ => some k_ ≠ (.slice (some ad130) t122.length co57 : Value).ownBlock ∧ some k_ ≠ (.slice (some ad135) t126.length co58 : Value).ownBlock) (.slice (some ad121) t118.length co16) t118) ∧ (Kd.R Kd.string 9 w' w.heap.size (fun k_ => some k_ ≠ (.slice (some ad121) t118.length co16 : Value).ownBlock ∧ some k_ ≠ (.slice (some ad135) t126.length co58 : Value).ownBlock) (.slice (some ad130) t122.length co57) t122) ∧ (Kd.R Kd.string 9 w' w.heap.size (fun k_ => some k_ ≠ (.slice (some ad121) t118.length co16 : Value).ownBlock ∧ some k_ ≠ (.slice (some ad130) t122.length co57 : Value).ownBlock) (.slice (some ad135) t126.length co58) t126) ∧ (w'.heap[gb117]? = some (.cells #[.string ⟨#[]⟩, .int .i64 0, .int .i64 0, .string ⟨#[]⟩, .int .i64 0, .int .i64 0, .int .i64 0] 23 (0, 0))) ∧ (Below w.heap.size w w')) ?f15 ?c15
                 case' c15 =>
                  intro hJ6_10_17_21
                  refine join_ (σ := Nat) 4 #[true, true, true, true, true, true, true, true, true, true, true, true, true, true, true, true, true, true, true, true, true, false, true, true, true, false, false, true, false] (fun s_ => [(42, .int .i64 t131), (46, .int .i64 t133), (53, .int .i64 t136), (7, .pointer (some ⟨s_, 0, none⟩))]) (fun s_ w' => (w'.cell? ad121 = some (.string (rdOf ByteArray.empty t118 0)) ∧ w'.cell? ad130 = some (.string (rdOf ByteArray.empty t122 0)) ∧ w'.cell? ⟨ad130.block, ad130.off + 1, none⟩ = some (.string (rdOf ByteArray.empty t122 1)) ∧ w'.cell? ⟨ad121.block, ad121.off + 2, none⟩ = some (.string (rdOf ByteArray.empty t118 2)) ∧ w'.cell? ad135 = some (.string (rdOf ByteArray.empty t126 0)) ∧ w'.cell? ⟨ad135.block, ad135.off + 1, none⟩ = some (.string (rdOf ByteArray.empty t126 1)) ∧ w'.cell? ⟨ad135.block, ad135.off + 2, none⟩ = some (.string (rdOf ByteArray.empty t126 2))) ∧ (Kd.R Kd.string 9 w' w.heap.size (fun k_ => some k_ ≠ (.slice (some ad130) t122.length co57 : Value).ownBlock ∧ some k_ ≠ (.slice (some ad135) t126.length co58 : Value).ownBlock) (.slice (some ad121) t118.length co16) t118) ∧ (Kd.R Kd.string 9 w' w.heap.size (fun k_ => some k_ ≠ (.slice (some ad121) t118.length co16 : Value).ownBlock ∧ some k_ ≠ (.slice (some ad135) t126.length co58 : Value).ownBlock) (.slice (some ad130) t122.length co57) t122) ∧ (Kd.R Kd.string 9 w' w.heap.size (fun k_ => some k_ ≠ (.slice (some ad121) t118.length co16 : Value).ownBlock ∧ some k_ ≠ (.slice (some ad130) t122.length co57 : Value).ownBlock) (.slice (some ad135) t126.length co58) t126) ∧ (w'.heap[gb117]? = some (.cells #[.string ⟨#[]⟩, .int .i64 0, .int .i64 0, .string ⟨#[]⟩, .int .i64 0, .int .i64 0, .int .i64 0] 23 (0, 0))) ∧ (w'.heap[s_]? = some (.cells #[.string ⟨#[]⟩, .int .i64 0, .int .i64 0, .string ⟨#[]⟩, .int .i64 0, .int .i64 0, .int .i64 0] 23 (0, 0))) ∧ (w.heap.size ≤ s_) ∧ (w.heap.size ≤ s_) ∧ (gb117 ≠ s_) ∧ (s_ ≠ gb117) ∧ (Below w.heap.size w w')) ?f16 ?c16
                 case' c16 =>
                  intro hJ6_10_17_27
                  refine join_ (σ := Unit) 5 #[true, true, true, true, true, true, true, true, true, true, true, true, true, true, true, true, true, true, true, true, true, false, true, true, true, false, false, false, false] (fun s_ => [(42, .int .i64 t131), (46, .int .i64 t133), (53, .int .i64 t136)]) (fun s_ w' => (w'.cell? ad121 = some (.string (rdOf ByteArray.empty t118 0)) ∧ w'.cell? ad130 = some (.string (rdOf ByteArray.empty t122 0)) ∧ w'.cell? ⟨ad130.block, ad130.off + 1, none⟩ = some (.string (rdOf ByteArray.empty t122 1)) ∧ w'.cell? ⟨ad121.block, ad121.off + 2, none⟩ = some (.string (rdOf ByteArray.empty t118 2)) ∧ w'.cell? ad135 = some (.string (rdOf ByteArray.empty t126 0)) ∧ w'.cell? ⟨ad135.block, ad135.off + 1, none⟩ = some (.string (rdOf ByteArray.empty t126 1)) ∧ w'.cell? ⟨ad135.block, ad135.off + 2, none⟩ = some (.string (rdOf ByteArray.empty t126 2))) ∧ (Kd.R Kd.string 9 w' w.heap.size (fun k_ => some k_ ≠ (.slice (some ad130) t122.length co57 : Value).ownBlock ∧ some k_ ≠ (.slice (some ad135) t126.length co58 : Value).ownBlock) (.slice (some ad121) t118.length co16) t118) ∧ (Kd.R Kd.string 9 w' w.heap.size (fun k_ => some k_ ≠ (.slice (some ad121) t118.length co16 : Value).ownBlock ∧ some k_ ≠ (.slice (some ad135) t126.length co58 : Value).ownBlock) (.slice (some ad130) t122.length co57) t122) ∧ (Kd.R Kd.string 9 w' w.heap.size (fun k_ => some k_ ≠ (.slice (some ad121) t118.length co16 : Value).ownBlock ∧ some k_ ≠ (.slice (some ad130) t122.length co57 : Value).ownBlock) (.slice (some ad135) t126.length co58) t126) ∧ (w'.heap[gb117]? = some (.cells #[.string ⟨#[]⟩, .int .i64 0, .int .i64 0, .string ⟨#[]⟩, .int .i64 0, .int .i64 0, .int .i64 0] 23 (0, 0))) ∧ (Below w.heap.size w w')) ?f17 ?c17
                 case' c17 =>
                  intro hJ6_10_17
                  refine join_ (σ := Nat) 5 #[true, true, true, true, true, true, true, true, true, true, true, true, true, true, true, true, true, false, true, true, true, false, true, true, true, false, false, true, false] (fun s_ => [(42, .int .i64 t131), (46, .int .i64 t133), (7, .pointer (some ⟨s_, 0, none⟩))]) (fun s_ w' => (w'.cell? ad121 = some (.string (rdOf ByteArray.empty t118 0)) ∧ w'.cell? ad130 = some (.string (rdOf ByteArray.empty t122 0)) ∧ w'.cell? ⟨ad130.block, ad130.off + 1, none⟩ = some (.string (rdOf ByteArray.empty t122 1)) ∧ w'.cell? ⟨ad121.block, ad121.off + 2, none⟩ = some (.string (rdOf ByteArray.empty t118 2)) ∧ w'.cell? ad135 = some (.string (rdOf ByteArray.empty t126 0)) ∧ w'.cell? ⟨ad135.block, ad135.off + 1, none⟩ = some (.string (rdOf ByteArray.empty t126 1)) ∧ w'.cell? ⟨ad135.block, ad135.off + 2, none⟩ = some (.string (rdOf ByteArray.empty t126 2))) ∧ (Kd.R Kd.string 9 w' w.heap.size (fun k_ => some k_ ≠ (.slice (some ad130) t122.length co57 : Value).ownBlock ∧ some k_ ≠ (.slice (some ad135) t126.length co58 : Value).ownBlock) (.slice (some ad121) t118.length co16) t118) ∧ (Kd.R Kd.string 9 w' w.heap.size (fun k_ => some k_ ≠ (.slice (some ad121) t118.length co16 : Value).ownBlock ∧ some k_ ≠ (.slice (some ad135) t126.length co58 : Value).ownBlock) (.slice (some ad130) t122.length co57) t122) ∧ (Kd.R Kd.string 9 w' w.heap.size (fun k_ => some k_ ≠ (.slice (some ad121) t118.length co16 : Value).ownBlock ∧ some k_ ≠ (.slice (some ad130) t122.length co57 : Value).ownBlock) (.slice (some ad135) t126.length co58) t126) ∧ (w'.heap[gb117]? = some (.cells #[.string ⟨#[]⟩, .int .i64 0, .int .i64 0, .string ⟨#[]⟩, .int .i64 0, .int .i64 0, .int .i64 0] 23 (0, 0))) ∧ (w'.heap[s_]? = some (.cells #[.string ⟨#[]⟩, .int .i64 0, .int .i64 0, .string ⟨#[]⟩, .int .i64 0, .int .i64 0, .int .i64 0] 23 (0, 0))) ∧ (w.heap.size ≤ s_) ∧ (w.heap.size ≤ s_) ∧ (gb117 ≠ s_) ∧ (s_ ≠ gb117) ∧ (Below w.heap.size w w')) ?f18 ?c18
                 case' c18 =>
                  intro hJ6_10_27
                  refine join_ (σ := Unit) 6 #[true, true, true, true, true, true, true, true, true, true, true, true, true, true, true, true, true, false, true, true, true, false, true, true, true, false, false, false, false] (fun s_ => [(42, .int .i64 t131), (46, .int .i64 t133)]) (fun s_ w' => (w'.cell? ad121 = some (.string (rdOf ByteArray.empty t118 0)) ∧ w'.cell? ad130 = some (.string (rdOf ByteArray.empty t122 0)) ∧ w'.cell? ⟨ad130.block, ad130.off + 1, none⟩ = some (.string (rdOf ByteArray.empty t122 1)) ∧ w'.cell? ⟨ad121.block, ad121.off + 2, none⟩ = some (.string (rdOf ByteArray.empty t118 2)) ∧ w'.cell? ad135 = some (.string (rdOf ByteArray.empty t126 0)) ∧ w'.cell? ⟨ad135.block, ad135.off + 1, none⟩ = some (.string (rdOf ByteArray.empty t126 1)) ∧ w'.cell? ⟨ad135.block, ad135.off + 2, none⟩ = some (.string (rdOf ByteArray.empty t126 2))) ∧ (Kd.R Kd.string 9 w' w.heap.size (fun k_ => some k_ ≠ (.slice (some ad130) t122.length co57 : Value).ownBlock ∧ some k_ ≠ (.slice (some ad135) t126.length co58 : Value).ownBlock) (.slice (some ad121) t118.length co16) t118) ∧ (Kd.R Kd.string 9 w' w.heap.size (fun k_ => some k_ ≠ (.slice (some ad121) t118.length co16 : Value).ownBlock ∧ some k_ ≠ (.slice (some ad135) t126.length co58 : Value).ownBlock) (.slice (some ad130) t122.length co57) t122) ∧ (Kd.R Kd.string 9 w' w.heap.size (fun k_ => some k_ ≠ (.slice (some ad121) t118.length co16 : Value).ownBlock ∧ some k_ ≠ (.slice (some ad130) t122.length co57 : Value).ownBlock) (.slice (some ad135) t126.length co58) t126) ∧ (w'.heap[gb117]? = some (.cells #[.string ⟨#[]⟩, .int .i64 0, .int .i64 0, .string ⟨#[]⟩, .int .i64 0, .int .i64 0, .int .i64 0] 23 (0, 0))) ∧ (Below w.heap.size w w')) ?f19 ?c19
                 case' c19 =>
                  intro hJ6_10
                  refine join_ (σ := Nat) 6 #[true, true, true, true, true, true, true, true, true, true, false, true, true, true, true, true, true, false, true, true, true, false, true, true, true, false, false, true, false] (fun s_ => [(42, .int .i64 t131), (7, .pointer (some ⟨s_, 0, none⟩))]) (fun s_ w' => (w'.cell? ad121 = some (.string (rdOf ByteArray.empty t118 0)) ∧ w'.cell? ad130 = some (.string (rdOf ByteArray.empty t122 0)) ∧ w'.cell? ⟨ad130.block, ad130.off + 1, none⟩ = some (.string (rdOf ByteArray.empty t122 1)) ∧ w'.cell? ⟨ad121.block, ad121.off + 2, none⟩ = some (.string (rdOf ByteArray.empty t118 2)) ∧ w'.cell? ad135 = some (.string (rdOf ByteArray.empty t126 0)) ∧ w'.cell? ⟨ad135.block, ad135.off + 1, none⟩ = some (.string (rdOf ByteArray.empty t126 1)) ∧ w'.cell? ⟨ad135.block, ad135.off + 2, none⟩ = some (.string (rdOf ByteArray.empty t126 2))) ∧ (Kd.R Kd.string 9 w' w.heap.size (fun k_ => some k_ ≠ (.slice (some ad130) t122.length co57 : Value).ownBlock ∧ some k_ ≠ (.slice (some ad135) t126.length co58 : Value).ownBlock) (.slice (some ad121) t118.length co16) t118) ∧ (Kd.R Kd.string 9 w' w.heap.size (fun k_ => some k_ ≠ (.slice (some ad121) t118.length co16 : Value).ownBlock ∧ some k_ ≠ (.slice (some ad135) t126.length co58 : Value).ownBlock) (.slice (some ad130) t122.length co57) t122) ∧ (Kd.R Kd.string 9 w' w.heap.size (fun k_ => some k_ ≠ (.slice (some ad121) t118.length co16 : Value).ownBlock ∧ some k_ ≠ (.slice (some ad130) t122.length co57 : Value).ownBlock) (.slice (some ad135) t126.length co58) t126) ∧ (w'.heap[gb117]? = some (.cells #[.string ⟨#[]⟩, .int .i64 0, .int .i64 0, .string ⟨#[]⟩, .int .i64 0, .int .i64 0, .int .i64 0] 23 (0, 0))) ∧ (w'.heap[s_]? = some (.cells #[.string ⟨#[]⟩, .int .i64 0, .int .i64 0, .string ⟨#[]⟩, .int .i64 0, .int .i64 0, .int .i64 0] 23 (0, 0))) ∧ (w.heap.size ≤ s_) ∧ (w.heap.size ≤ s_) ∧ (gb117 ≠ s_) ∧ (s_ ≠ gb117) ∧ (Below w.heap.size w w')) ?f20 ?c20
                 case' c20 =>
                  intro hJ6_27
                  refine join_ (σ := Unit) 7 #[true, true, true, true, true, true, true, true, true, true, false, true, true, true, true, true, true, false, true, true, true, false, true, true, true, false, false, false, false] (fun s_ => [(42, .int .i64 t131)]) (fun s_ w' => (w'.cell? ad121 = some (.string (rdOf ByteArray.empty t118 0)) ∧ w'.cell? ad130 = some (.string (rdOf ByteArray.empty t122 0)) ∧ w'.cell? ⟨ad130.block, ad130.off + 1, none⟩ = some (.string (rdOf ByteArray.empty t122 1)) ∧ w'.cell? ⟨ad121.block, ad121.off + 2, none⟩ = some (.string (rdOf ByteArray.empty t118 2)) ∧ w'.cell? ad135 = some (.string (rdOf ByteArray.empty t126 0)) ∧ w'.cell? ⟨ad135.block, ad135.off + 1, none⟩ = some (.string (rdOf ByteArray.empty t126 1)) ∧ w'.cell? ⟨ad135.block, ad135.off + 2, none⟩ = some (.string (rdOf ByteArray.empty t126 2))) ∧ (Kd.R Kd.string 9 w' w.heap.size (fun k_ => some k_ ≠ (.slice (some ad130) t122.length co57 : Value).ownBlock ∧ some k_ ≠ (.slice (some ad135) t126.length co58 : Value).ownBlock) (.slice (some ad121) t118.length co16) t118) ∧ (Kd.R Kd.string 9 w' w.heap.size (fun k_ => some k_ ≠ (.slice (some ad121) t118.length co16 : Value).ownBlock ∧ some k_ ≠ (.slice (some ad135) t126.length co58 : Value).ownBlock) (.slice (some ad130) t122.length co57) t122) ∧ (Kd.R Kd.string 9 w' w.heap.size (fun k_ => some k_ ≠ (.slice (some ad121) t118.length co16 : Value).ownBlock ∧ some k_ ≠ (.slice (some ad130) t122.length co57 : Value).ownBlock) (.slice (some ad135) t126.length co58) t126) ∧ (w'.heap[gb117]? = some (.cells #[.string ⟨#[]⟩, .int .i64 0, .int .i64 0, .string ⟨#[]⟩, .int .i64 0, .int .i64 0, .int .i64 0] 23 (0, 0))) ∧ (Below w.heap.size w w')) ?f21 ?c21
                 case' c21 =>
                  intro hJ6
                  refine join_ (σ := Nat) 7 #[true, true, true, true, true, true, false, true, true, true, false, true, true, true, true, true, true, false, true, true, true, false, true, true, true, false, false, true, false] (fun s_ => [(7, .pointer (some ⟨s_, 0, none⟩))]) (fun s_ w' => (w'.cell? ad121 = some (.string (rdOf ByteArray.empty t118 0)) ∧ w'.cell? ad130 = some (.string (rdOf ByteArray.empty t122 0)) ∧ w'.cell? ⟨ad130.block, ad130.off + 1, none⟩ = some (.string (rdOf ByteArray.empty t122 1)) ∧ w'.cell? ⟨ad121.block, ad121.off + 2, none⟩ = some (.string (rdOf ByteArray.empty t118 2)) ∧ w'.cell? ad135 = some (.string (rdOf ByteArray.empty t126 0)) ∧ w'.cell? ⟨ad135.block, ad135.off + 1, none⟩ = some (.string (rdOf ByteArray.empty t126 1)) ∧ w'.cell? ⟨ad135.block, ad135.off + 2, none⟩ = some (.string (rdOf ByteArray.empty t126 2))) ∧ (Kd.R Kd.string 9 w' w.heap.size (fun k_ => some k_ ≠ (.slice (some ad130) t122.length co57 : Value).ownBlock ∧ some k_ ≠ (.slice (some ad135) t126.length co58 : Value).ownBlock) (.slice (some ad121) t118.length co16) t118) ∧ (Kd.R Kd.string 9 w' w.heap.size (fun k_ => some k_ ≠ (.slice (some ad121) t118.length co16 : Value).ownBlock ∧ some k_ ≠ (.slice (some ad135) t126.length co58 : Value).ownBlock) (.slice (some ad130) t122.length co57) t122) ∧ (Kd.R Kd.string 9 w' w.heap.size (fun k_ => some k_ ≠ (.slice (some ad121) t118.length co16 : Value).ownBlock ∧ some k_ ≠ (.slice (some ad130) t122.length co57 : Value).ownBlock) (.slice (some ad135) t126.length co58) t126) ∧ (w'.heap[gb117]? = some (.cells #[.string ⟨#[]⟩, .int .i64 0, .int .i64 0, .string ⟨#[]⟩, .int .i64 0, .int .i64 0, .int .i64 0] 23 (0, 0))) ∧ (w'.heap[s_]? = some (.cells #[.string ⟨#[]⟩, .int .i64 0, .int .i64 0, .string ⟨#[]⟩, .int .i64 0, .int .i64 0, .int .i64 0] 23 (0, 0))) ∧ (w.heap.size ≤ s_) ∧ (w.heap.size ≤ s_) ∧ (gb117 ≠ s_) ∧ (s_ ≠ gb117) ∧ (Below w.heap.size w w')) ?f22 ?c22
                 case c22 =>
                  intro hJ27
                  refine two_ (i := 6) (j := 27) (Ni := some 42) (Nj := some 7) #[true, true, true, true, true, true, true, true, true, true, false, true, true, true, true, true, true, false, true, true, true, false, true, true, true, false, false, false, false] #[true, true, true, true, true, true, false, true, true, true, false, true, true, true, true, true, true, false, true, true, true, false, true, true, true, false, false, true, false] rfl rfl rfl rfl (two_of HT_.out (by kernel_rfl)) (by decide) (by decide) (fun K hK => ?_) (fun K hK => ?_)
                  ·
                   refine goes_ Tryd.func35 (by kernel_rfl) rfl #[.string (rdOf ByteArray.empty t122 0)] (by rfl) rfl rfl (by (try simp only [List.map_toArray, List.map_cons, List.map_nil]); first | done | rfl | (simp only [List.length_drop, List.length_take]; rfl)) ?_
                   with_reducible refine (spec_l1Read.calls kj13 (rdOf ByteArray.empty t122 0) t131 _ A27.out).mono ?_
                   rintro e w' ⟨rfl, ⟨nd, rfl⟩⟩
                   refine ⟨_, rfl, ?_⟩
                   refine hK.out _ _ ⟨hHeld.1, hHeld.2.1, hHeld.2.2.1, hHeld.2.2.2.1, hHeld.2.2.2.2.1, hHeld.2.2.2.2.2.1, hHeld.2.2.2.2.2.2⟩ (fun hHeld => ?_)
                   clear hK K
                   refine norm_ (a' := ?_) ?_ ?_
                   rotate_left
                   ·
                    show Act.put _ (some 42) _ = _
                    simp only [Act.put, List.setIfInBounds_toArray, List.set_cons_zero, List.set_cons_succ, i64_w, i32_w]
                    rfl
                   exact norm_ (by simp only [putAll, Act.put, List.setIfInBounds_toArray, List.set_cons_zero, List.set_cons_succ] <;> rfl) (hJ6 () _ ⟨hHeld, (XSq.pR HO_4), (XSq.pR HO_5), (XSq.pR HO_6), (XSq.bq BK117), (XSq.bB HB)⟩)
                  ·
                   refine box_step ?hg (N := 7) ?hd (cs := #[.string ⟨#[]⟩, .int .i64 0, .int .i64 0, .string ⟨#[]⟩, .int .i64 0, .int .i64 0, .int .i64 0]) (t := 23) ?hr ?_; (case hd => rfl); (case hg => rfl); (case hr => first | (go_simp; done) | (go_simp; rfl))
                   intro gb141 hg w59 hbox hb; have HS0_ := (hb.cell (World.block_lt_of_cell? _ _ (hHeld.1))).trans (hHeld.1); have HS1_ := (hb.cell (World.block_lt_of_cell? _ _ (hHeld.2.1))).trans (hHeld.2.1); have HS2_ := (hb.cell (World.block_lt_of_cell? _ _ (hHeld.2.2.1))).trans (hHeld.2.2.1); have HS3_ := (hb.cell (World.block_lt_of_cell? _ _ (hHeld.2.2.2.1))).trans (hHeld.2.2.2.1); have HS4_ := (hb.cell (World.block_lt_of_cell? _ _ (hHeld.2.2.2.2.1))).trans (hHeld.2.2.2.2.1); have HS5_ := (hb.cell (World.block_lt_of_cell? _ _ (hHeld.2.2.2.2.2.1))).trans (hHeld.2.2.2.2.2.1); have HS6_ := (hb.cell (World.block_lt_of_cell? _ _ (hHeld.2.2.2.2.2.2))).trans (hHeld.2.2.2.2.2.2); have n0_ := Aside0.mk (Kd.R_below (XSq.pR HO_4) hb); have n1_ := Aside0.mk (Kd.R_below (XSq.pR HO_5) hb); have n2_ := Aside0.mk (Kd.R_below (XSq.pR HO_6) hb); have n3_ := Aside0.mk (blk_below (g := gb117) (o := .cells #[.string ⟨#[]⟩, .int .i64 0, .int .i64 0, .string ⟨#[]⟩, .int .i64 0, .int .i64 0, .int .i64 0] 23 (0, 0)) (XSq.bq BK117) hb); have n4_ := Aside0.mk (below_step (XSq.bB HB) hb); have n5_ := Aside0.mk (hbox); have n6_ := XSq.gw hg (XSq.bB HB); have n7_ := XSq.gw hg (XSq.bB HB); have n8_ := Aside0.mk ((by rw [hg]; exact Nat.ne_of_lt (blk_lt (g := gb117) (o := .cells #[.string ⟨#[]⟩, .int .i64 0, .int .i64 0, .string ⟨#[]⟩, .int .i64 0, .int .i64 0, .int .i64 0] 23 (0, 0)) (XSq.bq BK117)) : gb117 ≠ gb141)); have n9_ := Aside0.mk ((by rw [hg]; exact Nat.ne_of_gt (blk_lt (g := gb117) (o := .cells #[.string ⟨#[]⟩, .int .i64 0, .int .i64 0, .string ⟨#[]⟩, .int .i64 0, .int .i64 0, .int .i64 0] 23 (0, 0)) (XSq.bq BK117)) : gb141 ≠ gb117)); clear HO_4 HO_5 HO_6 BK117 HB; have HO_4 := n0_; have HO_5 := n1_; have HO_6 := n2_; have BK117 := n3_; have HB := n4_; have BK141 := n5_; have GW141 := n6_; have GE141 := n7_; have NB117_141 := n8_; have NB141_117 := n9_; clear n0_ n1_ n2_ n3_ n4_ n5_ n6_ n7_ n8_ n9_ hb hbox hg
                   refine hK.out _ _ ⟨HS0_, HS1_, HS2_, HS3_, HS4_, HS5_, HS6_⟩ (fun hHeld => ?_)
                   clear hK K
                   refine norm_ (a' := ?_) ?_ ?_
                   rotate_left
                   ·
                    show Act.put _ (some 7) _ = _
                    simp only [Act.put, List.setIfInBounds_toArray, List.set_cons_zero, List.set_cons_succ, i64_w, i32_w]
                    rfl
                   exact norm_ (by simp only [putAll, Act.put, List.setIfInBounds_toArray, List.set_cons_zero, List.set_cons_succ] <;> rfl) (hJ27 (gb141) _ ⟨hHeld, (XSq.pR HO_4), (XSq.pR HO_5), (XSq.pR HO_6), (XSq.bq BK117), (XSq.bq BK141), GW141.out, GE141.out, NB117_141.out, NB141_117.out, (XSq.bB HB)⟩)
                 case f22 =>
                  ·
                   rintro gb141 w60 ⟨hS_, h0_, h1_, h2_, h3_, h4_, h5_, h6_, h7_, h8_, h9_⟩; have BK141 : Aside0 (w60.heap[gb141]? = some (.cells #[.string ⟨#[]⟩, .int .i64 0, .int .i64 0, .string ⟨#[]⟩, .int .i64 0, .int .i64 0, .int .i64 0] 23 (0, 0))) := ⟨h4_⟩; have GW141 : Aside0 (w.heap.size ≤ gb141) := ⟨h5_⟩; have GE141 : Aside0 (w.heap.size ≤ gb141) := ⟨h6_⟩; have NB117_141 : Aside0 (gb117 ≠ gb141) := ⟨h7_⟩; have NB141_117 : Aside0 (gb141 ≠ gb117) := ⟨h8_⟩; replace HO_4 : Aside0 (Kd.R Kd.string 9 w60 w.heap.size (fun k_ => some k_ ≠ (.slice (some ad130) t122.length co57 : Value).ownBlock ∧ some k_ ≠ (.slice (some ad135) t126.length co58 : Value).ownBlock) (.slice (some ad121) t118.length co16) t118) := ⟨h0_⟩; replace HO_5 : Aside0 (Kd.R Kd.string 9 w60 w.heap.size (fun k_ => some k_ ≠ (.slice (some ad121) t118.length co16 : Value).ownBlock ∧ some k_ ≠ (.slice (some ad135) t126.length co58 : Value).ownBlock) (.slice (some ad130) t122.length co57) t122) := ⟨h1_⟩; replace HO_6 : Aside0 (Kd.R Kd.string 9 w60 w.heap.size (fun k_ => some k_ ≠ (.slice (some ad121) t118.length co16 : Value).ownBlock ∧ some k_ ≠ (.slice (some ad130) t122.length co57 : Value).ownBlock) (.slice (some ad135) t126.length co58) t126) := ⟨h2_⟩; replace BK117 : Aside0 (w60.heap[gb117]? = some (.cells #[.string ⟨#[]⟩, .int .i64 0, .int .i64 0, .string ⟨#[]⟩, .int .i64 0, .int .i64 0, .int .i64 0] 23 (0, 0))) := ⟨h3_⟩; replace HB : Aside0 (Below w.heap.size w w60) := ⟨h9_⟩; clear h0_ h1_ h2_ h3_ h4_ h5_ h6_ h7_ h8_ h9_; have hHeld : w60.cell? ad121 = some (.string (rdOf ByteArray.empty t118 0)) ∧ w60.cell? ad130 = some (.string (rdOf ByteArray.empty t122 0)) ∧ w60.cell? ⟨ad130.block, ad130.off + 1, none⟩ = some (.string (rdOf ByteArray.empty t122 1)) ∧ w60.cell? ⟨ad121.block, ad121.off + 2, none⟩ = some (.string (rdOf ByteArray.empty t118 2)) ∧ w60.cell? ad135 = some (.string (rdOf ByteArray.empty t126 0)) ∧ w60.cell? ⟨ad135.block, ad135.off + 1, none⟩ = some (.string (rdOf ByteArray.empty t126 1)) ∧ w60.cell? ⟨ad135.block, ad135.off + 2, none⟩ = some (.string (rdOf ByteArray.empty t126 2)) := hS_
                   refine norm_ (a' := ?_) ?_ ?_
                   rotate_left
                   ·
                    simp only [putAll, Act.put, List.setIfInBounds_toArray, List.set_cons_zero, List.set_cons_succ]
                    rfl
                   refine one_ (i := 6) (N := some 42) #[true, true, true, true, true, true, true, true, true, true, false, true, true, true, true, true, true, false, true, true, true, false, true, true, true, false, false, true, false] rfl rfl (one_of HT_.out (by kernel_rfl)) (by decide) (fun K hK => ?_)
                   refine goes_ Tryd.func35 (by kernel_rfl) rfl #[.string (rdOf ByteArray.empty t122 0)] (by rfl) rfl rfl (by (try simp only [List.map_toArray, List.map_cons, List.map_nil]); first | done | rfl | (simp only [List.length_drop, List.length_take]; rfl)) ?_
                   with_reducible refine (spec_l1Read.calls kj13 (rdOf ByteArray.empty t122 0) t131 _ A27.out).mono ?_
                   rintro e w' ⟨rfl, ⟨nd, rfl⟩⟩
                   refine ⟨_, rfl, ?_⟩
                   refine hK.out _ _ ⟨hHeld.1, hHeld.2.1, hHeld.2.2.1, hHeld.2.2.2.1, hHeld.2.2.2.2.1, hHeld.2.2.2.2.2.1, hHeld.2.2.2.2.2.2⟩ (fun hHeld => ?_)
                   clear hK K
                   refine norm_ (a' := ?_) ?_ ?_
                   rotate_left
                   ·
                    show Act.put _ (some 42) _ = _
                    simp only [Act.put, List.setIfInBounds_toArray, List.set_cons_zero, List.set_cons_succ, i64_w, i32_w]
                    rfl
                   exact norm_ (by simp only [putAll, Act.put, List.setIfInBounds_toArray, List.set_cons_zero, List.set_cons_succ] <;> rfl) (hJ6_27 (gb141) _ ⟨hHeld, (XSq.pR HO_4), (XSq.pR HO_5), (XSq.pR HO_6), (XSq.bq BK117), (XSq.bq BK141), GW141.out, GE141.out, NB117_141.out, NB141_117.out, (XSq.bB HB)⟩)
                 case f21 =>
                  ·
                   rintro _ w59 ⟨hS_, h0_, h1_, h2_, h3_, h4_⟩; replace HO_4 : Aside0 (Kd.R Kd.string 9 w59 w.heap.size (fun k_ => some k_ ≠ (.slice (some ad130) t122.length co57 : Value).ownBlock ∧ some k_ ≠ (.slice (some ad135) t126.length co58 : Value).ownBlock) (.slice (some ad121) t118.length co16) t118) := ⟨h0_⟩; replace HO_5 : Aside0 (Kd.R Kd.string 9 w59 w.heap.size (fun k_ => some k_ ≠ (.slice (some ad121) t118.length co16 : Value).ownBlock ∧ some k_ ≠ (.slice (some ad135) t126.length co58 : Value).ownBlock) (.slice (some ad130) t122.length co57) t122) := ⟨h1_⟩; replace HO_6 : Aside0 (Kd.R Kd.string 9 w59 w.heap.size (fun k_ => some k_ ≠ (.slice (some ad121) t118.length co16 : Value).ownBlock ∧ some k_ ≠ (.slice (some ad130) t122.length co57 : Value).ownBlock) (.slice (some ad135) t126.length co58) t126) := ⟨h2_⟩; replace BK117 : Aside0 (w59.heap[gb117]? = some (.cells #[.string ⟨#[]⟩, .int .i64 0, .int .i64 0, .string ⟨#[]⟩, .int .i64 0, .int .i64 0, .int .i64 0] 23 (0, 0))) := ⟨h3_⟩; replace HB : Aside0 (Below w.heap.size w w59) := ⟨h4_⟩; clear h0_ h1_ h2_ h3_ h4_; have hHeld : w59.cell? ad121 = some (.string (rdOf ByteArray.empty t118 0)) ∧ w59.cell? ad130 = some (.string (rdOf ByteArray.empty t122 0)) ∧ w59.cell? ⟨ad130.block, ad130.off + 1, none⟩ = some (.string (rdOf ByteArray.empty t122 1)) ∧ w59.cell? ⟨ad121.block, ad121.off + 2, none⟩ = some (.string (rdOf ByteArray.empty t118 2)) ∧ w59.cell? ad135 = some (.string (rdOf ByteArray.empty t126 0)) ∧ w59.cell? ⟨ad135.block, ad135.off + 1, none⟩ = some (.string (rdOf ByteArray.empty t126 1)) ∧ w59.cell? ⟨ad135.block, ad135.off + 2, none⟩ = some (.string (rdOf ByteArray.empty t126 2)) := hS_
                   refine norm_ (a' := ?_) ?_ ?_
                   rotate_left
                   ·
                    simp only [putAll, Act.put, List.setIfInBounds_toArray, List.set_cons_zero, List.set_cons_succ]
                    rfl
                   refine two_ (i := 10) (j := 27) (Ni := some 46) (Nj := some 7) #[true, true, true, true, true, true, true, true, true, true, true, true, true, true, true, true, true, false, true, true, true, false, true, true, true, false, false, false, false] #[true, true, true, true, true, true, true, true, true, true, false, true, true, true, true, true, true, false, true, true, true, false, true, true, true, false, false, true, false] rfl rfl rfl rfl (two_of HT_.out (by kernel_rfl)) (by decide) (by decide) (fun K hK => ?_) (fun K hK => ?_)
                   ·
                    refine goes_ Tryd.func35 (by kernel_rfl) rfl #[.string (rdOf ByteArray.empty t122 1)] (by rfl) rfl rfl (by (try simp only [List.map_toArray, List.map_cons, List.map_nil]); first | done | rfl | (simp only [List.length_drop, List.length_take]; rfl)) ?_
                    with_reducible refine (spec_l1Read.calls kj13 (rdOf ByteArray.empty t122 1) t133 _ A29.out).mono ?_
                    rintro e w' ⟨rfl, ⟨nd, rfl⟩⟩
                    refine ⟨_, rfl, ?_⟩
                    refine hK.out _ _ ⟨hHeld.1, hHeld.2.1, hHeld.2.2.1, hHeld.2.2.2.1, hHeld.2.2.2.2.1, hHeld.2.2.2.2.2.1, hHeld.2.2.2.2.2.2⟩ (fun hHeld => ?_)
                    clear hK K
                    refine norm_ (a' := ?_) ?_ ?_
                    rotate_left
                    ·
                     show Act.put _ (some 46) _ = _
                     simp only [Act.put, List.setIfInBounds_toArray, List.set_cons_zero, List.set_cons_succ, i64_w, i32_w]
                     rfl
                    exact norm_ (by simp only [putAll, Act.put, List.setIfInBounds_toArray, List.set_cons_zero, List.set_cons_succ] <;> rfl) (hJ6_10 () _ ⟨hHeld, (XSq.pR HO_4), (XSq.pR HO_5), (XSq.pR HO_6), (XSq.bq BK117), (XSq.bB HB)⟩)
                   ·
                    refine box_step ?hg (N := 7) ?hd (cs := #[.string ⟨#[]⟩, .int .i64 0, .int .i64 0, .string ⟨#[]⟩, .int .i64 0, .int .i64 0, .int .i64 0]) (t := 23) ?hr ?_; (case hd => rfl); (case hg => rfl); (case hr => first | (go_simp; done) | (go_simp; rfl))
                    intro gb141 hg w60 hbox hb; have HS0_ := (hb.cell (World.block_lt_of_cell? _ _ (hHeld.1))).trans (hHeld.1); have HS1_ := (hb.cell (World.block_lt_of_cell? _ _ (hHeld.2.1))).trans (hHeld.2.1); have HS2_ := (hb.cell (World.block_lt_of_cell? _ _ (hHeld.2.2.1))).trans (hHeld.2.2.1); have HS3_ := (hb.cell (World.block_lt_of_cell? _ _ (hHeld.2.2.2.1))).trans (hHeld.2.2.2.1); have HS4_ := (hb.cell (World.block_lt_of_cell? _ _ (hHeld.2.2.2.2.1))).trans (hHeld.2.2.2.2.1); have HS5_ := (hb.cell (World.block_lt_of_cell? _ _ (hHeld.2.2.2.2.2.1))).trans (hHeld.2.2.2.2.2.1); have HS6_ := (hb.cell (World.block_lt_of_cell? _ _ (hHeld.2.2.2.2.2.2))).trans (hHeld.2.2.2.2.2.2); have n0_ := Aside0.mk (Kd.R_below (XSq.pR HO_4) hb); have n1_ := Aside0.mk (Kd.R_below (XSq.pR HO_5) hb); have n2_ := Aside0.mk (Kd.R_below (XSq.pR HO_6) hb); have n3_ := Aside0.mk (blk_below (g := gb117) (o := .cells #[.string ⟨#[]⟩, .int .i64 0, .int .i64 0, .string ⟨#[]⟩, .int .i64 0, .int .i64 0, .int .i64 0] 23 (0, 0)) (XSq.bq BK117) hb); have n4_ := Aside0.mk (below_step (XSq.bB HB) hb); have n5_ := Aside0.mk (hbox); have n6_ := XSq.gw hg (XSq.bB HB); have n7_ := XSq.gw hg (XSq.bB HB); have n8_ := Aside0.mk ((by rw [hg]; exact Nat.ne_of_lt (blk_lt (g := gb117) (o := .cells #[.string ⟨#[]⟩, .int .i64 0, .int .i64 0, .string ⟨#[]⟩, .int .i64 0, .int .i64 0, .int .i64 0] 23 (0, 0)) (XSq.bq BK117)) : gb117 ≠ gb141)); have n9_ := Aside0.mk ((by rw [hg]; exact Nat.ne_of_gt (blk_lt (g := gb117) (o := .cells #[.string ⟨#[]⟩, .int .i64 0, .int .i64 0, .string ⟨#[]⟩, .int .i64 0, .int .i64 0, .int .i64 0] 23 (0, 0)) (XSq.bq BK117)) : gb141 ≠ gb117)); clear HO_4 HO_5 HO_6 BK117 HB; have HO_4 := n0_; have HO_5 := n1_; have HO_6 := n2_; have BK117 := n3_; have HB := n4_; have BK141 := n5_; have GW141 := n6_; have GE141 := n7_; have NB117_141 := n8_; have NB141_117 := n9_; clear n0_ n1_ n2_ n3_ n4_ n5_ n6_ n7_ n8_ n9_ hb hbox hg
                    refine hK.out _ _ ⟨HS0_, HS1_, HS2_, HS3_, HS4_, HS5_, HS6_⟩ (fun hHeld => ?_)
                    clear hK K
                    refine norm_ (a' := ?_) ?_ ?_
                    rotate_left
                    ·
                     show Act.put _ (some 7) _ = _
                     simp only [Act.put, List.setIfInBounds_toArray, List.set_cons_zero, List.set_cons_succ, i64_w, i32_w]
                     rfl
                    exact norm_ (by simp only [putAll, Act.put, List.setIfInBounds_toArray, List.set_cons_zero, List.set_cons_succ] <;> rfl) (hJ6_27 (gb141) _ ⟨hHeld, (XSq.pR HO_4), (XSq.pR HO_5), (XSq.pR HO_6), (XSq.bq BK117), (XSq.bq BK141), GW141.out, GE141.out, NB117_141.out, NB141_117.out, (XSq.bB HB)⟩)
                 case f20 =>
                  ·
                   rintro gb141 w60 ⟨hS_, h0_, h1_, h2_, h3_, h4_, h5_, h6_, h7_, h8_, h9_⟩; have BK141 : Aside0 (w60.heap[gb141]? = some (.cells #[.string ⟨#[]⟩, .int .i64 0, .int .i64 0, .string ⟨#[]⟩, .int .i64 0, .int .i64 0, .int .i64 0] 23 (0, 0))) := ⟨h4_⟩; have GW141 : Aside0 (w.heap.size ≤ gb141) := ⟨h5_⟩; have GE141 : Aside0 (w.heap.size ≤ gb141) := ⟨h6_⟩; have NB117_141 : Aside0 (gb117 ≠ gb141) := ⟨h7_⟩; have NB141_117 : Aside0 (gb141 ≠ gb117) := ⟨h8_⟩; replace HO_4 : Aside0 (Kd.R Kd.string 9 w60 w.heap.size (fun k_ => some k_ ≠ (.slice (some ad130) t122.length co57 : Value).ownBlock ∧ some k_ ≠ (.slice (some ad135) t126.length co58 : Value).ownBlock) (.slice (some ad121) t118.length co16) t118) := ⟨h0_⟩; replace HO_5 : Aside0 (Kd.R Kd.string 9 w60 w.heap.size (fun k_ => some k_ ≠ (.slice (some ad121) t118.length co16 : Value).ownBlock ∧ some k_ ≠ (.slice (some ad135) t126.length co58 : Value).ownBlock) (.slice (some ad130) t122.length co57) t122) := ⟨h1_⟩; replace HO_6 : Aside0 (Kd.R Kd.string 9 w60 w.heap.size (fun k_ => some k_ ≠ (.slice (some ad121) t118.length co16 : Value).ownBlock ∧ some k_ ≠ (.slice (some ad130) t122.length co57 : Value).ownBlock) (.slice (some ad135) t126.length co58) t126) := ⟨h2_⟩; replace BK117 : Aside0 (w60.heap[gb117]? = some (.cells #[.string ⟨#[]⟩, .int .i64 0, .int .i64 0, .string ⟨#[]⟩, .int .i64 0, .int .i64 0, .int .i64 0] 23 (0, 0))) := ⟨h3_⟩; replace HB : Aside0 (Below w.heap.size w w60) := ⟨h9_⟩; clear h0_ h1_ h2_ h3_ h4_ h5_ h6_ h7_ h8_ h9_; have hHeld : w60.cell? ad121 = some (.string (rdOf ByteArray.empty t118 0)) ∧ w60.cell? ad130 = some (.string (rdOf ByteArray.empty t122 0)) ∧ w60.cell? ⟨ad130.block, ad130.off + 1, none⟩ = some (.string (rdOf ByteArray.empty t122 1)) ∧ w60.cell? ⟨ad121.block, ad121.off + 2, none⟩ = some (.string (rdOf ByteArray.empty t118 2)) ∧ w60.cell? ad135 = some (.string (rdOf ByteArray.empty t126 0)) ∧ w60.cell? ⟨ad135.block, ad135.off + 1, none⟩ = some (.string (rdOf ByteArray.empty t126 1)) ∧ w60.cell? ⟨ad135.block, ad135.off + 2, none⟩ = some (.string (rdOf ByteArray.empty t126 2)) := hS_
                   refine norm_ (a' := ?_) ?_ ?_
                   rotate_left
                   ·
                    simp only [putAll, Act.put, List.setIfInBounds_toArray, List.set_cons_zero, List.set_cons_succ]
                    rfl
                   refine one_ (i := 10) (N := some 46) #[true, true, true, true, true, true, true, true, true, true, true, true, true, true, true, true, true, false, true, true, true, false, true, true, true, false, false, true, false] rfl rfl (one_of HT_.out (by kernel_rfl)) (by decide) (fun K hK => ?_)
                   refine goes_ Tryd.func35 (by kernel_rfl) rfl #[.string (rdOf ByteArray.empty t122 1)] (by rfl) rfl rfl (by (try simp only [List.map_toArray, List.map_cons, List.map_nil]); first | done | rfl | (simp only [List.length_drop, List.length_take]; rfl)) ?_
                   with_reducible refine (spec_l1Read.calls kj13 (rdOf ByteArray.empty t122 1) t133 _ A29.out).mono ?_
                   rintro e w' ⟨rfl, ⟨nd, rfl⟩⟩
                   refine ⟨_, rfl, ?_⟩
                   refine hK.out _ _ ⟨hHeld.1, hHeld.2.1, hHeld.2.2.1, hHeld.2.2.2.1, hHeld.2.2.2.2.1, hHeld.2.2.2.2.2.1, hHeld.2.2.2.2.2.2⟩ (fun hHeld => ?_)
                   clear hK K
                   refine norm_ (a' := ?_) ?_ ?_
                   rotate_left
                   ·
                    show Act.put _ (some 46) _ = _
                    simp only [Act.put, List.setIfInBounds_toArray, List.set_cons_zero, List.set_cons_succ, i64_w, i32_w]
                    rfl
                   exact norm_ (by simp only [putAll, Act.put, List.setIfInBounds_toArray, List.set_cons_zero, List.set_cons_succ] <;> rfl) (hJ6_10_27 (gb141) _ ⟨hHeld, (XSq.pR HO_4), (XSq.pR HO_5), (XSq.pR HO_6), (XSq.bq BK117), (XSq.bq BK141), GW141.out, GE141.out, NB117_141.out, NB141_117.out, (XSq.bB HB)⟩)
                 case f19 =>
                  ·
                   rintro _ w59 ⟨hS_, h0_, h1_, h2_, h3_, h4_⟩; replace HO_4 : Aside0 (Kd.R Kd.string 9 w59 w.heap.size (fun k_ => some k_ ≠ (.slice (some ad130) t122.length co57 : Value).ownBlock ∧ some k_ ≠ (.slice (some ad135) t126.length co58 : Value).ownBlock) (.slice (some ad121) t118.length co16) t118) := ⟨h0_⟩; replace HO_5 : Aside0 (Kd.R Kd.string 9 w59 w.heap.size (fun k_ => some k_ ≠ (.slice (some ad121) t118.length co16 : Value).ownBlock ∧ some k_ ≠ (.slice (some ad135) t126.length co58 : Value).ownBlock) (.slice (some ad130) t122.length co57) t122) := ⟨h1_⟩; replace HO_6 : Aside0 (Kd.R Kd.string 9 w59 w.heap.size (fun k_ => some k_ ≠ (.slice (some ad121) t118.length co16 : Value).ownBlock ∧ some k_ ≠ (.slice (some ad130) t122.length co57 : Value).ownBlock) (.slice (some ad135) t126.length co58) t126) := ⟨h2_⟩; replace BK117 : Aside0 (w59.heap[gb117]? = some (.cells #[.string ⟨#[]⟩, .int .i64 0, .int .i64 0, .string ⟨#[]⟩, .int .i64 0, .int .i64 0, .int .i64 0] 23 (0, 0))) := ⟨h3_⟩; replace HB : Aside0 (Below w.heap.size w w59) := ⟨h4_⟩; clear h0_ h1_ h2_ h3_ h4_; have hHeld : w59.cell? ad121 = some (.string (rdOf ByteArray.empty t118 0)) ∧ w59.cell? ad130 = some (.string (rdOf ByteArray.empty t122 0)) ∧ w59.cell? ⟨ad130.block, ad130.off + 1, none⟩ = some (.string (rdOf ByteArray.empty t122 1)) ∧ w59.cell? ⟨ad121.block, ad121.off + 2, none⟩ = some (.string (rdOf ByteArray.empty t118 2)) ∧ w59.cell? ad135 = some (.string (rdOf ByteArray.empty t126 0)) ∧ w59.cell? ⟨ad135.block, ad135.off + 1, none⟩ = some (.string (rdOf ByteArray.empty t126 1)) ∧ w59.cell? ⟨ad135.block, ad135.off + 2, none⟩ = some (.string (rdOf ByteArray.empty t126 2)) := hS_
                   refine norm_ (a' := ?_) ?_ ?_
                   rotate_left
                   ·
                    simp only [putAll, Act.put, List.setIfInBounds_toArray, List.set_cons_zero, List.set_cons_succ]
                    rfl
                   refine two_ (i := 17) (j := 27) (Ni := some 53) (Nj := some 7) #[true, true, true, true, true, true, true, true, true, true, true, true, true, true, true, true, true, true, true, true, true, false, true, true, true, false, false, false, false] #[true, true, true, true, true, true, true, true, true, true, true, true, true, true, true, true, true, false, true, true, true, false, true, true, true, false, false, true, false] rfl rfl rfl rfl (two_of HT_.out (by kernel_rfl)) (by decide) (by decide) (fun K hK => ?_) (fun K hK => ?_)
                   ·
                    refine goes_ Tryd.func35 (by kernel_rfl) rfl #[.string (rdOf ByteArray.empty t126 0)] (by rfl) rfl rfl (by (try simp only [List.map_toArray, List.map_cons, List.map_nil]); first | done | rfl | (simp only [List.length_drop, List.length_take]; rfl)) ?_
                    with_reducible refine (spec_l1Read.calls kj13 (rdOf ByteArray.empty t126 0) t136 _ A32.out).mono ?_
                    rintro e w' ⟨rfl, ⟨nd, rfl⟩⟩
                    refine ⟨_, rfl, ?_⟩
                    refine hK.out _ _ ⟨hHeld.1, hHeld.2.1, hHeld.2.2.1, hHeld.2.2.2.1, hHeld.2.2.2.2.1, hHeld.2.2.2.2.2.1, hHeld.2.2.2.2.2.2⟩ (fun hHeld => ?_)
                    clear hK K
                    refine norm_ (a' := ?_) ?_ ?_
                    rotate_left
                    ·
                     show Act.put _ (some 53) _ = _
                     simp only [Act.put, List.setIfInBounds_toArray, List.set_cons_zero, List.set_cons_succ, i64_w, i32_w]
                     rfl
                    exact norm_ (by simp only [putAll, Act.put, List.setIfInBounds_toArray, List.set_cons_zero, List.set_cons_succ] <;> rfl) (hJ6_10_17 () _ ⟨hHeld, (XSq.pR HO_4), (XSq.pR HO_5), (XSq.pR HO_6), (XSq.bq BK117), (XSq.bB HB)⟩)
                   ·
                    refine box_step ?hg (N := 7) ?hd (cs := #[.string ⟨#[]⟩, .int .i64 0, .int .i64 0, .string ⟨#[]⟩, .int .i64 0, .int .i64 0, .int .i64 0]) (t := 23) ?hr ?_; (case hd => rfl); (case hg => rfl); (case hr => first | (go_simp; done) | (go_simp; rfl))
                    intro gb141 hg w60 hbox hb; have HS0_ := (hb.cell (World.block_lt_of_cell? _ _ (hHeld.1))).trans (hHeld.1); have HS1_ := (hb.cell (World.block_lt_of_cell? _ _ (hHeld.2.1))).trans (hHeld.2.1); have HS2_ := (hb.cell (World.block_lt_of_cell? _ _ (hHeld.2.2.1))).trans (hHeld.2.2.1); have HS3_ := (hb.cell (World.block_lt_of_cell? _ _ (hHeld.2.2.2.1))).trans (hHeld.2.2.2.1); have HS4_ := (hb.cell (World.block_lt_of_cell? _ _ (hHeld.2.2.2.2.1))).trans (hHeld.2.2.2.2.1); have HS5_ := (hb.cell (World.block_lt_of_cell? _ _ (hHeld.2.2.2.2.2.1))).trans (hHeld.2.2.2.2.2.1); have HS6_ := (hb.cell (World.block_lt_of_cell? _ _ (hHeld.2.2.2.2.2.2))).trans (hHeld.2.2.2.2.2.2); have n0_ := Aside0.mk (Kd.R_below (XSq.pR HO_4) hb); have n1_ := Aside0.mk (Kd.R_below (XSq.pR HO_5) hb); have n2_ := Aside0.mk (Kd.R_below (XSq.pR HO_6) hb); have n3_ := Aside0.mk (blk_below (g := gb117) (o := .cells #[.string ⟨#[]⟩, .int .i64 0, .int .i64 0, .string ⟨#[]⟩, .int .i64 0, .int .i64 0, .int .i64 0] 23 (0, 0)) (XSq.bq BK117) hb); have n4_ := Aside0.mk (below_step (XSq.bB HB) hb); have n5_ := Aside0.mk (hbox); have n6_ := XSq.gw hg (XSq.bB HB); have n7_ := XSq.gw hg (XSq.bB HB); have n8_ := Aside0.mk ((by rw [hg]; exact Nat.ne_of_lt (blk_lt (g := gb117) (o := .cells #[.string ⟨#[]⟩, .int .i64 0, .int .i64 0, .string ⟨#[]⟩, .int .i64 0, .int .i64 0, .int .i64 0] 23 (0, 0)) (XSq.bq BK117)) : gb117 ≠ gb141)); have n9_ := Aside0.mk ((by rw [hg]; exact Nat.ne_of_gt (blk_lt (g := gb117) (o := .cells #[.string ⟨#[]⟩, .int .i64 0, .int .i64 0, .string ⟨#[]⟩, .int .i64 0, .int .i64 0, .int .i64 0] 23 (0, 0)) (XSq.bq BK117)) : gb141 ≠ gb117)); clear HO_4 HO_5 HO_6 BK117 HB; have HO_4 := n0_; have HO_5 := n1_; have HO_6 := n2_; have BK117 := n3_; have HB := n4_; have BK141 := n5_; have GW141 := n6_; have GE141 := n7_; have NB117_141 := n8_; have NB141_117 := n9_; clear n0_ n1_ n2_ n3_ n4_ n5_ n6_ n7_ n8_ n9_ hb hbox hg
                    refine hK.out _ _ ⟨HS0_, HS1_, HS2_, HS3_, HS4_, HS5_, HS6_⟩ (fun hHeld => ?_)
                    clear hK K
                    refine norm_ (a' := ?_) ?_ ?_
                    rotate_left
                    ·
                     show Act.put _ (some 7) _ = _
                     simp only [Act.put, List.setIfInBounds_toArray, List.set_cons_zero, List.set_cons_succ, i64_w, i32_w]
                     rfl
                    exact norm_ (by simp only [putAll, Act.put, List.setIfInBounds_toArray, List.set_cons_zero, List.set_cons_succ] <;> rfl) (hJ6_10_27 (gb141) _ ⟨hHeld, (XSq.pR HO_4), (XSq.pR HO_5), (XSq.pR HO_6), (XSq.bq BK117), (XSq.bq BK141), GW141.out, GE141.out, NB117_141.out, NB141_117.out, (XSq.bB HB)⟩)
                 case f18 =>
                  ·
                   rintro gb141 w60 ⟨hS_, h0_, h1_, h2_, h3_, h4_, h5_, h6_, h7_, h8_, h9_⟩; have BK141 : Aside0 (w60.heap[gb141]? = some (.cells #[.string ⟨#[]⟩, .int .i64 0, .int .i64 0, .string ⟨#[]⟩, .int .i64 0, .int .i64 0, .int .i64 0] 23 (0, 0))) := ⟨h4_⟩; have GW141 : Aside0 (w.heap.size ≤ gb141) := ⟨h5_⟩; have GE141 : Aside0 (w.heap.size ≤ gb141) := ⟨h6_⟩; have NB117_141 : Aside0 (gb117 ≠ gb141) := ⟨h7_⟩; have NB141_117 : Aside0 (gb141 ≠ gb117) := ⟨h8_⟩; replace HO_4 : Aside0 (Kd.R Kd.string 9 w60 w.heap.size (fun k_ => some k_ ≠ (.slice (some ad130) t122.length co57 : Value).ownBlock ∧ some k_ ≠ (.slice (some ad135) t126.length co58 : Value).ownBlock) (.slice (some ad121) t118.length co16) t118) := ⟨h0_⟩; replace HO_5 : Aside0 (Kd.R Kd.string 9 w60 w.heap.size (fun k_ => some k_ ≠ (.slice (some ad121) t118.length co16 : Value).ownBlock ∧ some k_ ≠ (.slice (some ad135) t126.length co58 : Value).ownBlock) (.slice (some ad130) t122.length co57) t122) := ⟨h1_⟩; replace HO_6 : Aside0 (Kd.R Kd.string 9 w60 w.heap.size (fun k_ => some k_ ≠ (.slice (some ad121) t118.length co16 : Value).ownBlock ∧ some k_ ≠ (.slice (some ad130) t122.length co57 : Value).ownBlock) (.slice (some ad135) t126.length co58) t126) := ⟨h2_⟩; replace BK117 : Aside0 (w60.heap[gb117]? = some (.cells #[.string ⟨#[]⟩, .int .i64 0, .int .i64 0, .string ⟨#[]⟩, .int .i64 0, .int .i64 0, .int .i64 0] 23 (0, 0))) := ⟨h3_⟩; replace HB : Aside0 (Below w.heap.size w w60) := ⟨h9_⟩; clear h0_ h1_ h2_ h3_ h4_ h5_ h6_ h7_ h8_ h9_; have hHeld : w60.cell? ad121 = some (.string (rdOf ByteArray.empty t118 0)) ∧ w60.cell? ad130 = some (.string (rdOf ByteArray.empty t122 0)) ∧ w60.cell? ⟨ad130.block, ad130.off + 1, none⟩ = some (.string (rdOf ByteArray.empty t122 1)) ∧ w60.cell? ⟨ad121.block, ad121.off + 2, none⟩ = some (.string (rdOf ByteArray.empty t118 2)) ∧ w60.cell? ad135 = some (.string (rdOf ByteArray.empty t126 0)) ∧ w60.cell? ⟨ad135.block, ad135.off + 1, none⟩ = some (.string (rdOf ByteArray.empty t126 1)) ∧ w60.cell? ⟨ad135.block, ad135.off + 2, none⟩ = some (.string (rdOf ByteArray.empty t126 2)) := hS_
                   refine norm_ (a' := ?_) ?_ ?_
                   rotate_left
                   ·
                    simp only [putAll, Act.put, List.setIfInBounds_toArray, List.set_cons_zero, List.set_cons_succ]
                    rfl
                   refine one_ (i := 17) (N := some 53) #[true, true, true, true, true, true, true, true, true, true, true, true, true, true, true, true, true, true, true, true, true, false, true, true, true, false, false, true, false] rfl rfl (one_of HT_.out (by kernel_rfl)) (by decide) (fun K hK => ?_)
                   refine goes_ Tryd.func35 (by kernel_rfl) rfl #[.string (rdOf ByteArray.empty t126 0)] (by rfl) rfl rfl (by (try simp only [List.map_toArray, List.map_cons, List.map_nil]); first | done | rfl | (simp only [List.length_drop, List.length_take]; rfl)) ?_
                   with_reducible refine (spec_l1Read.calls kj13 (rdOf ByteArray.empty t126 0) t136 _ A32.out).mono ?_
                   rintro e w' ⟨rfl, ⟨nd, rfl⟩⟩
                   refine ⟨_, rfl, ?_⟩
                   refine hK.out _ _ ⟨hHeld.1, hHeld.2.1, hHeld.2.2.1, hHeld.2.2.2.1, hHeld.2.2.2.2.1, hHeld.2.2.2.2.2.1, hHeld.2.2.2.2.2.2⟩ (fun hHeld => ?_)
                   clear hK K
                   refine norm_ (a' := ?_) ?_ ?_
                   rotate_left
                   ·
                    show Act.put _ (some 53) _ = _
                    simp only [Act.put, List.setIfInBounds_toArray, List.set_cons_zero, List.set_cons_succ, i64_w, i32_w]
                    rfl
                   exact norm_ (by simp only [putAll, Act.put, List.setIfInBounds_toArray, List.set_cons_zero, List.set_cons_succ] <;> rfl) (hJ6_10_17_27 (gb141) _ ⟨hHeld, (XSq.pR HO_4), (XSq.pR HO_5), (XSq.pR HO_6), (XSq.bq BK117), (XSq.bq BK141), GW141.out, GE141.out, NB117_141.out, NB141_117.out, (XSq.bB HB)⟩)
                 case f17 =>
                  ·
                   rintro _ w59 ⟨hS_, h0_, h1_, h2_, h3_, h4_⟩; replace HO_4 : Aside0 (Kd.R Kd.string 9 w59 w.heap.size (fun k_ => some k_ ≠ (.slice (some ad130) t122.length co57 : Value).ownBlock ∧ some k_ ≠ (.slice (some ad135) t126.length co58 : Value).ownBlock) (.slice (some ad121) t118.length co16) t118) := ⟨h0_⟩; replace HO_5 : Aside0 (Kd.R Kd.string 9 w59 w.heap.size (fun k_ => some k_ ≠ (.slice (some ad121) t118.length co16 : Value).ownBlock ∧ some k_ ≠ (.slice (some ad135) t126.length co58 : Value).ownBlock) (.slice (some ad130) t122.length co57) t122) := ⟨h1_⟩; replace HO_6 : Aside0 (Kd.R Kd.string 9 w59 w.heap.size (fun k_ => some k_ ≠ (.slice (some ad121) t118.length co16 : Value).ownBlock ∧ some k_ ≠ (.slice (some ad130) t122.length co57 : Value).ownBlock) (.slice (some ad135) t126.length co58) t126) := ⟨h2_⟩; replace BK117 : Aside0 (w59.heap[gb117]? = some (.cells #[.string ⟨#[]⟩, .int .i64 0, .int .i64 0, .string ⟨#[]⟩, .int .i64 0, .int .i64 0, .int .i64 0] 23 (0, 0))) := ⟨h3_⟩; replace HB : Aside0 (Below w.heap.size w w59) := ⟨h4_⟩; clear h0_ h1_ h2_ h3_ h4_; have hHeld : w59.cell? ad121 = some (.string (rdOf ByteArray.empty t118 0)) ∧ w59.cell? ad130 = some (.string (rdOf ByteArray.empty t122 0)) ∧ w59.cell? ⟨ad130.block, ad130.off + 1, none⟩ = some (.string (rdOf ByteArray.empty t122 1)) ∧ w59.cell? ⟨ad121.block, ad121.off + 2, none⟩ = some (.string (rdOf ByteArray.empty t118 2)) ∧ w59.cell? ad135 = some (.string (rdOf ByteArray.empty t126 0)) ∧ w59.cell? ⟨ad135.block, ad135.off + 1, none⟩ = some (.string (rdOf ByteArray.empty t126 1)) ∧ w59.cell? ⟨ad135.block, ad135.off + 2, none⟩ = some (.string (rdOf ByteArray.empty t126 2)) := hS_
                   refine norm_ (a' := ?_) ?_ ?_
                   rotate_left
                   ·
                    simp only [putAll, Act.put, List.setIfInBounds_toArray, List.set_cons_zero, List.set_cons_succ]
                    rfl
                   refine two_ (i := 21) (j := 27) (Ni := some 57) (Nj := some 7) #[true, true, true, true, true, true, true, true, true, true, true, true, true, true, true, true, true, true, true, true, true, true, true, true, true, false, false, false, false] #[true, true, true, true, true, true, true, true, true, true, true, true, true, true, true, true, true, true, true, true, true, false, true, true, true, false, false, true, false] rfl rfl rfl rfl (two_of HT_.out (by kernel_rfl)) (by decide) (by decide) (fun K hK => ?_) (fun K hK => ?_)
                   ·
                    refine goes_ Tryd.func35 (by kernel_rfl) rfl #[.string (rdOf ByteArray.empty t126 1)] (by rfl) rfl rfl (by (try simp only [List.map_toArray, List.map_cons, List.map_nil]); first | done | rfl | (simp only [List.length_drop, List.length_take]; rfl)) ?_
                    with_reducible refine (spec_l1Read.calls kj13 (rdOf ByteArray.empty t126 1) t138 _ A34.out).mono ?_
                    rintro e w' ⟨rfl, ⟨nd, rfl⟩⟩
                    refine ⟨_, rfl, ?_⟩
                    refine hK.out _ _ ⟨hHeld.1, hHeld.2.1, hHeld.2.2.1, hHeld.2.2.2.1, hHeld.2.2.2.2.1, hHeld.2.2.2.2.2.1, hHeld.2.2.2.2.2.2⟩ (fun hHeld => ?_)
                    clear hK K
                    refine norm_ (a' := ?_) ?_ ?_
                    rotate_left
                    ·
                     show Act.put _ (some 57) _ = _
                     simp only [Act.put, List.setIfInBounds_toArray, List.set_cons_zero, List.set_cons_succ, i64_w, i32_w]
                     rfl
                    exact norm_ (by simp only [putAll, Act.put, List.setIfInBounds_toArray, List.set_cons_zero, List.set_cons_succ] <;> rfl) (hJ6_10_17_21 () _ ⟨hHeld, (XSq.pR HO_4), (XSq.pR HO_5), (XSq.pR HO_6), (XSq.bq BK117), (XSq.bB HB)⟩)
                   ·
                    refine box_step ?hg (N := 7) ?hd (cs := #[.string ⟨#[]⟩, .int .i64 0, .int .i64 0, .string ⟨#[]⟩, .int .i64 0, .int .i64 0, .int .i64 0]) (t := 23) ?hr ?_; (case hd => rfl); (case hg => rfl); (case hr => first | (go_simp; done) | (go_simp; rfl))
                    intro gb141 hg w60 hbox hb; have HS0_ := (hb.cell (World.block_lt_of_cell? _ _ (hHeld.1))).trans (hHeld.1); have HS1_ := (hb.cell (World.block_lt_of_cell? _ _ (hHeld.2.1))).trans (hHeld.2.1); have HS2_ := (hb.cell (World.block_lt_of_cell? _ _ (hHeld.2.2.1))).trans (hHeld.2.2.1); have HS3_ := (hb.cell (World.block_lt_of_cell? _ _ (hHeld.2.2.2.1))).trans (hHeld.2.2.2.1); have HS4_ := (hb.cell (World.block_lt_of_cell? _ _ (hHeld.2.2.2.2.1))).trans (hHeld.2.2.2.2.1); have HS5_ := (hb.cell (World.block_lt_of_cell? _ _ (hHeld.2.2.2.2.2.1))).trans (hHeld.2.2.2.2.2.1); have HS6_ := (hb.cell (World.block_lt_of_cell? _ _ (hHeld.2.2.2.2.2.2))).trans (hHeld.2.2.2.2.2.2); have n0_ := Aside0.mk (Kd.R_below (XSq.pR HO_4) hb); have n1_ := Aside0.mk (Kd.R_below (XSq.pR HO_5) hb); have n2_ := Aside0.mk (Kd.R_below (XSq.pR HO_6) hb); have n3_ := Aside0.mk (blk_below (g := gb117) (o := .cells #[.string ⟨#[]⟩, .int .i64 0, .int .i64 0, .string ⟨#[]⟩, .int .i64 0, .int .i64 0, .int .i64 0] 23 (0, 0)) (XSq.bq BK117) hb); have n4_ := Aside0.mk (below_step (XSq.bB HB) hb); have n5_ := Aside0.mk (hbox); have n6_ := XSq.gw hg (XSq.bB HB); have n7_ := XSq.gw hg (XSq.bB HB); have n8_ := Aside0.mk ((by rw [hg]; exact Nat.ne_of_lt (blk_lt (g := gb117) (o := .cells #[.string ⟨#[]⟩, .int .i64 0, .int .i64 0, .string ⟨#[]⟩, .int .i64 0, .int .i64 0, .int .i64 0] 23 (0, 0)) (XSq.bq BK117)) : gb117 ≠ gb141)); have n9_ := Aside0.mk ((by rw [hg]; exact Nat.ne_of_gt (blk_lt (g := gb117) (o := .cells #[.string ⟨#[]⟩, .int .i64 0, .int .i64 0, .string ⟨#[]⟩, .int .i64 0, .int .i64 0, .int .i64 0] 23 (0, 0)) (XSq.bq BK117)) : gb141 ≠ gb117)); clear HO_4 HO_5 HO_6 BK117 HB; have HO_4 := n0_; have HO_5 := n1_; have HO_6 := n2_; have BK117 := n3_; have HB := n4_; have BK141 := n5_; have GW141 := n6_; have GE141 := n7_; have NB117_141 := n8_; have NB141_117 := n9_; clear n0_ n1_ n2_ n3_ n4_ n5_ n6_ n7_ n8_ n9_ hb hbox hg
                    refine hK.out _ _ ⟨HS0_, HS1_, HS2_, HS3_, HS4_, HS5_, HS6_⟩ (fun hHeld => ?_)
                    clear hK K
                    refine norm_ (a' := ?_) ?_ ?_
                    rotate_left
                    ·
                     show Act.put _ (some 7) _ = _
                     simp only [Act.put, List.setIfInBounds_toArray, List.set_cons_zero, List.set_cons_succ, i64_w, i32_w]
                     rfl
                    exact norm_ (by simp only [putAll, Act.put, List.setIfInBounds_toArray, List.set_cons_zero, List.set_cons_succ] <;> rfl) (hJ6_10_17_27 (gb141) _ ⟨hHeld, (XSq.pR HO_4), (XSq.pR HO_5), (XSq.pR HO_6), (XSq.bq BK117), (XSq.bq BK141), GW141.out, GE141.out, NB117_141.out, NB141_117.out, (XSq.bB HB)⟩)
                 case f16 =>
                  ·
                   rintro gb141 w60 ⟨hS_, h0_, h1_, h2_, h3_, h4_, h5_, h6_, h7_, h8_, h9_⟩; have BK141 : Aside0 (w60.heap[gb141]? = some (.cells #[.string ⟨#[]⟩, .int .i64 0, .int .i64 0, .string ⟨#[]⟩, .int .i64 0, .int .i64 0, .int .i64 0] 23 (0, 0))) := ⟨h4_⟩; have GW141 : Aside0 (w.heap.size ≤ gb141) := ⟨h5_⟩; have GE141 : Aside0 (w.heap.size ≤ gb141) := ⟨h6_⟩; have NB117_141 : Aside0 (gb117 ≠ gb141) := ⟨h7_⟩; have NB141_117 : Aside0 (gb141 ≠ gb117) := ⟨h8_⟩; replace HO_4 : Aside0 (Kd.R Kd.string 9 w60 w.heap.size (fun k_ => some k_ ≠ (.slice (some ad130) t122.length co57 : Value).ownBlock ∧ some k_ ≠ (.slice (some ad135) t126.length co58 : Value).ownBlock) (.slice (some ad121) t118.length co16) t118) := ⟨h0_⟩; replace HO_5 : Aside0 (Kd.R Kd.string 9 w60 w.heap.size (fun k_ => some k_ ≠ (.slice (some ad121) t118.length co16 : Value).ownBlock ∧ some k_ ≠ (.slice (some ad135) t126.length co58 : Value).ownBlock) (.slice (some ad130) t122.length co57) t122) := ⟨h1_⟩; replace HO_6 : Aside0 (Kd.R Kd.string 9 w60 w.heap.size (fun k_ => some k_ ≠ (.slice (some ad121) t118.length co16 : Value).ownBlock ∧ some k_ ≠ (.slice (some ad130) t122.length co57 : Value).ownBlock) (.slice (some ad135) t126.length co58) t126) := ⟨h2_⟩; replace BK117 : Aside0 (w60.heap[gb117]? = some (.cells #[.string ⟨#[]⟩, .int .i64 0, .int .i64 0, .string ⟨#[]⟩, .int .i64 0, .int .i64 0, .int .i64 0] 23 (0, 0))) := ⟨h3_⟩; replace HB : Aside0 (Below w.heap.size w w60) := ⟨h9_⟩; clear h0_ h1_ h2_ h3_ h4_ h5_ h6_ h7_ h8_ h9_; have hHeld : w60.cell? ad121 = some (.string (rdOf ByteArray.empty t118 0)) ∧ w60.cell? ad130 = some (.string (rdOf ByteArray.empty t122 0)) ∧ w60.cell? ⟨ad130.block, ad130.off + 1, none⟩ = some (.string (rdOf ByteArray.empty t122 1)) ∧ w60.cell? ⟨ad121.block, ad121.off + 2, none⟩ = some (.string (rdOf ByteArray.empty t118 2)) ∧ w60.cell? ad135 = some (.string (rdOf ByteArray.empty t126 0)) ∧ w60.cell? ⟨ad135.block, ad135.off + 1, none⟩ = some (.string (rdOf ByteArray.empty t126 1)) ∧ w60.cell? ⟨ad135.block, ad135.off + 2, none⟩ = some (.string (rdOf ByteArray.empty t126 2)) := hS_
                   refine norm_ (a' := ?_) ?_ ?_
                   rotate_left
                   ·
                    simp only [putAll, Act.put, List.setIfInBounds_toArray, List.set_cons_zero, List.set_cons_succ]
                    rfl
                   refine one_ (i := 21) (N := some 57) #[true, true, true, true, true, true, true, true, true, true, true, true, true, true, true, true, true, true, true, true, true, true, true, true, true, false, false, true, false] rfl rfl (one_of HT_.out (by kernel_rfl)) (by decide) (fun K hK => ?_)
                   refine goes_ Tryd.func35 (by kernel_rfl) rfl #[.string (rdOf ByteArray.empty t126 1)] (by rfl) rfl rfl (by (try simp only [List.map_toArray, List.map_cons, List.map_nil]); first | done | rfl | (simp only [List.length_drop, List.length_take]; rfl)) ?_
                   with_reducible refine (spec_l1Read.calls kj13 (rdOf ByteArray.empty t126 1) t138 _ A34.out).mono ?_
                   rintro e w' ⟨rfl, ⟨nd, rfl⟩⟩
                   refine ⟨_, rfl, ?_⟩
                   refine hK.out _ _ ⟨hHeld.1, hHeld.2.1, hHeld.2.2.1, hHeld.2.2.2.1, hHeld.2.2.2.2.1, hHeld.2.2.2.2.2.1, hHeld.2.2.2.2.2.2⟩ (fun hHeld => ?_)
                   clear hK K
                   refine norm_ (a' := ?_) ?_ ?_
                   rotate_left
                   ·
                    show Act.put _ (some 57) _ = _
                    simp only [Act.put, List.setIfInBounds_toArray, List.set_cons_zero, List.set_cons_succ, i64_w, i32_w]
                    rfl
                   exact norm_ (by simp only [putAll, Act.put, List.setIfInBounds_toArray, List.set_cons_zero, List.set_cons_succ] <;> rfl) (hJ6_10_17_21_27 (gb141) _ ⟨hHeld, (XSq.pR HO_4), (XSq.pR HO_5), (XSq.pR HO_6), (XSq.bq BK117), (XSq.bq BK141), GW141.out, GE141.out, NB117_141.out, NB141_117.out, (XSq.bB HB)⟩)
                 case f15 =>
                  ·
                   rintro _ w59 ⟨hS_, h0_, h1_, h2_, h3_, h4_⟩; replace HO_4 : Aside0 (Kd.R Kd.string 9 w59 w.heap.size (fun k_ => some k_ ≠ (.slice (some ad130) t122.length co57 : Value).ownBlock ∧ some k_ ≠ (.slice (some ad135) t126.length co58 : Value).ownBlock) (.slice (some ad121) t118.length co16) t118) := ⟨h0_⟩; replace HO_5 : Aside0 (Kd.R Kd.string 9 w59 w.heap.size (fun k_ => some k_ ≠ (.slice (some ad121) t118.length co16 : Value).ownBlock ∧ some k_ ≠ (.slice (some ad135) t126.length co58 : Value).ownBlock) (.slice (some ad130) t122.length co57) t122) := ⟨h1_⟩; replace HO_6 : Aside0 (Kd.R Kd.string 9 w59 w.heap.size (fun k_ => some k_ ≠ (.slice (some ad121) t118.length co16 : Value).ownBlock ∧ some k_ ≠ (.slice (some ad130) t122.length co57 : Value).ownBlock) (.slice (some ad135) t126.length co58) t126) := ⟨h2_⟩; replace BK117 : Aside0 (w59.heap[gb117]? = some (.cells #[.string ⟨#[]⟩, .int .i64 0, .int .i64 0, .string ⟨#[]⟩, .int .i64 0, .int .i64 0, .int .i64 0] 23 (0, 0))) := ⟨h3_⟩; replace HB : Aside0 (Below w.heap.size w w59) := ⟨h4_⟩; clear h0_ h1_ h2_ h3_ h4_; have hHeld : w59.cell? ad121 = some (.string (rdOf ByteArray.empty t118 0)) ∧ w59.cell? ad130 = some (.string (rdOf ByteArray.empty t122 0)) ∧ w59.cell? ⟨ad130.block, ad130.off + 1, none⟩ = some (.string (rdOf ByteArray.empty t122 1)) ∧ w59.cell? ⟨ad121.block, ad121.off + 2, none⟩ = some (.string (rdOf ByteArray.empty t118 2)) ∧ w59.cell? ad135 = some (.string (rdOf ByteArray.empty t126 0)) ∧ w59.cell? ⟨ad135.block, ad135.off + 1, none⟩ = some (.string (rdOf ByteArray.empty t126 1)) ∧ w59.cell? ⟨ad135.block, ad135.off + 2, none⟩ = some (.string (rdOf ByteArray.empty t126 2)) := hS_
                   refine norm_ (a' := ?_) ?_ ?_
                   rotate_left
                   ·
                    simp only [putAll, Act.put, List.setIfInBounds_toArray, List.set_cons_zero, List.set_cons_succ]
                    rfl
                   refine two_ (i := 25) (j := 27) (Ni := some 61) (Nj := some 7) #[true, true, true, true, true, true, true, true, true, true, true, true, true, true, true, true, true, true, true, true, true, true, true, true, true, true, false, false, false] #[true, true, true, true, true, true, true, true, true, true, true, true, true, true, true, true, true, true, true, true, true, true, true, true, true, false, false, true, false] rfl rfl rfl rfl (two_of HT_.out (by kernel_rfl)) (by decide) (by decide) (fun K hK => ?_) (fun K hK => ?_)
                   ·
                    refine goes_ Tryd.func35 (by kernel_rfl) rfl #[.string (rdOf ByteArray.empty t126 2)] (by rfl) rfl rfl (by (try simp only [List.map_toArray, List.map_cons, List.map_nil]); first | done | rfl | (simp only [List.length_drop, List.length_take]; rfl)) ?_
                    with_reducible refine (spec_l1Read.calls kj13 (rdOf ByteArray.empty t126 2) t140 _ A36.out).mono ?_
                    rintro e w' ⟨rfl, ⟨nd, rfl⟩⟩
                    refine ⟨_, rfl, ?_⟩
                    refine hK.out _ _ ⟨hHeld.1, hHeld.2.1, hHeld.2.2.1, hHeld.2.2.2.1, hHeld.2.2.2.2.1, hHeld.2.2.2.2.2.1, hHeld.2.2.2.2.2.2⟩ (fun hHeld => ?_)
                    clear hK K
                    refine norm_ (a' := ?_) ?_ ?_
                    rotate_left
                    ·
                     show Act.put _ (some 61) _ = _
                     simp only [Act.put, List.setIfInBounds_toArray, List.set_cons_zero, List.set_cons_succ, i64_w, i32_w]
                     rfl
                    refine pure_ (i := 26) (N := some 62) (v := ?_) (a' := ?_) #[true, true, true, true, true, true, true, true, true, true, true, true, true, true, true, true, true, true, true, true, true, true, true, true, true, true, true, false, false] rfl rfl (any_of HT_.out (by kernel_rfl)) (fun _ _ _ h => h) (Or.inl ⟨by rfl, ?_⟩) ?_ ?_
                    rotate_left
                    ·
                     intro w'
                     go_simp
                     with_reducible rfl
                    rotate_left
                    ·
                     simp only [Act.put, List.setIfInBounds_toArray, List.set_cons_zero, List.set_cons_succ, i64_w, i32_w]
                     rfl
                    exact norm_ (by simp only [putAll, Act.put, List.setIfInBounds_toArray, List.set_cons_zero, List.set_cons_succ] <;> rfl) (hJ6_10_17_21_25 () _ ⟨hHeld, (XSq.pR HO_4), (XSq.pR HO_5), (XSq.pR HO_6), (XSq.bq BK117), (XSq.bB HB)⟩)
                   ·
                    refine box_step ?hg (N := 7) ?hd (cs := #[.string ⟨#[]⟩, .int .i64 0, .int .i64 0, .string ⟨#[]⟩, .int .i64 0, .int .i64 0, .int .i64 0]) (t := 23) ?hr ?_; (case hd => rfl); (case hg => rfl); (case hr => first | (go_simp; done) | (go_simp; rfl))
                    intro gb141 hg w60 hbox hb; have HS0_ := (hb.cell (World.block_lt_of_cell? _ _ (hHeld.1))).trans (hHeld.1); have HS1_ := (hb.cell (World.block_lt_of_cell? _ _ (hHeld.2.1))).trans (hHeld.2.1); have HS2_ := (hb.cell (World.block_lt_of_cell? _ _ (hHeld.2.2.1))).trans (hHeld.2.2.1); have HS3_ := (hb.cell (World.block_lt_of_cell? _ _ (hHeld.2.2.2.1))).trans (hHeld.2.2.2.1); have HS4_ := (hb.cell (World.block_lt_of_cell? _ _ (hHeld.2.2.2.2.1))).trans (hHeld.2.2.2.2.1); have HS5_ := (hb.cell (World.block_lt_of_cell? _ _ (hHeld.2.2.2.2.2.1))).trans (hHeld.2.2.2.2.2.1); have HS6_ := (hb.cell (World.block_lt_of_cell? _ _ (hHeld.2.2.2.2.2.2))).trans (hHeld.2.2.2.2.2.2); have n0_ := Aside0.mk (Kd.R_below (XSq.pR HO_4) hb); have n1_ := Aside0.mk (Kd.R_below (XSq.pR HO_5) hb); have n2_ := Aside0.mk (Kd.R_below (XSq.pR HO_6) hb); have n3_ := Aside0.mk (blk_below (g := gb117) (o := .cells #[.string ⟨#[]⟩, .int .i64 0, .int .i64 0, .string ⟨#[]⟩, .int .i64 0, .int .i64 0, .int .i64 0] 23 (0, 0)) (XSq.bq BK117) hb); have n4_ := Aside0.mk (below_step (XSq.bB HB) hb); have n5_ := Aside0.mk (hbox); have n6_ := XSq.gw hg (XSq.bB HB); have n7_ := XSq.gw hg (XSq.bB HB); have n8_ := Aside0.mk ((by rw [hg]; exact Nat.ne_of_lt (blk_lt (g := gb117) (o := .cells #[.string ⟨#[]⟩, .int .i64 0, .int .i64 0, .string ⟨#[]⟩, .int .i64 0, .int .i64 0, .int .i64 0] 23 (0, 0)) (XSq.bq BK117)) : gb117 ≠ gb141)); have n9_ := Aside0.mk ((by rw [hg]; exact Nat.ne_of_gt (blk_lt (g := gb117) (o := .cells #[.string ⟨#[]⟩, .int .i64 0, .int .i64 0, .string ⟨#[]⟩, .int .i64 0, .int .i64 0, .int .i64 0] 23 (0, 0)) (XSq.bq BK117)) : gb141 ≠ gb117)); clear HO_4 HO_5 HO_6 BK117 HB; have HO_4 := n0_; have HO_5 := n1_; have HO_6 := n2_; have BK117 := n3_; have HB := n4_; have BK141 := n5_; have GW141 := n6_; have GE141 := n7_; have NB117_141 := n8_; have NB141_117 := n9_; clear n0_ n1_ n2_ n3_ n4_ n5_ n6_ n7_ n8_ n9_ hb hbox hg
                    refine hK.out _ _ ⟨HS0_, HS1_, HS2_, HS3_, HS4_, HS5_, HS6_⟩ (fun hHeld => ?_)
                    clear hK K
                    refine norm_ (a' := ?_) ?_ ?_
                    rotate_left
                    ·
                     show Act.put _ (some 7) _ = _
                     simp only [Act.put, List.setIfInBounds_toArray, List.set_cons_zero, List.set_cons_succ, i64_w, i32_w]
                     rfl
                    exact norm_ (by simp only [putAll, Act.put, List.setIfInBounds_toArray, List.set_cons_zero, List.set_cons_succ] <;> rfl) (hJ6_10_17_21_27 (gb141) _ ⟨hHeld, (XSq.pR HO_4), (XSq.pR HO_5), (XSq.pR HO_6), (XSq.bq BK117), (XSq.bq BK141), GW141.out, GE141.out, NB117_141.out, NB141_117.out, (XSq.bB HB)⟩)
                 case f14 =>
                  ·
                   rintro gb141 w60 ⟨hS_, h0_, h1_, h2_, h3_, h4_, h5_, h6_, h7_, h8_, h9_⟩; have BK141 : Aside0 (w60.heap[gb141]? = some (.cells #[.string ⟨#[]⟩, .int .i64 0, .int .i64 0, .string ⟨#[]⟩, .int .i64 0, .int .i64 0, .int .i64 0] 23 (0, 0))) := ⟨h4_⟩; have GW141 : Aside0 (w.heap.size ≤ gb141) := ⟨h5_⟩; have GE141 : Aside0 (w.heap.size ≤ gb141) := ⟨h6_⟩; have NB117_141 : Aside0 (gb117 ≠ gb141) := ⟨h7_⟩; have NB141_117 : Aside0 (gb141 ≠ gb117) := ⟨h8_⟩; replace HO_4 : Aside0 (Kd.R Kd.string 9 w60 w.heap.size (fun k_ => some k_ ≠ (.slice (some ad130) t122.length co57 : Value).ownBlock ∧ some k_ ≠ (.slice (some ad135) t126.length co58 : Value).ownBlock) (.slice (some ad121) t118.length co16) t118) := ⟨h0_⟩; replace HO_5 : Aside0 (Kd.R Kd.string 9 w60 w.heap.size (fun k_ => some k_ ≠ (.slice (some ad121) t118.length co16 : Value).ownBlock ∧ some k_ ≠ (.slice (some ad135) t126.length co58 : Value).ownBlock) (.slice (some ad130) t122.length co57) t122) := ⟨h1_⟩; replace HO_6 : Aside0 (Kd.R Kd.string 9 w60 w.heap.size (fun k_ => some k_ ≠ (.slice (some ad121) t118.length co16 : Value).ownBlock ∧ some k_ ≠ (.slice (some ad130) t122.length co57 : Value).ownBlock) (.slice (some ad135) t126.length co58) t126) := ⟨h2_⟩; replace BK117 : Aside0 (w60.heap[gb117]? = some (.cells #[.string ⟨#[]⟩, .int .i64 0, .int .i64 0, .string ⟨#[]⟩, .int .i64 0, .int .i64 0, .int .i64 0] 23 (0, 0))) := ⟨h3_⟩; replace HB : Aside0 (Below w.heap.size w w60) := ⟨h9_⟩; clear h0_ h1_ h2_ h3_ h4_ h5_ h6_ h7_ h8_ h9_; have hHeld : w60.cell? ad121 = some (.string (rdOf ByteArray.empty t118 0)) ∧ w60.cell? ad130 = some (.string (rdOf ByteArray.empty t122 0)) ∧ w60.cell? ⟨ad130.block, ad130.off + 1, none⟩ = some (.string (rdOf ByteArray.empty t122 1)) ∧ w60.cell? ⟨ad121.block, ad121.off + 2, none⟩ = some (.string (rdOf ByteArray.empty t118 2)) ∧ w60.cell? ad135 = some (.string (rdOf ByteArray.empty t126 0)) ∧ w60.cell? ⟨ad135.block, ad135.off + 1, none⟩ = some (.string (rdOf ByteArray.empty t126 1)) ∧ w60.cell? ⟨ad135.block, ad135.off + 2, none⟩ = some (.string (rdOf ByteArray.empty t126 2)) := hS_
                   refine norm_ (a' := ?_) ?_ ?_
                   rotate_left
                   ·
                    simp only [putAll, Act.put, List.setIfInBounds_toArray, List.set_cons_zero, List.set_cons_succ]
                    rfl
                   refine one_ (i := 25) (N := some 61) #[true, true, true, true, true, true, true, true, true, true, true, true, true, true, true, true, true, true, true, true, true, true, true, true, true, true, false, true, false] rfl rfl (one_of HT_.out (by kernel_rfl)) (by decide) (fun K hK => ?_)
                   refine goes_ Tryd.func35 (by kernel_rfl) rfl #[.string (rdOf ByteArray.empty t126 2)] (by rfl) rfl rfl (by (try simp only [List.map_toArray, List.map_cons, List.map_nil]); first | done | rfl | (simp only [List.length_drop, List.length_take]; rfl)) ?_
                   with_reducible refine (spec_l1Read.calls kj13 (rdOf ByteArray.empty t126 2) t140 _ A36.out).mono ?_
                   rintro e w' ⟨rfl, ⟨nd, rfl⟩⟩
                   refine ⟨_, rfl, ?_⟩
                   refine hK.out _ _ ⟨hHeld.1, hHeld.2.1, hHeld.2.2.1, hHeld.2.2.2.1, hHeld.2.2.2.2.1, hHeld.2.2.2.2.2.1, hHeld.2.2.2.2.2.2⟩ (fun hHeld => ?_)
                   clear hK K
                   refine norm_ (a' := ?_) ?_ ?_
                   rotate_left
                   ·
                    show Act.put _ (some 61) _ = _
                    simp only [Act.put, List.setIfInBounds_toArray, List.set_cons_zero, List.set_cons_succ, i64_w, i32_w]
                    rfl
                   refine pure_ (i := 26) (N := some 62) (v := ?_) (a' := ?_) #[true, true, true, true, true, true, true, true, true, true, true, true, true, true, true, true, true, true, true, true, true, true, true, true, true, true, true, true, false] rfl rfl (any_of HT_.out (by kernel_rfl)) (fun _ _ _ h => h) (Or.inl ⟨by rfl, ?_⟩) ?_ ?_
                   rotate_left
                   ·
                    intro w'
                    go_simp
                    with_reducible rfl
                   rotate_left
                   ·
                    simp only [Act.put, List.setIfInBounds_toArray, List.set_cons_zero, List.set_cons_succ, i64_w, i32_w]
                    rfl
                   exact norm_ (by simp only [putAll, Act.put, List.setIfInBounds_toArray, List.set_cons_zero, List.set_cons_succ] <;> rfl) (hJ6_10_17_21_25_27 (gb141) _ ⟨hHeld, (XSq.pR HO_4), (XSq.pR HO_5), (XSq.pR HO_6), (XSq.bq BK117), (XSq.bq BK141), GW141.out, GE141.out, NB117_141.out, NB141_117.out, (XSq.bB HB)⟩)
                 case f13 =>
                  ·
                   rintro _ w59 ⟨hS_, h0_, h1_, h2_, h3_, h4_⟩; replace HO_4 : Aside0 (Kd.R Kd.string 9 w59 w.heap.size (fun k_ => some k_ ≠ (.slice (some ad130) t122.length co57 : Value).ownBlock ∧ some k_ ≠ (.slice (some ad135) t126.length co58 : Value).ownBlock) (.slice (some ad121) t118.length co16) t118) := ⟨h0_⟩; replace HO_5 : Aside0 (Kd.R Kd.string 9 w59 w.heap.size (fun k_ => some k_ ≠ (.slice (some ad121) t118.length co16 : Value).ownBlock ∧ some k_ ≠ (.slice (some ad135) t126.length co58 : Value).ownBlock) (.slice (some ad130) t122.length co57) t122) := ⟨h1_⟩; replace HO_6 : Aside0 (Kd.R Kd.string 9 w59 w.heap.size (fun k_ => some k_ ≠ (.slice (some ad121) t118.length co16 : Value).ownBlock ∧ some k_ ≠ (.slice (some ad130) t122.length co57 : Value).ownBlock) (.slice (some ad135) t126.length co58) t126) := ⟨h2_⟩; replace BK117 : Aside0 (w59.heap[gb117]? = some (.cells #[.string ⟨#[]⟩, .int .i64 0, .int .i64 0, .string ⟨#[]⟩, .int .i64 0, .int .i64 0, .int .i64 0] 23 (0, 0))) := ⟨h3_⟩; replace HB : Aside0 (Below w.heap.size w w59) := ⟨h4_⟩; clear h0_ h1_ h2_ h3_ h4_; have hHeld : w59.cell? ad121 = some (.string (rdOf ByteArray.empty t118 0)) ∧ w59.cell? ad130 = some (.string (rdOf ByteArray.empty t122 0)) ∧ w59.cell? ⟨ad130.block, ad130.off + 1, none⟩ = some (.string (rdOf ByteArray.empty t122 1)) ∧ w59.cell? ⟨ad121.block, ad121.off + 2, none⟩ = some (.string (rdOf ByteArray.empty t118 2)) ∧ w59.cell? ad135 = some (.string (rdOf ByteArray.empty t126 0)) ∧ w59.cell? ⟨ad135.block, ad135.off + 1, none⟩ = some (.string (rdOf ByteArray.empty t126 1)) ∧ w59.cell? ⟨ad135.block, ad135.off + 2, none⟩ = some (.string (rdOf ByteArray.empty t126 2)) := hS_
                   refine norm_ (a' := ?_) ?_ ?_
                   rotate_left
                   ·
                    simp only [putAll, Act.put, List.setIfInBounds_toArray, List.set_cons_zero, List.set_cons_succ]
                    rfl
                   refine one_ (i := 27) (N := some 7) #[true, true, true, true, true, true, true, true, true, true, true, true, true, true, true, true, true, true, true, true, true, true, true, true, true, true, true, true, false] rfl rfl (one_of HT_.out (by kernel_rfl)) (by decide) (fun K hK => ?_)
                   refine box_step ?hg (N := 7) ?hd (cs := #[.string ⟨#[]⟩, .int .i64 0, .int .i64 0, .string ⟨#[]⟩, .int .i64 0, .int .i64 0, .int .i64 0]) (t := 23) ?hr ?_; (case hd => rfl); (case hg => rfl); (case hr => first | (go_simp; done) | (go_simp; rfl))
                   intro gb141 hg w60 hbox hb; have HS0_ := (hb.cell (World.block_lt_of_cell? _ _ (hHeld.1))).trans (hHeld.1); have HS1_ := (hb.cell (World.block_lt_of_cell? _ _ (hHeld.2.1))).trans (hHeld.2.1); have HS2_ := (hb.cell (World.block_lt_of_cell? _ _ (hHeld.2.2.1))).trans (hHeld.2.2.1); have HS3_ := (hb.cell (World.block_lt_of_cell? _ _ (hHeld.2.2.2.1))).trans (hHeld.2.2.2.1); have HS4_ := (hb.cell (World.block_lt_of_cell? _ _ (hHeld.2.2.2.2.1))).trans (hHeld.2.2.2.2.1); have HS5_ := (hb.cell (World.block_lt_of_cell? _ _ (hHeld.2.2.2.2.2.1))).trans (hHeld.2.2.2.2.2.1); have HS6_ := (hb.cell (World.block_lt_of_cell? _ _ (hHeld.2.2.2.2.2.2))).trans (hHeld.2.2.2.2.2.2); have n0_ := Aside0.mk (Kd.R_below (XSq.pR HO_4) hb); have n1_ := Aside0.mk (Kd.R_below (XSq.pR HO_5) hb); have n2_ := Aside0.mk (Kd.R_below (XSq.pR HO_6) hb); have n3_ := Aside0.mk (blk_below (g := gb117) (o := .cells #[.string ⟨#[]⟩, .int .i64 0, .int .i64 0, .string ⟨#[]⟩, .int .i64 0, .int .i64 0, .int .i64 0] 23 (0, 0)) (XSq.bq BK117) hb); have n4_ := Aside0.mk (below_step (XSq.bB HB) hb); have n5_ := Aside0.mk (hbox); have n6_ := XSq.gw hg (XSq.bB HB); have n7_ := XSq.gw hg (XSq.bB HB); have n8_ := Aside0.mk ((by rw [hg]; exact Nat.ne_of_lt (blk_lt (g := gb117) (o := .cells #[.string ⟨#[]⟩, .int .i64 0, .int .i64 0, .string ⟨#[]⟩, .int .i64 0, .int .i64 0, .int .i64 0] 23 (0, 0)) (XSq.bq BK117)) : gb117 ≠ gb141)); have n9_ := Aside0.mk ((by rw [hg]; exact Nat.ne_of_gt (blk_lt (g := gb117) (o := .cells #[.string ⟨#[]⟩, .int .i64 0, .int .i64 0, .string ⟨#[]⟩, .int .i64 0, .int .i64 0, .int .i64 0] 23 (0, 0)) (XSq.bq BK117)) : gb141 ≠ gb117)); clear HO_4 HO_5 HO_6 BK117 HB; have HO_4 := n0_; have HO_5 := n1_; have HO_6 := n2_; have BK117 := n3_; have HB := n4_; have BK141 := n5_; have GW141 := n6_; have GE141 := n7_; have NB117_141 := n8_; have NB141_117 := n9_; clear n0_ n1_ n2_ n3_ n4_ n5_ n6_ n7_ n8_ n9_ hb hbox hg
                   refine hK.out _ _ ⟨HS0_, HS1_, HS2_, HS3_, HS4_, HS5_, HS6_⟩ (fun hHeld => ?_)
                   clear hK K
                   refine norm_ (a' := ?_) ?_ ?_
                   rotate_left
                   ·
                    show Act.put _ (some 7) _ = _
                    simp only [Act.put, List.setIfInBounds_toArray, List.set_cons_zero, List.set_cons_succ, i64_w, i32_w]
                    rfl
                   exact norm_ (by simp only [putAll, Act.put, List.setIfInBounds_toArray, List.set_cons_zero, List.set_cons_succ] <;> rfl) (hJ6_10_17_21_25_27 (gb141) _ ⟨hHeld, (XSq.pR HO_4), (XSq.pR HO_5), (XSq.pR HO_6), (XSq.bq BK117), (XSq.bq BK141), GW141.out, GE141.out, NB117_141.out, NB141_117.out, (XSq.bB HB)⟩)
                 case f12 =>
                  rintro gb141 w60 ⟨hS_, h0_, h1_, h2_, h3_, h4_, h5_, h6_, h7_, h8_, h9_⟩; have BK141 : Aside0 (w60.heap[gb141]? = some (.cells #[.string ⟨#[]⟩, .int .i64 0, .int .i64 0, .string ⟨#[]⟩, .int .i64 0, .int .i64 0, .int .i64 0] 23 (0, 0))) := ⟨h4_⟩; have GW141 : Aside0 (w.heap.size ≤ gb141) := ⟨h5_⟩; have GE141 : Aside0 (w.heap.size ≤ gb141) := ⟨h6_⟩; have NB117_141 : Aside0 (gb117 ≠ gb141) := ⟨h7_⟩; have NB141_117 : Aside0 (gb141 ≠ gb117) := ⟨h8_⟩; replace HO_4 : Aside0 (Kd.R Kd.string 9 w60 w.heap.size (fun k_ => some k_ ≠ (.slice (some ad130) t122.length co57 : Value).ownBlock ∧ some k_ ≠ (.slice (some ad135) t126.length co58 : Value).ownBlock) (.slice (some ad121) t118.length co16) t118) := ⟨h0_⟩; replace HO_5 : Aside0 (Kd.R Kd.string 9 w60 w.heap.size (fun k_ => some k_ ≠ (.slice (some ad121) t118.length co16 : Value).ownBlock ∧ some k_ ≠ (.slice (some ad135) t126.length co58 : Value).ownBlock) (.slice (some ad130) t122.length co57) t122) := ⟨h1_⟩; replace HO_6 : Aside0 (Kd.R Kd.string 9 w60 w.heap.size (fun k_ => some k_ ≠ (.slice (some ad121) t118.length co16 : Value).ownBlock ∧ some k_ ≠ (.slice (some ad130) t122.length co57 : Value).ownBlock) (.slice (some ad135) t126.length co58) t126) := ⟨h2_⟩; replace BK117 : Aside0 (w60.heap[gb117]? = some (.cells #[.string ⟨#[]⟩, .int .i64 0, .int .i64 0, .string ⟨#[]⟩, .int .i64 0, .int .i64 0, .int .i64 0] 23 (0, 0))) := ⟨h3_⟩; replace HB : Aside0 (Below w.heap.size w w60) := ⟨h9_⟩; clear h0_ h1_ h2_ h3_ h4_ h5_ h6_ h7_ h8_ h9_; have hHeld : w60.cell? ad121 = some (.string (rdOf ByteArray.empty t118 0)) ∧ w60.cell? ad130 = some (.string (rdOf ByteArray.empty t122 0)) ∧ w60.cell? ⟨ad130.block, ad130.off + 1, none⟩ = some (.string (rdOf ByteArray.empty t122 1)) ∧ w60.cell? ⟨ad121.block, ad121.off + 2, none⟩ = some (.string (rdOf ByteArray.empty t118 2)) ∧ w60.cell? ad135 = some (.string (rdOf ByteArray.empty t126 0)) ∧ w60.cell? ⟨ad135.block, ad135.off + 1, none⟩ = some (.string (rdOf ByteArray.empty t126 1)) ∧ w60.cell? ⟨ad135.block, ad135.off + 2, none⟩ = some (.string (rdOf ByteArray.empty t126 2)) := hS_
                  refine norm_ (a' := ?_) ?_ ?_
                  rotate_left
                  ·
                   simp only [putAll, Act.put, List.setIfInBounds_toArray, List.set_cons_zero, List.set_cons_succ]
                   rfl
                  refine one_ (i := 28) (N := none) #[true, true, true, true, true, true, true, true, true, true, true, true, true, true, true, true, true, true, true, true, true, true, true, true, true, true, true, true, true] rfl rfl (one_of HT_.out (by kernel_rfl)) (by decide) (fun K hK => ?_)
                  have hs61 : w60.cell? ⟨gb141, 0, none⟩ = some (.string ⟨#[]⟩) := (blk_cell BK141.out 0).trans rfl; have hfs61 := blk_frozen BK141.out 0; have hns61_0 := NB117_141.out; have hms61_0 := NB141_117.out; have hs62 : w60.cell? ⟨gb141, 1, none⟩ = some (.int .i64 0) := (blk_cell BK141.out 1).trans rfl; have hfs62 := blk_frozen BK141.out 1; have hns62_0 := NB117_141.out; have hms62_0 := NB141_117.out; have hs63 : w60.cell? ⟨gb141, 2, none⟩ = some (.int .i64 0) := (blk_cell BK141.out 2).trans rfl; have hfs63 := blk_frozen BK141.out 2; have hns63_0 := NB117_141.out; have hms63_0 := NB141_117.out; have hs64 : w60.cell? ⟨gb141, 3, none⟩ = some (.string ⟨#[]⟩) := (blk_cell BK141.out 3).trans rfl; have hfs64 := blk_frozen BK141.out 3; have hns64_0 := NB117_141.out; have hms64_0 := NB141_117.out; have hs65 : w60.cell? ⟨gb141, 4, none⟩ = some (.int .i64 0) := (blk_cell BK141.out 4).trans rfl; have hfs65 := blk_frozen BK141.out 4; have hns65_0 := NB117_141.out; have hms65_0 := NB141_117.out; have hs66 : w60.cell? ⟨gb141, 5, none⟩ = some (.int .i64 0) := (blk_cell BK141.out 5).trans rfl; have hfs66 := blk_frozen BK141.out 5; have hns66_0 := NB117_141.out; have hms66_0 := NB141_117.out; have hs67 : w60.cell? ⟨gb141, 6, none⟩ = some (.int .i64 0) := (blk_cell BK141.out 6).trans rfl; have hfs67 := blk_frozen BK141.out 6; have hns67_0 := NB117_141.out; have hms67_0 := NB141_117.out
                  refine skip_ (w1 := ?_) (by rfl) rfl ?_ ?_
                  rotate_left
                  ·
                   go_simp
                   rfl
                  refine hK.out _ _ ⟨((cell_far (p := ⟨gb141, _, none⟩) (XSq.fr (Kd.own_blk (Kd.R_ne HO_4.out BK141.out (by decide)))) _).trans (((cell_far (p := ⟨gb141, _, none⟩) (XSq.fr (Kd.own_blk (Kd.R_ne HO_4.out BK141.out (by decide)))) _).trans (((cell_far (p := ⟨gb141, _, none⟩) (XSq.fr (Kd.own_blk (Kd.R_ne HO_4.out BK141.out (by decide)))) _).trans (((cell_far (p := ⟨gb141, _, none⟩) (XSq.fr (Kd.own_blk (Kd.R_ne HO_4.out BK141.out (by decide)))) _).trans (((cell_far (p := ⟨gb141, _, none⟩) (XSq.fr (Kd.own_blk (Kd.R_ne HO_4.out BK141.out (by decide)))) _).trans (((cell_far (p := ⟨gb141, _, none⟩) (XSq.fr (Kd.own_blk (Kd.R_ne HO_4.out BK141.out (by decide)))) _).trans (((cell_far (p := ⟨gb141, _, none⟩) (XSq.fr (Kd.own_blk (Kd.R_ne HO_4.out BK141.out (by decide)))) _).trans (hHeld.1)))))))))))))), ((cell_far (p := ⟨gb141, _, none⟩) (XSq.fr (Kd.own_blk (Kd.R_ne HO_5.out BK141.out (by decide)))) _).trans (((cell_far (p := ⟨gb141, _, none⟩) (XSq.fr (Kd.own_blk (Kd.R_ne HO_5.out BK141.out (by decide)))) _).trans (((cell_far (p := ⟨gb141, _, none⟩) (XSq.fr (Kd.own_blk (Kd.R_ne HO_5.out BK141.out (by decide)))) _).trans (((cell_far (p := ⟨gb141, _, none⟩) (XSq.fr (Kd.own_blk (Kd.R_ne HO_5.out BK141.out (by decide)))) _).trans (((cell_far (p := ⟨gb141, _, none⟩) (XSq.fr (Kd.own_blk (Kd.R_ne HO_5.out BK141.out (by decide)))) _).trans (((cell_far (p := ⟨gb141, _, none⟩) (XSq.fr (Kd.own_blk (Kd.R_ne HO_5.out BK141.out (by decide)))) _).trans (((cell_far (p := ⟨gb141, _, none⟩) (XSq.fr (Kd.own_blk (Kd.R_ne HO_5.out BK141.out (by decide)))) _).trans (hHeld.2.1)))))))))))))), ((cell_far (p := ⟨gb141, _, none⟩) (XSq.fr (Kd.own_blk (Kd.R_ne HO_5.out BK141.out (by decide)))) _).trans (((cell_far (p := ⟨gb141, _, none⟩) (XSq.fr (Kd.own_blk (Kd.R_ne HO_5.out BK141.out (by decide)))) _).trans (((cell_far (p := ⟨gb141, _, none⟩) (XSq.fr (Kd.own_blk (Kd.R_ne HO_5.out BK141.out (by decide)))) _).trans (((cell_far (p := ⟨gb141, _, none⟩) (XSq.fr (Kd.own_blk (Kd.R_ne HO_5.out BK141.out (by decide)))) _).trans (((cell_far (p := ⟨gb141, _, none⟩) (XSq.fr (Kd.own_blk (Kd.R_ne HO_5.out BK141.out (by decide)))) _).trans (((cell_far (p := ⟨gb141, _, none⟩) (XSq.fr (Kd.own_blk (Kd.R_ne HO_5.out BK141.out (by decide)))) _).trans (((cell_far (p := ⟨gb141, _, none⟩) (XSq.fr (Kd.own_blk (Kd.R_ne HO_5.out BK141.out (by decide)))) _).trans (hHeld.2.2.1)))))))))))))), ((cell_far (p := ⟨gb141, _, none⟩) (XSq.fr (Kd.own_blk (Kd.R_ne HO_4.out BK141.out (by decide)))) _).trans (((cell_far (p := ⟨gb141, _, none⟩) (XSq.fr (Kd.own_blk (Kd.R_ne HO_4.out BK141.out (by decide)))) _).trans (((cell_far (p := ⟨gb141, _, none⟩) (XSq.fr (Kd.own_blk (Kd.R_ne HO_4.out BK141.out (by decide)))) _).trans (((cell_far (p := ⟨gb141, _, none⟩) (XSq.fr (Kd.own_blk (Kd.R_ne HO_4.out BK141.out (by decide)))) _).trans (((cell_far (p := ⟨gb141, _, none⟩) (XSq.fr (Kd.own_blk (Kd.R_ne HO_4.out BK141.out (by decide)))) _).trans (((cell_far (p := ⟨gb141, _, none⟩) (XSq.fr (Kd.own_blk (Kd.R_ne HO_4.out BK141.out (by decide)))) _).trans (((cell_far (p := ⟨gb141, _, none⟩) (XSq.fr (Kd.own_blk (Kd.R_ne HO_4.out BK141.out (by decide)))) _).trans (hHeld.2.2.2.1)))))))))))))), ((cell_far (p := ⟨gb141, _, none⟩) (XSq.fr (Kd.own_blk (Kd.R_ne HO_6.out BK141.out (by decide)))) _).trans (((cell_far (p := ⟨gb141, _, none⟩) (XSq.fr (Kd.own_blk (Kd.R_ne HO_6.out BK141.out (by decide)))) _).trans (((cell_far (p := ⟨gb141, _, none⟩) (XSq.fr (Kd.own_blk (Kd.R_ne HO_6.out BK141.out (by decide)))) _).trans (((cell_far (p := ⟨gb141, _, none⟩) (XSq.fr (Kd.own_blk (Kd.R_ne HO_6.out BK141.out (by decide)))) _).trans (((cell_far (p := ⟨gb141, _, none⟩) (XSq.fr (Kd.own_blk (Kd.R_ne HO_6.out BK141.out (by decide)))) _).trans (((cell_far (p := ⟨gb141, _, none⟩) (XSq.fr (Kd.own_blk (Kd.R_ne HO_6.out BK141.out (by decide)))) _).trans (((cell_far (p := ⟨gb141, _, none⟩) (XSq.fr (Kd.own_blk (Kd.R_ne HO_6.out BK141.out (by decide)))) _).trans (hHeld.2.2.2.2.1)))))))))))))), ((cell_far (p := ⟨gb141, _, none⟩) (XSq.fr (Kd.own_blk (Kd.R_ne HO_6.out BK141.out (by decide)))) _).trans (((cell_far (p := ⟨gb141, _, none⟩) (XSq.fr (Kd.own_blk (Kd.R_ne HO_6.out BK141.out (by decide)))) _).trans (((cell_far (p := ⟨gb141, _, none⟩) (XSq.fr (Kd.own_blk (Kd.R_ne HO_6.out BK141.out (by decide)))) _).trans (((cell_far (p := ⟨gb141, _, none⟩) (XSq.fr (Kd.own_blk (Kd.R_ne HO_6.out BK141.out (by decide)))) _).trans (((cell_far (p := ⟨gb141, _, none⟩) (XSq.fr (Kd.own_blk (Kd.R_ne HO_6.out BK141.out (by decide)))) _).trans (((cell_far (p := ⟨gb141, _, none⟩) (XSq.fr (Kd.own_blk (Kd.R_ne HO_6.out BK141.out (by decide)))) _).trans (((cell_far (p := ⟨gb141, _, none⟩) (XSq.fr (Kd.own_blk (Kd.R_ne HO_6.out BK141.out (by decide)))) _).trans (hHeld.2.2.2.2.2.1)))))))))))))), ((cell_far (p := ⟨gb141, _, none⟩) (XSq.fr (Kd.own_blk (Kd.R_ne HO_6.out BK141.out (by decide)))) _).trans (((cell_far (p := ⟨gb141, _, none⟩) (XSq.fr (Kd.own_blk (Kd.R_ne HO_6.out BK141.out (by decide)))) _).trans (((cell_far (p := ⟨gb141, _, none⟩) (XSq.fr (Kd.own_blk (Kd.R_ne HO_6.out BK141.out (by decide)))) _).trans (((cell_far (p := ⟨gb141, _, none⟩) (XSq.fr (Kd.own_blk (Kd.R_ne HO_6.out BK141.out (by decide)))) _).trans (((cell_far (p := ⟨gb141, _, none⟩) (XSq.fr (Kd.own_blk (Kd.R_ne HO_6.out BK141.out (by decide)))) _).trans (((cell_far (p := ⟨gb141, _, none⟩) (XSq.fr (Kd.own_blk (Kd.R_ne HO_6.out BK141.out (by decide)))) _).trans (((cell_far (p := ⟨gb141, _, none⟩) (XSq.fr (Kd.own_blk (Kd.R_ne HO_6.out BK141.out (by decide)))) _).trans (hHeld.2.2.2.2.2.2))))))))))))))⟩ (fun hHeld => ?_)
                  clear hK K
                  refine done_ (done_of HT_.out (by kernel_rfl)) ?_
                  have hnb68 := NB141_117.out; have hnc68 := NB117_141.out; have hcz69_0 : w60.cell? ⟨gb141, 0, none⟩ = some (.string ⟨#[]⟩) := (blk_cell BK141.out 0).trans rfl; have hcz69_1 : w60.cell? ⟨gb141, 1, none⟩ = some (.int .i64 0) := (blk_cell BK141.out 1).trans rfl; have hcz69_2 : w60.cell? ⟨gb141, 2, none⟩ = some (.int .i64 0) := (blk_cell BK141.out 2).trans rfl; have hcz69_3 : w60.cell? ⟨gb141, 3, none⟩ = some (.string ⟨#[]⟩) := (blk_cell BK141.out 3).trans rfl; have hcz69_4 : w60.cell? ⟨gb141, 4, none⟩ = some (.int .i64 0) := (blk_cell BK141.out 4).trans rfl; have hcz69_5 : w60.cell? ⟨gb141, 5, none⟩ = some (.int .i64 0) := (blk_cell BK141.out 5).trans rfl; have hcz69_6 : w60.cell? ⟨gb141, 6, none⟩ = some (.int .i64 0) := (blk_cell BK141.out 6).trans rfl; have hfz69_0 := blk_frozen BK141.out 0; have hfz69_1 := blk_frozen BK141.out 1; have hfz69_2 := blk_frozen BK141.out 2; have hfz69_3 := blk_frozen BK141.out 3; have hfz69_4 := blk_frozen BK141.out 4; have hfz69_5 := blk_frozen BK141.out 5; have hfz69_6 := blk_frozen BK141.out 6
                  try go_wp2_with (first | ((with_reducible refine gate_callee (f := 36) rfl ?_); refine goesL_ (some 64) rfl rfl Tryd.func36 (by kernel_rfl) rfl #[.agg #[.string (rdOf ByteArray.empty t118 0), .int .i64 t131, .int .i64 t133, .string (rdOf ByteArray.empty t118 2), .int .i64 t136, .int .i64 t138, .int .i64 t140]] rfl (by (try simp only [List.map_toArray, List.map_cons, List.map_nil]); first | done | rfl | (simp only [List.length_drop, List.length_take]; rfl)) ?_; (with_reducible refine (spec_woGood.calls kj13 (rdOf ByteArray.empty t118 0) t131 t133 (rdOf ByteArray.empty t118 2) t136 t138 t140 false _ A37.out).mono ?_); rintro e w70 ⟨rfl, hb⟩; refine ⟨_, rfl, ?_⟩; have n0_ := Aside0.mk (Kd.R_below (by (with_reducible repeat (first | apply Kd.R_alloc | apply Kd.R_drewN | apply Kd.R_drew)); exact (Kd.R_mono (Kd.R_far (p := ⟨gb141, 6, none⟩) (Kd.R_far (p := ⟨gb141, 5, none⟩) (Kd.R_far (p := ⟨gb141, 4, none⟩) (Kd.R_far (p := ⟨gb141, 3, none⟩) (Kd.R_far (p := ⟨gb141, 2, none⟩) (Kd.R_far (p := ⟨gb141, 1, none⟩) (Kd.R_far (p := ⟨gb141, 0, none⟩) (Kd.R_types HO_4.out BK141.out (by decide)) (fun _ hk => hk.2) (.string (rdOf ByteArray.empty t118 0))) (fun _ hk => hk.2) (.int .i64 t131)) (fun _ hk => hk.2) (.int .i64 t133)) (fun _ hk => hk.2) (.string (rdOf ByteArray.empty t118 2))) (fun _ hk => hk.2) (.int .i64 t136)) (fun _ hk => hk.2) (.int .i64 t138)) (fun _ hk => hk.2) (.int .i64 t140)) (fun _ h_ => h_.1))) hb); have n1_ := Aside0.mk (Kd.R_below (by (with_reducible repeat (first | apply Kd.R_alloc | apply Kd.R_drewN | apply Kd.R_drew)); exact (Kd.R_mono (Kd.R_far (p := ⟨gb141, 6, none⟩) (Kd.R_far (p := ⟨gb141, 5, none⟩) (Kd.R_far (p := ⟨gb141, 4, none⟩) (Kd.R_far (p := ⟨gb141, 3, none⟩) (Kd.R_far (p := ⟨gb141, 2, none⟩) (Kd.R_far (p := ⟨gb141, 1, none⟩) (Kd.R_far (p := ⟨gb141, 0, none⟩) (Kd.R_types HO_5.out BK141.out (by decide)) (fun _ hk => hk.2) (.string (rdOf ByteArray.empty t118 0))) (fun _ hk => hk.2) (.int .i64 t131)) (fun _ hk => hk.2) (.int .i64 t133)) (fun _ hk => hk.2) (.string (rdOf ByteArray.empty t118 2))) (fun _ hk => hk.2) (.int .i64 t136)) (fun _ hk => hk.2) (.int .i64 t138)) (fun _ hk => hk.2) (.int .i64 t140)) (fun _ h_ => h_.1))) hb); have n2_ := Aside0.mk (Kd.R_below (by (with_reducible repeat (first | apply Kd.R_alloc | apply Kd.R_drewN | apply Kd.R_drew)); exact (Kd.R_mono (Kd.R_far (p := ⟨gb141, 6, none⟩) (Kd.R_far (p := ⟨gb141, 5, none⟩) (Kd.R_far (p := ⟨gb141, 4, none⟩) (Kd.R_far (p := ⟨gb141, 3, none⟩) (Kd.R_far (p := ⟨gb141, 2, none⟩) (Kd.R_far (p := ⟨gb141, 1, none⟩) (Kd.R_far (p := ⟨gb141, 0, none⟩) (Kd.R_types HO_6.out BK141.out (by decide)) (fun _ hk => hk.2) (.string (rdOf ByteArray.empty t118 0))) (fun _ hk => hk.2) (.int .i64 t131)) (fun _ hk => hk.2) (.int .i64 t133)) (fun _ hk => hk.2) (.string (rdOf ByteArray.empty t118 2))) (fun _ hk => hk.2) (.int .i64 t136)) (fun _ hk => hk.2) (.int .i64 t138)) (fun _ hk => hk.2) (.int .i64 t140)) (fun _ h_ => h_.1))) hb); have n3_ := Aside0.mk (blk_below (g := gb117) (o := .cells #[.string ⟨#[]⟩, .int .i64 0, .int .i64 0, .string ⟨#[]⟩, .int .i64 0, .int .i64 0, .int .i64 0] 23 (0, 0)) (by (with_reducible repeat (first | refine blk_drewN ?_ _ | refine blk_drew ?_ | refine blk_alloc ?_ _)); refine blk_far ?_ NB117_141.out _; (with_reducible repeat (first | refine blk_drewN ?_ _ | refine blk_drew ?_ | refine blk_alloc ?_ _)); refine blk_far ?_ NB117_141.out _; (with_reducible repeat (first | refine blk_drewN ?_ _ | refine blk_drew ?_ | refine blk_alloc ?_ _)); refine blk_far ?_ NB117_141.out _; (with_reducible repeat (first | refine blk_drewN ?_ _ | refine blk_drew ?_ | refine blk_alloc ?_ _)); refine blk_far ?_ NB117_141.out _; (with_reducible repeat (first | refine blk_drewN ?_ _ | refine blk_drew ?_ | refine blk_alloc ?_ _)); refine blk_far ?_ NB117_141.out _; (with_reducible repeat (first | refine blk_drewN ?_ _ | refine blk_drew ?_ | refine blk_alloc ?_ _)); refine blk_far ?_ NB117_141.out _; (with_reducible repeat (first | refine blk_drewN ?_ _ | refine blk_drew ?_ | refine blk_alloc ?_ _)); refine blk_far ?_ NB117_141.out _; (with_reducible repeat (first | refine blk_drewN ?_ _ | refine blk_drew ?_ | refine blk_alloc ?_ _)); exact BK117.out) hb); have n4_ := Aside0.mk (blk_below (g := gb141) (o := .cells #[.string (rdOf ByteArray.empty t118 0), .int .i64 t131, .int .i64 t133, .string (rdOf ByteArray.empty t118 2), .int .i64 t136, .int .i64 t138, .int .i64 t140] 23 (0, 0)) (by (with_reducible repeat (first | refine blk_drewN ?_ _ | refine blk_drew ?_ | refine blk_alloc ?_ _)); refine blk_put (cs := #[.string (rdOf ByteArray.empty t118 0), .int .i64 t131, .int .i64 t133, .string (rdOf ByteArray.empty t118 2), .int .i64 t136, .int .i64 t138, .int .i64 0]) ?_ 6 _ rfl; (with_reducible repeat (first | refine blk_drewN ?_ _ | refine blk_drew ?_ | refine blk_alloc ?_ _)); refine blk_put (cs := #[.string (rdOf ByteArray.empty t118 0), .int .i64 t131, .int .i64 t133, .string (rdOf ByteArray.empty t118 2), .int .i64 t136, .int .i64 0, .int .i64 0]) ?_ 5 _ rfl; (with_reducible repeat (first | refine blk_drewN ?_ _ | refine blk_drew ?_ | refine blk_alloc ?_ _)); refine blk_put (cs := #[.string (rdOf ByteArray.empty t118 0), .int .i64 t131, .int .i64 t133, .string (rdOf ByteArray.empty t118 2), .int .i64 0, .int .i64 0, .int .i64 0]) ?_ 4 _ rfl; (with_reducible repeat (first | refine blk_drewN ?_ _ | refine blk_drew ?_ | refine blk_alloc ?_ _)); refine blk_put (cs := #[.string (rdOf ByteArray.empty t118 0), .int .i64 t131, .int .i64 t133, .string ⟨#[]⟩, .int .i64 0, .int .i64 0, .int .i64 0]) ?_ 3 _ rfl; (with_reducible repeat (first | refine blk_drewN ?_ _ | refine blk_drew ?_ | refine blk_alloc ?_ _)); refine blk_put (cs := #[.string (rdOf ByteArray.empty t118 0), .int .i64 t131, .int .i64 0, .string ⟨#[]⟩, .int .i64 0, .int .i64 0, .int .i64 0]) ?_ 2 _ rfl; (with_reducible repeat (first | refine blk_drewN ?_ _ | refine blk_drew ?_ | refine blk_alloc ?_ _)); refine blk_put (cs := #[.string (rdOf ByteArray.empty t118 0), .int .i64 0, .int .i64 0, .string ⟨#[]⟩, .int .i64 0, .int .i64 0, .int .i64 0]) ?_ 1 _ rfl; (with_reducible repeat (first | refine blk_drewN ?_ _ | refine blk_drew ?_ | refine blk_alloc ?_ _)); refine blk_put (cs := #[.string ⟨#[]⟩, .int .i64 0, .int .i64 0, .string ⟨#[]⟩, .int .i64 0, .int .i64 0, .int .i64 0]) ?_ 0 _ rfl; (with_reducible repeat (first | refine blk_drewN ?_ _ | refine blk_drew ?_ | refine blk_alloc ?_ _)); exact BK141.out) hb); have n5_ := Aside0.mk (below_step (XSq.bB HB) hb); clear HO_4; clear HO_5; clear HO_6; clear BK117; clear BK141; clear HB; have HO_4 := n0_; have HO_5 := n1_; have HO_6 := n2_; have BK117 := n3_; have BK141 := n4_; have HB := n5_; clear n0_ n1_ n2_ n3_ n4_ n5_; clear hb; (try clear hb2); (try clear hk); (try clear hi); have hcz71_0 : w70.cell? ⟨gb117, 0, none⟩ = some (.string ⟨#[]⟩) := (blk_cell BK117.out 0).trans rfl; have hcz71_1 : w70.cell? ⟨gb117, 1, none⟩ = some (.int .i64 0) := (blk_cell BK117.out 1).trans rfl; have hcz71_2 : w70.cell? ⟨gb117, 2, none⟩ = some (.int .i64 0) := (blk_cell BK117.out 2).trans rfl; have hcz71_3 : w70.cell? ⟨gb117, 3, none⟩ = some (.string ⟨#[]⟩) := (blk_cell BK117.out 3).trans rfl; have hcz71_4 : w70.cell? ⟨gb117, 4, none⟩ = some (.int .i64 0) := (blk_cell BK117.out 4).trans rfl; have hcz71_5 : w70.cell? ⟨gb117, 5, none⟩ = some (.int .i64 0) := (blk_cell BK117.out 5).trans rfl; have hcz71_6 : w70.cell? ⟨gb117, 6, none⟩ = some (.int .i64 0) := (blk_cell BK117.out 6).trans rfl; have hfz71_0 := blk_frozen BK117.out 0; have hfz71_1 := blk_frozen BK117.out 1; have hfz71_2 := blk_frozen BK117.out 2; have hfz71_3 := blk_frozen BK117.out 3; have hfz71_4 := blk_frozen BK117.out 4; have hfz71_5 := blk_frozen BK117.out 5; have hfz71_6 := blk_frozen BK117.out 6))
                  refine bodyPost_ret (results_ct rfl _ _ gb117 23 #[.string ⟨#[]⟩, .int .i64 0, .int .i64 0, .string ⟨#[]⟩, .int .i64 0, .int .i64 0, .int .i64 0] (0, 0) _ rfl (by (with_reducible repeat (first | refine blk_drewN ?_ _ | refine blk_drew ?_ | refine blk_alloc ?_ _)); refine blk_put (cs := #[.string ⟨#[]⟩, .int .i64 0, .int .i64 0, .string ⟨#[]⟩, .int .i64 0, .int .i64 0, .int .i64 0]) ?_ 6 _ rfl; (with_reducible repeat (first | refine blk_drewN ?_ _ | refine blk_drew ?_ | refine blk_alloc ?_ _)); refine blk_put (cs := #[.string ⟨#[]⟩, .int .i64 0, .int .i64 0, .string ⟨#[]⟩, .int .i64 0, .int .i64 0, .int .i64 0]) ?_ 5 _ rfl; (with_reducible repeat (first | refine blk_drewN ?_ _ | refine blk_drew ?_ | refine blk_alloc ?_ _)); refine blk_put (cs := #[.string ⟨#[]⟩, .int .i64 0, .int .i64 0, .string ⟨#[]⟩, .int .i64 0, .int .i64 0, .int .i64 0]) ?_ 4 _ rfl; (with_reducible repeat (first | refine blk_drewN ?_ _ | refine blk_drew ?_ | refine blk_alloc ?_ _)); refine blk_put (cs := #[.string ⟨#[]⟩, .int .i64 0, .int .i64 0, .string ⟨#[]⟩, .int .i64 0, .int .i64 0, .int .i64 0]) ?_ 3 _ rfl; (with_reducible repeat (first | refine blk_drewN ?_ _ | refine blk_drew ?_ | refine blk_alloc ?_ _)); refine blk_put (cs := #[.string ⟨#[]⟩, .int .i64 0, .int .i64 0, .string ⟨#[]⟩, .int .i64 0, .int .i64 0, .int .i64 0]) ?_ 2 _ rfl; (with_reducible repeat (first | refine blk_drewN ?_ _ | refine blk_drew ?_ | refine blk_alloc ?_ _)); refine blk_put (cs := #[.string ⟨#[]⟩, .int .i64 0, .int .i64 0, .string ⟨#[]⟩, .int .i64 0, .int .i64 0, .int .i64 0]) ?_ 1 _ rfl; (with_reducible repeat (first | refine blk_drewN ?_ _ | refine blk_drew ?_ | refine blk_alloc ?_ _)); refine blk_put (cs := #[.string ⟨#[]⟩, .int .i64 0, .int .i64 0, .string ⟨#[]⟩, .int .i64 0, .int .i64 0, .int .i64 0]) ?_ 0 _ rfl; (with_reducible repeat (first | refine blk_drewN ?_ _ | refine blk_drew ?_ | refine blk_alloc ?_ _)); exact BK117.out) Tryd.underlying23 rfl (by kernel_rfl)) rfl ?_
                  exact ⟨by first | rfl | (simp [errW_none, errW_some] <;> rfl) | (simp [*, errW_none, errW_some] <;> rfl), by repeat (first | (with_reducible first | exact HB.out | apply below_alloc | apply pw_below_drewN | apply below_drew1 | refine below_set ?_ GE117.out | refine below_set ?_ GE141.out) | exact HB.out)⟩
               ·
                rw [if_neg c35] at H
                exact absurd H (by simp)
              ·
               rw [if_neg c33] at H
               exact absurd H (by simp)
             ·
              rw [if_neg c31] at H
              exact absurd H (by simp)
            ·
             rw [if_neg c30] at H
             exact absurd H (by simp)
           ·
            rw [if_neg c28] at H
            exact absurd H (by simp)
          ·
           rw [if_neg c26] at H
           exact absurd H (by simp)
         ·
          rw [if_neg c25] at H
          exact absurd H (by simp)
     ·
      rw [if_neg c12] at H
      exact absurd H (by simp)
    ·
     rw [if_neg c10] at H
     exact absurd H (by simp)

end Go.Proofs.YtjhokefoocajpaaDoor.PFnExactParseWorld
