-- Made by wip/tools/xkit.py (a program of this session's) with the kit's printer.
import Derived.Test.YtnbfjggbplofgaaDoorPFnExactCountTracksx0
import Derived.Test.YtnbfjggbplofgaaDoorPFnExactCountTracksx1
import Derived.Test.YtnbfjggbplofgaaDoorPFnExactCountTracksx2
import Derived.Test.YtnbfjggbplofgaaDoorPFnExactCountTracksx3
namespace Go.Proofs.YtnbfjggbplofgaaDoor.PFnExactCountTracks
open Go.RowKit Go.Proofs.YtnbfjggbplofgaaDoorW.PrintWords Go.Proofs.YtnbfjggbplofgaaDoorW.PrintLast Go.Proofs.YtnbfjggbplofgaaDoorW.PrintMore
attribute [local go_sem] max2_int min2_int max_two min_two max_three min_three max_four min_four   -- for this text's walks alone
set_option linter.unusedVariables false
set_option linter.unusedSimpArgs false

/-! ### spec_CountTracks: function 5 -/
mutual
def spec_CountTracks.j0 : Nat → Bool → Int → Int → ByteArray → Bool → Option (Int × Bool)
  | 0, _, _, _, _, _ => none
  | k + 1, x16, x122000, x122001, x122002, x122003 => if x16 = true then (some (0, false)) else (if 0 ≤ (wrap64 (4 * (x122002.size : Int))) then (if (wrap64 (4 * (x122002.size : Int)) : Int).toNat ≤ 281474976710656 then (spec_CountTracks.l0 k (List.replicate (wrap64 (4 * (x122002.size : Int)) : Int).toNat false) 0 x122000 x122001 x122002 x122003) else (none)) else (none))
def spec_CountTracks.l0 : Nat → List Bool → Int → Int → Int → ByteArray → Bool → Option (Int × Bool)
  | 0, _, _, _, _, _, _ => none
  | k + 1, x4, x5, x122000, x122001, x122002, x122003 => (spec_miEnds.f x122000 x122001 x122002 x122003).bind fun t126 => (if x5 < t126 then ((spec_miEntry.f x122000 x122001 x122002 x122003 x5).bind fun bt127 => (spec_CountTracks.l1 k x4 x5 x122000 x122001 x122002 x122003 bt127.1 bt127.2.1 bt127.2.2)) else (spec_CountTracks.l2 k x4 0 (x4.length : Int) 0 x122000 x122001 x122002 x122003))
def spec_CountTracks.l1 : Nat → List Bool → Int → Int → Int → ByteArray → Bool → Int → Int → Int → Option (Int × Bool)
  | 0, _, _, _, _, _, _, _, _, _ => none
  | k + 1, x4, x5, x122000, x122001, x122002, x122003, x131000, x131001, x131002 => (spec_miBall.f k x122000 x122001 x122002 x122003 x131000 x131001 x131002).bind fun t131 => (if t131 = true then ((spec_miIndex.f x122000 x122001 x122002 x122003 x131000 x131001 x131002).bind fun t132 => (if 0 ≤ t132 then (if t132 < (x4.length : Int) then ((spec_miHit.f k x122000 x122001 x122002 x122003 x131000 x131001 x131002).bind fun bt135 => (spec_CountTracks.l1 k (x4.set (t132 : Int).toNat true) x5 x122000 x122001 x122002 x122003 bt135.2.2.2.2.1 bt135.2.2.2.2.2.1 bt135.2.2.2.2.2.2)) else (none)) else (none))) else (spec_CountTracks.l0 k x4 (wrap64 (x5 + 1)) x122000 x122001 x122002 x122003))
def spec_CountTracks.l2 : Nat → List Bool → Int → Int → Int → Int → Int → ByteArray → Bool → Option (Int × Bool)
  | 0, _, _, _, _, _, _, _, _ => none
  | k + 1, x4, x7, x47, x48, x122000, x122001, x122002, x122003 => if x48 < x47 then (if 0 ≤ x48 then (if x48 < (x4.length : Int) then (if rdOf false x4 x48 = true then (spec_CountTracks.l2 k x4 x7 x47 (wrap64 (x48 + 1)) x122000 x122001 x122002 x122003) else (if x122000 = 0 then (none) else (spec_CountTracks.l3 k x4 (wrap64 (x7 + 1)) x47 x48 x122000 x122001 x122002 x122003 (Int.tmod (wrap64 (Int.tdiv x48 4)) x122000) (wrap64 (Int.tdiv (wrap64 (Int.tdiv x48 4)) x122000)) (Int.tmod x48 4)))) else (none)) else (none)) else (some (wrap64 (Int.tdiv x7 2), true))
def spec_CountTracks.l3 : Nat → List Bool → Int → Int → Int → Int → Int → ByteArray → Bool → Int → Int → Int → Option (Int × Bool)
  | 0, _, _, _, _, _, _, _, _, _, _, _ => none
  | k + 1, x4, x7, x47, x48, x122000, x122001, x122002, x122003, x144000, x144001, x144002 => (spec_miIndex.f x122000 x122001 x122002 x122003 x144000 x144001 x144002).bind fun t144 => (if 0 ≤ t144 then (if t144 < (x4.length : Int) then (if rdOf false x4 t144 = true then (spec_CountTracks.l2 k x4 x7 x47 (wrap64 (x48 + 1)) x122000 x122001 x122002 x122003) else ((spec_miIndex.f x122000 x122001 x122002 x122003 x144000 x144001 x144002).bind fun t146 => (if 0 ≤ t146 then (if t146 < (x4.length : Int) then ((spec_miHit.f k x122000 x122001 x122002 x122003 x144000 x144001 x144002).bind fun bt148 => (spec_CountTracks.l3 k (x4.set (t146 : Int).toNat true) x7 x47 x48 x122000 x122001 x122002 x122003 bt148.2.2.2.2.1 bt148.2.2.2.2.2.1 bt148.2.2.2.2.2.2)) else (none)) else (none)))) else (none)) else (none))
end
def spec_CountTracks.f (k : Nat) (a0_0 : Int) (a0_1 : Int) (a0_2 : ByteArray) (a0_3 : Bool) : Option (Int × Bool) := (spec_miGood.f k a0_0 a0_1 a0_2 a0_3).bind fun t122 => (if t122 = true then (spec_CountTracks.j0 k a0_3 a0_0 a0_1 a0_2 a0_3) else (spec_CountTracks.j0 k true a0_0 a0_1 a0_2 a0_3))
theorem spec_CountTracks.mono_l : ∀ k, (∀ y0 y1 y2 y3 y4, LeO (spec_CountTracks.j0 k y0 y1 y2 y3 y4) (spec_CountTracks.j0 (k + 1) y0 y1 y2 y3 y4)) ∧ (∀ y0 y1 y2 y3 y4 y5, LeO (spec_CountTracks.l0 k y0 y1 y2 y3 y4 y5) (spec_CountTracks.l0 (k + 1) y0 y1 y2 y3 y4 y5)) ∧ (∀ y0 y1 y2 y3 y4 y5 y6 y7 y8, LeO (spec_CountTracks.l1 k y0 y1 y2 y3 y4 y5 y6 y7 y8) (spec_CountTracks.l1 (k + 1) y0 y1 y2 y3 y4 y5 y6 y7 y8)) ∧ (∀ y0 y1 y2 y3 y4 y5 y6 y7, LeO (spec_CountTracks.l2 k y0 y1 y2 y3 y4 y5 y6 y7) (spec_CountTracks.l2 (k + 1) y0 y1 y2 y3 y4 y5 y6 y7)) ∧ (∀ y0 y1 y2 y3 y4 y5 y6 y7 y8 y9 y10, LeO (spec_CountTracks.l3 k y0 y1 y2 y3 y4 y5 y6 y7 y8 y9 y10) (spec_CountTracks.l3 (k + 1) y0 y1 y2 y3 y4 y5 y6 y7 y8 y9 y10))
  | 0 => ⟨fun _ _ _ _ _ r h => by simp [spec_CountTracks.j0] at h, fun _ _ _ _ _ _ r h => by simp [spec_CountTracks.l0] at h, fun _ _ _ _ _ _ _ _ _ r h => by simp [spec_CountTracks.l1] at h, fun _ _ _ _ _ _ _ _ r h => by simp [spec_CountTracks.l2] at h, fun _ _ _ _ _ _ _ _ _ _ _ r h => by simp [spec_CountTracks.l3] at h⟩
  | k + 1 => by
    obtain ⟨ih0, ih1, ih2, ih3, ih4⟩ := spec_CountTracks.mono_l k
    refine ⟨?_, ?_, ?_, ?_, ?_⟩
    · intro y0 y1 y2 y3 y4
      unfold spec_CountTracks.j0
      repeat' first
      | (with_reducible exact ih0 _ _ _ _ _)
      | (with_reducible exact ih1 _ _ _ _ _ _)
      | (with_reducible exact ih2 _ _ _ _ _ _ _ _ _)
      | (with_reducible exact ih3 _ _ _ _ _ _ _ _)
      | (with_reducible exact ih4 _ _ _ _ _ _ _ _ _ _ _)
      | (with_reducible exact spec_miBall.mono _ _ _ _ _ _ _ _)
      | (with_reducible exact spec_miGood.mono _ _ _ _ _)
      | (with_reducible exact spec_miHit.mono _ _ _ _ _ _ _ _)
      | (with_reducible exact LeO.refl _)
      | (with_reducible exact LeO.none _)
      | (with_reducible refine LeO.ite ?_ ?_)
      | (with_reducible refine LeO.bind ?_ (fun _ => ?_))
      | exact ih0 _ _ _ _ _
      | exact ih1 _ _ _ _ _ _
      | exact ih2 _ _ _ _ _ _ _ _ _
      | exact ih3 _ _ _ _ _ _ _ _
      | exact ih4 _ _ _ _ _ _ _ _ _ _ _
      | exact spec_miBall.mono _ _ _ _ _ _ _ _
      | exact spec_miGood.mono _ _ _ _ _
      | exact spec_miHit.mono _ _ _ _ _ _ _ _
      | exact LeO.none _
      | refine LeO.ite ?_ ?_
      | refine LeO.bind ?_ (fun _ => ?_)
    · intro y0 y1 y2 y3 y4 y5
      unfold spec_CountTracks.l0
      repeat' first
      | (with_reducible exact ih0 _ _ _ _ _)
      | (with_reducible exact ih1 _ _ _ _ _ _)
      | (with_reducible exact ih2 _ _ _ _ _ _ _ _ _)
      | (with_reducible exact ih3 _ _ _ _ _ _ _ _)
      | (with_reducible exact ih4 _ _ _ _ _ _ _ _ _ _ _)
      | (with_reducible exact spec_miBall.mono _ _ _ _ _ _ _ _)
      | (with_reducible exact spec_miGood.mono _ _ _ _ _)
      | (with_reducible exact spec_miHit.mono _ _ _ _ _ _ _ _)
      | (with_reducible exact LeO.refl _)
      | (with_reducible exact LeO.none _)
      | (with_reducible refine LeO.ite ?_ ?_)
      | (with_reducible refine LeO.bind ?_ (fun _ => ?_))
      | exact ih0 _ _ _ _ _
      | exact ih1 _ _ _ _ _ _
      | exact ih2 _ _ _ _ _ _ _ _ _
      | exact ih3 _ _ _ _ _ _ _ _
      | exact ih4 _ _ _ _ _ _ _ _ _ _ _
      | exact spec_miBall.mono _ _ _ _ _ _ _ _
      | exact spec_miGood.mono _ _ _ _ _
      | exact spec_miHit.mono _ _ _ _ _ _ _ _
      | exact LeO.none _
      | refine LeO.ite ?_ ?_
      | refine LeO.bind ?_ (fun _ => ?_)
    · intro y0 y1 y2 y3 y4 y5 y6 y7 y8
      unfold spec_CountTracks.l1
      repeat' first
      | (with_reducible exact ih0 _ _ _ _ _)
      | (with_reducible exact ih1 _ _ _ _ _ _)
      | (with_reducible exact ih2 _ _ _ _ _ _ _ _ _)
      | (with_reducible exact ih3 _ _ _ _ _ _ _ _)
      | (with_reducible exact ih4 _ _ _ _ _ _ _ _ _ _ _)
      | (with_reducible exact spec_miBall.mono _ _ _ _ _ _ _ _)
      | (with_reducible exact spec_miGood.mono _ _ _ _ _)
      | (with_reducible exact spec_miHit.mono _ _ _ _ _ _ _ _)
      | (with_reducible exact LeO.refl _)
      | (with_reducible exact LeO.none _)
      | (with_reducible refine LeO.ite ?_ ?_)
      | (with_reducible refine LeO.bind ?_ (fun _ => ?_))
      | exact ih0 _ _ _ _ _
      | exact ih1 _ _ _ _ _ _
      | exact ih2 _ _ _ _ _ _ _ _ _
      | exact ih3 _ _ _ _ _ _ _ _
      | exact ih4 _ _ _ _ _ _ _ _ _ _ _
      | exact spec_miBall.mono _ _ _ _ _ _ _ _
      | exact spec_miGood.mono _ _ _ _ _
      | exact spec_miHit.mono _ _ _ _ _ _ _ _
      | exact LeO.none _
      | refine LeO.ite ?_ ?_
      | refine LeO.bind ?_ (fun _ => ?_)
    · intro y0 y1 y2 y3 y4 y5 y6 y7
      unfold spec_CountTracks.l2
      repeat' first
      | (with_reducible exact ih0 _ _ _ _ _)
      | (with_reducible exact ih1 _ _ _ _ _ _)
      | (with_reducible exact ih2 _ _ _ _ _ _ _ _ _)
      | (with_reducible exact ih3 _ _ _ _ _ _ _ _)
      | (with_reducible exact ih4 _ _ _ _ _ _ _ _ _ _ _)
      | (with_reducible exact spec_miBall.mono _ _ _ _ _ _ _ _)
      | (with_reducible exact spec_miGood.mono _ _ _ _ _)
      | (with_reducible exact spec_miHit.mono _ _ _ _ _ _ _ _)
      | (with_reducible exact LeO.refl _)
      | (with_reducible exact LeO.none _)
      | (with_reducible refine LeO.ite ?_ ?_)
      | (with_reducible refine LeO.bind ?_ (fun _ => ?_))
      | exact ih0 _ _ _ _ _
      | exact ih1 _ _ _ _ _ _
      | exact ih2 _ _ _ _ _ _ _ _ _
      | exact ih3 _ _ _ _ _ _ _ _
      | exact ih4 _ _ _ _ _ _ _ _ _ _ _
      | exact spec_miBall.mono _ _ _ _ _ _ _ _
      | exact spec_miGood.mono _ _ _ _ _
      | exact spec_miHit.mono _ _ _ _ _ _ _ _
      | exact LeO.none _
      | refine LeO.ite ?_ ?_
      | refine LeO.bind ?_ (fun _ => ?_)
    · intro y0 y1 y2 y3 y4 y5 y6 y7 y8 y9 y10
      unfold spec_CountTracks.l3
      repeat' first
      | (with_reducible exact ih0 _ _ _ _ _)
      | (with_reducible exact ih1 _ _ _ _ _ _)
      | (with_reducible exact ih2 _ _ _ _ _ _ _ _ _)
      | (with_reducible exact ih3 _ _ _ _ _ _ _ _)
      | (with_reducible exact ih4 _ _ _ _ _ _ _ _ _ _ _)
      | (with_reducible exact spec_miBall.mono _ _ _ _ _ _ _ _)
      | (with_reducible exact spec_miGood.mono _ _ _ _ _)
      | (with_reducible exact spec_miHit.mono _ _ _ _ _ _ _ _)
      | (with_reducible exact LeO.refl _)
      | (with_reducible exact LeO.none _)
      | (with_reducible refine LeO.ite ?_ ?_)
      | (with_reducible refine LeO.bind ?_ (fun _ => ?_))
      | exact ih0 _ _ _ _ _
      | exact ih1 _ _ _ _ _ _
      | exact ih2 _ _ _ _ _ _ _ _ _
      | exact ih3 _ _ _ _ _ _ _ _
      | exact ih4 _ _ _ _ _ _ _ _ _ _ _
      | exact spec_miBall.mono _ _ _ _ _ _ _ _
      | exact spec_miGood.mono _ _ _ _ _
      | exact spec_miHit.mono _ _ _ _ _ _ _ _
      | exact LeO.none _
      | refine LeO.ite ?_ ?_
      | refine LeO.bind ?_ (fun _ => ?_)
theorem spec_CountTracks.mono : ∀ a0 a1 a2 a3 k, LeO (spec_CountTracks.f k a0 a1 a2 a3) (spec_CountTracks.f (k + 1) a0 a1 a2 a3) := by
  intro a0 a1 a2 a3 k
  obtain ⟨ih0, ih1, ih2, ih3, ih4⟩ := spec_CountTracks.mono_l k
  unfold spec_CountTracks.f
  repeat' first
      | (with_reducible exact ih0 _ _ _ _ _)
      | (with_reducible exact ih1 _ _ _ _ _ _)
      | (with_reducible exact ih2 _ _ _ _ _ _ _ _ _)
      | (with_reducible exact ih3 _ _ _ _ _ _ _ _)
      | (with_reducible exact ih4 _ _ _ _ _ _ _ _ _ _ _)
      | (with_reducible exact spec_miBall.mono _ _ _ _ _ _ _ _)
      | (with_reducible exact spec_miGood.mono _ _ _ _ _)
      | (with_reducible exact spec_miHit.mono _ _ _ _ _ _ _ _)
      | (with_reducible exact LeO.refl _)
      | (with_reducible exact LeO.none _)
      | (with_reducible refine LeO.ite ?_ ?_)
      | (with_reducible refine LeO.bind ?_ (fun _ => ?_))
      | exact ih0 _ _ _ _ _
      | exact ih1 _ _ _ _ _ _
      | exact ih2 _ _ _ _ _ _ _ _ _
      | exact ih3 _ _ _ _ _ _ _ _
      | exact ih4 _ _ _ _ _ _ _ _ _ _ _
      | exact spec_miBall.mono _ _ _ _ _ _ _ _
      | exact spec_miGood.mono _ _ _ _ _
      | exact spec_miHit.mono _ _ _ _ _ _ _ _
      | exact LeO.none _
      | refine LeO.ite ?_ ?_
      | refine LeO.bind ?_ (fun _ => ?_)
def spec_CountTracks.T19 : Bool × List (List Nat × List Nat) := (true, [([], []), ([0], [0]), ([], []), ([2], [2]), ([1, 3], [1, 3]), ([], []), ([5], [5]), ([], []), ([7], [7]), ([6, 8], [6, 8]), ([], []), ([10], [10]), ([4, 9, 11], [4, 9, 11]), ([], []), ([13, 12, 0, 1, 2, 3, 4, 5, 6, 7, 8, 9, 10, 11, 12, 13], [12, 13])])
def spec_CountTracks.B19 : List Nat := [0, 1, 0, 4, 15, 0, 32, 0, 128, 480, 0, 1024, 4095, 0, 16383]
theorem spec_CountTracks.tab19 : rtab .any (opsOf Tryd.f5 19) = spec_CountTracks.T19 := by kernel_rfl
theorem spec_CountTracks.bits19 : waitsOk spec_CountTracks.T19.2 spec_CountTracks.B19 = true := by kernel_rfl
set_option maxHeartbeats 8000000 in
set_option maxRecDepth 100000 in
theorem spec_CountTracks.calls (k : Nat) (a0_0 : Int) (a0_1 : Int) (a0_2 : ByteArray) (a0_3 : Bool) (r1 : Int) (r2 : Bool) (w : World) (h : spec_CountTracks.f k a0_0 a0_1 a0_2 a0_3 = some (r1, r2)) :
    Calls Tryd.prog 5 #[.agg #[.int .i64 a0_0, .int .i64 a0_1, .string a0_2, .bool a0_3]] w fun e w' => e = .returned (.tuple #[.int .i64 r1, .bool r2]) ∧ Below w.heap.size w w' := by
  have hu27 := Tryd.underlying27
  have hu34 := Tryd.underlying34
  have HB := Aside0.mk (Below.refl w.heap.size w)
  have H : ((spec_miGood.f k a0_0 a0_1 a0_2 a0_3).bind fun t122 => (if t122 = true then (spec_CountTracks.j0 k a0_3 a0_0 a0_1 a0_2 a0_3) else (spec_CountTracks.j0 k true a0_0 a0_1 a0_2 a0_3))) = some (r1, r2) := h
  clear h
  have HC2 := Aside0.mk H
  clear H
  go_enter Tryd.func5, Tryd.ntmps5
  go_upto_region 1 with (first | ((with_reducible refine gate_dst (N := 1) rfl ?_); refine box_event ?hg (N := 1) ?hd (cs := #[.int .i64 a0_0, .int .i64 a0_1, .string a0_2, .bool a0_3]) (t := 27) ?hr ?_; (case hd => rfl); (case hg => rfl); (case hr => first | (go_simp; done) | (go_simp; rfl)); intro gb121 hg w3 hbox hb; have n0_ := Aside0.mk (below_step (XSq.bB HB) hb); have n1_ := Aside0.mk (hbox); have n2_ := Aside0.mk ((by rw [hg]; exact (below_size (XSq.bB HB)) : w.heap.size ≤ gb121)); have n3_ := Aside0.mk ((by rw [hg]; exact (below_size (XSq.bB HB)) : w.heap.size ≤ gb121)); clear HB; have HB := n0_; have BK121 := n1_; have GW121 := n2_; have GE121 := n3_; clear n0_ n1_ n2_ n3_; clear hb hbox hg))
  (try simp only [Act.put, List.setIfInBounds_toArray, List.set_cons_zero, List.set_cons_succ])
  go_cut [16] (fun v16 wc => ∃ (kq : Nat) (x16_1 : Bool), v16 = .bool x16_1 ∧ Aside0 (spec_CountTracks.j0 kq x16_1 a0_0 a0_1 a0_2 a0_3 = some (r1, r2)) ∧ Aside0 (kq ≤ k) ∧ Aside0 (wc.heap[gb121]? = some (.cells #[.int .i64 a0_0, .int .i64 a0_1, .string a0_2, .bool a0_3] 27 (0, 0))) ∧ Aside0 (Below w.heap.size w wc))
  case first =>
    have H := HC2.out
    clear HC2
    replace H := Option.bind_eq_some_iff.mp H
    obtain ⟨t122, A40, H⟩ := H
    replace H : (if t122 = true then (spec_CountTracks.j0 k a0_3 a0_0 a0_1 a0_2 a0_3) else (spec_CountTracks.j0 k true a0_0 a0_1 a0_2 a0_3)) = some (r1, r2) := H
    have A4 := Aside0.mk A40
    clear A40
    by_cases c5 : t122 = true
    · subst c5
      have H1 : (spec_CountTracks.j0 k a0_3 a0_0 a0_1 a0_2 a0_3) = some (r1, r2) := by rw [if_pos rfl] at H; exact H
      clear H
      have H := H1
      clear H1
      have H' := Aside0.mk H
      clear H
      have hcz6_0 : w3.cell? ⟨gb121, 0, none⟩ = some (.int .i64 a0_0) := (blk_cell BK121.out 0).trans rfl
      have hcz6_1 : w3.cell? ⟨gb121, 1, none⟩ = some (.int .i64 a0_1) := (blk_cell BK121.out 1).trans rfl
      have hcz6_2 : w3.cell? ⟨gb121, 2, none⟩ = some (.string a0_2) := (blk_cell BK121.out 2).trans rfl
      have hcz6_3 : w3.cell? ⟨gb121, 3, none⟩ = some (.bool a0_3) := (blk_cell BK121.out 3).trans rfl
      have hfz6_0 := blk_frozen BK121.out 0
      have hfz6_1 := blk_frozen BK121.out 1
      have hfz6_2 := blk_frozen BK121.out 2
      have hfz6_3 := blk_frozen BK121.out 3
      go_wp2_with (first | ((with_reducible refine gate_callee (f := 8) rfl ?_); refine goesL_ (some 11) rfl rfl Tryd.func8 (by kernel_rfl) rfl #[.agg #[.int .i64 a0_0, .int .i64 a0_1, .string a0_2, .bool a0_3]] rfl (by (try simp only [List.map_toArray, List.map_cons, List.map_nil]); first | done | rfl | (simp only [List.length_drop, List.length_take]; rfl)) ?_; (with_reducible refine (spec_miGood.calls k a0_0 a0_1 a0_2 a0_3 true _ A4.out).mono ?_); rintro e w7 ⟨rfl, hb⟩; refine ⟨_, rfl, ?_⟩; have n0_ := Aside0.mk (blk_below (g := gb121) (o := .cells #[.int .i64 a0_0, .int .i64 a0_1, .string a0_2, .bool a0_3] 27 (0, 0)) (XSq.bq BK121) hb); have n1_ := Aside0.mk (below_step (XSq.bB HB) hb); clear BK121; clear HB; have BK121 := n0_; have HB := n1_; clear n0_ n1_; (try clear hb); (try clear hb2); (try clear hk); (try clear hi); have hcz8_0 : w7.cell? ⟨gb121, 0, none⟩ = some (.int .i64 a0_0) := (blk_cell BK121.out 0).trans rfl; have hcz8_1 : w7.cell? ⟨gb121, 1, none⟩ = some (.int .i64 a0_1) := (blk_cell BK121.out 1).trans rfl; have hcz8_2 : w7.cell? ⟨gb121, 2, none⟩ = some (.string a0_2) := (blk_cell BK121.out 2).trans rfl; have hcz8_3 : w7.cell? ⟨gb121, 3, none⟩ = some (.bool a0_3) := (blk_cell BK121.out 3).trans rfl; have hfz8_0 := blk_frozen BK121.out 0; have hfz8_1 := blk_frozen BK121.out 1; have hfz8_2 := blk_frozen BK121.out 2; have hfz8_3 := blk_frozen BK121.out 3))
      go_meet
      case rel => exact ⟨_, (a0_3), (by first | rfl | (simp; done) | (simp [*]; done)), H', ⟨by first | omega | exact Nat.le_refl _⟩, ⟨by (with_reducible repeat (first | refine blk_drewN ?_ _ | refine blk_drew ?_ | refine blk_alloc ?_ _)); exact BK121.out⟩, ⟨by repeat (first | (with_reducible first | exact HB.out | apply below_alloc | apply pw_below_drewN | apply below_drew1 | refine below_set ?_ GE121.out) | exact HB.out)⟩⟩
    · replace c5 := Bool.eq_false_iff.mpr c5
      subst c5
      have H1 : (spec_CountTracks.j0 k true a0_0 a0_1 a0_2 a0_3) = some (r1, r2) := by rw [if_neg (show ¬ (false = true) by decide)] at H; exact H
      clear H
      have H := H1
      clear H1
      have H' := Aside0.mk H
      clear H
      have hcz9_0 : w3.cell? ⟨gb121, 0, none⟩ = some (.int .i64 a0_0) := (blk_cell BK121.out 0).trans rfl
      have hcz9_1 : w3.cell? ⟨gb121, 1, none⟩ = some (.int .i64 a0_1) := (blk_cell BK121.out 1).trans rfl
      have hcz9_2 : w3.cell? ⟨gb121, 2, none⟩ = some (.string a0_2) := (blk_cell BK121.out 2).trans rfl
      have hcz9_3 : w3.cell? ⟨gb121, 3, none⟩ = some (.bool a0_3) := (blk_cell BK121.out 3).trans rfl
      have hfz9_0 := blk_frozen BK121.out 0
      have hfz9_1 := blk_frozen BK121.out 1
      have hfz9_2 := blk_frozen BK121.out 2
      have hfz9_3 := blk_frozen BK121.out 3
      go_wp2_with (first | ((with_reducible refine gate_callee (f := 8) rfl ?_); refine goesL_ (some 11) rfl rfl Tryd.func8 (by kernel_rfl) rfl #[.agg #[.int .i64 a0_0, .int .i64 a0_1, .string a0_2, .bool a0_3]] rfl (by (try simp only [List.map_toArray, List.map_cons, List.map_nil]); first | done | rfl | (simp only [List.length_drop, List.length_take]; rfl)) ?_; (with_reducible refine (spec_miGood.calls k a0_0 a0_1 a0_2 a0_3 false _ A4.out).mono ?_); rintro e w10 ⟨rfl, hb⟩; refine ⟨_, rfl, ?_⟩; have n0_ := Aside0.mk (blk_below (g := gb121) (o := .cells #[.int .i64 a0_0, .int .i64 a0_1, .string a0_2, .bool a0_3] 27 (0, 0)) (XSq.bq BK121) hb); have n1_ := Aside0.mk (below_step (XSq.bB HB) hb); clear BK121; clear HB; have BK121 := n0_; have HB := n1_; clear n0_ n1_; (try clear hb); (try clear hb2); (try clear hk); (try clear hi)))
      go_meet
      case rel => exact ⟨_, (true), (by first | rfl | (simp; done) | (simp [*]; done)), H', ⟨by first | omega | exact Nat.le_refl _⟩, ⟨by (with_reducible repeat (first | refine blk_drewN ?_ _ | refine blk_drew ?_ | refine blk_alloc ?_ _)); exact BK121.out⟩, ⟨by repeat (first | (with_reducible first | exact HB.out | apply below_alloc | apply pw_below_drewN | apply below_drew1 | refine below_set ?_ GE121.out) | exact HB.out)⟩⟩
  case rest =>
    clear HC2
    try clear p2
    try clear c5
    try clear c8
    try clear hcz6_0
    try clear hcz6_1
    try clear hcz6_2
    try clear hcz6_3
    try clear hcz8_0
    try clear hcz8_1
    try clear hcz8_2
    try clear hcz8_3
    try clear hcz9_0
    try clear hcz9_1
    try clear hcz9_2
    try clear hcz9_3
    try clear hfz6_0
    try clear hfz6_1
    try clear hfz6_2
    try clear hfz6_3
    try clear hfz8_0
    try clear hfz8_1
    try clear hfz8_2
    try clear hfz8_3
    try clear hfz9_0
    try clear hfz9_1
    try clear hfz9_2
    try clear hfz9_3
    obtain ⟨kq, x16_1, rfl, HA, HJ1, BK121, HB⟩ := hcut
    cases kq with
    | zero => exact absurd HA.out (by simp [spec_CountTracks.j0])
    | succ kj1 =>
      have H := HA.out
      clear HA
      simp only [spec_CountTracks.j0] at H
      by_cases c11 : x16_1 = true
      · subst c11
        have H1 : (some (0, false)) = some (r1, r2) := by rw [if_pos rfl] at H; exact H
        clear H
        have H := H1
        clear H1
        simp only [Option.some.injEq, Prod.mk.injEq] at H
        obtain ⟨rfl, rfl⟩ := H
        go_wp2
        go_ret2
        exact ⟨by first | rfl | (simp [errW_none, errW_some] <;> rfl) | (simp [*, errW_none, errW_some] <;> rfl), by repeat (first | (with_reducible first | exact HB.out | apply below_alloc | apply pw_below_drewN | apply below_drew1 | refine below_set ?_ GE121.out) | exact HB.out)⟩
      · replace c11 := Bool.eq_false_iff.mpr c11
        subst c11
        have H1 : (if 0 ≤ (wrap64 (4 * (a0_2.size : Int))) then (if (wrap64 (4 * (a0_2.size : Int)) : Int).toNat ≤ 281474976710656 then (spec_CountTracks.l0 kj1 (List.replicate (wrap64 (4 * (a0_2.size : Int)) : Int).toNat false) 0 a0_0 a0_1 a0_2 a0_3) else (none)) else (none)) = some (r1, r2) := by rw [if_neg (show ¬ (false = true) by decide)] at H; exact H
        clear H
        have H := H1
        clear H1
        obtain ⟨ji12, hji12⟩ : ∃ j_ : Int, (wrap64 (4 * (a0_2.size : Int))) = j_ := ⟨_, rfl⟩
        replace H : (if 0 ≤ (ji12) then (if (ji12 : Int).toNat ≤ 281474976710656 then (spec_CountTracks.l0 kj1 (List.replicate (ji12 : Int).toNat false) 0 a0_0 a0_1 a0_2 a0_3) else (none)) else (none)) = some (r1, r2) := by first | (rw [hji12] at H; exact H) | (simp only [hji12] at H ⊢; exact H)
        have hji12w : (IntKind.i64.wrap (4 * (a0_2.size : Int))) = ji12 := (i64_w _).trans hji12
        by_cases c13 : 0 ≤ (ji12)
        · rw [if_pos c13] at H
          have c13b0 := eq_true c13
          have c13b1 : decide (0 ≤ (ji12)) = true := decide_eq_true c13
          clear c13
          by_cases c14 : (ji12 : Int).toNat ≤ 281474976710656
          · rw [if_pos c14] at H
            have c14b0 := eq_true c14
            have c14b1 : decide ((ji12 : Int).toNat ≤ 281474976710656) = true := decide_eq_true c14
            clear c14
            obtain ⟨y123, hy123⟩ : ∃ y_ : List Bool, y_ = (List.replicate (ji12 : Int).toNat false) := ⟨_, rfl⟩
            replace H : (spec_CountTracks.l0 kj1 y123 0 a0_0 a0_1 a0_2 a0_3) = some (r1, r2) := by first | (rw [hy123]; with_reducible exact H) | (have H2_ := (Option.bind_some _ _).symm.trans H; rw [hy123]; with_reducible exact H2_) | (have H2_ := (Option.bind_some _ _).symm.trans H; with_reducible exact H2_) | with_reducible exact H | (rw [hy123]; exact H) | exact H
            have Ny123 := Aside0.mk hy123
            clear hy123
            have H' := Aside0.mk H
            clear H
            have hcz15_0 : wc.cell? ⟨gb121, 0, none⟩ = some (.int .i64 a0_0) := (blk_cell BK121.out 0).trans rfl
            have hcz15_1 : wc.cell? ⟨gb121, 1, none⟩ = some (.int .i64 a0_1) := (blk_cell BK121.out 1).trans rfl
            have hcz15_2 : wc.cell? ⟨gb121, 2, none⟩ = some (.string a0_2) := (blk_cell BK121.out 2).trans rfl
            have hcz15_3 : wc.cell? ⟨gb121, 3, none⟩ = some (.bool a0_3) := (blk_cell BK121.out 3).trans rfl
            have hfz15_0 := blk_frozen BK121.out 0
            have hfz15_1 := blk_frozen BK121.out 1
            have hfz15_2 := blk_frozen BK121.out 2
            have hfz15_3 := blk_frozen BK121.out 3
            go_wp2_with (first | ((with_reducible refine gate_dst (N := 21) rfl ?_); refine Kd.R_make Kd.bool _ 4 rfl (N := 21) rfl 31 _ _ rfl ji12 rfl rfl Tryd.underlying31 (.bool false) 1 info4 rfl (by decide) (by omega) false (ok := fun _ => True) (okp := fun _ => True) rfl (fun _ hk => hk) trivial (of_decide_eq_true (by first | (with_reducible assumption) | assumption)) (Nat.le_trans (Nat.mul_le_mul_right _ (of_decide_eq_true (by first | (with_reducible assumption) | assumption) : ji12.toNat ≤ 281474976710656)) (by omega)) (Below.refl _ _) (Nat.le_refl _) ?_; intro v124 w16 ho17 hb hg_ hnew_; clear hg_ hnew_; (first | rw [← Ny123.out] at ho17 | (simp only [Int.reduceToNat] at ho17; rw [← Ny123.out] at ho17)); have n0_ := Aside0.mk (Kd.R_lower ho17 (below_size (XSq.bB HB))); have n1_ := Aside0.mk (blk_below (g := gb121) (o := .cells #[.int .i64 a0_0, .int .i64 a0_1, .string a0_2, .bool a0_3] 27 (0, 0)) (XSq.bq BK121) hb); have n2_ := Aside0.mk (below_step (XSq.bB HB) hb); clear BK121; clear HB; have HO125 := n0_; have BK121 := n1_; have HB := n2_; clear n0_ n1_ n2_; clear hb ho17))
            go_loopg [5] kj1 (fun kq v5 w' => ∃ (x4_2 : List Bool) (x5_2 : Int), v5 = .int .i64 x5_2 ∧ Aside0 (spec_CountTracks.l0 kq x4_2 x5_2 a0_0 a0_1 a0_2 a0_3 = some (r1, r2)) ∧ Aside0 (kq ≤ kj1) ∧ Aside0 (Kd.R Kd.bool 4 w' w.heap.size (fun _ => True) v124 x4_2) ∧ Aside0 (w'.heap[gb121]? = some (.cells #[.int .i64 a0_0, .int .i64 a0_1, .string a0_2, .bool a0_3] 27 (0, 0))) ∧ Aside0 (Below w.heap.size w w'))
            case atStart => exact ⟨(y123), (0), (by first | rfl | (simp; done) | (simp [*]; done)), H', ⟨Nat.le_refl _⟩, ⟨by (with_reducible repeat (first | apply Kd.R_alloc | apply Kd.R_drewN | apply Kd.R_drew)); exact HO125.out⟩, ⟨by (with_reducible repeat (first | refine blk_drewN ?_ _ | refine blk_drew ?_ | refine blk_alloc ?_ _)); exact BK121.out⟩, ⟨by repeat (first | (with_reducible first | exact HB.out | apply below_alloc | apply pw_below_drewN | apply below_drew1 | refine below_set ?_ GE121.out) | exact HB.out)⟩⟩
            case round =>
              clear H'
              try clear c1
              try clear p2
              try clear c5
              try clear p6
              try clear c8
              try clear c11
              try clear c13
              try clear c13b0
              try clear c13b1
              try clear c14
              try clear c14b0
              try clear c14b1
              try clear hcz15_0
              try clear hcz15_1
              try clear hcz15_2
              try clear hcz15_3
              try clear hcz6_0
              try clear hcz6_1
              try clear hcz6_2
              try clear hcz6_3
              try clear hcz8_0
              try clear hcz8_1
              try clear hcz8_2
              try clear hcz8_3
              try clear hcz9_0
              try clear hcz9_1
              try clear hcz9_2
              try clear hcz9_3
              try clear hfz15_0
              try clear hfz15_1
              try clear hfz15_2
              try clear hfz15_3
              try clear hfz6_0
              try clear hfz6_1
              try clear hfz6_2
              try clear hfz6_3
              try clear hfz8_0
              try clear hfz8_1
              try clear hfz8_2
              try clear hfz8_3
              try clear hfz9_0
              try clear hfz9_1
              try clear hfz9_2
              try clear hfz9_3
              try clear p2
              obtain ⟨x4_2, x5_2, rfl, HA, HK2, HO_4, BK121, HB⟩ := hrel
              cases gk with
              | zero => exact absurd HA.out (by simp [spec_CountTracks.l0])
              | succ k2 =>
                have H := HA.out
                clear HA
                simp only [spec_CountTracks.l0] at H
                replace H := Option.bind_eq_some_iff.mp H
                obtain ⟨t126, A180, H⟩ := H
                replace H : (if x5_2 < t126 then ((spec_miEntry.f a0_0 a0_1 a0_2 a0_3 x5_2).bind fun bt127 => (spec_CountTracks.l1 k2 x4_2 x5_2 a0_0 a0_1 a0_2 a0_3 bt127.1 bt127.2.1 bt127.2.2)) else (spec_CountTracks.l2 k2 x4_2 0 (x4_2.length : Int) 0 a0_0 a0_1 a0_2 a0_3)) = some (r1, r2) := H
                have A18 := Aside0.mk A180
                clear A180
                by_cases c19 : x5_2 < t126
                · rw [if_pos c19] at H
                  have c19b0 : decide (x5_2 < t126) = true := decide_eq_true c19
                  clear c19
                  replace H := Option.bind_eq_some_iff.mp H
                  obtain ⟨⟨t127, t128, t129⟩, A200, H⟩ := H
                  replace H : (spec_CountTracks.l1 k2 x4_2 x5_2 a0_0 a0_1 a0_2 a0_3 t127 t128 t129) = some (r1, r2) := H
                  have A20 := Aside0.mk A200
                  clear A200
                  have H' := Aside0.mk H
                  clear H
                  have hcz21_0 : wr.cell? ⟨gb121, 0, none⟩ = some (.int .i64 a0_0) := (blk_cell BK121.out 0).trans rfl
                  have hcz21_1 : wr.cell? ⟨gb121, 1, none⟩ = some (.int .i64 a0_1) := (blk_cell BK121.out 1).trans rfl
                  have hcz21_2 : wr.cell? ⟨gb121, 2, none⟩ = some (.string a0_2) := (blk_cell BK121.out 2).trans rfl
                  have hcz21_3 : wr.cell? ⟨gb121, 3, none⟩ = some (.bool a0_3) := (blk_cell BK121.out 3).trans rfl
                  have hfz21_0 := blk_frozen BK121.out 0
                  have hfz21_1 := blk_frozen BK121.out 1
                  have hfz21_2 := blk_frozen BK121.out 2
                  have hfz21_3 := blk_frozen BK121.out 3
                  go_wp2_with (first | ((with_reducible refine gate_callee (f := 9) rfl ?_); refine goesL_ (some 24) rfl rfl Tryd.func9 (by kernel_rfl) rfl #[.agg #[.int .i64 a0_0, .int .i64 a0_1, .string a0_2, .bool a0_3]] rfl (by (try simp only [List.map_toArray, List.map_cons, List.map_nil]); first | done | rfl | (simp only [List.length_drop, List.length_take]; rfl)) ?_; (with_reducible refine (spec_miEnds.calls a0_0 a0_1 a0_2 a0_3 t126 _ A18.out).mono ?_); rintro e w22 ⟨rfl, hb⟩; refine ⟨_, rfl, ?_⟩; have n0_ := Aside0.mk (Kd.R_below (by (with_reducible repeat (first | apply Kd.R_alloc | apply Kd.R_drewN | apply Kd.R_drew)); exact HO_4.out) hb); have n1_ := Aside0.mk (blk_below (g := gb121) (o := .cells #[.int .i64 a0_0, .int .i64 a0_1, .string a0_2, .bool a0_3] 27 (0, 0)) (XSq.bq BK121) hb); have n2_ := Aside0.mk (below_step (XSq.bB HB) hb); clear HO_4; clear BK121; clear HB; have HO_4 := n0_; have BK121 := n1_; have HB := n2_; clear n0_ n1_ n2_; (try clear hb); (try clear hb2); (try clear hk); (try clear hi); have hcz23_0 : w22.cell? ⟨gb121, 0, none⟩ = some (.int .i64 a0_0) := (blk_cell BK121.out 0).trans rfl; have hcz23_1 : w22.cell? ⟨gb121, 1, none⟩ = some (.int .i64 a0_1) := (blk_cell BK121.out 1).trans rfl; have hcz23_2 : w22.cell? ⟨gb121, 2, none⟩ = some (.string a0_2) := (blk_cell BK121.out 2).trans rfl; have hcz23_3 : w22.cell? ⟨gb121, 3, none⟩ = some (.bool a0_3) := (blk_cell BK121.out 3).trans rfl; have hfz23_0 := blk_frozen BK121.out 0; have hfz23_1 := blk_frozen BK121.out 1; have hfz23_2 := blk_frozen BK121.out 2; have hfz23_3 := blk_frozen BK121.out 3) | ((with_reducible refine gate_callee (f := 10) rfl ?_); refine goesL_ (some 30) rfl rfl Tryd.func10 (by kernel_rfl) rfl #[.agg #[.int .i64 a0_0, .int .i64 a0_1, .string a0_2, .bool a0_3], .int .i64 x5_2] rfl (by (try simp only [List.map_toArray, List.map_cons, List.map_nil]); first | done | rfl | (simp only [List.length_drop, List.length_take]; rfl)) ?_; (with_reducible refine (spec_miEntry.calls a0_0 a0_1 a0_2 a0_3 x5_2 t127 t128 t129 _ A20.out).mono ?_); rintro e w24 ⟨rfl, hb⟩; refine ⟨_, rfl, ?_⟩; have n0_ := Aside0.mk (Kd.R_below (by (with_reducible repeat (first | apply Kd.R_alloc | apply Kd.R_drewN | apply Kd.R_drew)); exact HO_4.out) hb); have n1_ := Aside0.mk (blk_below (g := gb121) (o := .cells #[.int .i64 a0_0, .int .i64 a0_1, .string a0_2, .bool a0_3] 27 (0, 0)) (XSq.bq BK121) hb); have n2_ := Aside0.mk (below_step (XSq.bB HB) hb); clear HO_4; clear BK121; clear HB; have HO_4 := n0_; have BK121 := n1_; have HB := n2_; clear n0_ n1_ n2_; (try clear hb); (try clear hb2); (try clear hk); (try clear hi)) | ((with_reducible refine gate_dst (N := 6) rfl ?_); refine box_event ?hg (N := 6) ?hd (cs := #[.int .i64 0, .int .i64 0, .int .i64 0]) (t := 34) ?hr ?_; (case hd => rfl); (case hg => rfl); (case hr => first | (go_simp; done) | (go_simp; rfl)); intro gb130 hg w25 hbox hb; have n0_ := Aside0.mk (Kd.R_below (by (with_reducible repeat (first | apply Kd.R_alloc | apply Kd.R_drewN | apply Kd.R_drew)); exact HO_4.out) hb); have n1_ := Aside0.mk (blk_below (g := gb121) (o := .cells #[.int .i64 a0_0, .int .i64 a0_1, .string a0_2, .bool a0_3] 27 (0, 0)) (XSq.bq BK121) hb); have n2_ := Aside0.mk (below_step (XSq.bB HB) hb); have n3_ := Aside0.mk (hbox); have n4_ := Aside0.mk ((by rw [hg]; exact (below_size (XSq.bB HB)) : w.heap.size ≤ gb130)); have n5_ := Aside0.mk ((by rw [hg]; exact (below_size (XSq.bB HB)) : w.heap.size ≤ gb130)); have n6_ := Aside0.mk ((by rw [hg]; exact Nat.ne_of_lt (blk_lt (g := gb121) (o := .cells #[.int .i64 a0_0, .int .i64 a0_1, .string a0_2, .bool a0_3] 27 (0, 0)) (XSq.bq BK121)) : gb121 ≠ gb130)); have n7_ := Aside0.mk ((by rw [hg]; exact Nat.ne_of_gt (blk_lt (g := gb121) (o := .cells #[.int .i64 a0_0, .int .i64 a0_1, .string a0_2, .bool a0_3] 27 (0, 0)) (XSq.bq BK121)) : gb130 ≠ gb121)); clear HO_4; clear BK121; clear HB; have HO_4 := n0_; have BK121 := n1_; have HB := n2_; have BK130 := n3_; have GW130 := n4_; have GE130 := n5_; have NB121_130 := n6_; have NB130_121 := n7_; clear n0_ n1_ n2_ n3_ n4_ n5_ n6_ n7_; clear hb hbox hg; have hnb26 := NB130_121.out; have hnc26 := NB121_130.out; have hcz27_0 : w25.cell? ⟨gb130, 0, none⟩ = some (.int .i64 0) := (blk_cell BK130.out 0).trans rfl; have hcz27_1 : w25.cell? ⟨gb130, 1, none⟩ = some (.int .i64 0) := (blk_cell BK130.out 1).trans rfl; have hcz27_2 : w25.cell? ⟨gb130, 2, none⟩ = some (.int .i64 0) := (blk_cell BK130.out 2).trans rfl; have hfz27_0 := blk_frozen BK130.out 0; have hfz27_1 := blk_frozen BK130.out 1; have hfz27_2 := blk_frozen BK130.out 2))
                  go_loopg [6] k2 (fun kq v6 w' => ∃ (g6 : Nat) (x4_3 : List Bool) (q127 q128 q129 : Int), v6 = .pointer (some ⟨g6, 0, none⟩) ∧ Aside0 (spec_CountTracks.l1 kq x4_3 x5_2 a0_0 a0_1 a0_2 a0_3 q127 q128 q129 = some (r1, r2)) ∧ Aside0 (kq ≤ k2) ∧ Aside0 (Kd.R Kd.bool 4 w' w.heap.size (fun _ => True) v124 x4_3) ∧ Aside0 (w'.heap[gb121]? = some (.cells #[.int .i64 a0_0, .int .i64 a0_1, .string a0_2, .bool a0_3] 27 (0, 0))) ∧ Aside0 (w'.heap[g6]? = some (.cells #[.int .i64 q127, .int .i64 q128, .int .i64 q129] 34 (0, 0))) ∧ Aside0 (w.heap.size ≤ g6) ∧ Aside0 (w.heap.size ≤ g6) ∧ Aside0 (gb121 ≠ g6) ∧ Aside0 (g6 ≠ gb121) ∧ Aside0 (Below w.heap.size w w'))
                  case atStart => exact ⟨gb130, (x4_2), t127, t128, t129, rfl, H', ⟨Nat.le_refl _⟩, ⟨by (with_reducible repeat (first | apply Kd.R_alloc | apply Kd.R_drewN | apply Kd.R_drew)); exact Kd.R_mono (Kd.R_far (p := ⟨gb130, 2, none⟩) (Kd.R_far (p := ⟨gb130, 1, none⟩) (Kd.R_far (p := ⟨gb130, 0, none⟩) (Kd.R_types HO_4.out BK130.out (by decide)) (fun _ hk => hk.2) (.int .i64 t127)) (fun _ hk => hk.2) (.int .i64 t128)) (fun _ hk => hk.2) (.int .i64 t129)) (fun _ hk => trivial)⟩, ⟨by (with_reducible repeat (first | refine blk_drewN ?_ _ | refine blk_drew ?_ | refine blk_alloc ?_ _)); refine blk_far ?_ NB121_130.out _; (with_reducible repeat (first | refine blk_drewN ?_ _ | refine blk_drew ?_ | refine blk_alloc ?_ _)); refine blk_far ?_ NB121_130.out _; (with_reducible repeat (first | refine blk_drewN ?_ _ | refine blk_drew ?_ | refine blk_alloc ?_ _)); refine blk_far ?_ NB121_130.out _; (with_reducible repeat (first | refine blk_drewN ?_ _ | refine blk_drew ?_ | refine blk_alloc ?_ _)); exact BK121.out⟩, ⟨by (with_reducible repeat (first | refine blk_drewN ?_ _ | refine blk_drew ?_ | refine blk_alloc ?_ _)); refine blk_put (cs := #[.int .i64 t127, .int .i64 t128, .int .i64 0]) ?_ 2 _ rfl; (with_reducible repeat (first | refine blk_drewN ?_ _ | refine blk_drew ?_ | refine blk_alloc ?_ _)); refine blk_put (cs := #[.int .i64 t127, .int .i64 0, .int .i64 0]) ?_ 1 _ rfl; (with_reducible repeat (first | refine blk_drewN ?_ _ | refine blk_drew ?_ | refine blk_alloc ?_ _)); refine blk_put (cs := #[.int .i64 0, .int .i64 0, .int .i64 0]) ?_ 0 _ rfl; (with_reducible repeat (first | refine blk_drewN ?_ _ | refine blk_drew ?_ | refine blk_alloc ?_ _)); exact BK130.out⟩, GW130, GE130, NB121_130, NB130_121, ⟨by repeat (first | (with_reducible first | exact HB.out | apply below_alloc | apply pw_below_drewN | apply below_drew1 | refine below_set ?_ GE121.out | refine below_set ?_ GE130.out) | exact HB.out)⟩⟩
                  case round =>
                    clear H'
                    try clear c1
                    try clear c2
                    try clear p2
                    try clear c5
                    try clear p6
                    try clear c8
                    try clear c9
                    try clear c10
                    try clear c11
                    try clear c13
                    try clear c13b0
                    try clear c13b1
                    try clear c14
                    try clear c14b0
                    try clear c14b1
                    try clear c19
                    try clear c19b0
                    try clear c26
                    try clear hcz15_0
                    try clear hcz15_1
                    try clear hcz15_2
                    try clear hcz15_3
                    try clear hcz21_0
                    try clear hcz21_1
                    try clear hcz21_2
                    try clear hcz21_3
                    try clear hcz23_0
                    try clear hcz23_1
                    try clear hcz23_2
                    try clear hcz23_3
                    try clear hcz27_0
                    try clear hcz27_1
                    try clear hcz27_2
                    try clear hcz6_0
                    try clear hcz6_1
                    try clear hcz6_2
                    try clear hcz6_3
                    try clear hcz8_0
                    try clear hcz8_1
                    try clear hcz8_2
                    try clear hcz8_3
                    try clear hcz9_0
                    try clear hcz9_1
                    try clear hcz9_2
                    try clear hcz9_3
                    try clear hfz15_0
                    try clear hfz15_1
                    try clear hfz15_2
                    try clear hfz15_3
                    try clear hfz21_0
                    try clear hfz21_1
                    try clear hfz21_2
                    try clear hfz21_3
                    try clear hfz23_0
                    try clear hfz23_1
                    try clear hfz23_2
                    try clear hfz23_3
                    try clear hfz27_0
                    try clear hfz27_1
                    try clear hfz27_2
                    try clear hfz6_0
                    try clear hfz6_1
                    try clear hfz6_2
                    try clear hfz6_3
                    try clear hfz8_0
                    try clear hfz8_1
                    try clear hfz8_2
                    try clear hfz8_3
                    try clear hfz9_0
                    try clear hfz9_1
                    try clear hfz9_2
                    try clear hfz9_3
                    try clear p2
                    try clear p6
                    clear BK130 GW130 GE130 NB121_130 NB130_121
                    obtain ⟨gb130, x4_3, t127, t128, t129, rfl, HA, HK3, HO_4, BK121, BK130, GW130, GE130, NB121_130, NB130_121, HB⟩ := hrel
                    cases gk with
                    | zero => exact absurd HA.out (by simp [spec_CountTracks.l1])
                    | succ k3 =>
                      have H := HA.out
                      clear HA
                      simp only [spec_CountTracks.l1] at H
                      replace H := Option.bind_eq_some_iff.mp H
                      obtain ⟨t131, A280, H⟩ := H
                      replace H : (if t131 = true then ((spec_miIndex.f a0_0 a0_1 a0_2 a0_3 t127 t128 t129).bind fun t132 => (if 0 ≤ t132 then (if t132 < (x4_3.length : Int) then ((spec_miHit.f k3 a0_0 a0_1 a0_2 a0_3 t127 t128 t129).bind fun bt135 => (spec_CountTracks.l1 k3 (x4_3.set (t132 : Int).toNat true) x5_2 a0_0 a0_1 a0_2 a0_3 bt135.2.2.2.2.1 bt135.2.2.2.2.2.1 bt135.2.2.2.2.2.2)) else (none)) else (none))) else (spec_CountTracks.l0 k3 x4_3 (wrap64 (x5_2 + 1)) a0_0 a0_1 a0_2 a0_3)) = some (r1, r2) := H
                      have A28 := Aside0.mk A280
                      clear A280
                      by_cases c29 : t131 = true
                      · subst c29
                        have H1 : ((spec_miIndex.f a0_0 a0_1 a0_2 a0_3 t127 t128 t129).bind fun t132 => (if 0 ≤ t132 then (if t132 < (x4_3.length : Int) then ((spec_miHit.f k3 a0_0 a0_1 a0_2 a0_3 t127 t128 t129).bind fun bt135 => (spec_CountTracks.l1 k3 (x4_3.set (t132 : Int).toNat true) x5_2 a0_0 a0_1 a0_2 a0_3 bt135.2.2.2.2.1 bt135.2.2.2.2.2.1 bt135.2.2.2.2.2.2)) else (none)) else (none))) = some (r1, r2) := by rw [if_pos rfl] at H; exact H
                        clear H
                        have H := H1
                        clear H1
                        replace H := Option.bind_eq_some_iff.mp H
                        obtain ⟨t132, A300, H⟩ := H
                        replace H : (if 0 ≤ t132 then (if t132 < (x4_3.length : Int) then ((spec_miHit.f k3 a0_0 a0_1 a0_2 a0_3 t127 t128 t129).bind fun bt135 => (spec_CountTracks.l1 k3 (x4_3.set (t132 : Int).toNat true) x5_2 a0_0 a0_1 a0_2 a0_3 bt135.2.2.2.2.1 bt135.2.2.2.2.2.1 bt135.2.2.2.2.2.2)) else (none)) else (none)) = some (r1, r2) := H
                        have A30 := Aside0.mk A300
                        clear A300
                        by_cases c31 : 0 ≤ t132
                        · rw [if_pos c31] at H
                          have c31b0 : decide (0 ≤ t132) = true := decide_eq_true c31
                          clear c31
                          by_cases c32 : t132 < (x4_3.length : Int)
                          · rw [if_pos c32] at H
                            have c32b0 : decide (t132 < (x4_3.length : Int)) = true := decide_eq_true c32
                            clear c32
                            obtain ⟨y133, hy133⟩ : ∃ y_ : List Bool, y_ = (x4_3.set (t132 : Int).toNat true) := ⟨_, rfl⟩
                            replace H : ((spec_miHit.f k3 a0_0 a0_1 a0_2 a0_3 t127 t128 t129).bind fun bt135 => (spec_CountTracks.l1 k3 y133 x5_2 a0_0 a0_1 a0_2 a0_3 bt135.2.2.2.2.1 bt135.2.2.2.2.2.1 bt135.2.2.2.2.2.2)) = some (r1, r2) := by first | (rw [hy133]; with_reducible exact H) | (have H2_ := (Option.bind_some _ _).symm.trans H; rw [hy133]; with_reducible exact H2_) | (have H2_ := (Option.bind_some _ _).symm.trans H; with_reducible exact H2_) | with_reducible exact H | (rw [hy133]; exact H) | exact H
                            have Ny133 := Aside0.mk hy133
                            clear hy133
                            replace H := Option.bind_eq_some_iff.mp H
                            obtain ⟨⟨t135, t136, t137, t138, t139, t140, t141⟩, A340, H⟩ := H
                            replace H : (spec_CountTracks.l1 k3 y133 x5_2 a0_0 a0_1 a0_2 a0_3 t139 t140 t141) = some (r1, r2) := H
                            have A34 := Aside0.mk A340
                            clear A340
                            have H' := Aside0.mk H
                            clear H
                            have hnb35 := NB121_130.out
                            have hnc35 := NB130_121.out
                            have hcz36_0 : wr.cell? ⟨gb121, 0, none⟩ = some (.int .i64 a0_0) := (blk_cell BK121.out 0).trans rfl
                            have hcz36_1 : wr.cell? ⟨gb121, 1, none⟩ = some (.int .i64 a0_1) := (blk_cell BK121.out 1).trans rfl
                            have hcz36_2 : wr.cell? ⟨gb121, 2, none⟩ = some (.string a0_2) := (blk_cell BK121.out 2).trans rfl
                            have hcz36_3 : wr.cell? ⟨gb121, 3, none⟩ = some (.bool a0_3) := (blk_cell BK121.out 3).trans rfl
                            have hfz36_0 := blk_frozen BK121.out 0
                            have hfz36_1 := blk_frozen BK121.out 1
                            have hfz36_2 := blk_frozen BK121.out 2
                            have hfz36_3 := blk_frozen BK121.out 3
                            have hcz37_0 : wr.cell? ⟨gb130, 0, none⟩ = some (.int .i64 t127) := (blk_cell BK130.out 0).trans rfl
                            have hcz37_1 : wr.cell? ⟨gb130, 1, none⟩ = some (.int .i64 t128) := (blk_cell BK130.out 1).trans rfl
                            have hcz37_2 : wr.cell? ⟨gb130, 2, none⟩ = some (.int .i64 t129) := (blk_cell BK130.out 2).trans rfl
                            have hfz37_0 := blk_frozen BK130.out 0
                            have hfz37_1 := blk_frozen BK130.out 1
                            have hfz37_2 := blk_frozen BK130.out 2
                            go_wp2_with (first | ((with_reducible refine gate_callee (f := 11) rfl ?_); refine goesL_ (some 33) rfl rfl Tryd.func11 (by kernel_rfl) rfl #[.agg #[.int .i64 a0_0, .int .i64 a0_1, .string a0_2, .bool a0_3], .agg #[.int .i64 t127, .int .i64 t128, .int .i64 t129]] rfl (by (try simp only [List.map_toArray, List.map_cons, List.map_nil]); first | done | rfl | (simp only [List.length_drop, List.length_take]; rfl)) ?_; (with_reducible refine (spec_miBall.calls k3 a0_0 a0_1 a0_2 a0_3 t127 t128 t129 true _ A28.out).mono ?_); rintro e w38 ⟨rfl, hb⟩; refine ⟨_, rfl, ?_⟩; have n0_ := Aside0.mk (Kd.R_below (by (with_reducible repeat (first | apply Kd.R_alloc | apply Kd.R_drewN | apply Kd.R_drew)); exact HO_4.out) hb); have n1_ := Aside0.mk (blk_below (g := gb121) (o := .cells #[.int .i64 a0_0, .int .i64 a0_1, .string a0_2, .bool a0_3] 27 (0, 0)) (XSq.bq BK121) hb); have n2_ := Aside0.mk (blk_below (g := gb130) (o := .cells #[.int .i64 t127, .int .i64 t128, .int .i64 t129] 34 (0, 0)) (XSq.bq BK130) hb); have n3_ := Aside0.mk (below_step (XSq.bB HB) hb); clear HO_4; clear BK121; clear BK130; clear HB; have HO_4 := n0_; have BK121 := n1_; have BK130 := n2_; have HB := n3_; clear n0_ n1_ n2_ n3_; (try clear hb); (try clear hb2); (try clear hk); (try clear hi); have hcz39_0 : w38.cell? ⟨gb121, 0, none⟩ = some (.int .i64 a0_0) := (blk_cell BK121.out 0).trans rfl; have hcz39_1 : w38.cell? ⟨gb121, 1, none⟩ = some (.int .i64 a0_1) := (blk_cell BK121.out 1).trans rfl; have hcz39_2 : w38.cell? ⟨gb121, 2, none⟩ = some (.string a0_2) := (blk_cell BK121.out 2).trans rfl; have hcz39_3 : w38.cell? ⟨gb121, 3, none⟩ = some (.bool a0_3) := (blk_cell BK121.out 3).trans rfl; have hfz39_0 := blk_frozen BK121.out 0; have hfz39_1 := blk_frozen BK121.out 1; have hfz39_2 := blk_frozen BK121.out 2; have hfz39_3 := blk_frozen BK121.out 3; have hcz40_0 : w38.cell? ⟨gb130, 0, none⟩ = some (.int .i64 t127) := (blk_cell BK130.out 0).trans rfl; have hcz40_1 : w38.cell? ⟨gb130, 1, none⟩ = some (.int .i64 t128) := (blk_cell BK130.out 1).trans rfl; have hcz40_2 : w38.cell? ⟨gb130, 2, none⟩ = some (.int .i64 t129) := (blk_cell BK130.out 2).trans rfl; have hfz40_0 := blk_frozen BK130.out 0; have hfz40_1 := blk_frozen BK130.out 1; have hfz40_2 := blk_frozen BK130.out 2) | ((with_reducible refine gate_callee (f := 13) rfl ?_); refine goesL_ (some 43) rfl rfl Tryd.func13 (by kernel_rfl) rfl #[.agg #[.int .i64 a0_0, .int .i64 a0_1, .string a0_2, .bool a0_3], .agg #[.int .i64 t127, .int .i64 t128, .int .i64 t129]] rfl (by (try simp only [List.map_toArray, List.map_cons, List.map_nil]); first | done | rfl | (simp only [List.length_drop, List.length_take]; rfl)) ?_; (with_reducible refine (spec_miIndex.calls a0_0 a0_1 a0_2 a0_3 t127 t128 t129 t132 _ A30.out).mono ?_); rintro e w41 ⟨rfl, hb⟩; refine ⟨_, rfl, ?_⟩; have n0_ := Aside0.mk (Kd.R_below (by (with_reducible repeat (first | apply Kd.R_alloc | apply Kd.R_drewN | apply Kd.R_drew)); exact HO_4.out) hb); have n1_ := Aside0.mk (blk_below (g := gb121) (o := .cells #[.int .i64 a0_0, .int .i64 a0_1, .string a0_2, .bool a0_3] 27 (0, 0)) (XSq.bq BK121) hb); have n2_ := Aside0.mk (blk_below (g := gb130) (o := .cells #[.int .i64 t127, .int .i64 t128, .int .i64 t129] 34 (0, 0)) (XSq.bq BK130) hb); have n3_ := Aside0.mk (below_step (XSq.bB HB) hb); clear HO_4; clear BK121; clear BK130; clear HB; have HO_4 := n0_; have BK121 := n1_; have BK130 := n2_; have HB := n3_; clear n0_ n1_ n2_ n3_; (try clear hb); (try clear hb2); (try clear hk); (try clear hi); have p33 : 0 ≤ (t132 : Int) := of_decide_eq_true (by first | (with_reducible assumption) | assumption); have q33 : (t132 : Int) < ((x4_3.length : Int) : Int) := of_decide_eq_true (by first | (with_reducible assumption) | assumption); obtain ⟨go33, co33, eo33, gb33, gl33, cl33, HG33⟩ := Kd.R_form HO_4.out (by omega); (first | cases eo33 | (injection eo33 with ea_ en_ ec_; (first | subst ea_ | (injection ea_ with ea_; subst ea_)); subst ec_; clear en_)); have GB33 := Aside0.mk gb33; have GG33 := Aside0.mk HG33; clear gb33 gl33 HG33; obtain ⟨hx33_0, hf33_0⟩ := Kd.R_celln false HO_4.out (t132 : Int) p33 q33; replace p33 := eq_true p33; replace q33 := eq_true q33; obtain ⟨hy42_, hz42_⟩ := Kd.R_celln false HO_4.out (t132 : Int) (of_decide_eq_true (by first | (with_reducible assumption) | assumption)) (of_decide_eq_true (by first | (with_reducible assumption) | assumption)); have HP42 := Kd.R_putg HO_4.out (t132 : Int) true) | ((with_reducible refine gate_store (t := 4) (p := 44) rfl ?_); refine store_event (t := 4) (p := 44) (v := ?vo_w43) (w1 := (w41.setCell ⟨go33, (t132 : Int).toNat, none⟩ (.bool true))) ?hg ?ho ?hn ?hr ?_; (case ho => rfl); (case hg => rfl); (case hn => rfl); (case hr => first | (go_simp; done) | (go_simp; rfl)); intro w43 hw; have hg : w41.grownBy w43 (some go33) := (by rw [hw]; exact HP42.2); have hp_ : Kd.R Kd.bool 4 w43 w.heap.size (fun _ => True) (.slice (some ⟨go33, 0, none⟩) x4_3.length co33) y133 := (by rw [hw, Ny133.out]; exact HP42.1); clear HP42; have n0_ := Aside0.mk (hp_); have n1_ := Aside0.mk (blk_grown (g := gb121) (o := .cells #[.int .i64 a0_0, .int .i64 a0_1, .string a0_2, .bool a0_3] 27 (0, 0)) (XSq.bq BK121) hg (Kd.R_ne HO_4.out BK121.out (by decide))); have n2_ := Aside0.mk (blk_grown (g := gb130) (o := .cells #[.int .i64 t127, .int .i64 t128, .int .i64 t129] 34 (0, 0)) (XSq.bq BK130) hg (Kd.R_ne HO_4.out BK130.out (by decide))); have n3_ := Aside0.mk ((by rw [hw]; exact below_set (HB.out) GB33.out : Below w.heap.size w w43)); clear HO_4; clear BK121; clear BK130; clear HB; have HO_4 := n0_; have BK121 := n1_; have BK130 := n2_; have HB := n3_; clear n0_ n1_ n2_ n3_; clear hg hw hp_; have hcz44_0 : w43.cell? ⟨gb130, 0, none⟩ = some (.int .i64 t127) := (blk_cell BK130.out 0).trans rfl; have hcz44_1 : w43.cell? ⟨gb130, 1, none⟩ = some (.int .i64 t128) := (blk_cell BK130.out 1).trans rfl; have hcz44_2 : w43.cell? ⟨gb130, 2, none⟩ = some (.int .i64 t129) := (blk_cell BK130.out 2).trans rfl; have hfz44_0 := blk_frozen BK130.out 0; have hfz44_1 := blk_frozen BK130.out 1; have hfz44_2 := blk_frozen BK130.out 2) | ((with_reducible refine gate_dst (N := 6) rfl ?_); refine box_event ?hg (N := 6) ?hd (cs := #[.int .i64 0, .int .i64 0, .int .i64 0]) (t := 34) ?hr ?_; (case hd => rfl); (case hg => rfl); (case hr => first | (go_simp; done) | (go_simp; rfl)); intro gb134 hg w45 hbox hb; have n0_ := Aside0.mk (Kd.R_below (by (with_reducible repeat (first | apply Kd.R_alloc | apply Kd.R_drewN | apply Kd.R_drew)); exact HO_4.out) hb); have n1_ := Aside0.mk (blk_below (g := gb121) (o := .cells #[.int .i64 a0_0, .int .i64 a0_1, .string a0_2, .bool a0_3] 27 (0, 0)) (XSq.bq BK121) hb); have n2_ := Aside0.mk (blk_below (g := gb130) (o := .cells #[.int .i64 t127, .int .i64 t128, .int .i64 t129] 34 (0, 0)) (XSq.bq BK130) hb); have n3_ := Aside0.mk (below_step (XSq.bB HB) hb); have n4_ := Aside0.mk (hbox); have n5_ := Aside0.mk ((by rw [hg]; exact (below_size (XSq.bB HB)) : w.heap.size ≤ gb134)); have n6_ := Aside0.mk ((by rw [hg]; exact (below_size (XSq.bB HB)) : w.heap.size ≤ gb134)); have n7_ := Aside0.mk ((by rw [hg]; exact Nat.ne_of_lt (blk_lt (g := gb121) (o := .cells #[.int .i64 a0_0, .int .i64 a0_1, .string a0_2, .bool a0_3] 27 (0, 0)) (XSq.bq BK121)) : gb121 ≠ gb134)); have n8_ := Aside0.mk ((by rw [hg]; exact Nat.ne_of_gt (blk_lt (g := gb121) (o := .cells #[.int .i64 a0_0, .int .i64 a0_1, .string a0_2, .bool a0_3] 27 (0, 0)) (XSq.bq BK121)) : gb134 ≠ gb121)); have n9_ := Aside0.mk ((by rw [hg]; exact Nat.ne_of_lt (blk_lt (g := gb130) (o := .cells #[.int .i64 t127, .int .i64 t128, .int .i64 t129] 34 (0, 0)) (XSq.bq BK130)) : gb130 ≠ gb134)); have n10_ := Aside0.mk ((by rw [hg]; exact Nat.ne_of_gt (blk_lt (g := gb130) (o := .cells #[.int .i64 t127, .int .i64 t128, .int .i64 t129] 34 (0, 0)) (XSq.bq BK130)) : gb134 ≠ gb130)); clear HO_4; clear BK121; clear BK130; clear HB; have HO_4 := n0_; have BK121 := n1_; have BK130 := n2_; have HB := n3_; have BK134 := n4_; have GW134 := n5_; have GE134 := n6_; have NB121_134 := n7_; have NB134_121 := n8_; have NB130_134 := n9_; have NB134_130 := n10_; clear n0_ n1_ n2_ n3_ n4_ n5_ n6_ n7_ n8_ n9_ n10_; clear hb hbox hg; have hnb46 := NB134_121.out; have hnc46 := NB121_134.out; have hnb47 := NB134_130.out; have hnc47 := NB130_134.out; have hcz48_0 : w45.cell? ⟨gb134, 0, none⟩ = some (.int .i64 0) := (blk_cell BK134.out 0).trans rfl; have hcz48_1 : w45.cell? ⟨gb134, 1, none⟩ = some (.int .i64 0) := (blk_cell BK134.out 1).trans rfl; have hcz48_2 : w45.cell? ⟨gb134, 2, none⟩ = some (.int .i64 0) := (blk_cell BK134.out 2).trans rfl; have hfz48_0 := blk_frozen BK134.out 0; have hfz48_1 := blk_frozen BK134.out 1; have hfz48_2 := blk_frozen BK134.out 2; have hcz49_0 : w45.cell? ⟨gb121, 0, none⟩ = some (.int .i64 a0_0) := (blk_cell BK121.out 0).trans rfl; have hcz49_1 : w45.cell? ⟨gb121, 1, none⟩ = some (.int .i64 a0_1) := (blk_cell BK121.out 1).trans rfl; have hcz49_2 : w45.cell? ⟨gb121, 2, none⟩ = some (.string a0_2) := (blk_cell BK121.out 2).trans rfl; have hcz49_3 : w45.cell? ⟨gb121, 3, none⟩ = some (.bool a0_3) := (blk_cell BK121.out 3).trans rfl; have hfz49_0 := blk_frozen BK121.out 0; have hfz49_1 := blk_frozen BK121.out 1; have hfz49_2 := blk_frozen BK121.out 2; have hfz49_3 := blk_frozen BK121.out 3) | ((with_reducible refine gate_callee (f := 12) rfl ?_); refine goesL_ (some 37) rfl rfl Tryd.func12 (by kernel_rfl) rfl #[.agg #[.int .i64 a0_0, .int .i64 a0_1, .string a0_2, .bool a0_3], .agg #[.int .i64 t127, .int .i64 t128, .int .i64 t129]] rfl (by (try simp only [List.map_toArray, List.map_cons, List.map_nil]); first | done | rfl | (simp only [List.length_drop, List.length_take]; rfl)) ?_; (with_reducible refine (spec_miHit.calls k3 a0_0 a0_1 a0_2 a0_3 t127 t128 t129 t135 t136 t137 t138 t139 t140 t141 _ A34.out).mono ?_); rintro e w50 ⟨rfl, hb⟩; refine ⟨_, rfl, ?_⟩; have n0_ := Aside0.mk (Kd.R_below (by (with_reducible repeat (first | apply Kd.R_alloc | apply Kd.R_drewN | apply Kd.R_drew)); exact (Kd.R_mono (Kd.R_far (p := ⟨gb134, 2, none⟩) (Kd.R_far (p := ⟨gb134, 1, none⟩) (Kd.R_far (p := ⟨gb134, 0, none⟩) (Kd.R_types HO_4.out BK134.out (by decide)) (fun _ hk => hk.2) (.int .i64 t127)) (fun _ hk => hk.2) (.int .i64 t128)) (fun _ hk => hk.2) (.int .i64 t129)) (fun _ h_ => h_.1))) hb); have n1_ := Aside0.mk (blk_below (g := gb121) (o := .cells #[.int .i64 a0_0, .int .i64 a0_1, .string a0_2, .bool a0_3] 27 (0, 0)) (by (with_reducible repeat (first | refine blk_drewN ?_ _ | refine blk_drew ?_ | refine blk_alloc ?_ _)); refine blk_far ?_ NB121_134.out _; (with_reducible repeat (first | refine blk_drewN ?_ _ | refine blk_drew ?_ | refine blk_alloc ?_ _)); refine blk_far ?_ NB121_134.out _; (with_reducible repeat (first | refine blk_drewN ?_ _ | refine blk_drew ?_ | refine blk_alloc ?_ _)); refine blk_far ?_ NB121_134.out _; (with_reducible repeat (first | refine blk_drewN ?_ _ | refine blk_drew ?_ | refine blk_alloc ?_ _)); exact BK121.out) hb); have n2_ := Aside0.mk (blk_below (g := gb130) (o := .cells #[.int .i64 t127, .int .i64 t128, .int .i64 t129] 34 (0, 0)) (by (with_reducible repeat (first | refine blk_drewN ?_ _ | refine blk_drew ?_ | refine blk_alloc ?_ _)); refine blk_far ?_ NB130_134.out _; (with_reducible repeat (first | refine blk_drewN ?_ _ | refine blk_drew ?_ | refine blk_alloc ?_ _)); refine blk_far ?_ NB130_134.out _; (with_reducible repeat (first | refine blk_drewN ?_ _ | refine blk_drew ?_ | refine blk_alloc ?_ _)); refine blk_far ?_ NB130_134.out _; (with_reducible repeat (first | refine blk_drewN ?_ _ | refine blk_drew ?_ | refine blk_alloc ?_ _)); exact BK130.out) hb); have n3_ := Aside0.mk (blk_below (g := gb134) (o := .cells #[.int .i64 t127, .int .i64 t128, .int .i64 t129] 34 (0, 0)) (by (with_reducible repeat (first | refine blk_drewN ?_ _ | refine blk_drew ?_ | refine blk_alloc ?_ _)); refine blk_put (cs := #[.int .i64 t127, .int .i64 t128, .int .i64 0]) ?_ 2 _ rfl; (with_reducible repeat (first | refine blk_drewN ?_ _ | refine blk_drew ?_ | refine blk_alloc ?_ _)); refine blk_put (cs := #[.int .i64 t127, .int .i64 0, .int .i64 0]) ?_ 1 _ rfl; (with_reducible repeat (first | refine blk_drewN ?_ _ | refine blk_drew ?_ | refine blk_alloc ?_ _)); refine blk_put (cs := #[.int .i64 0, .int .i64 0, .int .i64 0]) ?_ 0 _ rfl; (with_reducible repeat (first | refine blk_drewN ?_ _ | refine blk_drew ?_ | refine blk_alloc ?_ _)); exact BK134.out) hb); have n4_ := Aside0.mk (below_step (XSq.bB HB) hb); clear HO_4; clear BK121; clear BK130; clear BK134; clear HB; have HO_4 := n0_; have BK121 := n1_; have BK130 := n2_; have BK134 := n3_; have HB := n4_; clear n0_ n1_ n2_ n3_ n4_; (try clear hb); (try clear hb2); (try clear hk); (try clear hi); have hcz51_0 : w50.cell? ⟨gb134, 0, none⟩ = some (.int .i64 t127) := (blk_cell BK134.out 0).trans rfl; have hcz51_1 : w50.cell? ⟨gb134, 1, none⟩ = some (.int .i64 t128) := (blk_cell BK134.out 1).trans rfl; have hcz51_2 : w50.cell? ⟨gb134, 2, none⟩ = some (.int .i64 t129) := (blk_cell BK134.out 2).trans rfl; have hfz51_0 := blk_frozen BK134.out 0; have hfz51_1 := blk_frozen BK134.out 1; have hfz51_2 := blk_frozen BK134.out 2))
                            go_roundg k3
                            case measure => have := HJ1.out; have := HK2.out; have := HK3.out; omega
                            case rel => exact ⟨gb134, (y133), t139, t140, t141, rfl, H', ⟨by have := HJ1.out; have := HK2.out; have := HK3.out; omega⟩, ⟨by (with_reducible repeat (first | apply Kd.R_alloc | apply Kd.R_drewN | apply Kd.R_drew)); exact Kd.R_mono (Kd.R_far (p := ⟨gb134, 2, none⟩) (Kd.R_far (p := ⟨gb134, 1, none⟩) (Kd.R_far (p := ⟨gb134, 0, none⟩) (Kd.R_types HO_4.out BK134.out (by decide)) (fun _ hk => hk.2) (.int .i64 t139)) (fun _ hk => hk.2) (.int .i64 t140)) (fun _ hk => hk.2) (.int .i64 t141)) (fun _ hk => trivial)⟩, ⟨by (with_reducible repeat (first | refine blk_drewN ?_ _ | refine blk_drew ?_ | refine blk_alloc ?_ _)); refine blk_far ?_ NB121_134.out _; (with_reducible repeat (first | refine blk_drewN ?_ _ | refine blk_drew ?_ | refine blk_alloc ?_ _)); refine blk_far ?_ NB121_134.out _; (with_reducible repeat (first | refine blk_drewN ?_ _ | refine blk_drew ?_ | refine blk_alloc ?_ _)); refine blk_far ?_ NB121_134.out _; (with_reducible repeat (first | refine blk_drewN ?_ _ | refine blk_drew ?_ | refine blk_alloc ?_ _)); exact BK121.out⟩, ⟨by (with_reducible repeat (first | refine blk_drewN ?_ _ | refine blk_drew ?_ | refine blk_alloc ?_ _)); refine blk_put (cs := #[.int .i64 t139, .int .i64 t140, .int .i64 t129]) ?_ 2 _ rfl; (with_reducible repeat (first | refine blk_drewN ?_ _ | refine blk_drew ?_ | refine blk_alloc ?_ _)); refine blk_put (cs := #[.int .i64 t139, .int .i64 t128, .int .i64 t129]) ?_ 1 _ rfl; (with_reducible repeat (first | refine blk_drewN ?_ _ | refine blk_drew ?_ | refine blk_alloc ?_ _)); refine blk_put (cs := #[.int .i64 t127, .int .i64 t128, .int .i64 t129]) ?_ 0 _ rfl; (with_reducible repeat (first | refine blk_drewN ?_ _ | refine blk_drew ?_ | refine blk_alloc ?_ _)); exact BK134.out⟩, GW134, GE134, NB121_134, NB134_121, ⟨by repeat (first | (with_reducible first | exact HB.out | apply below_alloc | apply pw_below_drewN | apply below_drew1 | refine below_set ?_ GE121.out | refine below_set ?_ GE130.out | refine below_set ?_ GE134.out) | exact HB.out)⟩⟩
                          · rw [if_neg c32] at H
                            exact absurd H (by simp)
                        · rw [if_neg c31] at H
                          exact absurd H (by simp)
                      · replace c29 := Bool.eq_false_iff.mpr c29
                        subst c29
                        have H1 : (spec_CountTracks.l0 k3 x4_3 (wrap64 (x5_2 + 1)) a0_0 a0_1 a0_2 a0_3) = some (r1, r2) := by rw [if_neg (show ¬ (false = true) by decide)] at H; exact H
                        clear H
                        have H := H1
                        clear H1
                        have H' := Aside0.mk H
                        clear H
                        have hnb52 := NB121_130.out
                        have hnc52 := NB130_121.out
                        have hcz53_0 : wr.cell? ⟨gb121, 0, none⟩ = some (.int .i64 a0_0) := (blk_cell BK121.out 0).trans rfl
                        have hcz53_1 : wr.cell? ⟨gb121, 1, none⟩ = some (.int .i64 a0_1) := (blk_cell BK121.out 1).trans rfl
                        have hcz53_2 : wr.cell? ⟨gb121, 2, none⟩ = some (.string a0_2) := (blk_cell BK121.out 2).trans rfl
                        have hcz53_3 : wr.cell? ⟨gb121, 3, none⟩ = some (.bool a0_3) := (blk_cell BK121.out 3).trans rfl
                        have hfz53_0 := blk_frozen BK121.out 0
                        have hfz53_1 := blk_frozen BK121.out 1
                        have hfz53_2 := blk_frozen BK121.out 2
                        have hfz53_3 := blk_frozen BK121.out 3
                        have hcz54_0 : wr.cell? ⟨gb130, 0, none⟩ = some (.int .i64 t127) := (blk_cell BK130.out 0).trans rfl
                        have hcz54_1 : wr.cell? ⟨gb130, 1, none⟩ = some (.int .i64 t128) := (blk_cell BK130.out 1).trans rfl
                        have hcz54_2 : wr.cell? ⟨gb130, 2, none⟩ = some (.int .i64 t129) := (blk_cell BK130.out 2).trans rfl
                        have hfz54_0 := blk_frozen BK130.out 0
                        have hfz54_1 := blk_frozen BK130.out 1
                        have hfz54_2 := blk_frozen BK130.out 2
                        go_wp2_with (first | ((with_reducible refine gate_callee (f := 11) rfl ?_); refine goesL_ (some 33) rfl rfl Tryd.func11 (by kernel_rfl) rfl #[.agg #[.int .i64 a0_0, .int .i64 a0_1, .string a0_2, .bool a0_3], .agg #[.int .i64 t127, .int .i64 t128, .int .i64 t129]] rfl (by (try simp only [List.map_toArray, List.map_cons, List.map_nil]); first | done | rfl | (simp only [List.length_drop, List.length_take]; rfl)) ?_; (with_reducible refine (spec_miBall.calls k3 a0_0 a0_1 a0_2 a0_3 t127 t128 t129 false _ A28.out).mono ?_); rintro e w55 ⟨rfl, hb⟩; refine ⟨_, rfl, ?_⟩; have n0_ := Aside0.mk (Kd.R_below (by (with_reducible repeat (first | apply Kd.R_alloc | apply Kd.R_drewN | apply Kd.R_drew)); exact HO_4.out) hb); have n1_ := Aside0.mk (blk_below (g := gb121) (o := .cells #[.int .i64 a0_0, .int .i64 a0_1, .string a0_2, .bool a0_3] 27 (0, 0)) (XSq.bq BK121) hb); have n2_ := Aside0.mk (blk_below (g := gb130) (o := .cells #[.int .i64 t127, .int .i64 t128, .int .i64 t129] 34 (0, 0)) (XSq.bq BK130) hb); have n3_ := Aside0.mk (below_step (XSq.bB HB) hb); clear HO_4; clear BK121; clear BK130; clear HB; have HO_4 := n0_; have BK121 := n1_; have BK130 := n2_; have HB := n3_; clear n0_ n1_ n2_ n3_; (try clear hb); (try clear hb2); (try clear hk); (try clear hi)))
                        go_roundg k3
                        case measure => have := HJ1.out; have := HK2.out; have := HK3.out; omega
                        case rel => exact ⟨(x4_3), (wrap64 (x5_2 + 1)), (by first | rfl | (simp; done) | (simp [*]; done)), H', ⟨by have := HJ1.out; have := HK2.out; have := HK3.out; omega⟩, ⟨by (with_reducible repeat (first | apply Kd.R_alloc | apply Kd.R_drewN | apply Kd.R_drew)); exact HO_4.out⟩, ⟨by (with_reducible repeat (first | refine blk_drewN ?_ _ | refine blk_drew ?_ | refine blk_alloc ?_ _)); exact BK121.out⟩, ⟨by repeat (first | (with_reducible first | exact HB.out | apply below_alloc | apply pw_below_drewN | apply below_drew1 | refine below_set ?_ GE121.out | refine below_set ?_ GE130.out) | exact HB.out)⟩⟩
                · rw [if_neg c19] at H
                  have c19b0 : decide (x5_2 < t126) = false := decide_eq_false c19
                  clear c19
                  have H' := Aside0.mk H
                  clear H
                  have hcz56_0 : wr.cell? ⟨gb121, 0, none⟩ = some (.int .i64 a0_0) := (blk_cell BK121.out 0).trans rfl
                  have hcz56_1 : wr.cell? ⟨gb121, 1, none⟩ = some (.int .i64 a0_1) := (blk_cell BK121.out 1).trans rfl
                  have hcz56_2 : wr.cell? ⟨gb121, 2, none⟩ = some (.string a0_2) := (blk_cell BK121.out 2).trans rfl
                  have hcz56_3 : wr.cell? ⟨gb121, 3, none⟩ = some (.bool a0_3) := (blk_cell BK121.out 3).trans rfl
                  have hfz56_0 := blk_frozen BK121.out 0
                  have hfz56_1 := blk_frozen BK121.out 1
                  have hfz56_2 := blk_frozen BK121.out 2
                  have hfz56_3 := blk_frozen BK121.out 3
                  go_wp2_with (first | ((with_reducible refine gate_callee (f := 9) rfl ?_); refine goesL_ (some 24) rfl rfl Tryd.func9 (by kernel_rfl) rfl #[.agg #[.int .i64 a0_0, .int .i64 a0_1, .string a0_2, .bool a0_3]] rfl (by (try simp only [List.map_toArray, List.map_cons, List.map_nil]); first | done | rfl | (simp only [List.length_drop, List.length_take]; rfl)) ?_; (with_reducible refine (spec_miEnds.calls a0_0 a0_1 a0_2 a0_3 t126 _ A18.out).mono ?_); rintro e w57 ⟨rfl, hb⟩; refine ⟨_, rfl, ?_⟩; have n0_ := Aside0.mk (Kd.R_below (by (with_reducible repeat (first | apply Kd.R_alloc | apply Kd.R_drewN | apply Kd.R_drew)); exact HO_4.out) hb); have n1_ := Aside0.mk (blk_below (g := gb121) (o := .cells #[.int .i64 a0_0, .int .i64 a0_1, .string a0_2, .bool a0_3] 27 (0, 0)) (XSq.bq BK121) hb); have n2_ := Aside0.mk (below_step (XSq.bB HB) hb); clear HO_4; clear BK121; clear HB; have HO_4 := n0_; have BK121 := n1_; have HB := n2_; clear n0_ n1_ n2_; (try clear hb); (try clear hb2); (try clear hk); (try clear hi); obtain ⟨Ao58, co58, eo58⟩ := Kd.R_slice HO_4.out; subst eo58))
                  go_loopg [7, 48] k2 (fun kq v7 v48 w' => ∃ (x4_3 : List Bool) (x7_3 : Int) (x48_3 : Int), v7 = .int .i64 x7_3 ∧ v48 = .int .i64 x48_3 ∧ Aside0 (spec_CountTracks.l2 kq x4_3 x7_3 (x4_2.length : Int) x48_3 a0_0 a0_1 a0_2 a0_3 = some (r1, r2)) ∧ Aside0 (kq ≤ k2) ∧ Aside0 (Kd.R Kd.bool 4 w' w.heap.size (fun _ => True) (.slice Ao58 x4_2.length co58) x4_3) ∧ Aside0 (w'.heap[gb121]? = some (.cells #[.int .i64 a0_0, .int .i64 a0_1, .string a0_2, .bool a0_3] 27 (0, 0))) ∧ Aside0 (Below w.heap.size w w'))
                  case atStart => exact ⟨(x4_2), (0), (0), (by first | rfl | (simp; done) | (simp [*]; done)), (by first | rfl | (simp; done) | (simp [*]; done)), H', ⟨Nat.le_refl _⟩, ⟨by (with_reducible repeat (first | apply Kd.R_alloc | apply Kd.R_drewN | apply Kd.R_drew)); exact HO_4.out⟩, ⟨by (with_reducible repeat (first | refine blk_drewN ?_ _ | refine blk_drew ?_ | refine blk_alloc ?_ _)); exact BK121.out⟩, ⟨by repeat (first | (with_reducible first | exact HB.out | apply below_alloc | apply pw_below_drewN | apply below_drew1 | refine below_set ?_ GE121.out) | exact HB.out)⟩⟩
                  case round =>
                    clear H'
                    try clear c1
                    try clear c2
                    try clear p2
                    try clear c3
                    try clear p3
                    try clear q3
                    try clear hx3
                    try clear hf3
                    try clear c4
                    try clear c5
                    try clear p6
                    try clear c8
                    try clear c9
                    try clear c10
                    try clear c11
                    try clear c12
                    try clear c13
                    try clear c13b0
                    try clear c13b1
                    try clear c14
                    try clear c14b0
                    try clear c14b1
                    try clear c19
                    try clear c19b0
                    try clear c26
                    try clear c29
                    try clear c31
                    try clear c31b0
                    try clear c32
                    try clear c32b0
                    try clear p33
                    try clear q33
                    try clear hx33
                    try clear hf33
                    try clear c35
                    try clear c46
                    try clear c47
                    try clear c52
                    try clear hcz15_0
                    try clear hcz15_1
                    try clear hcz15_2
                    try clear hcz15_3
                    try clear hcz21_0
                    try clear hcz21_1
                    try clear hcz21_2
                    try clear hcz21_3
                    try clear hcz23_0
                    try clear hcz23_1
                    try clear hcz23_2
                    try clear hcz23_3
                    try clear hcz27_0
                    try clear hcz27_1
                    try clear hcz27_2
                    try clear hcz36_0
                    try clear hcz36_1
                    try clear hcz36_2
                    try clear hcz36_3
                    try clear hcz37_0
                    try clear hcz37_1
                    try clear hcz37_2
                    try clear hcz39_0
                    try clear hcz39_1
                    try clear hcz39_2
                    try clear hcz39_3
                    try clear hcz40_0
                    try clear hcz40_1
                    try clear hcz40_2
                    try clear hcz44_0
                    try clear hcz44_1
                    try clear hcz44_2
                    try clear hcz48_0
                    try clear hcz48_1
                    try clear hcz48_2
                    try clear hcz49_0
                    try clear hcz49_1
                    try clear hcz49_2
                    try clear hcz49_3
                    try clear hcz51_0
                    try clear hcz51_1
                    try clear hcz51_2
                    try clear hcz53_0
                    try clear hcz53_1
                    try clear hcz53_2
                    try clear hcz53_3
                    try clear hcz54_0
                    try clear hcz54_1
                    try clear hcz54_2
                    try clear hcz56_0
                    try clear hcz56_1
                    try clear hcz56_2
                    try clear hcz56_3
                    try clear hcz6_0
                    try clear hcz6_1
                    try clear hcz6_2
                    try clear hcz6_3
                    try clear hcz8_0
                    try clear hcz8_1
                    try clear hcz8_2
                    try clear hcz8_3
                    try clear hcz9_0
                    try clear hcz9_1
                    try clear hcz9_2
                    try clear hcz9_3
                    try clear hfz15_0
                    try clear hfz15_1
                    try clear hfz15_2
                    try clear hfz15_3
                    try clear hfz21_0
                    try clear hfz21_1
                    try clear hfz21_2
                    try clear hfz21_3
                    try clear hfz23_0
                    try clear hfz23_1
                    try clear hfz23_2
                    try clear hfz23_3
                    try clear hfz27_0
                    try clear hfz27_1
                    try clear hfz27_2
                    try clear hfz36_0
                    try clear hfz36_1
                    try clear hfz36_2
                    try clear hfz36_3
                    try clear hfz37_0
                    try clear hfz37_1
                    try clear hfz37_2
                    try clear hfz39_0
                    try clear hfz39_1
                    try clear hfz39_2
                    try clear hfz39_3
                    try clear hfz40_0
                    try clear hfz40_1
                    try clear hfz40_2
                    try clear hfz44_0
                    try clear hfz44_1
                    try clear hfz44_2
                    try clear hfz48_0
                    try clear hfz48_1
                    try clear hfz48_2
                    try clear hfz49_0
                    try clear hfz49_1
                    try clear hfz49_2
                    try clear hfz49_3
                    try clear hfz51_0
                    try clear hfz51_1
                    try clear hfz51_2
                    try clear hfz53_0
                    try clear hfz53_1
                    try clear hfz53_2
                    try clear hfz53_3
                    try clear hfz54_0
                    try clear hfz54_1
                    try clear hfz54_2
                    try clear hfz56_0
                    try clear hfz56_1
                    try clear hfz56_2
                    try clear hfz56_3
                    try clear hfz6_0
                    try clear hfz6_1
                    try clear hfz6_2
                    try clear hfz6_3
                    try clear hfz8_0
                    try clear hfz8_1
                    try clear hfz8_2
                    try clear hfz8_3
                    try clear hfz9_0
                    try clear hfz9_1
                    try clear hfz9_2
                    try clear hfz9_3
                    try clear hx33_0
                    try clear p2
                    try clear p33
                    try clear p6
                    try clear q33
                    obtain ⟨x4_3, x7_3, x48_3, rfl, rfl, HA, HK3, HO_4, BK121, HB⟩ := hrel
                    have hl4_3 := (Kd.R_reads' HO_4.out).1
                    rw [hl4_3] at HO_4
                    (try simp only [hl4_3])
                    (try simp only [hl4_3] at BK121)
                    cases gk with
                    | zero => exact absurd HA.out (by simp [spec_CountTracks.l2])
                    | succ k3 =>
                      have H := HA.out
                      clear HA
                      simp only [spec_CountTracks.l2] at H
                      by_cases c59 : x48_3 < (x4_2.length : Int)
                      · rw [if_pos c59] at H
                        have c59b0 : decide (x48_3 < (x4_2.length : Int)) = true := decide_eq_true c59
                        clear c59
                        by_cases c60 : 0 ≤ x48_3
                        · rw [if_pos c60] at H
                          have c60b0 : decide (0 ≤ x48_3) = true := decide_eq_true c60
                          clear c60
                          by_cases c61 : x48_3 < (x4_3.length : Int)
                          · rw [if_pos c61] at H
                            have c61b0 : decide (x48_3 < (x4_3.length : Int)) = true := decide_eq_true c61
                            clear c61
                            obtain ⟨bq62, hbq62⟩ : ∃ b_ : Bool, b_ = (rdOf false x4_3 x48_3) := ⟨_, rfl⟩
                            replace H : (if bq62 = true then (spec_CountTracks.l2 k3 x4_3 x7_3 (x4_2.length : Int) (wrap64 (x48_3 + 1)) a0_0 a0_1 a0_2 a0_3) else (if a0_0 = 0 then (none) else (spec_CountTracks.l3 k3 x4_3 (wrap64 (x7_3 + 1)) (x4_2.length : Int) x48_3 a0_0 a0_1 a0_2 a0_3 (Int.tmod (wrap64 (Int.tdiv x48_3 4)) a0_0) (wrap64 (Int.tdiv (wrap64 (Int.tdiv x48_3 4)) a0_0)) (Int.tmod x48_3 4)))) = some (r1, r2) := by rw [← hbq62] at H; exact H
                            have Nbq62 := Aside0.mk hbq62
                            clear hbq62
                            by_cases c63 : bq62 = true
                            · subst c63
                              have H1 : (spec_CountTracks.l2 k3 x4_3 x7_3 (x4_2.length : Int) (wrap64 (x48_3 + 1)) a0_0 a0_1 a0_2 a0_3) = some (r1, r2) := by rw [if_pos rfl] at H; exact H
                              clear H
                              have H := H1
                              clear H1
                              have H' := Aside0.mk H
                              clear H
                              have p142 : 0 ≤ (x48_3 : Int) := of_decide_eq_true (by first | (with_reducible assumption) | assumption)
                              have q142 : x48_3 < (x4_3.length : Int) := of_decide_eq_true (by first | (with_reducible assumption) | assumption)
                              obtain ⟨ad142, e142, hx142_0⟩ := Kd.at_bool (Kd.R_reads' HO_4.out).2.2 x48_3 p142 q142
                              (try rw [← Nbq62.out] at hx142_0)
                              cases e142
                              replace p142 := eq_true p142
                              replace q142 := eq_true q142
                              go_wp2
                              (try simp only [← hl4_3])
                              go_roundg k3
                              case measure => have := HJ1.out; have := HK2.out; have := HK3.out; omega
                              case rel => exact ⟨(x4_3), (x7_3), (wrap64 (x48_3 + 1)), (by first | rfl | (simp; done) | (simp [*]; done)), (by first | rfl | (simp; done) | (simp [*]; done)), H', ⟨by have := HJ1.out; have := HK2.out; have := HK3.out; omega⟩, ⟨by (try simp only [hl4_3]); (with_reducible repeat (first | apply Kd.R_alloc | apply Kd.R_drewN | apply Kd.R_drew)); exact HO_4.out⟩, ⟨by (try simp only [hl4_3]); (with_reducible repeat (first | refine blk_drewN ?_ _ | refine blk_drew ?_ | refine blk_alloc ?_ _)); exact BK121.out⟩, ⟨by repeat (first | (with_reducible first | exact HB.out | apply below_alloc | apply pw_below_drewN | apply below_drew1 | refine below_set ?_ GE121.out) | exact HB.out)⟩⟩
                            · replace c63 := Bool.eq_false_iff.mpr c63
                              subst c63
                              have H1 : (if a0_0 = 0 then (none) else (spec_CountTracks.l3 k3 x4_3 (wrap64 (x7_3 + 1)) (x4_2.length : Int) x48_3 a0_0 a0_1 a0_2 a0_3 (Int.tmod (wrap64 (Int.tdiv x48_3 4)) a0_0) (wrap64 (Int.tdiv (wrap64 (Int.tdiv x48_3 4)) a0_0)) (Int.tmod x48_3 4))) = some (r1, r2) := by rw [if_neg (show ¬ (false = true) by decide)] at H; exact H
                              clear H
                              have H := H1
                              clear H1
                              by_cases c64 : a0_0 = 0
                              · rw [if_pos c64] at H
                                exact absurd H (by simp)
                              · rw [if_neg c64] at H
                                have c64b0 : (a0_0 == 0) = false := beq_eq_false_iff_ne.mpr c64
                                have c64b1 : (a0_0 != 0) = true := bne_iff_ne.mpr c64
                                have H' := Aside0.mk H
                                clear H
                                have p142 : 0 ≤ (x48_3 : Int) := of_decide_eq_true (by first | (with_reducible assumption) | assumption)
                                have q142 : x48_3 < (x4_3.length : Int) := of_decide_eq_true (by first | (with_reducible assumption) | assumption)
                                obtain ⟨ad142, e142, hx142_0⟩ := Kd.at_bool (Kd.R_reads' HO_4.out).2.2 x48_3 p142 q142
                                (try rw [← Nbq62.out] at hx142_0)
                                cases e142
                                replace p142 := eq_true p142
                                replace q142 := eq_true q142
                                try go_wp2
                                have n0_ := Aside0.mk (Kd.R_drew HO_4.out)
                                have n1_ := Aside0.mk (blk_drew BK121.out)
                                have n2_ := Aside0.mk (below_drew1 HB.out)
                                clear HO_4
                                clear BK121
                                clear HB
                                have HO_4 := n0_
                                have BK121 := n1_
                                have HB := n2_
                                clear n0_ n1_ n2_
                                refine start_ (n := 15) (S := fun w' => w'.cell? ⟨gb121, 0, none⟩ = some (.int .i64 a0_0) ∧ w'.cell? ⟨gb121, 1, none⟩ = some (.int .i64 a0_1) ∧ w'.cell? ⟨gb121, 2, none⟩ = some (.string a0_2) ∧ w'.cell? ⟨gb121, 3, none⟩ = some (.bool a0_3)) (ds := []) #[false, false, false, false, false, false, false, false, false, false, false, false, false, false, false] (by kernel_rfl) rfl rfl ⟨(blk_cell BK121.out 0).trans rfl, (blk_cell BK121.out 1).trans rfl, (blk_cell BK121.out 2).trans rfl, (blk_cell BK121.out 3).trans rfl⟩ (fun hHeld => ?_); refine with_tabW spec_CountTracks.tab19 spec_CountTracks.bits19 (fun HT_ HW_ => ?_)
                                generalize wr.drew = w65 at HO_4 BK121 HB hHeld ⊢
                                refine pure_ (i := 0) (N := some 57) (v := ?_) (a' := ?_) #[true, false, false, false, false, false, false, false, false, false, false, false, false, false, false] rfl rfl (any_of HT_.out (by kernel_rfl)) (fun _ _ _ h => h) (Or.inl ⟨by rfl, ?_⟩) ?_ ?_
                                rotate_left
                                · intro w'
                                  go_simp
                                  with_reducible rfl
                                rotate_left
                                · simp only [Act.put, List.setIfInBounds_toArray, List.set_cons_zero, List.set_cons_succ, i64_w, i32_w]
                                  rfl
                                refine pure_ (i := 1) (N := some 58) (v := ?_) (a' := ?_) #[true, true, false, false, false, false, false, false, false, false, false, false, false, false, false] rfl rfl (any_of HT_.out (by kernel_rfl)) (fun _ _ _ h => h) (Or.inl ⟨by rfl, ?_⟩) ?_ ?_
                                rotate_left
                                · intro w'
                                  go_simp
                                  with_reducible rfl
                                rotate_left
                                · simp only [Act.put, List.setIfInBounds_toArray, List.set_cons_zero, List.set_cons_succ, i64_w, i32_w]
                                  rfl
                                refine pure_ (i := 2) (N := some 59) (v := ?_) (a' := ?_) #[true, true, true, false, false, false, false, false, false, false, false, false, false, false, false] rfl rfl (any_of HT_.out (by kernel_rfl)) (fun _ _ _ h => h) (Or.inl ⟨by rfl, ?_⟩) ?_ ?_
                                rotate_left
                                · intro w'
                                  go_simp
                                  with_reducible rfl
                                rotate_left
                                · simp only [Act.put, List.setIfInBounds_toArray, List.set_cons_zero, List.set_cons_succ, i64_w, i32_w]
                                  rfl
                                refine pure_ (i := 5) (N := some 62) (v := ?_) (a' := ?_) #[true, true, true, false, false, true, false, false, false, false, false, false, false, false, false] rfl rfl (any_of HT_.out (by kernel_rfl)) (fun _ _ _ h => h) (Or.inl ⟨by rfl, ?_⟩) ?_ ?_
                                rotate_left
                                · intro w'
                                  go_simp
                                  with_reducible rfl
                                rotate_left
                                · simp only [Act.put, List.setIfInBounds_toArray, List.set_cons_zero, List.set_cons_succ, i64_w, i32_w]
                                  rfl
                                refine pure_ (i := 6) (N := some 63) (v := ?_) (a' := ?_) #[true, true, true, false, false, true, true, false, false, false, false, false, false, false, false] rfl rfl (any_of HT_.out (by kernel_rfl)) (fun _ _ _ h => h) (Or.inl ⟨by rfl, ?_⟩) ?_ ?_
                                rotate_left
                                · intro w'
                                  go_simp
                                  with_reducible rfl
                                rotate_left
                                · simp only [Act.put, List.setIfInBounds_toArray, List.set_cons_zero, List.set_cons_succ, i64_w, i32_w]
                                  rfl
                                refine pure_ (i := 7) (N := some 64) (v := ?_) (a' := ?_) #[true, true, true, false, false, true, true, true, false, false, false, false, false, false, false] rfl rfl (any_of HT_.out (by kernel_rfl)) (fun _ _ _ h => h) (Or.inl ⟨by rfl, ?_⟩) ?_ ?_
                                rotate_left
                                · intro w'
                                  go_simp
                                  with_reducible rfl
                                rotate_left
                                · simp only [Act.put, List.setIfInBounds_toArray, List.set_cons_zero, List.set_cons_succ, i64_w, i32_w]
                                  rfl
                                refine pure_ (i := 10) (N := some 67) (v := ?_) (a' := ?_) #[true, true, true, false, false, true, true, true, false, false, true, false, false, false, false] rfl rfl (any_of HT_.out (by kernel_rfl)) (fun _ _ _ h => h) (Or.inl ⟨by rfl, ?_⟩) ?_ ?_
                                rotate_left
                                · intro w'
                                  go_simp
                                  with_reducible rfl
                                rotate_left
                                · simp only [Act.put, List.setIfInBounds_toArray, List.set_cons_zero, List.set_cons_succ, i64_w, i32_w]
                                  rfl
                                refine pure_ (i := 11) (N := some 68) (v := ?_) (a' := ?_) #[true, true, true, false, false, true, true, true, false, false, true, true, false, false, false] rfl rfl (any_of HT_.out (by kernel_rfl)) (fun _ _ _ h => h) (Or.inl ⟨by rfl, ?_⟩) ?_ ?_
                                rotate_left
                                · intro w'
                                  go_simp
                                  with_reducible rfl
                                rotate_left
                                · simp only [Act.put, List.setIfInBounds_toArray, List.set_cons_zero, List.set_cons_succ, i64_w, i32_w]
                                  rfl
                                refine take_ (i := 3) (N := some 60) (v := ?_) (a' := ?_) #[true, true, true, true, false, true, true, true, false, false, true, true, false, false, false] rfl rfl (take_ofW HT_.out HW_.out (by kernel_rfl)) (fun _ _ _ h => h) (Or.inl ⟨by rfl, ?_⟩) hHeld ?_ ?_
                                rotate_left
                                · rintro w' ⟨s0, s1, s2, s3⟩
                                  go_simp
                                  with_reducible rfl
                                rotate_left
                                · simp only [Act.put, List.setIfInBounds_toArray, List.set_cons_zero, List.set_cons_succ, i64_w, i32_w]
                                  rfl
                                refine pure_ (i := 4) (N := some 61) (v := ?_) (a' := ?_) #[true, true, true, true, true, true, true, true, false, false, true, true, false, false, false] rfl rfl (any_of HT_.out (by kernel_rfl)) (fun _ _ _ h => h) (Or.inl ⟨by rfl, ?_⟩) ?_ ?_
                                rotate_left
                                · intro w'
                                  go_simp
                                  with_reducible rfl
                                rotate_left
                                · simp only [Act.put, List.setIfInBounds_toArray, List.set_cons_zero, List.set_cons_succ, i64_w, i32_w]
                                  rfl
                                refine take_ (i := 8) (N := some 65) (v := ?_) (a' := ?_) #[true, true, true, true, true, true, true, true, true, false, true, true, false, false, false] rfl rfl (take_ofW HT_.out HW_.out (by kernel_rfl)) (fun _ _ _ h => h) (Or.inl ⟨by rfl, ?_⟩) hHeld ?_ ?_
                                rotate_left
                                · rintro w' ⟨s0, s1, s2, s3⟩
                                  go_simp
                                  with_reducible rfl
                                rotate_left
                                · simp only [Act.put, List.setIfInBounds_toArray, List.set_cons_zero, List.set_cons_succ, i64_w, i32_w]
                                  rfl
                                refine pure_ (i := 9) (N := some 66) (v := ?_) (a' := ?_) #[true, true, true, true, true, true, true, true, true, true, true, true, false, false, false] rfl rfl (any_of HT_.out (by kernel_rfl)) (fun _ _ _ h => h) (Or.inl ⟨by rfl, ?_⟩) ?_ ?_
                                rotate_left
                                · intro w'
                                  go_simp
                                  with_reducible rfl
                                rotate_left
                                · simp only [Act.put, List.setIfInBounds_toArray, List.set_cons_zero, List.set_cons_succ, i64_w, i32_w]
                                  rfl
                                refine pure_ (i := 12) (N := some 69) (v := ?_) (a' := ?_) #[true, true, true, true, true, true, true, true, true, true, true, true, true, false, false] rfl rfl (any_of HT_.out (by kernel_rfl)) (fun _ _ _ h => h) (Or.inl ⟨by rfl, ?_⟩) ?_ ?_
                                rotate_left
                                · intro w'
                                  go_simp
                                  with_reducible rfl
                                rotate_left
                                · simp only [Act.put, List.setIfInBounds_toArray, List.set_cons_zero, List.set_cons_succ, i64_w, i32_w]
                                  rfl
                                refine one_ (i := 13) (N := some 9) #[true, true, true, true, true, true, true, true, true, true, true, true, true, true, false] rfl rfl (one_of HT_.out (by kernel_rfl)) (by decide) (fun K hK => ?_)
                                refine box_step ?hg (N := 9) ?hd (cs := #[.int .i64 0, .int .i64 0, .int .i64 0]) (t := 34) ?hr ?_; (case hd => rfl); (case hg => rfl); (case hr => first | (go_simp; done) | (go_simp; rfl))
                                intro gb143 hg w66 hbox hb
                                have n0_ := Aside0.mk (Kd.R_below (by (with_reducible repeat (first | apply Kd.R_alloc | apply Kd.R_drewN | apply Kd.R_drew)); exact HO_4.out) hb)
                                have n1_ := Aside0.mk (blk_below (g := gb121) (o := .cells #[.int .i64 a0_0, .int .i64 a0_1, .string a0_2, .bool a0_3] 27 (0, 0)) (XSq.bq BK121) hb)
                                have n2_ := Aside0.mk (below_step (XSq.bB HB) hb)
                                have n3_ := Aside0.mk (hbox)
                                have n4_ := Aside0.mk ((by rw [hg]; exact (below_size (XSq.bB HB)) : w.heap.size ≤ gb143))
                                have n5_ := Aside0.mk ((by rw [hg]; exact (below_size (XSq.bB HB)) : w.heap.size ≤ gb143))
                                have n6_ := Aside0.mk ((by rw [hg]; exact Nat.ne_of_lt (blk_lt (g := gb121) (o := .cells #[.int .i64 a0_0, .int .i64 a0_1, .string a0_2, .bool a0_3] 27 (0, 0)) (XSq.bq BK121)) : gb121 ≠ gb143))
                                have n7_ := Aside0.mk ((by rw [hg]; exact Nat.ne_of_gt (blk_lt (g := gb121) (o := .cells #[.int .i64 a0_0, .int .i64 a0_1, .string a0_2, .bool a0_3] 27 (0, 0)) (XSq.bq BK121)) : gb143 ≠ gb121))
                                clear HO_4
                                clear BK121
                                clear HB
                                have HO_4 := n0_
                                have BK121 := n1_
                                have HB := n2_
                                have BK143 := n3_
                                have GW143 := n4_
                                have GE143 := n5_
                                have NB121_143 := n6_
                                have NB143_121 := n7_
                                clear n0_ n1_ n2_ n3_ n4_ n5_ n6_ n7_
                                clear hb hbox hg
                                refine hK.out _ _ ⟨(blk_cell BK121.out 0).trans rfl, (blk_cell BK121.out 1).trans rfl, (blk_cell BK121.out 2).trans rfl, (blk_cell BK121.out 3).trans rfl⟩ (fun hHeld => ?_)
                                clear hK K
                                refine norm_ (a' := ?_) ?_ ?_
                                rotate_left
                                · show Act.put _ (some 9) _ = _
                                  simp only [Act.put, List.setIfInBounds_toArray, List.set_cons_zero, List.set_cons_succ, i64_w, i32_w]
                                  rfl
                                refine one_ (i := 14) (N := none) #[true, true, true, true, true, true, true, true, true, true, true, true, true, true, true] rfl rfl (one_of HT_.out (by kernel_rfl)) (by decide) (fun K hK => ?_)
                                have hs67 : w66.cell? ⟨gb143, 0, none⟩ = some (.int .i64 0) := (blk_cell BK143.out 0).trans rfl
                                have hfs67 := blk_frozen BK143.out 0
                                have hns67_0 := NB121_143.out
                                have hms67_0 := NB143_121.out
                                have hs68 : w66.cell? ⟨gb143, 1, none⟩ = some (.int .i64 0) := (blk_cell BK143.out 1).trans rfl
                                have hfs68 := blk_frozen BK143.out 1
                                have hns68_0 := NB121_143.out
                                have hms68_0 := NB143_121.out
                                have hs69 : w66.cell? ⟨gb143, 2, none⟩ = some (.int .i64 0) := (blk_cell BK143.out 2).trans rfl
                                have hfs69 := blk_frozen BK143.out 2
                                have hns69_0 := NB121_143.out
                                have hms69_0 := NB143_121.out
                                refine skip_ (w1 := ?_) (by rfl) rfl ?_ ?_
                                rotate_left
                                · go_simp
                                  rfl
                                refine hK.out _ _ ⟨((cell_far (p := ⟨gb143, _, none⟩) NB121_143.out _).trans (((cell_far (p := ⟨gb143, _, none⟩) NB121_143.out _).trans (((cell_far (p := ⟨gb143, _, none⟩) NB121_143.out _).trans (hHeld.1)))))), ((cell_far (p := ⟨gb143, _, none⟩) NB121_143.out _).trans (((cell_far (p := ⟨gb143, _, none⟩) NB121_143.out _).trans (((cell_far (p := ⟨gb143, _, none⟩) NB121_143.out _).trans (hHeld.2.1)))))), ((cell_far (p := ⟨gb143, _, none⟩) NB121_143.out _).trans (((cell_far (p := ⟨gb143, _, none⟩) NB121_143.out _).trans (((cell_far (p := ⟨gb143, _, none⟩) NB121_143.out _).trans (hHeld.2.2.1)))))), ((cell_far (p := ⟨gb143, _, none⟩) NB121_143.out _).trans (((cell_far (p := ⟨gb143, _, none⟩) NB121_143.out _).trans (((cell_far (p := ⟨gb143, _, none⟩) NB121_143.out _).trans (hHeld.2.2.2))))))⟩ (fun hHeld => ?_)
                                clear hK K
                                refine done_ (done_of HT_.out (by kernel_rfl)) ?_
                                try go_wp2
                                generalize ad142.add x48_3.toNat = pp_
                                go_loopg [] k3 (fun kq w' => ∃ (x4_4 : List Bool) (x144000_4 : Int) (x144001_4 : Int) (x144002_4 : Int), Aside0 (spec_CountTracks.l3 kq x4_4 (wrap64 (x7_3 + 1)) (x4_2.length : Int) x48_3 a0_0 a0_1 a0_2 a0_3 x144000_4 x144001_4 x144002_4 = some (r1, r2)) ∧ Aside0 (kq ≤ k3) ∧ Aside0 (Kd.R Kd.bool 4 w' w.heap.size (fun _ => True) (.slice (some ad142) x4_3.length co58) x4_4) ∧ Aside0 (w'.heap[gb121]? = some (.cells #[.int .i64 a0_0, .int .i64 a0_1, .string a0_2, .bool a0_3] 27 (0, 0))) ∧ Aside0 (w'.heap[gb143]? = some (.cells #[.int .i64 x144000_4, .int .i64 x144001_4, .int .i64 x144002_4] 34 (0, 0))) ∧ Aside0 (Below w.heap.size w w'))
                                case atStart => exact ⟨(x4_3), (Int.tmod (wrap64 (Int.tdiv x48_3 4)) a0_0), (wrap64 (Int.tdiv (wrap64 (Int.tdiv x48_3 4)) a0_0)), (Int.tmod x48_3 4), H', ⟨Nat.le_refl _⟩, ⟨by (try simp only [hl4_3]); (with_reducible repeat (first | apply Kd.R_alloc | apply Kd.R_drewN | apply Kd.R_drew)); exact Kd.R_mono (Kd.R_far (p := ⟨gb143, 2, none⟩) (Kd.R_far (p := ⟨gb143, 1, none⟩) (Kd.R_far (p := ⟨gb143, 0, none⟩) (Kd.R_types HO_4.out BK143.out (by decide)) (fun _ hk => hk.2) (.int .i64 (Int.tmod (wrap64 (Int.tdiv x48_3 4)) a0_0))) (fun _ hk => hk.2) (.int .i64 (wrap64 (Int.tdiv (wrap64 (Int.tdiv x48_3 4)) a0_0)))) (fun _ hk => hk.2) (.int .i64 (Int.tmod x48_3 4))) (fun _ hk => trivial)⟩, ⟨by (try simp only [hl4_3]); (with_reducible repeat (first | refine blk_drewN ?_ _ | refine blk_drew ?_ | refine blk_alloc ?_ _)); refine blk_far ?_ NB121_143.out _; (with_reducible repeat (first | refine blk_drewN ?_ _ | refine blk_drew ?_ | refine blk_alloc ?_ _)); refine blk_far ?_ NB121_143.out _; (with_reducible repeat (first | refine blk_drewN ?_ _ | refine blk_drew ?_ | refine blk_alloc ?_ _)); refine blk_far ?_ NB121_143.out _; (with_reducible repeat (first | refine blk_drewN ?_ _ | refine blk_drew ?_ | refine blk_alloc ?_ _)); exact BK121.out⟩, ⟨by (try simp only [hl4_3]); (with_reducible repeat (first | refine blk_drewN ?_ _ | refine blk_drew ?_ | refine blk_alloc ?_ _)); refine blk_put (cs := #[.int .i64 (Int.tmod (wrap64 (Int.tdiv x48_3 4)) a0_0), .int .i64 (wrap64 (Int.tdiv (wrap64 (Int.tdiv x48_3 4)) a0_0)), .int .i64 0]) ?_ 2 _ rfl; (with_reducible repeat (first | refine blk_drewN ?_ _ | refine blk_drew ?_ | refine blk_alloc ?_ _)); refine blk_put (cs := #[.int .i64 (Int.tmod (wrap64 (Int.tdiv x48_3 4)) a0_0), .int .i64 0, .int .i64 0]) ?_ 1 _ rfl; (with_reducible repeat (first | refine blk_drewN ?_ _ | refine blk_drew ?_ | refine blk_alloc ?_ _)); refine blk_put (cs := #[.int .i64 0, .int .i64 0, .int .i64 0]) ?_ 0 _ rfl; (with_reducible repeat (first | refine blk_drewN ?_ _ | refine blk_drew ?_ | refine blk_alloc ?_ _)); exact BK143.out⟩, ⟨by repeat (first | (with_reducible first | exact HB.out | apply below_alloc | apply pw_below_drewN | apply below_drew1 | refine below_set ?_ GE121.out | refine below_set ?_ GE143.out) | exact HB.out)⟩⟩
                                case round =>
                                  clear H'
                                  try clear c1
                                  try clear p1
                                  try clear q1
                                  try clear hx1
                                  try clear c2
                                  try clear p2
                                  try clear c3
                                  try clear p3
                                  try clear q3
                                  try clear hx3
                                  try clear hf3
                                  try clear c4
                                  try clear c5
                                  try clear c6
                                  try clear p6
                                  try clear q6
                                  try clear c8
                                  try clear c9
                                  try clear c10
                                  try clear c11
                                  try clear c12
                                  try clear c13
                                  try clear c13b0
                                  try clear c13b1
                                  try clear c14
                                  try clear c14b0
                                  try clear c14b1
                                  try clear p14
                                  try clear q14
                                  try clear hx14
                                  try clear c19
                                  try clear c19b0
                                  try clear c26
                                  try clear c29
                                  try clear c31
                                  try clear c31b0
                                  try clear c32
                                  try clear c32b0
                                  try clear p33
                                  try clear q33
                                  try clear hx33
                                  try clear hf33
                                  try clear c35
                                  try clear c46
                                  try clear c47
                                  try clear c52
                                  try clear c59
                                  try clear c59b0
                                  try clear c60
                                  try clear c60b0
                                  try clear c61
                                  try clear c61b0
                                  try clear q62
                                  try clear c63
                                  try clear c64
                                  try clear c64b0
                                  try clear c64b1
                                  try clear p64
                                  try clear hcz15_0
                                  try clear hcz15_1
                                  try clear hcz15_2
                                  try clear hcz15_3
                                  try clear hcz21_0
                                  try clear hcz21_1
                                  try clear hcz21_2
                                  try clear hcz21_3
                                  try clear hcz23_0
                                  try clear hcz23_1
                                  try clear hcz23_2
                                  try clear hcz23_3
                                  try clear hcz27_0
                                  try clear hcz27_1
                                  try clear hcz27_2
                                  try clear hcz36_0
                                  try clear hcz36_1
                                  try clear hcz36_2
                                  try clear hcz36_3
                                  try clear hcz37_0
                                  try clear hcz37_1
                                  try clear hcz37_2
                                  try clear hcz39_0
                                  try clear hcz39_1
                                  try clear hcz39_2
                                  try clear hcz39_3
                                  try clear hcz40_0
                                  try clear hcz40_1
                                  try clear hcz40_2
                                  try clear hcz44_0
                                  try clear hcz44_1
                                  try clear hcz44_2
                                  try clear hcz48_0
                                  try clear hcz48_1
                                  try clear hcz48_2
                                  try clear hcz49_0
                                  try clear hcz49_1
                                  try clear hcz49_2
                                  try clear hcz49_3
                                  try clear hcz51_0
                                  try clear hcz51_1
                                  try clear hcz51_2
                                  try clear hcz53_0
                                  try clear hcz53_1
                                  try clear hcz53_2
                                  try clear hcz53_3
                                  try clear hcz54_0
                                  try clear hcz54_1
                                  try clear hcz54_2
                                  try clear hcz56_0
                                  try clear hcz56_1
                                  try clear hcz56_2
                                  try clear hcz56_3
                                  try clear hcz6_0
                                  try clear hcz6_1
                                  try clear hcz6_2
                                  try clear hcz6_3
                                  try clear hcz8_0
                                  try clear hcz8_1
                                  try clear hcz8_2
                                  try clear hcz8_3
                                  try clear hcz9_0
                                  try clear hcz9_1
                                  try clear hcz9_2
                                  try clear hcz9_3
                                  try clear hfz15_0
                                  try clear hfz15_1
                                  try clear hfz15_2
                                  try clear hfz15_3
                                  try clear hfz21_0
                                  try clear hfz21_1
                                  try clear hfz21_2
                                  try clear hfz21_3
                                  try clear hfz23_0
                                  try clear hfz23_1
                                  try clear hfz23_2
                                  try clear hfz23_3
                                  try clear hfz27_0
                                  try clear hfz27_1
                                  try clear hfz27_2
                                  try clear hfz36_0
                                  try clear hfz36_1
                                  try clear hfz36_2
                                  try clear hfz36_3
                                  try clear hfz37_0
                                  try clear hfz37_1
                                  try clear hfz37_2
                                  try clear hfz39_0
                                  try clear hfz39_1
                                  try clear hfz39_2
                                  try clear hfz39_3
                                  try clear hfz40_0
                                  try clear hfz40_1
                                  try clear hfz40_2
                                  try clear hfz44_0
                                  try clear hfz44_1
                                  try clear hfz44_2
                                  try clear hfz48_0
                                  try clear hfz48_1
                                  try clear hfz48_2
                                  try clear hfz49_0
                                  try clear hfz49_1
                                  try clear hfz49_2
                                  try clear hfz49_3
                                  try clear hfz51_0
                                  try clear hfz51_1
                                  try clear hfz51_2
                                  try clear hfz53_0
                                  try clear hfz53_1
                                  try clear hfz53_2
                                  try clear hfz53_3
                                  try clear hfz54_0
                                  try clear hfz54_1
                                  try clear hfz54_2
                                  try clear hfz56_0
                                  try clear hfz56_1
                                  try clear hfz56_2
                                  try clear hfz56_3
                                  try clear hfz6_0
                                  try clear hfz6_1
                                  try clear hfz6_2
                                  try clear hfz6_3
                                  try clear hfz8_0
                                  try clear hfz8_1
                                  try clear hfz8_2
                                  try clear hfz8_3
                                  try clear hfz9_0
                                  try clear hfz9_1
                                  try clear hfz9_2
                                  try clear hfz9_3
                                  try clear hx142_0
                                  try clear hx33_0
                                  try clear p142
                                  try clear p2
                                  try clear p3
                                  try clear p33
                                  try clear p6
                                  try clear q142
                                  try clear q3
                                  try clear q33
                                  obtain ⟨x4_4, x144000_4, x144001_4, x144002_4, HA, HK4, HO_4, BK121, BK143, HB⟩ := hrel
                                  have hl4_4 := (Kd.R_reads' HO_4.out).1
                                  rw [hl4_4] at HO_4
                                  (try simp only [hl4_4])
                                  (try simp only [hl4_4] at BK121)
                                  (try simp only [hl4_4] at BK143)
                                  cases gk with
                                  | zero => exact absurd HA.out (by simp [spec_CountTracks.l3])
                                  | succ k4 =>
                                    have H := HA.out
                                    clear HA
                                    simp only [spec_CountTracks.l3] at H
                                    replace H := Option.bind_eq_some_iff.mp H
                                    obtain ⟨t144, A700, H⟩ := H
                                    replace H : (if 0 ≤ t144 then (if t144 < (x4_4.length : Int) then (if rdOf false x4_4 t144 = true then (spec_CountTracks.l2 k4 x4_4 (wrap64 (x7_3 + 1)) (x4_2.length : Int) (wrap64 (x48_3 + 1)) a0_0 a0_1 a0_2 a0_3) else ((spec_miIndex.f a0_0 a0_1 a0_2 a0_3 x144000_4 x144001_4 x144002_4).bind fun t146 => (if 0 ≤ t146 then (if t146 < (x4_4.length : Int) then ((spec_miHit.f k4 a0_0 a0_1 a0_2 a0_3 x144000_4 x144001_4 x144002_4).bind fun bt148 => (spec_CountTracks.l3 k4 (x4_4.set (t146 : Int).toNat true) (wrap64 (x7_3 + 1)) (x4_2.length : Int) x48_3 a0_0 a0_1 a0_2 a0_3 bt148.2.2.2.2.1 bt148.2.2.2.2.2.1 bt148.2.2.2.2.2.2)) else (none)) else (none)))) else (none)) else (none)) = some (r1, r2) := H
                                    have A70 := Aside0.mk A700
                                    clear A700
                                    by_cases c71 : 0 ≤ t144
                                    · rw [if_pos c71] at H
                                      have c71b0 : decide (0 ≤ t144) = true := decide_eq_true c71
                                      clear c71
                                      by_cases c72 : t144 < (x4_4.length : Int)
                                      · rw [if_pos c72] at H
                                        have c72b0 : decide (t144 < (x4_4.length : Int)) = true := decide_eq_true c72
                                        clear c72
                                        obtain ⟨bq73, hbq73⟩ : ∃ b_ : Bool, b_ = (rdOf false x4_4 t144) := ⟨_, rfl⟩
                                        replace H : (if bq73 = true then (spec_CountTracks.l2 k4 x4_4 (wrap64 (x7_3 + 1)) (x4_2.length : Int) (wrap64 (x48_3 + 1)) a0_0 a0_1 a0_2 a0_3) else ((spec_miIndex.f a0_0 a0_1 a0_2 a0_3 x144000_4 x144001_4 x144002_4).bind fun t146 => (if 0 ≤ t146 then (if t146 < (x4_4.length : Int) then ((spec_miHit.f k4 a0_0 a0_1 a0_2 a0_3 x144000_4 x144001_4 x144002_4).bind fun bt148 => (spec_CountTracks.l3 k4 (x4_4.set (t146 : Int).toNat true) (wrap64 (x7_3 + 1)) (x4_2.length : Int) x48_3 a0_0 a0_1 a0_2 a0_3 bt148.2.2.2.2.1 bt148.2.2.2.2.2.1 bt148.2.2.2.2.2.2)) else (none)) else (none)))) = some (r1, r2) := by rw [← hbq73] at H; exact H
                                        have Nbq73 := Aside0.mk hbq73
                                        clear hbq73
                                        by_cases c74 : bq73 = true
                                        · subst c74
                                          have H1 : (spec_CountTracks.l2 k4 x4_4 (wrap64 (x7_3 + 1)) (x4_2.length : Int) (wrap64 (x48_3 + 1)) a0_0 a0_1 a0_2 a0_3) = some (r1, r2) := by rw [if_pos rfl] at H; exact H
                                          clear H
                                          have H := H1
                                          clear H1
                                          have H' := Aside0.mk H
                                          clear H
                                          have hnb75 := NB121_143.out
                                          have hnc75 := NB143_121.out
                                          have hcz76_0 : wr.cell? ⟨gb121, 0, none⟩ = some (.int .i64 a0_0) := (blk_cell BK121.out 0).trans rfl
                                          have hcz76_1 : wr.cell? ⟨gb121, 1, none⟩ = some (.int .i64 a0_1) := (blk_cell BK121.out 1).trans rfl
                                          have hcz76_2 : wr.cell? ⟨gb121, 2, none⟩ = some (.string a0_2) := (blk_cell BK121.out 2).trans rfl
                                          have hcz76_3 : wr.cell? ⟨gb121, 3, none⟩ = some (.bool a0_3) := (blk_cell BK121.out 3).trans rfl
                                          have hfz76_0 := blk_frozen BK121.out 0
                                          have hfz76_1 := blk_frozen BK121.out 1
                                          have hfz76_2 := blk_frozen BK121.out 2
                                          have hfz76_3 := blk_frozen BK121.out 3
                                          have hcz77_0 : wr.cell? ⟨gb143, 0, none⟩ = some (.int .i64 x144000_4) := (blk_cell BK143.out 0).trans rfl
                                          have hcz77_1 : wr.cell? ⟨gb143, 1, none⟩ = some (.int .i64 x144001_4) := (blk_cell BK143.out 1).trans rfl
                                          have hcz77_2 : wr.cell? ⟨gb143, 2, none⟩ = some (.int .i64 x144002_4) := (blk_cell BK143.out 2).trans rfl
                                          have hfz77_0 := blk_frozen BK143.out 0
                                          have hfz77_1 := blk_frozen BK143.out 1
                                          have hfz77_2 := blk_frozen BK143.out 2
                                          go_wp2_with (first | ((with_reducible refine gate_callee (f := 13) rfl ?_); refine goesL_ (some 73) rfl rfl Tryd.func13 (by kernel_rfl) rfl #[.agg #[.int .i64 a0_0, .int .i64 a0_1, .string a0_2, .bool a0_3], .agg #[.int .i64 x144000_4, .int .i64 x144001_4, .int .i64 x144002_4]] rfl (by (try simp only [List.map_toArray, List.map_cons, List.map_nil]); first | done | rfl | (simp only [List.length_drop, List.length_take]; rfl)) ?_; (with_reducible refine (spec_miIndex.calls a0_0 a0_1 a0_2 a0_3 x144000_4 x144001_4 x144002_4 t144 _ A70.out).mono ?_); rintro e w78 ⟨rfl, hb⟩; refine ⟨_, rfl, ?_⟩; have n0_ := Aside0.mk (Kd.R_below (by (with_reducible repeat (first | apply Kd.R_alloc | apply Kd.R_drewN | apply Kd.R_drew)); exact HO_4.out) hb); have n1_ := Aside0.mk (blk_below (g := gb121) (o := .cells #[.int .i64 a0_0, .int .i64 a0_1, .string a0_2, .bool a0_3] 27 (0, 0)) (XSq.bq BK121) hb); have n2_ := Aside0.mk (blk_below (g := gb143) (o := .cells #[.int .i64 x144000_4, .int .i64 x144001_4, .int .i64 x144002_4] 34 (0, 0)) (XSq.bq BK143) hb); have n3_ := Aside0.mk (below_step (XSq.bB HB) hb); clear HO_4; clear BK121; clear BK143; clear HB; have HO_4 := n0_; have BK121 := n1_; have BK143 := n2_; have HB := n3_; clear n0_ n1_ n2_ n3_; (try clear hb); (try clear hb2); (try clear hk); (try clear hi); have p145 : 0 ≤ (t144 : Int) := of_decide_eq_true (by first | (with_reducible assumption) | assumption); have q145 : t144 < (x4_4.length : Int) := of_decide_eq_true (by first | (with_reducible assumption) | assumption); obtain ⟨ad145, e145, hx145_0⟩ := Kd.at_bool (Kd.R_reads' HO_4.out).2.2 t144 p145 q145; (try rw [← Nbq62.out] at hx145_0); (try rw [← Nbq73.out] at hx145_0); obtain rfl : ad142 = ad145 := (by injection e145); replace p145 := eq_true p145; replace q145 := eq_true q145))
                                          (try simp only [← hl4_3, ← hl4_4])
                                          go_roundg k4
                                          case measure => have := HJ1.out; have := HK2.out; have := HK3.out; have := HK4.out; omega
                                          case rel => exact ⟨(x4_4), ((wrap64 (x7_3 + 1))), (wrap64 (x48_3 + 1)), (by first | rfl | (simp; done) | (simp [*]; done)), (by first | rfl | (simp; done) | (simp [*]; done)), H', ⟨by have := HJ1.out; have := HK2.out; have := HK3.out; have := HK4.out; omega⟩, ⟨by (try simp only [hl4_3]); (try simp only [hl4_4]); (with_reducible repeat (first | apply Kd.R_alloc | apply Kd.R_drewN | apply Kd.R_drew)); exact HO_4.out⟩, ⟨by (try simp only [hl4_3]); (try simp only [hl4_4]); (with_reducible repeat (first | refine blk_drewN ?_ _ | refine blk_drew ?_ | refine blk_alloc ?_ _)); exact BK121.out⟩, ⟨by repeat (first | (with_reducible first | exact HB.out | apply below_alloc | apply pw_below_drewN | apply below_drew1 | refine below_set ?_ GE121.out | refine below_set ?_ GE143.out) | exact HB.out)⟩⟩
                                        · replace c74 := Bool.eq_false_iff.mpr c74
                                          subst c74
                                          have H1 : ((spec_miIndex.f a0_0 a0_1 a0_2 a0_3 x144000_4 x144001_4 x144002_4).bind fun t146 => (if 0 ≤ t146 then (if t146 < (x4_4.length : Int) then ((spec_miHit.f k4 a0_0 a0_1 a0_2 a0_3 x144000_4 x144001_4 x144002_4).bind fun bt148 => (spec_CountTracks.l3 k4 (x4_4.set (t146 : Int).toNat true) (wrap64 (x7_3 + 1)) (x4_2.length : Int) x48_3 a0_0 a0_1 a0_2 a0_3 bt148.2.2.2.2.1 bt148.2.2.2.2.2.1 bt148.2.2.2.2.2.2)) else (none)) else (none))) = some (r1, r2) := by rw [if_neg (show ¬ (false = true) by decide)] at H; exact H
                                          clear H
                                          have H := H1
                                          clear H1
                                          replace H := Option.bind_eq_some_iff.mp H
                                          obtain ⟨t146, A790, H⟩ := H
                                          replace H : (if 0 ≤ t146 then (if t146 < (x4_4.length : Int) then ((spec_miHit.f k4 a0_0 a0_1 a0_2 a0_3 x144000_4 x144001_4 x144002_4).bind fun bt148 => (spec_CountTracks.l3 k4 (x4_4.set (t146 : Int).toNat true) (wrap64 (x7_3 + 1)) (x4_2.length : Int) x48_3 a0_0 a0_1 a0_2 a0_3 bt148.2.2.2.2.1 bt148.2.2.2.2.2.1 bt148.2.2.2.2.2.2)) else (none)) else (none)) = some (r1, r2) := H
                                          have A79 := Aside0.mk A790
                                          clear A790
                                          by_cases c80 : 0 ≤ t146
                                          · rw [if_pos c80] at H
                                            have c80b0 : decide (0 ≤ t146) = true := decide_eq_true c80
                                            clear c80
                                            by_cases c81 : t146 < (x4_4.length : Int)
                                            · rw [if_pos c81] at H
                                              have c81b0 : decide (t146 < (x4_4.length : Int)) = true := decide_eq_true c81
                                              clear c81
                                              obtain ⟨y147, hy147⟩ : ∃ y_ : List Bool, y_ = (x4_4.set (t146 : Int).toNat true) := ⟨_, rfl⟩
                                              replace H : ((spec_miHit.f k4 a0_0 a0_1 a0_2 a0_3 x144000_4 x144001_4 x144002_4).bind fun bt148 => (spec_CountTracks.l3 k4 y147 (wrap64 (x7_3 + 1)) (x4_2.length : Int) x48_3 a0_0 a0_1 a0_2 a0_3 bt148.2.2.2.2.1 bt148.2.2.2.2.2.1 bt148.2.2.2.2.2.2)) = some (r1, r2) := by first | (rw [hy147]; with_reducible exact H) | (have H2_ := (Option.bind_some _ _).symm.trans H; rw [hy147]; with_reducible exact H2_) | (have H2_ := (Option.bind_some _ _).symm.trans H; with_reducible exact H2_) | with_reducible exact H | (rw [hy147]; exact H) | exact H
                                              have Ny147 := Aside0.mk hy147
                                              clear hy147
                                              replace H := Option.bind_eq_some_iff.mp H
                                              obtain ⟨⟨t148, t149, t150, t151, t152, t153, t154⟩, A830, H⟩ := H
                                              replace H : (spec_CountTracks.l3 k4 y147 (wrap64 (x7_3 + 1)) (x4_2.length : Int) x48_3 a0_0 a0_1 a0_2 a0_3 t152 t153 t154) = some (r1, r2) := H
                                              have A83 := Aside0.mk A830
                                              clear A830
                                              have H' := Aside0.mk H
                                              clear H
                                              have hnb84 := NB121_143.out
                                              have hnc84 := NB143_121.out
                                              have hcz85_0 : wr.cell? ⟨gb121, 0, none⟩ = some (.int .i64 a0_0) := (blk_cell BK121.out 0).trans rfl
                                              have hcz85_1 : wr.cell? ⟨gb121, 1, none⟩ = some (.int .i64 a0_1) := (blk_cell BK121.out 1).trans rfl
                                              have hcz85_2 : wr.cell? ⟨gb121, 2, none⟩ = some (.string a0_2) := (blk_cell BK121.out 2).trans rfl
                                              have hcz85_3 : wr.cell? ⟨gb121, 3, none⟩ = some (.bool a0_3) := (blk_cell BK121.out 3).trans rfl
                                              have hfz85_0 := blk_frozen BK121.out 0
                                              have hfz85_1 := blk_frozen BK121.out 1
                                              have hfz85_2 := blk_frozen BK121.out 2
                                              have hfz85_3 := blk_frozen BK121.out 3
                                              have hcz86_0 : wr.cell? ⟨gb143, 0, none⟩ = some (.int .i64 x144000_4) := (blk_cell BK143.out 0).trans rfl
                                              have hcz86_1 : wr.cell? ⟨gb143, 1, none⟩ = some (.int .i64 x144001_4) := (blk_cell BK143.out 1).trans rfl
                                              have hcz86_2 : wr.cell? ⟨gb143, 2, none⟩ = some (.int .i64 x144002_4) := (blk_cell BK143.out 2).trans rfl
                                              have hfz86_0 := blk_frozen BK143.out 0
                                              have hfz86_1 := blk_frozen BK143.out 1
                                              have hfz86_2 := blk_frozen BK143.out 2
                                              go_wp2_with (first | ((with_reducible refine gate_callee (f := 13) rfl ?_); refine goesL_ (some 73) rfl rfl Tryd.func13 (by kernel_rfl) rfl #[.agg #[.int .i64 a0_0, .int .i64 a0_1, .string a0_2, .bool a0_3], .agg #[.int .i64 x144000_4, .int .i64 x144001_4, .int .i64 x144002_4]] rfl (by (try simp only [List.map_toArray, List.map_cons, List.map_nil]); first | done | rfl | (simp only [List.length_drop, List.length_take]; rfl)) ?_; (with_reducible refine (spec_miIndex.calls a0_0 a0_1 a0_2 a0_3 x144000_4 x144001_4 x144002_4 t144 _ A70.out).mono ?_); rintro e w87 ⟨rfl, hb⟩; refine ⟨_, rfl, ?_⟩; have n0_ := Aside0.mk (Kd.R_below (by (with_reducible repeat (first | apply Kd.R_alloc | apply Kd.R_drewN | apply Kd.R_drew)); exact HO_4.out) hb); have n1_ := Aside0.mk (blk_below (g := gb121) (o := .cells #[.int .i64 a0_0, .int .i64 a0_1, .string a0_2, .bool a0_3] 27 (0, 0)) (XSq.bq BK121) hb); have n2_ := Aside0.mk (blk_below (g := gb143) (o := .cells #[.int .i64 x144000_4, .int .i64 x144001_4, .int .i64 x144002_4] 34 (0, 0)) (XSq.bq BK143) hb); have n3_ := Aside0.mk (below_step (XSq.bB HB) hb); clear HO_4; clear BK121; clear BK143; clear HB; have HO_4 := n0_; have BK121 := n1_; have BK143 := n2_; have HB := n3_; clear n0_ n1_ n2_ n3_; (try clear hb); (try clear hb2); (try clear hk); (try clear hi); have p145 : 0 ≤ (t144 : Int) := of_decide_eq_true (by first | (with_reducible assumption) | assumption); have q145 : t144 < (x4_4.length : Int) := of_decide_eq_true (by first | (with_reducible assumption) | assumption); obtain ⟨ad145, e145, hx145_0⟩ := Kd.at_bool (Kd.R_reads' HO_4.out).2.2 t144 p145 q145; (try rw [← Nbq62.out] at hx145_0); (try rw [← Nbq73.out] at hx145_0); obtain rfl : ad142 = ad145 := (by injection e145); replace p145 := eq_true p145; replace q145 := eq_true q145; have hcz88_0 : w87.cell? ⟨gb121, 0, none⟩ = some (.int .i64 a0_0) := (blk_cell BK121.out 0).trans rfl; have hcz88_1 : w87.cell? ⟨gb121, 1, none⟩ = some (.int .i64 a0_1) := (blk_cell BK121.out 1).trans rfl; have hcz88_2 : w87.cell? ⟨gb121, 2, none⟩ = some (.string a0_2) := (blk_cell BK121.out 2).trans rfl; have hcz88_3 : w87.cell? ⟨gb121, 3, none⟩ = some (.bool a0_3) := (blk_cell BK121.out 3).trans rfl; have hfz88_0 := blk_frozen BK121.out 0; have hfz88_1 := blk_frozen BK121.out 1; have hfz88_2 := blk_frozen BK121.out 2; have hfz88_3 := blk_frozen BK121.out 3; have hcz89_0 : w87.cell? ⟨gb143, 0, none⟩ = some (.int .i64 x144000_4) := (blk_cell BK143.out 0).trans rfl; have hcz89_1 : w87.cell? ⟨gb143, 1, none⟩ = some (.int .i64 x144001_4) := (blk_cell BK143.out 1).trans rfl; have hcz89_2 : w87.cell? ⟨gb143, 2, none⟩ = some (.int .i64 x144002_4) := (blk_cell BK143.out 2).trans rfl; have hfz89_0 := blk_frozen BK143.out 0; have hfz89_1 := blk_frozen BK143.out 1; have hfz89_2 := blk_frozen BK143.out 2) | ((with_reducible refine gate_callee (f := 13) rfl ?_); refine goesL_ (some 80) rfl rfl Tryd.func13 (by kernel_rfl) rfl #[.agg #[.int .i64 a0_0, .int .i64 a0_1, .string a0_2, .bool a0_3], .agg #[.int .i64 x144000_4, .int .i64 x144001_4, .int .i64 x144002_4]] rfl (by (try simp only [List.map_toArray, List.map_cons, List.map_nil]); first | done | rfl | (simp only [List.length_drop, List.length_take]; rfl)) ?_; (with_reducible refine (spec_miIndex.calls a0_0 a0_1 a0_2 a0_3 x144000_4 x144001_4 x144002_4 t146 _ A79.out).mono ?_); rintro e w90 ⟨rfl, hb⟩; refine ⟨_, rfl, ?_⟩; have n0_ := Aside0.mk (Kd.R_below (by (with_reducible repeat (first | apply Kd.R_alloc | apply Kd.R_drewN | apply Kd.R_drew)); exact HO_4.out) hb); have n1_ := Aside0.mk (blk_below (g := gb121) (o := .cells #[.int .i64 a0_0, .int .i64 a0_1, .string a0_2, .bool a0_3] 27 (0, 0)) (XSq.bq BK121) hb); have n2_ := Aside0.mk (blk_below (g := gb143) (o := .cells #[.int .i64 x144000_4, .int .i64 x144001_4, .int .i64 x144002_4] 34 (0, 0)) (XSq.bq BK143) hb); have n3_ := Aside0.mk (below_step (XSq.bB HB) hb); clear HO_4; clear BK121; clear BK143; clear HB; have HO_4 := n0_; have BK121 := n1_; have BK143 := n2_; have HB := n3_; clear n0_ n1_ n2_ n3_; (try clear hb); (try clear hb2); (try clear hk); (try clear hi); have p82 : 0 ≤ (t146 : Int) := of_decide_eq_true (by first | (with_reducible assumption) | assumption); have q82 : (t146 : Int) < ((x4_4.length : Int) : Int) := of_decide_eq_true (by first | (with_reducible assumption) | assumption); obtain ⟨go82, co82, eo82, gb82, gl82, cl82, HG82⟩ := Kd.R_form HO_4.out (by omega); (first | cases eo82 | (injection eo82 with ea_ en_ ec_; (first | subst ea_ | (injection ea_ with ea_; subst ea_)); subst ec_; clear en_)); have GB82 := Aside0.mk gb82; have GG82 := Aside0.mk HG82; clear gb82 gl82 HG82; (first | simp only [add_plain] at hx142_0 | skip); (first | simp only [add_plain] at hx145_0 | skip); obtain ⟨hx82_0, hf82_0⟩ := Kd.R_celln false HO_4.out (t146 : Int) p82 q82; replace p82 := eq_true p82; replace q82 := eq_true q82; obtain ⟨hy91_, hz91_⟩ := Kd.R_celln false HO_4.out (t146 : Int) (of_decide_eq_true (by first | (with_reducible assumption) | assumption)) (of_decide_eq_true (by first | (with_reducible assumption) | assumption)); have HP91 := Kd.R_putg HO_4.out (t146 : Int) true) | ((with_reducible refine gate_store (t := 4) (p := 81) rfl ?_); refine store_event (t := 4) (p := 81) (v := ?vo_w92) (w1 := (w90.setCell ⟨go82, (t146 : Int).toNat, none⟩ (.bool true))) ?hg ?ho ?hn ?hr ?_; (case ho => rfl); (case hg => rfl); (case hn => rfl); (case hr => first | (go_simp; done) | (go_simp; rfl)); intro w92 hw; have hg : w90.grownBy w92 (some go82) := (by rw [hw]; exact HP91.2); have hp_ : Kd.R Kd.bool 4 w92 w.heap.size (fun _ => True) (.slice (some ⟨go82, 0, none⟩) x4_4.length co58) y147 := (by rw [hw, Ny147.out]; exact HP91.1); clear HP91; have n0_ := Aside0.mk (hp_); have n1_ := Aside0.mk (blk_grown (g := gb121) (o := .cells #[.int .i64 a0_0, .int .i64 a0_1, .string a0_2, .bool a0_3] 27 (0, 0)) (XSq.bq BK121) hg (Kd.R_ne HO_4.out BK121.out (by decide))); have n2_ := Aside0.mk (blk_grown (g := gb143) (o := .cells #[.int .i64 x144000_4, .int .i64 x144001_4, .int .i64 x144002_4] 34 (0, 0)) (XSq.bq BK143) hg (Kd.R_ne HO_4.out BK143.out (by decide))); have n3_ := Aside0.mk ((by rw [hw]; exact below_set (HB.out) GB82.out : Below w.heap.size w w92)); clear HO_4; clear BK121; clear BK143; clear HB; have HO_4 := n0_; have BK121 := n1_; have BK143 := n2_; have HB := n3_; clear n0_ n1_ n2_ n3_; clear hg hw hp_; have hcz93_0 : w92.cell? ⟨gb121, 0, none⟩ = some (.int .i64 a0_0) := (blk_cell BK121.out 0).trans rfl; have hcz93_1 : w92.cell? ⟨gb121, 1, none⟩ = some (.int .i64 a0_1) := (blk_cell BK121.out 1).trans rfl; have hcz93_2 : w92.cell? ⟨gb121, 2, none⟩ = some (.string a0_2) := (blk_cell BK121.out 2).trans rfl; have hcz93_3 : w92.cell? ⟨gb121, 3, none⟩ = some (.bool a0_3) := (blk_cell BK121.out 3).trans rfl; have hfz93_0 := blk_frozen BK121.out 0; have hfz93_1 := blk_frozen BK121.out 1; have hfz93_2 := blk_frozen BK121.out 2; have hfz93_3 := blk_frozen BK121.out 3; have hcz94_0 : w92.cell? ⟨gb143, 0, none⟩ = some (.int .i64 x144000_4) := (blk_cell BK143.out 0).trans rfl; have hcz94_1 : w92.cell? ⟨gb143, 1, none⟩ = some (.int .i64 x144001_4) := (blk_cell BK143.out 1).trans rfl; have hcz94_2 : w92.cell? ⟨gb143, 2, none⟩ = some (.int .i64 x144002_4) := (blk_cell BK143.out 2).trans rfl; have hfz94_0 := blk_frozen BK143.out 0; have hfz94_1 := blk_frozen BK143.out 1; have hfz94_2 := blk_frozen BK143.out 2) | ((with_reducible refine gate_callee (f := 12) rfl ?_); refine goesL_ (some 85) rfl rfl Tryd.func12 (by kernel_rfl) rfl #[.agg #[.int .i64 a0_0, .int .i64 a0_1, .string a0_2, .bool a0_3], .agg #[.int .i64 x144000_4, .int .i64 x144001_4, .int .i64 x144002_4]] rfl (by (try simp only [List.map_toArray, List.map_cons, List.map_nil]); first | done | rfl | (simp only [List.length_drop, List.length_take]; rfl)) ?_; (with_reducible refine (spec_miHit.calls k4 a0_0 a0_1 a0_2 a0_3 x144000_4 x144001_4 x144002_4 t148 t149 t150 t151 t152 t153 t154 _ A83.out).mono ?_); rintro e w95 ⟨rfl, hb⟩; refine ⟨_, rfl, ?_⟩; have n0_ := Aside0.mk (Kd.R_below (by (with_reducible repeat (first | apply Kd.R_alloc | apply Kd.R_drewN | apply Kd.R_drew)); exact HO_4.out) hb); have n1_ := Aside0.mk (blk_below (g := gb121) (o := .cells #[.int .i64 a0_0, .int .i64 a0_1, .string a0_2, .bool a0_3] 27 (0, 0)) (XSq.bq BK121) hb); have n2_ := Aside0.mk (blk_below (g := gb143) (o := .cells #[.int .i64 x144000_4, .int .i64 x144001_4, .int .i64 x144002_4] 34 (0, 0)) (XSq.bq BK143) hb); have n3_ := Aside0.mk (below_step (XSq.bB HB) hb); clear HO_4; clear BK121; clear BK143; clear HB; have HO_4 := n0_; have BK121 := n1_; have BK143 := n2_; have HB := n3_; clear n0_ n1_ n2_ n3_; (try clear hb); (try clear hb2); (try clear hk); (try clear hi); have hcz96_0 : w95.cell? ⟨gb143, 0, none⟩ = some (.int .i64 x144000_4) := (blk_cell BK143.out 0).trans rfl; have hcz96_1 : w95.cell? ⟨gb143, 1, none⟩ = some (.int .i64 x144001_4) := (blk_cell BK143.out 1).trans rfl; have hcz96_2 : w95.cell? ⟨gb143, 2, none⟩ = some (.int .i64 x144002_4) := (blk_cell BK143.out 2).trans rfl; have hfz96_0 := blk_frozen BK143.out 0; have hfz96_1 := blk_frozen BK143.out 1; have hfz96_2 := blk_frozen BK143.out 2))
                                              (try simp only [← hl4_4])
                                              go_roundg k4
                                              case measure => have := HJ1.out; have := HK2.out; have := HK3.out; have := HK4.out; omega
                                              case rel => exact ⟨(y147), (t152), (t153), (t154), H', ⟨by have := HJ1.out; have := HK2.out; have := HK3.out; have := HK4.out; omega⟩, ⟨by (try simp only [hl4_3]); (try simp only [hl4_4]); (with_reducible repeat (first | apply Kd.R_alloc | apply Kd.R_drewN | apply Kd.R_drew)); exact Kd.R_mono (Kd.R_far (p := ⟨gb143, 2, none⟩) (Kd.R_far (p := ⟨gb143, 1, none⟩) (Kd.R_far (p := ⟨gb143, 0, none⟩) (Kd.R_types HO_4.out BK143.out (by decide)) (fun _ hk => hk.2) (.int .i64 t152)) (fun _ hk => hk.2) (.int .i64 t153)) (fun _ hk => hk.2) (.int .i64 t154)) (fun _ hk => trivial)⟩, ⟨by (try simp only [hl4_3]); (try simp only [hl4_4]); (with_reducible repeat (first | refine blk_drewN ?_ _ | refine blk_drew ?_ | refine blk_alloc ?_ _)); refine blk_far ?_ NB121_143.out _; (with_reducible repeat (first | refine blk_drewN ?_ _ | refine blk_drew ?_ | refine blk_alloc ?_ _)); refine blk_far ?_ NB121_143.out _; (with_reducible repeat (first | refine blk_drewN ?_ _ | refine blk_drew ?_ | refine blk_alloc ?_ _)); refine blk_far ?_ NB121_143.out _; (with_reducible repeat (first | refine blk_drewN ?_ _ | refine blk_drew ?_ | refine blk_alloc ?_ _)); exact BK121.out⟩, ⟨by (try simp only [hl4_3]); (try simp only [hl4_4]); (with_reducible repeat (first | refine blk_drewN ?_ _ | refine blk_drew ?_ | refine blk_alloc ?_ _)); refine blk_put (cs := #[.int .i64 t152, .int .i64 t153, .int .i64 x144002_4]) ?_ 2 _ rfl; (with_reducible repeat (first | refine blk_drewN ?_ _ | refine blk_drew ?_ | refine blk_alloc ?_ _)); refine blk_put (cs := #[.int .i64 t152, .int .i64 x144001_4, .int .i64 x144002_4]) ?_ 1 _ rfl; (with_reducible repeat (first | refine blk_drewN ?_ _ | refine blk_drew ?_ | refine blk_alloc ?_ _)); refine blk_put (cs := #[.int .i64 x144000_4, .int .i64 x144001_4, .int .i64 x144002_4]) ?_ 0 _ rfl; (with_reducible repeat (first | refine blk_drewN ?_ _ | refine blk_drew ?_ | refine blk_alloc ?_ _)); exact BK143.out⟩, ⟨by repeat (first | (with_reducible first | exact HB.out | apply below_alloc | apply pw_below_drewN | apply below_drew1 | refine below_set ?_ GE121.out | refine below_set ?_ GE143.out) | exact HB.out)⟩⟩
                                            · rw [if_neg c81] at H
                                              exact absurd H (by simp)
                                          · rw [if_neg c80] at H
                                            exact absurd H (by simp)
                                      · rw [if_neg c72] at H
                                        exact absurd H (by simp)
                                    · rw [if_neg c71] at H
                                      exact absurd H (by simp)
                          · rw [if_neg c61] at H
                            exact absurd H (by simp)
                        · rw [if_neg c60] at H
                          exact absurd H (by simp)
                      · rw [if_neg c59] at H
                        have c59b0 : decide (x48_3 < (x4_2.length : Int)) = false := decide_eq_false c59
                        have c59b1 : decide (x48_3 < (x4_3.length : Int)) = false := by rw [← hl4_3]; exact c59b0
                        clear c59
                        simp only [Option.some.injEq, Prod.mk.injEq] at H
                        obtain ⟨rfl, rfl⟩ := H
                        go_wp2
                        go_ret2
                        exact ⟨by first | rfl | (simp [errW_none, errW_some] <;> rfl) | (simp only [← hji12]; first | rfl | (simp [errW_none, errW_some] <;> rfl)) | (simp [*, errW_none, errW_some] <;> rfl), by repeat (first | (with_reducible first | exact HB.out | apply below_alloc | apply pw_below_drewN | apply below_drew1 | refine below_set ?_ GE121.out) | exact HB.out)⟩
          · rw [if_neg c14] at H
            exact absurd H (by simp)
        · rw [if_neg c13] at H
          exact absurd H (by simp)

end Go.Proofs.YtnbfjggbplofgaaDoor.PFnExactCountTracks
