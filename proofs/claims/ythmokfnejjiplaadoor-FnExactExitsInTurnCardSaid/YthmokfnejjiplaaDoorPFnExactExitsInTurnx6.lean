-- Made by wip/tools/xkit.py (a program of this session's) with the kit's printer.
import Derived.Test.YthmokfnejjiplaaDoorPFnExactExitsInTurnx0
import Derived.Test.YthmokfnejjiplaaDoorPFnExactExitsInTurnx1
import Derived.Test.YthmokfnejjiplaaDoorPFnExactExitsInTurnx3
import Derived.Test.YthmokfnejjiplaaDoorPFnExactExitsInTurnx4
import Derived.Test.YthmokfnejjiplaaDoorPFnExactExitsInTurnx5
namespace Go.Proofs.YthmokfnejjiplaaDoor.PFnExactExitsInTurn
open Go.RowKit Go.Proofs.YthmokfnejjiplaaDoorW.PrintWords Go.Proofs.YthmokfnejjiplaaDoorW.PrintLast Go.Proofs.YthmokfnejjiplaaDoorW.PrintMore
attribute [local go_sem] max2_int min2_int max_two min_two max_three min_three max_four min_four   -- for this text's walks alone
set_option linter.unusedVariables false
set_option linter.unusedSimpArgs false

attribute [local go_sem high] eqA32
/-! ### spec_miRun: function 59 -/
mutual
def spec_miRun.l0 : Nat → Int → Int → Int → Int → ByteArray → Bool → Int → Int → Int → Int → Int → ByteArray → Bool → Int → Int → Int → Option (Int × Int × ByteArray × Bool × Int × Int × Int × Bool)
  | 0, _, _, _, _, _, _, _, _, _, _, _, _, _, _, _, _ => none
  | k + 1, x11, x12, x136000, x136001, x136002, x136003, x137000, x137001, x137002, x139000, x139001, x139002, x139003, x140000, x140001, x140002 => (spec_miAt.f x139000 x139001 x139002 x139003 x140000 x140001 x140002).bind fun t140 => (if t140 = 46 then (spec_miRun.j1 k x11 x12 x136000 x136001 x136002 x136003 x137000 x137001 x137002 x139000 x139001 x139002 x139003 x140000 x140001 x140002) else (spec_miRun.j1 k (wrap64 (x11 + 1)) x12 x136000 x136001 x136002 x136003 x137000 x137001 x137002 x139000 x139001 x139002 x139003 x140000 x140001 x140002))
def spec_miRun.j1 : Nat → Int → Int → Int → Int → ByteArray → Bool → Int → Int → Int → Int → Int → ByteArray → Bool → Int → Int → Int → Option (Int × Int × ByteArray × Bool × Int × Int × Int × Bool)
  | 0, _, _, _, _, _, _, _, _, _, _, _, _, _, _, _, _ => none
  | k + 1, x11, x12, x136000, x136001, x136002, x136003, x137000, x137001, x137002, x139000, x139001, x139002, x139003, x140000, x140001, x140002 => (spec_miHit.f k x139000 x139001 x139002 x139003 x140000 x140001 x140002).bind fun bt141 => ((spec_miBall.f k bt141.1 bt141.2.1 bt141.2.2.1 bt141.2.2.2.1 bt141.2.2.2.2.1 bt141.2.2.2.2.2.1 bt141.2.2.2.2.2.2).bind fun t148 => (if t148 = true then (if (bt141.2.2.2.2.1 == x137000 && (bt141.2.2.2.2.2.1 == x137001 && (bt141.2.2.2.2.2.2 == x137002))) = true then (if bt141.2.2.1.toList = x136002.toList then (some (0, 0, (⟨#[]⟩ : ByteArray), false, 0, 0, 0, false)) else (spec_miRun.l0 k x11 (wrap64 (x12 + 1)) x136000 x136001 x136002 x136003 x137000 x137001 x137002 bt141.1 bt141.2.1 bt141.2.2.1 bt141.2.2.2.1 bt141.2.2.2.2.1 bt141.2.2.2.2.2.1 bt141.2.2.2.2.2.2)) else (spec_miRun.l0 k x11 (wrap64 (x12 + 1)) x136000 x136001 x136002 x136003 x137000 x137001 x137002 bt141.1 bt141.2.1 bt141.2.2.1 bt141.2.2.2.1 bt141.2.2.2.2.1 bt141.2.2.2.2.2.1 bt141.2.2.2.2.2.2)) else ((spec_miOut.f x136000 x136001 x136002 x136003 bt141.2.2.2.2.1 bt141.2.2.2.2.2.1 bt141.2.2.2.2.2.2).bind fun t149 => (some (bt141.1, bt141.2.1, bt141.2.2.1, bt141.2.2.2.1, t149, x11, wrap64 (x12 + 1), true)))))
end
def spec_miRun.f (k : Nat) (a0_0 : Int) (a0_1 : Int) (a0_2 : ByteArray) (a0_3 : Bool) (a1_0 : Int) (a1_1 : Int) (a1_2 : Int) : Option (Int × Int × ByteArray × Bool × Int × Int × Int × Bool) := spec_miRun.l0 k 0 0 a0_0 a0_1 a0_2 a0_3 a1_0 a1_1 a1_2 a0_0 a0_1 a0_2 a0_3 a1_0 a1_1 a1_2
theorem spec_miRun.mono_l : ∀ k, (∀ y0 y1 y2 y3 y4 y5 y6 y7 y8 y9 y10 y11 y12 y13 y14 y15, LeO (spec_miRun.l0 k y0 y1 y2 y3 y4 y5 y6 y7 y8 y9 y10 y11 y12 y13 y14 y15) (spec_miRun.l0 (k + 1) y0 y1 y2 y3 y4 y5 y6 y7 y8 y9 y10 y11 y12 y13 y14 y15)) ∧ (∀ y0 y1 y2 y3 y4 y5 y6 y7 y8 y9 y10 y11 y12 y13 y14 y15, LeO (spec_miRun.j1 k y0 y1 y2 y3 y4 y5 y6 y7 y8 y9 y10 y11 y12 y13 y14 y15) (spec_miRun.j1 (k + 1) y0 y1 y2 y3 y4 y5 y6 y7 y8 y9 y10 y11 y12 y13 y14 y15))
  | 0 => ⟨fun _ _ _ _ _ _ _ _ _ _ _ _ _ _ _ _ r h => by simp [spec_miRun.l0] at h, fun _ _ _ _ _ _ _ _ _ _ _ _ _ _ _ _ r h => by simp [spec_miRun.j1] at h⟩
  | k + 1 => by
    obtain ⟨ih0, ih1⟩ := spec_miRun.mono_l k
    refine ⟨?_, ?_⟩
    · intro y0 y1 y2 y3 y4 y5 y6 y7 y8 y9 y10 y11 y12 y13 y14 y15
      unfold spec_miRun.l0
      repeat' first
      | (with_reducible exact ih0 _ _ _ _ _ _ _ _ _ _ _ _ _ _ _ _)
      | (with_reducible exact ih1 _ _ _ _ _ _ _ _ _ _ _ _ _ _ _ _)
      | (with_reducible exact spec_miBall.mono _ _ _ _ _ _ _ _)
      | (with_reducible exact spec_miHit.mono _ _ _ _ _ _ _ _)
      | (with_reducible exact LeO.refl _)
      | (with_reducible exact LeO.none _)
      | (with_reducible refine LeO.ite ?_ ?_)
      | (with_reducible refine LeO.bind ?_ (fun _ => ?_))
      | exact ih0 _ _ _ _ _ _ _ _ _ _ _ _ _ _ _ _
      | exact ih1 _ _ _ _ _ _ _ _ _ _ _ _ _ _ _ _
      | exact spec_miBall.mono _ _ _ _ _ _ _ _
      | exact spec_miHit.mono _ _ _ _ _ _ _ _
      | exact LeO.none _
      | refine LeO.ite ?_ ?_
      | refine LeO.bind ?_ (fun _ => ?_)
    · intro y0 y1 y2 y3 y4 y5 y6 y7 y8 y9 y10 y11 y12 y13 y14 y15
      unfold spec_miRun.j1
      repeat' first
      | (with_reducible exact ih0 _ _ _ _ _ _ _ _ _ _ _ _ _ _ _ _)
      | (with_reducible exact ih1 _ _ _ _ _ _ _ _ _ _ _ _ _ _ _ _)
      | (with_reducible exact spec_miBall.mono _ _ _ _ _ _ _ _)
      | (with_reducible exact spec_miHit.mono _ _ _ _ _ _ _ _)
      | (with_reducible exact LeO.refl _)
      | (with_reducible exact LeO.none _)
      | (with_reducible refine LeO.ite ?_ ?_)
      | (with_reducible refine LeO.bind ?_ (fun _ => ?_))
      | exact ih0 _ _ _ _ _ _ _ _ _ _ _ _ _ _ _ _
      | exact ih1 _ _ _ _ _ _ _ _ _ _ _ _ _ _ _ _
      | exact spec_miBall.mono _ _ _ _ _ _ _ _
      | exact spec_miHit.mono _ _ _ _ _ _ _ _
      | exact LeO.none _
      | refine LeO.ite ?_ ?_
      | refine LeO.bind ?_ (fun _ => ?_)
theorem spec_miRun.mono : ∀ a0 a1 a2 a3 a4 a5 a6 k, LeO (spec_miRun.f k a0 a1 a2 a3 a4 a5 a6) (spec_miRun.f (k + 1) a0 a1 a2 a3 a4 a5 a6) := by
  intro a0 a1 a2 a3 a4 a5 a6 k
  obtain ⟨ih0, ih1⟩ := spec_miRun.mono_l k
  unfold spec_miRun.f
  repeat' first
      | (with_reducible exact ih0 _ _ _ _ _ _ _ _ _ _ _ _ _ _ _ _)
      | (with_reducible exact ih1 _ _ _ _ _ _ _ _ _ _ _ _ _ _ _ _)
      | (with_reducible exact spec_miBall.mono _ _ _ _ _ _ _ _)
      | (with_reducible exact spec_miHit.mono _ _ _ _ _ _ _ _)
      | (with_reducible exact LeO.refl _)
      | (with_reducible exact LeO.none _)
      | (with_reducible refine LeO.ite ?_ ?_)
      | (with_reducible refine LeO.bind ?_ (fun _ => ?_))
      | exact ih0 _ _ _ _ _ _ _ _ _ _ _ _ _ _ _ _
      | exact ih1 _ _ _ _ _ _ _ _ _ _ _ _ _ _ _ _
      | exact spec_miBall.mono _ _ _ _ _ _ _ _
      | exact spec_miHit.mono _ _ _ _ _ _ _ _
      | exact LeO.none _
      | refine LeO.ite ?_ ?_
      | refine LeO.bind ?_ (fun _ => ?_)
def spec_miRun.T8 : Bool × List (List Nat × List Nat) := (true, [([], []), ([], []), ([], []), ([1, 2], [1, 2]), ([], []), ([], []), ([0, 3, 0], [0]), ([3, 6, 0, 1, 2, 3, 6], [3]), ([4, 7, 0, 1, 2, 3, 4, 6, 7], [4]), ([5, 8, 0, 1, 2, 3, 4, 5, 6, 7, 8], [5]), ([9, 0, 1, 2, 3, 4, 5, 6, 7, 8, 9], [])])
def spec_miRun.B8 : List Nat := [0, 0, 0, 6, 0, 0, 15, 79, 223, 511, 1023]
theorem spec_miRun.tab8 : rtab .any (opsOf Tryd.f59 8) = spec_miRun.T8 := by kernel_rfl
theorem spec_miRun.bits8 : waitsOk spec_miRun.T8.2 spec_miRun.B8 = true := by kernel_rfl
set_option maxHeartbeats 8000000 in
set_option maxRecDepth 100000 in
theorem spec_miRun.calls (k : Nat) (a0_0 : Int) (a0_1 : Int) (a0_2 : ByteArray) (a0_3 : Bool) (a1_0 : Int) (a1_1 : Int) (a1_2 : Int) (r1 : Int) (r2 : Int) (r3 : ByteArray) (r4 : Bool) (r5 : Int) (r6 : Int) (r7 : Int) (r8 : Bool) (w : World) (h : spec_miRun.f k a0_0 a0_1 a0_2 a0_3 a1_0 a1_1 a1_2 = some (r1, r2, r3, r4, r5, r6, r7, r8)) :
    Calls Tryd.prog 59 #[.agg #[.int .i64 a0_0, .int .i64 a0_1, .string a0_2, .bool a0_3], .agg #[.int .i64 a1_0, .int .i64 a1_1, .int .i64 a1_2]] w fun e w' => e = .returned (.tuple #[.agg #[.int .i64 r1, .int .i64 r2, .string r3, .bool r4], .int .i64 r5, .int .i64 r6, .int .i64 r7, .bool r8]) ∧ Below w.heap.size w w' := by
  have hu26 := Tryd.underlying26
  have hu32 := Tryd.underlying32
  have HB := Aside0.mk (Below.refl w.heap.size w)
  have H : (spec_miRun.l0 k 0 0 a0_0 a0_1 a0_2 a0_3 a1_0 a1_1 a1_2 a0_0 a0_1 a0_2 a0_3 a1_0 a1_1 a1_2) = some (r1, r2, r3, r4, r5, r6, r7, r8) := h
  clear h
  have H' := Aside0.mk H
  clear H
  go_enter Tryd.func59, Tryd.ntmps59
  try go_wp2_with (first | ((with_reducible refine gate_dst (N := 2) rfl ?_); refine box_event ?hg (N := 2) ?hd (cs := #[.int .i64 a0_0, .int .i64 a0_1, .string a0_2, .bool a0_3]) (t := 26) ?hr ?_; (case hd => rfl); (case hg => rfl); (case hr => first | (go_simp; done) | (go_simp; rfl)); intro gb135 hg w3 hbox hb; have n0_ := Aside0.mk (below_step (XSq.bB HB) hb); have n1_ := Aside0.mk (hbox); have n2_ := Aside0.mk ((by rw [hg]; exact (below_size (XSq.bB HB)) : w.heap.size ≤ gb135)); have n3_ := Aside0.mk ((by rw [hg]; exact (below_size (XSq.bB HB)) : w.heap.size ≤ gb135)); clear HB; have HB := n0_; have BK135 := n1_; have GW135 := n2_; have GE135 := n3_; clear n0_ n1_ n2_ n3_; clear hb hbox hg) | ((with_reducible refine gate_dst (N := 3) rfl ?_); refine box_event ?hg (N := 3) ?hd (cs := #[.int .i64 a1_0, .int .i64 a1_1, .int .i64 a1_2]) (t := 32) ?hr ?_; (case hd => rfl); (case hg => rfl); (case hr => first | (go_simp; done) | (go_simp; rfl)); intro gb136 hg w4 hbox hb; have n0_ := Aside0.mk (blk_below (g := gb135) (o := .cells #[.int .i64 a0_0, .int .i64 a0_1, .string a0_2, .bool a0_3] 26 (0, 0)) (XSq.bq BK135) hb); have n1_ := Aside0.mk (below_step (XSq.bB HB) hb); have n2_ := Aside0.mk (hbox); have n3_ := Aside0.mk ((by rw [hg]; exact (below_size (XSq.bB HB)) : w.heap.size ≤ gb136)); have n4_ := Aside0.mk ((by rw [hg]; exact (below_size (XSq.bB HB)) : w.heap.size ≤ gb136)); have n5_ := Aside0.mk ((by rw [hg]; exact Nat.ne_of_lt (blk_lt (g := gb135) (o := .cells #[.int .i64 a0_0, .int .i64 a0_1, .string a0_2, .bool a0_3] 26 (0, 0)) (XSq.bq BK135)) : gb135 ≠ gb136)); have n6_ := Aside0.mk ((by rw [hg]; exact Nat.ne_of_gt (blk_lt (g := gb135) (o := .cells #[.int .i64 a0_0, .int .i64 a0_1, .string a0_2, .bool a0_3] 26 (0, 0)) (XSq.bq BK135)) : gb136 ≠ gb135)); clear BK135; clear HB; have BK135 := n0_; have HB := n1_; have BK136 := n2_; have GW136 := n3_; have GE136 := n4_; have NB135_136 := n5_; have NB136_135 := n6_; clear n0_ n1_ n2_ n3_ n4_ n5_ n6_; clear hb hbox hg) | ((with_reducible refine gate_dst (N := 4) rfl ?_); refine box_event ?hg (N := 4) ?hd (cs := #[.int .i64 0, .int .i64 0, .string (⟨#[]⟩ : ByteArray), .bool false]) (t := 26) ?hr ?_; (case hd => rfl); (case hg => rfl); (case hr => first | (go_simp; done) | (go_simp; rfl)); intro gb137 hg w5 hbox hb; have n0_ := Aside0.mk (blk_below (g := gb135) (o := .cells #[.int .i64 a0_0, .int .i64 a0_1, .string a0_2, .bool a0_3] 26 (0, 0)) (XSq.bq BK135) hb); have n1_ := Aside0.mk (blk_below (g := gb136) (o := .cells #[.int .i64 a1_0, .int .i64 a1_1, .int .i64 a1_2] 32 (0, 0)) (XSq.bq BK136) hb); have n2_ := Aside0.mk (below_step (XSq.bB HB) hb); have n3_ := Aside0.mk (hbox); have n4_ := Aside0.mk ((by rw [hg]; exact (below_size (XSq.bB HB)) : w.heap.size ≤ gb137)); have n5_ := Aside0.mk ((by rw [hg]; exact (below_size (XSq.bB HB)) : w.heap.size ≤ gb137)); have n6_ := Aside0.mk ((by rw [hg]; exact Nat.ne_of_lt (blk_lt (g := gb135) (o := .cells #[.int .i64 a0_0, .int .i64 a0_1, .string a0_2, .bool a0_3] 26 (0, 0)) (XSq.bq BK135)) : gb135 ≠ gb137)); have n7_ := Aside0.mk ((by rw [hg]; exact Nat.ne_of_gt (blk_lt (g := gb135) (o := .cells #[.int .i64 a0_0, .int .i64 a0_1, .string a0_2, .bool a0_3] 26 (0, 0)) (XSq.bq BK135)) : gb137 ≠ gb135)); have n8_ := Aside0.mk ((by rw [hg]; exact Nat.ne_of_lt (blk_lt (g := gb136) (o := .cells #[.int .i64 a1_0, .int .i64 a1_1, .int .i64 a1_2] 32 (0, 0)) (XSq.bq BK136)) : gb136 ≠ gb137)); have n9_ := Aside0.mk ((by rw [hg]; exact Nat.ne_of_gt (blk_lt (g := gb136) (o := .cells #[.int .i64 a1_0, .int .i64 a1_1, .int .i64 a1_2] 32 (0, 0)) (XSq.bq BK136)) : gb137 ≠ gb136)); clear BK135; clear BK136; clear HB; have BK135 := n0_; have BK136 := n1_; have HB := n2_; have BK137 := n3_; have GW137 := n4_; have GE137 := n5_; have NB135_137 := n6_; have NB137_135 := n7_; have NB136_137 := n8_; have NB137_136 := n9_; clear n0_ n1_ n2_ n3_ n4_ n5_ n6_ n7_ n8_ n9_; clear hb hbox hg))
  have n0_ := Aside0.mk (blk_drew BK135.out)
  have n1_ := Aside0.mk (blk_drew BK136.out)
  have n2_ := Aside0.mk (blk_drew BK137.out)
  have n3_ := Aside0.mk (below_drew1 HB.out)
  clear BK135
  clear BK136
  clear BK137
  clear HB
  have BK135 := n0_
  have BK136 := n1_
  have BK137 := n2_
  have HB := n3_
  clear n0_ n1_ n2_ n3_
  refine start_ (n := 6) (S := fun w' => w'.cell? ⟨gb135, 0, none⟩ = some (.int .i64 a0_0) ∧ w'.cell? ⟨gb135, 1, none⟩ = some (.int .i64 a0_1) ∧ w'.cell? ⟨gb135, 2, none⟩ = some (.string a0_2) ∧ w'.cell? ⟨gb135, 3, none⟩ = some (.bool a0_3) ∧ w'.cell? ⟨gb136, 0, none⟩ = some (.int .i64 a1_0) ∧ w'.cell? ⟨gb136, 1, none⟩ = some (.int .i64 a1_1) ∧ w'.cell? ⟨gb136, 2, none⟩ = some (.int .i64 a1_2)) (ds := []) #[false, false, false, false, false, false] (by kernel_rfl) rfl rfl ⟨(blk_cell BK135.out 0).trans rfl, (blk_cell BK135.out 1).trans rfl, (blk_cell BK135.out 2).trans rfl, (blk_cell BK135.out 3).trans rfl, (blk_cell BK136.out 0).trans rfl, (blk_cell BK136.out 1).trans rfl, (blk_cell BK136.out 2).trans rfl⟩ (fun hHeld => ?_)
  generalize w5.drew = w6 at BK135 BK136 BK137 HB hHeld ⊢
  refine take_ (i := 0) (N := some 13) (v := ?_) (a' := ?_) #[true, false, false, false, false, false] rfl rfl (by kernel_rfl) (fun _ _ _ h => h) (Or.inl ⟨by rfl, ?_⟩) hHeld ?_ ?_
  rotate_left
  · rintro w' ⟨s0, s1, s2, s3, s4, s5, s6⟩
    go_simp
    with_reducible rfl
  rotate_left
  · simp only [Act.put, List.setIfInBounds_toArray, List.set_cons_zero, List.set_cons_succ, i64_w, i32_w]
    rfl
  refine take_ (i := 1) (N := some 14) (v := ?_) (a' := ?_) #[true, true, false, false, false, false] rfl rfl (by kernel_rfl) (fun _ _ _ h => h) (Or.inl ⟨by rfl, ?_⟩) hHeld ?_ ?_
  rotate_left
  · rintro w' ⟨s0, s1, s2, s3, s4, s5, s6⟩
    go_simp
    with_reducible rfl
  rotate_left
  · simp only [Act.put, List.setIfInBounds_toArray, List.set_cons_zero, List.set_cons_succ, i64_w, i32_w]
    rfl
  refine join_ (σ := Nat × Nat) 2 #[true, true, true, true, false, false] (fun s_ => [(9, .pointer (some ⟨s_.1, 0, none⟩)), (10, .pointer (some ⟨s_.2, 0, none⟩))]) (fun s_ w' => (w'.cell? ⟨gb135, 0, none⟩ = some (.int .i64 a0_0) ∧ w'.cell? ⟨gb135, 1, none⟩ = some (.int .i64 a0_1) ∧ w'.cell? ⟨gb135, 2, none⟩ = some (.string a0_2) ∧ w'.cell? ⟨gb135, 3, none⟩ = some (.bool a0_3) ∧ w'.cell? ⟨gb136, 0, none⟩ = some (.int .i64 a1_0) ∧ w'.cell? ⟨gb136, 1, none⟩ = some (.int .i64 a1_1) ∧ w'.cell? ⟨gb136, 2, none⟩ = some (.int .i64 a1_2)) ∧ (w'.heap[gb135]? = some (.cells #[.int .i64 a0_0, .int .i64 a0_1, .string a0_2, .bool a0_3] 26 (0, 0))) ∧ (w'.heap[gb136]? = some (.cells #[.int .i64 a1_0, .int .i64 a1_1, .int .i64 a1_2] 32 (0, 0))) ∧ (w'.heap[gb137]? = some (.cells #[.int .i64 0, .int .i64 0, .string (⟨#[]⟩ : ByteArray), .bool false] 26 (0, 0))) ∧ (w'.heap[s_.1]? = some (.cells #[.int .i64 0, .int .i64 0, .string (⟨#[]⟩ : ByteArray), .bool false] 26 (0, 0))) ∧ (w'.heap[s_.2]? = some (.cells #[.int .i64 0, .int .i64 0, .int .i64 0] 32 (0, 0))) ∧ (w.heap.size ≤ s_.1) ∧ (w.heap.size ≤ s_.1) ∧ (gb135 ≠ s_.1) ∧ (s_.1 ≠ gb135) ∧ (gb136 ≠ s_.1) ∧ (s_.1 ≠ gb136) ∧ (gb137 ≠ s_.1) ∧ (s_.1 ≠ gb137) ∧ (s_.2 ≠ s_.1) ∧ (s_.1 ≠ s_.2) ∧ (w.heap.size ≤ s_.2) ∧ (w.heap.size ≤ s_.2) ∧ (gb135 ≠ s_.2) ∧ (s_.2 ≠ gb135) ∧ (gb136 ≠ s_.2) ∧ (s_.2 ≠ gb136) ∧ (gb137 ≠ s_.2) ∧ (s_.2 ≠ gb137) ∧ (Below w.heap.size w w')) ?_ ?_
  rotate_left
  · intro hCont
    refine two_ (i := 2) (j := 3) (Ni := some 9) (Nj := some 10) #[true, true, true, false, false, false] #[true, true, false, true, false, false] rfl rfl rfl rfl (by kernel_rfl) (by decide) (by decide) (fun K hK => ?_) (fun K hK => ?_)
    · skip
      refine box_step ?hg (N := 9) ?hd (cs := #[.int .i64 0, .int .i64 0, .string (⟨#[]⟩ : ByteArray), .bool false]) (t := 26) ?hr ?_; (case hd => rfl); (case hg => rfl); (case hr => first | (go_simp; done) | (go_simp; rfl))
      intro gb138 hg w7 hbox hb
      have n0_ := Aside0.mk (blk_below (g := gb135) (o := .cells #[.int .i64 a0_0, .int .i64 a0_1, .string a0_2, .bool a0_3] 26 (0, 0)) (XSq.bq BK135) hb)
      have n1_ := Aside0.mk (blk_below (g := gb136) (o := .cells #[.int .i64 a1_0, .int .i64 a1_1, .int .i64 a1_2] 32 (0, 0)) (XSq.bq BK136) hb)
      have n2_ := Aside0.mk (blk_below (g := gb137) (o := .cells #[.int .i64 0, .int .i64 0, .string (⟨#[]⟩ : ByteArray), .bool false] 26 (0, 0)) (XSq.bq BK137) hb)
      have n3_ := Aside0.mk (below_step (XSq.bB HB) hb)
      have n4_ := Aside0.mk (hbox)
      have n5_ := Aside0.mk ((by rw [hg]; exact (below_size (XSq.bB HB)) : w.heap.size ≤ gb138))
      have n6_ := Aside0.mk ((by rw [hg]; exact (below_size (XSq.bB HB)) : w.heap.size ≤ gb138))
      have n7_ := Aside0.mk ((by rw [hg]; exact Nat.ne_of_lt (blk_lt (g := gb135) (o := .cells #[.int .i64 a0_0, .int .i64 a0_1, .string a0_2, .bool a0_3] 26 (0, 0)) (XSq.bq BK135)) : gb135 ≠ gb138))
      have n8_ := Aside0.mk ((by rw [hg]; exact Nat.ne_of_gt (blk_lt (g := gb135) (o := .cells #[.int .i64 a0_0, .int .i64 a0_1, .string a0_2, .bool a0_3] 26 (0, 0)) (XSq.bq BK135)) : gb138 ≠ gb135))
      have n9_ := Aside0.mk ((by rw [hg]; exact Nat.ne_of_lt (blk_lt (g := gb136) (o := .cells #[.int .i64 a1_0, .int .i64 a1_1, .int .i64 a1_2] 32 (0, 0)) (XSq.bq BK136)) : gb136 ≠ gb138))
      have n10_ := Aside0.mk ((by rw [hg]; exact Nat.ne_of_gt (blk_lt (g := gb136) (o := .cells #[.int .i64 a1_0, .int .i64 a1_1, .int .i64 a1_2] 32 (0, 0)) (XSq.bq BK136)) : gb138 ≠ gb136))
      have n11_ := Aside0.mk ((by rw [hg]; exact Nat.ne_of_lt (blk_lt (g := gb137) (o := .cells #[.int .i64 0, .int .i64 0, .string (⟨#[]⟩ : ByteArray), .bool false] 26 (0, 0)) (XSq.bq BK137)) : gb137 ≠ gb138))
      have n12_ := Aside0.mk ((by rw [hg]; exact Nat.ne_of_gt (blk_lt (g := gb137) (o := .cells #[.int .i64 0, .int .i64 0, .string (⟨#[]⟩ : ByteArray), .bool false] 26 (0, 0)) (XSq.bq BK137)) : gb138 ≠ gb137))
      clear BK135
      clear BK136
      clear BK137
      clear HB
      have BK135 := n0_
      have BK136 := n1_
      have BK137 := n2_
      have HB := n3_
      have BK138 := n4_
      have GW138 := n5_
      have GE138 := n6_
      have NB135_138 := n7_
      have NB138_135 := n8_
      have NB136_138 := n9_
      have NB138_136 := n10_
      have NB137_138 := n11_
      have NB138_137 := n12_
      clear n0_ n1_ n2_ n3_ n4_ n5_ n6_ n7_ n8_ n9_ n10_ n11_ n12_
      clear hb hbox hg
      refine hK.out _ _ ⟨(blk_cell BK135.out 0).trans rfl, (blk_cell BK135.out 1).trans rfl, (blk_cell BK135.out 2).trans rfl, (blk_cell BK135.out 3).trans rfl, (blk_cell BK136.out 0).trans rfl, (blk_cell BK136.out 1).trans rfl, (blk_cell BK136.out 2).trans rfl⟩ (fun hHeld => ?_)
      clear hK K
      refine norm_ (a' := ?_) ?_ ?_
      rotate_left
      · show Act.put _ (some 9) _ = _
        simp only [Act.put, List.setIfInBounds_toArray, List.set_cons_zero, List.set_cons_succ, i64_w, i32_w]
        rfl
      refine one_ (i := 3) (N := some 10) #[true, true, true, true, false, false] rfl rfl (by kernel_rfl) (by decide) (fun K hK => ?_)
      refine box_step ?hg (N := 10) ?hd (cs := #[.int .i64 0, .int .i64 0, .int .i64 0]) (t := 32) ?hr ?_; (case hd => rfl); (case hg => rfl); (case hr => first | (go_simp; done) | (go_simp; rfl))
      intro gb139 hg w8 hbox hb
      have n0_ := Aside0.mk (blk_below (g := gb135) (o := .cells #[.int .i64 a0_0, .int .i64 a0_1, .string a0_2, .bool a0_3] 26 (0, 0)) (XSq.bq BK135) hb)
      have n1_ := Aside0.mk (blk_below (g := gb136) (o := .cells #[.int .i64 a1_0, .int .i64 a1_1, .int .i64 a1_2] 32 (0, 0)) (XSq.bq BK136) hb)
      have n2_ := Aside0.mk (blk_below (g := gb137) (o := .cells #[.int .i64 0, .int .i64 0, .string (⟨#[]⟩ : ByteArray), .bool false] 26 (0, 0)) (XSq.bq BK137) hb)
      have n3_ := Aside0.mk (blk_below (g := gb138) (o := .cells #[.int .i64 0, .int .i64 0, .string (⟨#[]⟩ : ByteArray), .bool false] 26 (0, 0)) (XSq.bq BK138) hb)
      have n4_ := Aside0.mk (below_step (XSq.bB HB) hb)
      have n5_ := Aside0.mk (hbox)
      have n6_ := Aside0.mk ((by rw [hg]; exact (below_size (XSq.bB HB)) : w.heap.size ≤ gb139))
      have n7_ := Aside0.mk ((by rw [hg]; exact (below_size (XSq.bB HB)) : w.heap.size ≤ gb139))
      have n8_ := Aside0.mk ((by rw [hg]; exact Nat.ne_of_lt (blk_lt (g := gb135) (o := .cells #[.int .i64 a0_0, .int .i64 a0_1, .string a0_2, .bool a0_3] 26 (0, 0)) (XSq.bq BK135)) : gb135 ≠ gb139))
      have n9_ := Aside0.mk ((by rw [hg]; exact Nat.ne_of_gt (blk_lt (g := gb135) (o := .cells #[.int .i64 a0_0, .int .i64 a0_1, .string a0_2, .bool a0_3] 26 (0, 0)) (XSq.bq BK135)) : gb139 ≠ gb135))
      have n10_ := Aside0.mk ((by rw [hg]; exact Nat.ne_of_lt (blk_lt (g := gb136) (o := .cells #[.int .i64 a1_0, .int .i64 a1_1, .int .i64 a1_2] 32 (0, 0)) (XSq.bq BK136)) : gb136 ≠ gb139))
      have n11_ := Aside0.mk ((by rw [hg]; exact Nat.ne_of_gt (blk_lt (g := gb136) (o := .cells #[.int .i64 a1_0, .int .i64 a1_1, .int .i64 a1_2] 32 (0, 0)) (XSq.bq BK136)) : gb139 ≠ gb136))
      have n12_ := Aside0.mk ((by rw [hg]; exact Nat.ne_of_lt (blk_lt (g := gb137) (o := .cells #[.int .i64 0, .int .i64 0, .string (⟨#[]⟩ : ByteArray), .bool false] 26 (0, 0)) (XSq.bq BK137)) : gb137 ≠ gb139))
      have n13_ := Aside0.mk ((by rw [hg]; exact Nat.ne_of_gt (blk_lt (g := gb137) (o := .cells #[.int .i64 0, .int .i64 0, .string (⟨#[]⟩ : ByteArray), .bool false] 26 (0, 0)) (XSq.bq BK137)) : gb139 ≠ gb137))
      have n14_ := Aside0.mk ((by rw [hg]; exact Nat.ne_of_lt (blk_lt (g := gb138) (o := .cells #[.int .i64 0, .int .i64 0, .string (⟨#[]⟩ : ByteArray), .bool false] 26 (0, 0)) (XSq.bq BK138)) : gb138 ≠ gb139))
      have n15_ := Aside0.mk ((by rw [hg]; exact Nat.ne_of_gt (blk_lt (g := gb138) (o := .cells #[.int .i64 0, .int .i64 0, .string (⟨#[]⟩ : ByteArray), .bool false] 26 (0, 0)) (XSq.bq BK138)) : gb139 ≠ gb138))
      clear BK135
      clear BK136
      clear BK137
      clear BK138
      clear HB
      have BK135 := n0_
      have BK136 := n1_
      have BK137 := n2_
      have BK138 := n3_
      have HB := n4_
      have BK139 := n5_
      have GW139 := n6_
      have GE139 := n7_
      have NB135_139 := n8_
      have NB139_135 := n9_
      have NB136_139 := n10_
      have NB139_136 := n11_
      have NB137_139 := n12_
      have NB139_137 := n13_
      have NB138_139 := n14_
      have NB139_138 := n15_
      clear n0_ n1_ n2_ n3_ n4_ n5_ n6_ n7_ n8_ n9_ n10_ n11_ n12_ n13_ n14_ n15_
      clear hb hbox hg
      refine hK.out _ _ ⟨(blk_cell BK135.out 0).trans rfl, (blk_cell BK135.out 1).trans rfl, (blk_cell BK135.out 2).trans rfl, (blk_cell BK135.out 3).trans rfl, (blk_cell BK136.out 0).trans rfl, (blk_cell BK136.out 1).trans rfl, (blk_cell BK136.out 2).trans rfl⟩ (fun hHeld => ?_)
      clear hK K
      refine norm_ (a' := ?_) ?_ ?_
      rotate_left
      · show Act.put _ (some 10) _ = _
        simp only [Act.put, List.setIfInBounds_toArray, List.set_cons_zero, List.set_cons_succ, i64_w, i32_w]
        rfl
      exact norm_ (by simp only [putAll, Act.put, List.setIfInBounds_toArray, List.set_cons_zero, List.set_cons_succ]) (hCont (gb138, gb139) _ ⟨hHeld, (XSq.bq BK135), (XSq.bq BK136), (XSq.bq BK137), (XSq.bq BK138), (XSq.bq BK139), GW138.out, GE138.out, NB135_138.out, NB138_135.out, NB136_138.out, NB138_136.out, NB137_138.out, NB138_137.out, NB139_138.out, NB138_139.out, GW139.out, GE139.out, NB135_139.out, NB139_135.out, NB136_139.out, NB139_136.out, NB137_139.out, NB139_137.out, (XSq.bB HB)⟩)
    · skip
      refine box_step ?hg (N := 10) ?hd (cs := #[.int .i64 0, .int .i64 0, .int .i64 0]) (t := 32) ?hr ?_; (case hd => rfl); (case hg => rfl); (case hr => first | (go_simp; done) | (go_simp; rfl))
      intro gb139 hg w7 hbox hb
      have n0_ := Aside0.mk (blk_below (g := gb135) (o := .cells #[.int .i64 a0_0, .int .i64 a0_1, .string a0_2, .bool a0_3] 26 (0, 0)) (XSq.bq BK135) hb)
      have n1_ := Aside0.mk (blk_below (g := gb136) (o := .cells #[.int .i64 a1_0, .int .i64 a1_1, .int .i64 a1_2] 32 (0, 0)) (XSq.bq BK136) hb)
      have n2_ := Aside0.mk (blk_below (g := gb137) (o := .cells #[.int .i64 0, .int .i64 0, .string (⟨#[]⟩ : ByteArray), .bool false] 26 (0, 0)) (XSq.bq BK137) hb)
      have n3_ := Aside0.mk (below_step (XSq.bB HB) hb)
      have n4_ := Aside0.mk (hbox)
      have n5_ := Aside0.mk ((by rw [hg]; exact (below_size (XSq.bB HB)) : w.heap.size ≤ gb139))
      have n6_ := Aside0.mk ((by rw [hg]; exact (below_size (XSq.bB HB)) : w.heap.size ≤ gb139))
      have n7_ := Aside0.mk ((by rw [hg]; exact Nat.ne_of_lt (blk_lt (g := gb135) (o := .cells #[.int .i64 a0_0, .int .i64 a0_1, .string a0_2, .bool a0_3] 26 (0, 0)) (XSq.bq BK135)) : gb135 ≠ gb139))
      have n8_ := Aside0.mk ((by rw [hg]; exact Nat.ne_of_gt (blk_lt (g := gb135) (o := .cells #[.int .i64 a0_0, .int .i64 a0_1, .string a0_2, .bool a0_3] 26 (0, 0)) (XSq.bq BK135)) : gb139 ≠ gb135))
      have n9_ := Aside0.mk ((by rw [hg]; exact Nat.ne_of_lt (blk_lt (g := gb136) (o := .cells #[.int .i64 a1_0, .int .i64 a1_1, .int .i64 a1_2] 32 (0, 0)) (XSq.bq BK136)) : gb136 ≠ gb139))
      have n10_ := Aside0.mk ((by rw [hg]; exact Nat.ne_of_gt (blk_lt (g := gb136) (o := .cells #[.int .i64 a1_0, .int .i64 a1_1, .int .i64 a1_2] 32 (0, 0)) (XSq.bq BK136)) : gb139 ≠ gb136))
      have n11_ := Aside0.mk ((by rw [hg]; exact Nat.ne_of_lt (blk_lt (g := gb137) (o := .cells #[.int .i64 0, .int .i64 0, .string (⟨#[]⟩ : ByteArray), .bool false] 26 (0, 0)) (XSq.bq BK137)) : gb137 ≠ gb139))
      have n12_ := Aside0.mk ((by rw [hg]; exact Nat.ne_of_gt (blk_lt (g := gb137) (o := .cells #[.int .i64 0, .int .i64 0, .string (⟨#[]⟩ : ByteArray), .bool false] 26 (0, 0)) (XSq.bq BK137)) : gb139 ≠ gb137))
      clear BK135
      clear BK136
      clear BK137
      clear HB
      have BK135 := n0_
      have BK136 := n1_
      have BK137 := n2_
      have HB := n3_
      have BK139 := n4_
      have GW139 := n5_
      have GE139 := n6_
      have NB135_139 := n7_
      have NB139_135 := n8_
      have NB136_139 := n9_
      have NB139_136 := n10_
      have NB137_139 := n11_
      have NB139_137 := n12_
      clear n0_ n1_ n2_ n3_ n4_ n5_ n6_ n7_ n8_ n9_ n10_ n11_ n12_
      clear hb hbox hg
      refine hK.out _ _ ⟨(blk_cell BK135.out 0).trans rfl, (blk_cell BK135.out 1).trans rfl, (blk_cell BK135.out 2).trans rfl, (blk_cell BK135.out 3).trans rfl, (blk_cell BK136.out 0).trans rfl, (blk_cell BK136.out 1).trans rfl, (blk_cell BK136.out 2).trans rfl⟩ (fun hHeld => ?_)
      clear hK K
      refine norm_ (a' := ?_) ?_ ?_
      rotate_left
      · show Act.put _ (some 10) _ = _
        simp only [Act.put, List.setIfInBounds_toArray, List.set_cons_zero, List.set_cons_succ, i64_w, i32_w]
        rfl
      refine one_ (i := 2) (N := some 9) #[true, true, true, true, false, false] rfl rfl (by kernel_rfl) (by decide) (fun K hK => ?_)
      refine box_step ?hg (N := 9) ?hd (cs := #[.int .i64 0, .int .i64 0, .string (⟨#[]⟩ : ByteArray), .bool false]) (t := 26) ?hr ?_; (case hd => rfl); (case hg => rfl); (case hr => first | (go_simp; done) | (go_simp; rfl))
      intro gb138 hg w8 hbox hb
      have n0_ := Aside0.mk (blk_below (g := gb135) (o := .cells #[.int .i64 a0_0, .int .i64 a0_1, .string a0_2, .bool a0_3] 26 (0, 0)) (XSq.bq BK135) hb)
      have n1_ := Aside0.mk (blk_below (g := gb136) (o := .cells #[.int .i64 a1_0, .int .i64 a1_1, .int .i64 a1_2] 32 (0, 0)) (XSq.bq BK136) hb)
      have n2_ := Aside0.mk (blk_below (g := gb137) (o := .cells #[.int .i64 0, .int .i64 0, .string (⟨#[]⟩ : ByteArray), .bool false] 26 (0, 0)) (XSq.bq BK137) hb)
      have n3_ := Aside0.mk (blk_below (g := gb139) (o := .cells #[.int .i64 0, .int .i64 0, .int .i64 0] 32 (0, 0)) (XSq.bq BK139) hb)
      have n4_ := Aside0.mk (below_step (XSq.bB HB) hb)
      have n5_ := Aside0.mk (hbox)
      have n6_ := Aside0.mk ((by rw [hg]; exact (below_size (XSq.bB HB)) : w.heap.size ≤ gb138))
      have n7_ := Aside0.mk ((by rw [hg]; exact (below_size (XSq.bB HB)) : w.heap.size ≤ gb138))
      have n8_ := Aside0.mk ((by rw [hg]; exact Nat.ne_of_lt (blk_lt (g := gb135) (o := .cells #[.int .i64 a0_0, .int .i64 a0_1, .string a0_2, .bool a0_3] 26 (0, 0)) (XSq.bq BK135)) : gb135 ≠ gb138))
      have n9_ := Aside0.mk ((by rw [hg]; exact Nat.ne_of_gt (blk_lt (g := gb135) (o := .cells #[.int .i64 a0_0, .int .i64 a0_1, .string a0_2, .bool a0_3] 26 (0, 0)) (XSq.bq BK135)) : gb138 ≠ gb135))
      have n10_ := Aside0.mk ((by rw [hg]; exact Nat.ne_of_lt (blk_lt (g := gb136) (o := .cells #[.int .i64 a1_0, .int .i64 a1_1, .int .i64 a1_2] 32 (0, 0)) (XSq.bq BK136)) : gb136 ≠ gb138))
      have n11_ := Aside0.mk ((by rw [hg]; exact Nat.ne_of_gt (blk_lt (g := gb136) (o := .cells #[.int .i64 a1_0, .int .i64 a1_1, .int .i64 a1_2] 32 (0, 0)) (XSq.bq BK136)) : gb138 ≠ gb136))
      have n12_ := Aside0.mk ((by rw [hg]; exact Nat.ne_of_lt (blk_lt (g := gb137) (o := .cells #[.int .i64 0, .int .i64 0, .string (⟨#[]⟩ : ByteArray), .bool false] 26 (0, 0)) (XSq.bq BK137)) : gb137 ≠ gb138))
      have n13_ := Aside0.mk ((by rw [hg]; exact Nat.ne_of_gt (blk_lt (g := gb137) (o := .cells #[.int .i64 0, .int .i64 0, .string (⟨#[]⟩ : ByteArray), .bool false] 26 (0, 0)) (XSq.bq BK137)) : gb138 ≠ gb137))
      have n14_ := Aside0.mk ((by rw [hg]; exact Nat.ne_of_lt (blk_lt (g := gb139) (o := .cells #[.int .i64 0, .int .i64 0, .int .i64 0] 32 (0, 0)) (XSq.bq BK139)) : gb139 ≠ gb138))
      have n15_ := Aside0.mk ((by rw [hg]; exact Nat.ne_of_gt (blk_lt (g := gb139) (o := .cells #[.int .i64 0, .int .i64 0, .int .i64 0] 32 (0, 0)) (XSq.bq BK139)) : gb138 ≠ gb139))
      clear BK135
      clear BK136
      clear BK137
      clear BK139
      clear HB
      have BK135 := n0_
      have BK136 := n1_
      have BK137 := n2_
      have BK139 := n3_
      have HB := n4_
      have BK138 := n5_
      have GW138 := n6_
      have GE138 := n7_
      have NB135_138 := n8_
      have NB138_135 := n9_
      have NB136_138 := n10_
      have NB138_136 := n11_
      have NB137_138 := n12_
      have NB138_137 := n13_
      have NB139_138 := n14_
      have NB138_139 := n15_
      clear n0_ n1_ n2_ n3_ n4_ n5_ n6_ n7_ n8_ n9_ n10_ n11_ n12_ n13_ n14_ n15_
      clear hb hbox hg
      refine hK.out _ _ ⟨(blk_cell BK135.out 0).trans rfl, (blk_cell BK135.out 1).trans rfl, (blk_cell BK135.out 2).trans rfl, (blk_cell BK135.out 3).trans rfl, (blk_cell BK136.out 0).trans rfl, (blk_cell BK136.out 1).trans rfl, (blk_cell BK136.out 2).trans rfl⟩ (fun hHeld => ?_)
      clear hK K
      refine norm_ (a' := ?_) ?_ ?_
      rotate_left
      · show Act.put _ (some 9) _ = _
        simp only [Act.put, List.setIfInBounds_toArray, List.set_cons_zero, List.set_cons_succ, i64_w, i32_w]
        rfl
      exact norm_ (by simp only [putAll, Act.put, List.setIfInBounds_toArray, List.set_cons_zero, List.set_cons_succ]) (hCont (gb138, gb139) _ ⟨hHeld, (XSq.bq BK135), (XSq.bq BK136), (XSq.bq BK137), (XSq.bq BK138), (XSq.bq BK139), GW138.out, GE138.out, NB135_138.out, NB138_135.out, NB136_138.out, NB138_136.out, NB137_138.out, NB138_137.out, NB139_138.out, NB138_139.out, GW139.out, GE139.out, NB135_139.out, NB139_135.out, NB136_139.out, NB139_136.out, NB137_139.out, NB139_137.out, (XSq.bB HB)⟩)
  rintro ⟨gb138, gb139⟩ w9 ⟨hS_, h0_, h1_, h2_, h3_, h4_, h5_, h6_, h7_, h8_, h9_, h10_, h11_, h12_, h13_, h14_, h15_, h16_, h17_, h18_, h19_, h20_, h21_, h22_, h23_⟩
  have n0_ : Aside0 (w9.heap[gb135]? = some (.cells #[.int .i64 a0_0, .int .i64 a0_1, .string a0_2, .bool a0_3] 26 (0, 0))) := ⟨h0_⟩
  have n1_ : Aside0 (w9.heap[gb136]? = some (.cells #[.int .i64 a1_0, .int .i64 a1_1, .int .i64 a1_2] 32 (0, 0))) := ⟨h1_⟩
  have n2_ : Aside0 (w9.heap[gb137]? = some (.cells #[.int .i64 0, .int .i64 0, .string (⟨#[]⟩ : ByteArray), .bool false] 26 (0, 0))) := ⟨h2_⟩
  have n3_ : Aside0 (w9.heap[gb138]? = some (.cells #[.int .i64 0, .int .i64 0, .string (⟨#[]⟩ : ByteArray), .bool false] 26 (0, 0))) := ⟨h3_⟩
  have n4_ : Aside0 (w9.heap[gb139]? = some (.cells #[.int .i64 0, .int .i64 0, .int .i64 0] 32 (0, 0))) := ⟨h4_⟩
  have n5_ : Aside0 (w.heap.size ≤ gb138) := ⟨h5_⟩
  have n6_ : Aside0 (w.heap.size ≤ gb138) := ⟨h6_⟩
  have n7_ : Aside0 (gb135 ≠ gb138) := ⟨h7_⟩
  have n8_ : Aside0 (gb138 ≠ gb135) := ⟨h8_⟩
  have n9_ : Aside0 (gb136 ≠ gb138) := ⟨h9_⟩
  have n10_ : Aside0 (gb138 ≠ gb136) := ⟨h10_⟩
  have n11_ : Aside0 (gb137 ≠ gb138) := ⟨h11_⟩
  have n12_ : Aside0 (gb138 ≠ gb137) := ⟨h12_⟩
  have n13_ : Aside0 (gb139 ≠ gb138) := ⟨h13_⟩
  have n14_ : Aside0 (gb138 ≠ gb139) := ⟨h14_⟩
  have n15_ : Aside0 (w.heap.size ≤ gb139) := ⟨h15_⟩
  have n16_ : Aside0 (w.heap.size ≤ gb139) := ⟨h16_⟩
  have n17_ : Aside0 (gb135 ≠ gb139) := ⟨h17_⟩
  have n18_ : Aside0 (gb139 ≠ gb135) := ⟨h18_⟩
  have n19_ : Aside0 (gb136 ≠ gb139) := ⟨h19_⟩
  have n20_ : Aside0 (gb139 ≠ gb136) := ⟨h20_⟩
  have n21_ : Aside0 (gb137 ≠ gb139) := ⟨h21_⟩
  have n22_ : Aside0 (gb139 ≠ gb137) := ⟨h22_⟩
  have n23_ : Aside0 (Below w.heap.size w w9) := ⟨h23_⟩
  clear BK135
  clear BK136
  clear BK137
  clear HB
  clear h0_ h1_ h2_ h3_ h4_ h5_ h6_ h7_ h8_ h9_ h10_ h11_ h12_ h13_ h14_ h15_ h16_ h17_ h18_ h19_ h20_ h21_ h22_ h23_
  have BK135 := n0_
  have BK136 := n1_
  have BK137 := n2_
  have BK138 := n3_
  have BK139 := n4_
  have GW138 := n5_
  have GE138 := n6_
  have NB135_138 := n7_
  have NB138_135 := n8_
  have NB136_138 := n9_
  have NB138_136 := n10_
  have NB137_138 := n11_
  have NB138_137 := n12_
  have NB139_138 := n13_
  have NB138_139 := n14_
  have GW139 := n15_
  have GE139 := n16_
  have NB135_139 := n17_
  have NB139_135 := n18_
  have NB136_139 := n19_
  have NB139_136 := n20_
  have NB137_139 := n21_
  have NB139_137 := n22_
  have HB := n23_
  clear n0_ n1_ n2_ n3_ n4_ n5_ n6_ n7_ n8_ n9_ n10_ n11_ n12_ n13_ n14_ n15_ n16_ n17_ n18_ n19_ n20_ n21_ n22_ n23_
  have hHeld : w9.cell? ⟨gb135, 0, none⟩ = some (.int .i64 a0_0) ∧ w9.cell? ⟨gb135, 1, none⟩ = some (.int .i64 a0_1) ∧ w9.cell? ⟨gb135, 2, none⟩ = some (.string a0_2) ∧ w9.cell? ⟨gb135, 3, none⟩ = some (.bool a0_3) ∧ w9.cell? ⟨gb136, 0, none⟩ = some (.int .i64 a1_0) ∧ w9.cell? ⟨gb136, 1, none⟩ = some (.int .i64 a1_1) ∧ w9.cell? ⟨gb136, 2, none⟩ = some (.int .i64 a1_2) := hS_
  refine norm_ (a' := ?_) ?_ ?_
  rotate_left
  · simp only [putAll, Act.put, List.setIfInBounds_toArray, List.set_cons_zero, List.set_cons_succ]
    rfl
  refine one_ (i := 4) (N := none) #[true, true, true, true, true, false] rfl rfl (by kernel_rfl) (by decide) (fun K hK => ?_)
  have hs10 : w9.cell? ⟨gb138, 0, none⟩ = some (.int .i64 0) := (blk_cell BK138.out 0).trans rfl
  have hfs10 := blk_frozen BK138.out 0
  have hns10_0 := NB135_138.out
  have hns10_1 := NB136_138.out
  have hns10_2 := NB137_138.out
  have hns10_4 := NB139_138.out
  have hms10_0 := NB138_135.out
  have hms10_1 := NB138_136.out
  have hms10_2 := NB138_137.out
  have hms10_4 := NB138_139.out
  have hs11 : w9.cell? ⟨gb138, 1, none⟩ = some (.int .i64 0) := (blk_cell BK138.out 1).trans rfl
  have hfs11 := blk_frozen BK138.out 1
  have hns11_0 := NB135_138.out
  have hns11_1 := NB136_138.out
  have hns11_2 := NB137_138.out
  have hns11_4 := NB139_138.out
  have hms11_0 := NB138_135.out
  have hms11_1 := NB138_136.out
  have hms11_2 := NB138_137.out
  have hms11_4 := NB138_139.out
  have hs12 : w9.cell? ⟨gb138, 2, none⟩ = some (.string (⟨#[]⟩ : ByteArray)) := (blk_cell BK138.out 2).trans rfl
  have hfs12 := blk_frozen BK138.out 2
  have hns12_0 := NB135_138.out
  have hns12_1 := NB136_138.out
  have hns12_2 := NB137_138.out
  have hns12_4 := NB139_138.out
  have hms12_0 := NB138_135.out
  have hms12_1 := NB138_136.out
  have hms12_2 := NB138_137.out
  have hms12_4 := NB138_139.out
  have hs13 : w9.cell? ⟨gb138, 3, none⟩ = some (.bool false) := (blk_cell BK138.out 3).trans rfl
  have hfs13 := blk_frozen BK138.out 3
  have hns13_0 := NB135_138.out
  have hns13_1 := NB136_138.out
  have hns13_2 := NB137_138.out
  have hns13_4 := NB139_138.out
  have hms13_0 := NB138_135.out
  have hms13_1 := NB138_136.out
  have hms13_2 := NB138_137.out
  have hms13_4 := NB138_139.out
  refine skip_ (w1 := ?_) (by rfl) rfl ?_ ?_
  rotate_left
  · go_simp
    rfl
  refine hK.out _ _ ⟨((cell_far (p := ⟨gb138, _, none⟩) NB135_138.out _).trans (((cell_far (p := ⟨gb138, _, none⟩) NB135_138.out _).trans (((cell_far (p := ⟨gb138, _, none⟩) NB135_138.out _).trans (((cell_far (p := ⟨gb138, _, none⟩) NB135_138.out _).trans (hHeld.1)))))))), ((cell_far (p := ⟨gb138, _, none⟩) NB135_138.out _).trans (((cell_far (p := ⟨gb138, _, none⟩) NB135_138.out _).trans (((cell_far (p := ⟨gb138, _, none⟩) NB135_138.out _).trans (((cell_far (p := ⟨gb138, _, none⟩) NB135_138.out _).trans (hHeld.2.1)))))))), ((cell_far (p := ⟨gb138, _, none⟩) NB135_138.out _).trans (((cell_far (p := ⟨gb138, _, none⟩) NB135_138.out _).trans (((cell_far (p := ⟨gb138, _, none⟩) NB135_138.out _).trans (((cell_far (p := ⟨gb138, _, none⟩) NB135_138.out _).trans (hHeld.2.2.1)))))))), ((cell_far (p := ⟨gb138, _, none⟩) NB135_138.out _).trans (((cell_far (p := ⟨gb138, _, none⟩) NB135_138.out _).trans (((cell_far (p := ⟨gb138, _, none⟩) NB135_138.out _).trans (((cell_far (p := ⟨gb138, _, none⟩) NB135_138.out _).trans (hHeld.2.2.2.1)))))))), ((cell_far (p := ⟨gb138, _, none⟩) NB136_138.out _).trans (((cell_far (p := ⟨gb138, _, none⟩) NB136_138.out _).trans (((cell_far (p := ⟨gb138, _, none⟩) NB136_138.out _).trans (((cell_far (p := ⟨gb138, _, none⟩) NB136_138.out _).trans (hHeld.2.2.2.2.1)))))))), ((cell_far (p := ⟨gb138, _, none⟩) NB136_138.out _).trans (((cell_far (p := ⟨gb138, _, none⟩) NB136_138.out _).trans (((cell_far (p := ⟨gb138, _, none⟩) NB136_138.out _).trans (((cell_far (p := ⟨gb138, _, none⟩) NB136_138.out _).trans (hHeld.2.2.2.2.2.1)))))))), ((cell_far (p := ⟨gb138, _, none⟩) NB136_138.out _).trans (((cell_far (p := ⟨gb138, _, none⟩) NB136_138.out _).trans (((cell_far (p := ⟨gb138, _, none⟩) NB136_138.out _).trans (((cell_far (p := ⟨gb138, _, none⟩) NB136_138.out _).trans (hHeld.2.2.2.2.2.2))))))))⟩ (fun hHeld => ?_)
  clear hK K
  refine one_ (i := 5) (N := none) #[true, true, true, true, true, true] rfl rfl (by kernel_rfl) (by decide) (fun K hK => ?_)
  have hs14 : w9.cell? ⟨gb139, 0, none⟩ = some (.int .i64 0) := (blk_cell BK139.out 0).trans rfl
  have hfs14 := blk_frozen BK139.out 0
  have hns14_0 := NB135_139.out
  have hns14_1 := NB136_139.out
  have hns14_2 := NB137_139.out
  have hns14_3 := NB138_139.out
  have hms14_0 := NB139_135.out
  have hms14_1 := NB139_136.out
  have hms14_2 := NB139_137.out
  have hms14_3 := NB139_138.out
  have hs15 : w9.cell? ⟨gb139, 1, none⟩ = some (.int .i64 0) := (blk_cell BK139.out 1).trans rfl
  have hfs15 := blk_frozen BK139.out 1
  have hns15_0 := NB135_139.out
  have hns15_1 := NB136_139.out
  have hns15_2 := NB137_139.out
  have hns15_3 := NB138_139.out
  have hms15_0 := NB139_135.out
  have hms15_1 := NB139_136.out
  have hms15_2 := NB139_137.out
  have hms15_3 := NB139_138.out
  have hs16 : w9.cell? ⟨gb139, 2, none⟩ = some (.int .i64 0) := (blk_cell BK139.out 2).trans rfl
  have hfs16 := blk_frozen BK139.out 2
  have hns16_0 := NB135_139.out
  have hns16_1 := NB136_139.out
  have hns16_2 := NB137_139.out
  have hns16_3 := NB138_139.out
  have hms16_0 := NB139_135.out
  have hms16_1 := NB139_136.out
  have hms16_2 := NB139_137.out
  have hms16_3 := NB139_138.out
  refine skip_ (w1 := ?_) (by rfl) rfl ?_ ?_
  rotate_left
  · go_simp
    rfl
  refine hK.out _ _ ⟨((cell_far (p := ⟨gb139, _, none⟩) NB135_139.out _).trans (((cell_far (p := ⟨gb139, _, none⟩) NB135_139.out _).trans (((cell_far (p := ⟨gb139, _, none⟩) NB135_139.out _).trans (hHeld.1)))))), ((cell_far (p := ⟨gb139, _, none⟩) NB135_139.out _).trans (((cell_far (p := ⟨gb139, _, none⟩) NB135_139.out _).trans (((cell_far (p := ⟨gb139, _, none⟩) NB135_139.out _).trans (hHeld.2.1)))))), ((cell_far (p := ⟨gb139, _, none⟩) NB135_139.out _).trans (((cell_far (p := ⟨gb139, _, none⟩) NB135_139.out _).trans (((cell_far (p := ⟨gb139, _, none⟩) NB135_139.out _).trans (hHeld.2.2.1)))))), ((cell_far (p := ⟨gb139, _, none⟩) NB135_139.out _).trans (((cell_far (p := ⟨gb139, _, none⟩) NB135_139.out _).trans (((cell_far (p := ⟨gb139, _, none⟩) NB135_139.out _).trans (hHeld.2.2.2.1)))))), ((cell_far (p := ⟨gb139, _, none⟩) NB136_139.out _).trans (((cell_far (p := ⟨gb139, _, none⟩) NB136_139.out _).trans (((cell_far (p := ⟨gb139, _, none⟩) NB136_139.out _).trans (hHeld.2.2.2.2.1)))))), ((cell_far (p := ⟨gb139, _, none⟩) NB136_139.out _).trans (((cell_far (p := ⟨gb139, _, none⟩) NB136_139.out _).trans (((cell_far (p := ⟨gb139, _, none⟩) NB136_139.out _).trans (hHeld.2.2.2.2.2.1)))))), ((cell_far (p := ⟨gb139, _, none⟩) NB136_139.out _).trans (((cell_far (p := ⟨gb139, _, none⟩) NB136_139.out _).trans (((cell_far (p := ⟨gb139, _, none⟩) NB136_139.out _).trans (hHeld.2.2.2.2.2.2))))))⟩ (fun hHeld => ?_)
  clear hK K
  refine done_ (by kernel_rfl) ?_
  try go_wp2
  go_loopg [11, 12] k (fun kq v11 v12 w' => ∃ (x11_1 : Int) (x12_1 : Int) (x138000_1 : Int) (x138001_1 : Int) (x138002_1 : ByteArray) (x138003_1 : Bool) (x139000_1 : Int) (x139001_1 : Int) (x139002_1 : ByteArray) (x139003_1 : Bool) (x140000_1 : Int) (x140001_1 : Int) (x140002_1 : Int), v11 = .int .i64 x11_1 ∧ v12 = .int .i64 x12_1 ∧ Aside0 (spec_miRun.l0 kq x11_1 x12_1 a0_0 a0_1 a0_2 a0_3 a1_0 a1_1 a1_2 x139000_1 x139001_1 x139002_1 x139003_1 x140000_1 x140001_1 x140002_1 = some (r1, r2, r3, r4, r5, r6, r7, r8)) ∧ Aside0 (kq ≤ k) ∧ Aside0 (w'.heap[gb135]? = some (.cells #[.int .i64 a0_0, .int .i64 a0_1, .string a0_2, .bool a0_3] 26 (0, 0))) ∧ Aside0 (w'.heap[gb136]? = some (.cells #[.int .i64 a1_0, .int .i64 a1_1, .int .i64 a1_2] 32 (0, 0))) ∧ Aside0 (w'.heap[gb137]? = some (.cells #[.int .i64 x138000_1, .int .i64 x138001_1, .string x138002_1, .bool x138003_1] 26 (0, 0))) ∧ Aside0 (w'.heap[gb138]? = some (.cells #[.int .i64 x139000_1, .int .i64 x139001_1, .string x139002_1, .bool x139003_1] 26 (0, 0))) ∧ Aside0 (w'.heap[gb139]? = some (.cells #[.int .i64 x140000_1, .int .i64 x140001_1, .int .i64 x140002_1] 32 (0, 0))) ∧ Aside0 (Below w.heap.size w w'))
  case atStart => exact ⟨(0), (0), (0), (0), ((⟨#[]⟩ : ByteArray)), (false), (a0_0), (a0_1), (a0_2), (a0_3), (a1_0), (a1_1), (a1_2), (by first | rfl | (simp; done) | (simp [*]; done)), (by first | rfl | (simp; done) | (simp [*]; done)), H', ⟨Nat.le_refl _⟩, ⟨by (with_reducible repeat (first | refine blk_drewN ?_ _ | refine blk_drew ?_ | refine blk_alloc ?_ _)); refine blk_far ?_ NB135_139.out _; (with_reducible repeat (first | refine blk_drewN ?_ _ | refine blk_drew ?_ | refine blk_alloc ?_ _)); refine blk_far ?_ NB135_139.out _; (with_reducible repeat (first | refine blk_drewN ?_ _ | refine blk_drew ?_ | refine blk_alloc ?_ _)); refine blk_far ?_ NB135_139.out _; (with_reducible repeat (first | refine blk_drewN ?_ _ | refine blk_drew ?_ | refine blk_alloc ?_ _)); refine blk_far ?_ NB135_138.out _; (with_reducible repeat (first | refine blk_drewN ?_ _ | refine blk_drew ?_ | refine blk_alloc ?_ _)); refine blk_far ?_ NB135_138.out _; (with_reducible repeat (first | refine blk_drewN ?_ _ | refine blk_drew ?_ | refine blk_alloc ?_ _)); refine blk_far ?_ NB135_138.out _; (with_reducible repeat (first | refine blk_drewN ?_ _ | refine blk_drew ?_ | refine blk_alloc ?_ _)); refine blk_far ?_ NB135_138.out _; (with_reducible repeat (first | refine blk_drewN ?_ _ | refine blk_drew ?_ | refine blk_alloc ?_ _)); exact BK135.out⟩, ⟨by (with_reducible repeat (first | refine blk_drewN ?_ _ | refine blk_drew ?_ | refine blk_alloc ?_ _)); refine blk_far ?_ NB136_139.out _; (with_reducible repeat (first | refine blk_drewN ?_ _ | refine blk_drew ?_ | refine blk_alloc ?_ _)); refine blk_far ?_ NB136_139.out _; (with_reducible repeat (first | refine blk_drewN ?_ _ | refine blk_drew ?_ | refine blk_alloc ?_ _)); refine blk_far ?_ NB136_139.out _; (with_reducible repeat (first | refine blk_drewN ?_ _ | refine blk_drew ?_ | refine blk_alloc ?_ _)); refine blk_far ?_ NB136_138.out _; (with_reducible repeat (first | refine blk_drewN ?_ _ | refine blk_drew ?_ | refine blk_alloc ?_ _)); refine blk_far ?_ NB136_138.out _; (with_reducible repeat (first | refine blk_drewN ?_ _ | refine blk_drew ?_ | refine blk_alloc ?_ _)); refine blk_far ?_ NB136_138.out _; (with_reducible repeat (first | refine blk_drewN ?_ _ | refine blk_drew ?_ | refine blk_alloc ?_ _)); refine blk_far ?_ NB136_138.out _; (with_reducible repeat (first | refine blk_drewN ?_ _ | refine blk_drew ?_ | refine blk_alloc ?_ _)); exact BK136.out⟩, ⟨by (with_reducible repeat (first | refine blk_drewN ?_ _ | refine blk_drew ?_ | refine blk_alloc ?_ _)); refine blk_far ?_ NB137_139.out _; (with_reducible repeat (first | refine blk_drewN ?_ _ | refine blk_drew ?_ | refine blk_alloc ?_ _)); refine blk_far ?_ NB137_139.out _; (with_reducible repeat (first | refine blk_drewN ?_ _ | refine blk_drew ?_ | refine blk_alloc ?_ _)); refine blk_far ?_ NB137_139.out _; (with_reducible repeat (first | refine blk_drewN ?_ _ | refine blk_drew ?_ | refine blk_alloc ?_ _)); refine blk_far ?_ NB137_138.out _; (with_reducible repeat (first | refine blk_drewN ?_ _ | refine blk_drew ?_ | refine blk_alloc ?_ _)); refine blk_far ?_ NB137_138.out _; (with_reducible repeat (first | refine blk_drewN ?_ _ | refine blk_drew ?_ | refine blk_alloc ?_ _)); refine blk_far ?_ NB137_138.out _; (with_reducible repeat (first | refine blk_drewN ?_ _ | refine blk_drew ?_ | refine blk_alloc ?_ _)); refine blk_far ?_ NB137_138.out _; (with_reducible repeat (first | refine blk_drewN ?_ _ | refine blk_drew ?_ | refine blk_alloc ?_ _)); exact BK137.out⟩, ⟨by (with_reducible repeat (first | refine blk_drewN ?_ _ | refine blk_drew ?_ | refine blk_alloc ?_ _)); refine blk_far ?_ NB138_139.out _; (with_reducible repeat (first | refine blk_drewN ?_ _ | refine blk_drew ?_ | refine blk_alloc ?_ _)); refine blk_far ?_ NB138_139.out _; (with_reducible repeat (first | refine blk_drewN ?_ _ | refine blk_drew ?_ | refine blk_alloc ?_ _)); refine blk_far ?_ NB138_139.out _; (with_reducible repeat (first | refine blk_drewN ?_ _ | refine blk_drew ?_ | refine blk_alloc ?_ _)); refine blk_put (cs := #[.int .i64 a0_0, .int .i64 a0_1, .string a0_2, .bool false]) ?_ 3 _ rfl; (with_reducible repeat (first | refine blk_drewN ?_ _ | refine blk_drew ?_ | refine blk_alloc ?_ _)); refine blk_put (cs := #[.int .i64 a0_0, .int .i64 a0_1, .string (⟨#[]⟩ : ByteArray), .bool false]) ?_ 2 _ rfl; (with_reducible repeat (first | refine blk_drewN ?_ _ | refine blk_drew ?_ | refine blk_alloc ?_ _)); refine blk_put (cs := #[.int .i64 a0_0, .int .i64 0, .string (⟨#[]⟩ : ByteArray), .bool false]) ?_ 1 _ rfl; (with_reducible repeat (first | refine blk_drewN ?_ _ | refine blk_drew ?_ | refine blk_alloc ?_ _)); refine blk_put (cs := #[.int .i64 0, .int .i64 0, .string (⟨#[]⟩ : ByteArray), .bool false]) ?_ 0 _ rfl; (with_reducible repeat (first | refine blk_drewN ?_ _ | refine blk_drew ?_ | refine blk_alloc ?_ _)); exact BK138.out⟩, ⟨by (with_reducible repeat (first | refine blk_drewN ?_ _ | refine blk_drew ?_ | refine blk_alloc ?_ _)); refine blk_put (cs := #[.int .i64 a1_0, .int .i64 a1_1, .int .i64 0]) ?_ 2 _ rfl; (with_reducible repeat (first | refine blk_drewN ?_ _ | refine blk_drew ?_ | refine blk_alloc ?_ _)); refine blk_put (cs := #[.int .i64 a1_0, .int .i64 0, .int .i64 0]) ?_ 1 _ rfl; (with_reducible repeat (first | refine blk_drewN ?_ _ | refine blk_drew ?_ | refine blk_alloc ?_ _)); refine blk_put (cs := #[.int .i64 0, .int .i64 0, .int .i64 0]) ?_ 0 _ rfl; (with_reducible repeat (first | refine blk_drewN ?_ _ | refine blk_drew ?_ | refine blk_alloc ?_ _)); refine blk_far ?_ NB139_138.out _; (with_reducible repeat (first | refine blk_drewN ?_ _ | refine blk_drew ?_ | refine blk_alloc ?_ _)); refine blk_far ?_ NB139_138.out _; (with_reducible repeat (first | refine blk_drewN ?_ _ | refine blk_drew ?_ | refine blk_alloc ?_ _)); refine blk_far ?_ NB139_138.out _; (with_reducible repeat (first | refine blk_drewN ?_ _ | refine blk_drew ?_ | refine blk_alloc ?_ _)); refine blk_far ?_ NB139_138.out _; (with_reducible repeat (first | refine blk_drewN ?_ _ | refine blk_drew ?_ | refine blk_alloc ?_ _)); exact BK139.out⟩, ⟨by repeat (first | (with_reducible first | exact HB.out | apply below_alloc | apply pw_below_drewN | apply below_drew1 | refine below_set ?_ GE135.out | refine below_set ?_ GE136.out | refine below_set ?_ GE137.out | refine below_set ?_ GE138.out | refine below_set ?_ GE139.out) | exact HB.out)⟩⟩
  case round =>
    clear H'
    try clear p2
    try clear c5
    obtain ⟨x11_1, x12_1, x138000_1, x138001_1, x138002_1, x138003_1, x139000_1, x139001_1, x139002_1, x139003_1, x140000_1, x140001_1, x140002_1, rfl, rfl, HA, HK1, BK135, BK136, BK137, BK138, BK139, HB⟩ := hrel
    cases gk with
    | zero => exact absurd HA.out (by simp [spec_miRun.l0])
    | succ k1 =>
      have H := HA.out
      clear HA
      simp only [spec_miRun.l0] at H
      replace H := Option.bind_eq_some_iff.mp H
      obtain ⟨t140, A170, H⟩ := H
      replace H : (if t140 = 46 then (spec_miRun.j1 k1 x11_1 x12_1 a0_0 a0_1 a0_2 a0_3 a1_0 a1_1 a1_2 x139000_1 x139001_1 x139002_1 x139003_1 x140000_1 x140001_1 x140002_1) else (spec_miRun.j1 k1 (wrap64 (x11_1 + 1)) x12_1 a0_0 a0_1 a0_2 a0_3 a1_0 a1_1 a1_2 x139000_1 x139001_1 x139002_1 x139003_1 x140000_1 x140001_1 x140002_1)) = some (r1, r2, r3, r4, r5, r6, r7, r8) := H
      have A17 := Aside0.mk A170
      clear A170
      have HC18 := Aside0.mk H
      clear H
      have hnb19 := NB138_135.out
      have hnc19 := NB135_138.out
      have hnb20 := NB138_136.out
      have hnc20 := NB136_138.out
      have hnb21 := NB138_137.out
      have hnc21 := NB137_138.out
      have hnb22 := NB138_139.out
      have hnc22 := NB139_138.out
      have hcz23_0 : wr.cell? ⟨gb138, 0, none⟩ = some (.int .i64 x139000_1) := (blk_cell BK138.out 0).trans rfl
      have hcz23_1 : wr.cell? ⟨gb138, 1, none⟩ = some (.int .i64 x139001_1) := (blk_cell BK138.out 1).trans rfl
      have hcz23_2 : wr.cell? ⟨gb138, 2, none⟩ = some (.string x139002_1) := (blk_cell BK138.out 2).trans rfl
      have hcz23_3 : wr.cell? ⟨gb138, 3, none⟩ = some (.bool x139003_1) := (blk_cell BK138.out 3).trans rfl
      have hfz23_0 := blk_frozen BK138.out 0
      have hfz23_1 := blk_frozen BK138.out 1
      have hfz23_2 := blk_frozen BK138.out 2
      have hfz23_3 := blk_frozen BK138.out 3
      have hnb24 := NB139_135.out
      have hnc24 := NB135_139.out
      have hnb25 := NB139_136.out
      have hnc25 := NB136_139.out
      have hnb26 := NB139_137.out
      have hnc26 := NB137_139.out
      have hcz27_0 : wr.cell? ⟨gb139, 0, none⟩ = some (.int .i64 x140000_1) := (blk_cell BK139.out 0).trans rfl
      have hcz27_1 : wr.cell? ⟨gb139, 1, none⟩ = some (.int .i64 x140001_1) := (blk_cell BK139.out 1).trans rfl
      have hcz27_2 : wr.cell? ⟨gb139, 2, none⟩ = some (.int .i64 x140002_1) := (blk_cell BK139.out 2).trans rfl
      have hfz27_0 := blk_frozen BK139.out 0
      have hfz27_1 := blk_frozen BK139.out 1
      have hfz27_2 := blk_frozen BK139.out 2
      go_upto_if 18 with (first | ((with_reducible refine gate_callee (f := 79) rfl ?_); refine goesL_ (some 17) rfl rfl Tryd.func79 (by kernel_rfl) rfl #[.agg #[.int .i64 x139000_1, .int .i64 x139001_1, .string x139002_1, .bool x139003_1], .agg #[.int .i64 x140000_1, .int .i64 x140001_1, .int .i64 x140002_1]] rfl (by (try simp only [List.map_toArray, List.map_cons, List.map_nil]); first | done | rfl | (simp only [List.length_drop, List.length_take]; rfl)) ?_; (with_reducible refine (spec_miAt.calls x139000_1 x139001_1 x139002_1 x139003_1 x140000_1 x140001_1 x140002_1 t140 _ A17.out).mono ?_); rintro e w28 ⟨rfl, hb⟩; refine ⟨_, rfl, ?_⟩; have n0_ := Aside0.mk (blk_below (g := gb135) (o := .cells #[.int .i64 a0_0, .int .i64 a0_1, .string a0_2, .bool a0_3] 26 (0, 0)) (XSq.bq BK135) hb); have n1_ := Aside0.mk (blk_below (g := gb136) (o := .cells #[.int .i64 a1_0, .int .i64 a1_1, .int .i64 a1_2] 32 (0, 0)) (XSq.bq BK136) hb); have n2_ := Aside0.mk (blk_below (g := gb137) (o := .cells #[.int .i64 x138000_1, .int .i64 x138001_1, .string x138002_1, .bool x138003_1] 26 (0, 0)) (XSq.bq BK137) hb); have n3_ := Aside0.mk (blk_below (g := gb138) (o := .cells #[.int .i64 x139000_1, .int .i64 x139001_1, .string x139002_1, .bool x139003_1] 26 (0, 0)) (XSq.bq BK138) hb); have n4_ := Aside0.mk (blk_below (g := gb139) (o := .cells #[.int .i64 x140000_1, .int .i64 x140001_1, .int .i64 x140002_1] 32 (0, 0)) (XSq.bq BK139) hb); have n5_ := Aside0.mk (below_step (XSq.bB HB) hb); clear BK135; clear BK136; clear BK137; clear BK138; clear BK139; clear HB; have BK135 := n0_; have BK136 := n1_; have BK137 := n2_; have BK138 := n3_; have BK139 := n4_; have HB := n5_; clear n0_ n1_ n2_ n3_ n4_ n5_; (try clear hb); (try clear hb2); (try clear hk); (try clear hi)))
      (try simp only [Act.put, List.setIfInBounds_toArray, List.set_cons_zero, List.set_cons_succ])
      go_cut [11] (fun v11 wc => ∃ (kq : Nat) (x11_17 : Int), v11 = .int .i64 x11_17 ∧ Aside0 (spec_miRun.j1 kq x11_17 x12_1 a0_0 a0_1 a0_2 a0_3 a1_0 a1_1 a1_2 x139000_1 x139001_1 x139002_1 x139003_1 x140000_1 x140001_1 x140002_1 = some (r1, r2, r3, r4, r5, r6, r7, r8)) ∧ Aside0 (kq ≤ k1) ∧ Aside0 (wc.heap[gb135]? = some (.cells #[.int .i64 a0_0, .int .i64 a0_1, .string a0_2, .bool a0_3] 26 (0, 0))) ∧ Aside0 (wc.heap[gb136]? = some (.cells #[.int .i64 a1_0, .int .i64 a1_1, .int .i64 a1_2] 32 (0, 0))) ∧ Aside0 (wc.heap[gb137]? = some (.cells #[.int .i64 x138000_1, .int .i64 x138001_1, .string x138002_1, .bool x138003_1] 26 (0, 0))) ∧ Aside0 (wc.heap[gb138]? = some (.cells #[.int .i64 x139000_1, .int .i64 x139001_1, .string x139002_1, .bool x139003_1] 26 (0, 0))) ∧ Aside0 (wc.heap[gb139]? = some (.cells #[.int .i64 x140000_1, .int .i64 x140001_1, .int .i64 x140002_1] 32 (0, 0))) ∧ Aside0 (Below w.heap.size w wc))
      case first =>
        have H := HC18.out
        clear HC18
        by_cases c29 : t140 = 46
        · rw [if_pos c29] at H
          have c29b0 : (t140 == 46) = true := beq_iff_eq.mpr c29
          have c29b1 : (t140 != 46) = false := bne_eq_false_iff_eq.mpr c29
          clear c29
          (first | rw [c29b0] | (simp only [i64_w, i32_w]; rw [c29b0]) | skip)
          have H' := Aside0.mk H
          clear H
          go_wp2
          go_meet
          case rel => exact ⟨_, (x11_1), (by first | rfl | (simp; done) | (simp [*]; done)), H', ⟨by have := HK1.out; first | omega | exact Nat.le_refl _⟩, ⟨by (with_reducible repeat (first | refine blk_drewN ?_ _ | refine blk_drew ?_ | refine blk_alloc ?_ _)); exact BK135.out⟩, ⟨by (with_reducible repeat (first | refine blk_drewN ?_ _ | refine blk_drew ?_ | refine blk_alloc ?_ _)); exact BK136.out⟩, ⟨by (with_reducible repeat (first | refine blk_drewN ?_ _ | refine blk_drew ?_ | refine blk_alloc ?_ _)); exact BK137.out⟩, ⟨by (with_reducible repeat (first | refine blk_drewN ?_ _ | refine blk_drew ?_ | refine blk_alloc ?_ _)); exact BK138.out⟩, ⟨by (with_reducible repeat (first | refine blk_drewN ?_ _ | refine blk_drew ?_ | refine blk_alloc ?_ _)); exact BK139.out⟩, ⟨by repeat (first | (with_reducible first | exact HB.out | apply below_alloc | apply pw_below_drewN | apply below_drew1 | refine below_set ?_ GE135.out | refine below_set ?_ GE136.out | refine below_set ?_ GE137.out | refine below_set ?_ GE138.out | refine below_set ?_ GE139.out) | exact HB.out)⟩⟩
        · rw [if_neg c29] at H
          have c29b0 : (t140 == 46) = false := beq_eq_false_iff_ne.mpr c29
          have c29b1 : (t140 != 46) = true := bne_iff_ne.mpr c29
          (first | rw [c29b0] | (simp only [i64_w, i32_w]; rw [c29b0]) | skip)
          have H' := Aside0.mk H
          clear H
          go_wp2
          go_meet
          case rel => exact ⟨_, (wrap64 (x11_1 + 1)), (by first | rfl | (simp; done) | (simp [*]; done)), H', ⟨by have := HK1.out; first | omega | exact Nat.le_refl _⟩, ⟨by (with_reducible repeat (first | refine blk_drewN ?_ _ | refine blk_drew ?_ | refine blk_alloc ?_ _)); exact BK135.out⟩, ⟨by (with_reducible repeat (first | refine blk_drewN ?_ _ | refine blk_drew ?_ | refine blk_alloc ?_ _)); exact BK136.out⟩, ⟨by (with_reducible repeat (first | refine blk_drewN ?_ _ | refine blk_drew ?_ | refine blk_alloc ?_ _)); exact BK137.out⟩, ⟨by (with_reducible repeat (first | refine blk_drewN ?_ _ | refine blk_drew ?_ | refine blk_alloc ?_ _)); exact BK138.out⟩, ⟨by (with_reducible repeat (first | refine blk_drewN ?_ _ | refine blk_drew ?_ | refine blk_alloc ?_ _)); exact BK139.out⟩, ⟨by repeat (first | (with_reducible first | exact HB.out | apply below_alloc | apply pw_below_drewN | apply below_drew1 | refine below_set ?_ GE135.out | refine below_set ?_ GE136.out | refine below_set ?_ GE137.out | refine below_set ?_ GE138.out | refine below_set ?_ GE139.out) | exact HB.out)⟩⟩
      case rest =>
        clear HC18
        try clear c1
        try clear c2
        try clear p2
        try clear c5
        try clear p6
        try clear c7
        try clear c19
        try clear c20
        try clear c21
        try clear c22
        try clear c24
        try clear c25
        try clear c26
        try clear c29
        try clear c29b0
        try clear c29b1
        try clear hcz23_0
        try clear hcz23_1
        try clear hcz23_2
        try clear hcz23_3
        try clear hcz27_0
        try clear hcz27_1
        try clear hcz27_2
        try clear hfz23_0
        try clear hfz23_1
        try clear hfz23_2
        try clear hfz23_3
        try clear hfz27_0
        try clear hfz27_1
        try clear hfz27_2
        try clear p2
        obtain ⟨kq, x11_17, rfl, HA, HJ17, BK135, BK136, BK137, BK138, BK139, HB⟩ := hcut
        cases kq with
        | zero => exact absurd HA.out (by simp [spec_miRun.j1])
        | succ kj17 =>
          have H := HA.out
          clear HA
          simp only [spec_miRun.j1] at H
          replace H := Option.bind_eq_some_iff.mp H
          obtain ⟨⟨t141, t142, t143, t144, t145, t146, t147⟩, A300, H⟩ := H
          replace H : ((spec_miBall.f kj17 t141 t142 t143 t144 t145 t146 t147).bind fun t148 => (if t148 = true then (if (t145 == a1_0 && (t146 == a1_1 && (t147 == a1_2))) = true then (if t143.toList = a0_2.toList then (some (0, 0, (⟨#[]⟩ : ByteArray), false, 0, 0, 0, false)) else (spec_miRun.l0 kj17 x11_17 (wrap64 (x12_1 + 1)) a0_0 a0_1 a0_2 a0_3 a1_0 a1_1 a1_2 t141 t142 t143 t144 t145 t146 t147)) else (spec_miRun.l0 kj17 x11_17 (wrap64 (x12_1 + 1)) a0_0 a0_1 a0_2 a0_3 a1_0 a1_1 a1_2 t141 t142 t143 t144 t145 t146 t147)) else ((spec_miOut.f a0_0 a0_1 a0_2 a0_3 t145 t146 t147).bind fun t149 => (some (t141, t142, t143, t144, t149, x11_17, wrap64 (x12_1 + 1), true))))) = some (r1, r2, r3, r4, r5, r6, r7, r8) := H
          have A30 := Aside0.mk A300
          clear A300
          replace H := Option.bind_eq_some_iff.mp H
          obtain ⟨t148, A310, H⟩ := H
          replace H : (if t148 = true then (if (t145 == a1_0 && (t146 == a1_1 && (t147 == a1_2))) = true then (if t143.toList = a0_2.toList then (some (0, 0, (⟨#[]⟩ : ByteArray), false, 0, 0, 0, false)) else (spec_miRun.l0 kj17 x11_17 (wrap64 (x12_1 + 1)) a0_0 a0_1 a0_2 a0_3 a1_0 a1_1 a1_2 t141 t142 t143 t144 t145 t146 t147)) else (spec_miRun.l0 kj17 x11_17 (wrap64 (x12_1 + 1)) a0_0 a0_1 a0_2 a0_3 a1_0 a1_1 a1_2 t141 t142 t143 t144 t145 t146 t147)) else ((spec_miOut.f a0_0 a0_1 a0_2 a0_3 t145 t146 t147).bind fun t149 => (some (t141, t142, t143, t144, t149, x11_17, wrap64 (x12_1 + 1), true)))) = some (r1, r2, r3, r4, r5, r6, r7, r8) := H
          have A31 := Aside0.mk A310
          clear A310
          by_cases c32 : t148 = true
          · subst c32
            have H1 : (if (t145 == a1_0 && (t146 == a1_1 && (t147 == a1_2))) = true then (if t143.toList = a0_2.toList then (some (0, 0, (⟨#[]⟩ : ByteArray), false, 0, 0, 0, false)) else (spec_miRun.l0 kj17 x11_17 (wrap64 (x12_1 + 1)) a0_0 a0_1 a0_2 a0_3 a1_0 a1_1 a1_2 t141 t142 t143 t144 t145 t146 t147)) else (spec_miRun.l0 kj17 x11_17 (wrap64 (x12_1 + 1)) a0_0 a0_1 a0_2 a0_3 a1_0 a1_1 a1_2 t141 t142 t143 t144 t145 t146 t147)) = some (r1, r2, r3, r4, r5, r6, r7, r8) := by rw [if_pos rfl] at H; exact H
            clear H
            have H := H1
            clear H1
            by_cases c33 : (t145 == a1_0 && (t146 == a1_1 && (t147 == a1_2))) = true
            · rw [if_pos c33] at H
              have c33b0 : (t145 == a1_0 && (t146 == a1_1 && (t147 == a1_2))) = true := c33
              (try (have c33b1 : decide (t145 = a1_0 && (t146 == a1_1 && (t147 == a1_2))) = true := by simpa using c33))
              (try (have c33b2 : (t145 == a1_0 && (t146 == a1_1 && (t147 == a1_2))) = true := by simpa using c33))
              clear c33
              by_cases c34 : t143.toList = a0_2.toList
              · rw [if_pos c34] at H
                have c34b0 : (t143.toList == a0_2.toList) = true := beq_iff_eq.mpr c34
                have c34b1 : (t143.toList != a0_2.toList) = false := bne_eq_false_iff_eq.mpr c34
                clear c34
                simp only [Option.some.injEq, Prod.mk.injEq] at H
                obtain ⟨rfl, rfl, rfl, rfl, rfl, rfl, rfl, rfl⟩ := H
                have hnb35 := NB138_135.out
                have hnc35 := NB135_138.out
                have hnb36 := NB138_136.out
                have hnc36 := NB136_138.out
                have hnb37 := NB138_137.out
                have hnc37 := NB137_138.out
                have hnb38 := NB138_139.out
                have hnc38 := NB139_138.out
                have hcz39_0 : wc.cell? ⟨gb138, 0, none⟩ = some (.int .i64 x139000_1) := (blk_cell BK138.out 0).trans rfl
                have hcz39_1 : wc.cell? ⟨gb138, 1, none⟩ = some (.int .i64 x139001_1) := (blk_cell BK138.out 1).trans rfl
                have hcz39_2 : wc.cell? ⟨gb138, 2, none⟩ = some (.string x139002_1) := (blk_cell BK138.out 2).trans rfl
                have hcz39_3 : wc.cell? ⟨gb138, 3, none⟩ = some (.bool x139003_1) := (blk_cell BK138.out 3).trans rfl
                have hfz39_0 := blk_frozen BK138.out 0
                have hfz39_1 := blk_frozen BK138.out 1
                have hfz39_2 := blk_frozen BK138.out 2
                have hfz39_3 := blk_frozen BK138.out 3
                have hnb40 := NB139_135.out
                have hnc40 := NB135_139.out
                have hnb41 := NB139_136.out
                have hnc41 := NB136_139.out
                have hnb42 := NB139_137.out
                have hnc42 := NB137_139.out
                have hcz43_0 : wc.cell? ⟨gb139, 0, none⟩ = some (.int .i64 x140000_1) := (blk_cell BK139.out 0).trans rfl
                have hcz43_1 : wc.cell? ⟨gb139, 1, none⟩ = some (.int .i64 x140001_1) := (blk_cell BK139.out 1).trans rfl
                have hcz43_2 : wc.cell? ⟨gb139, 2, none⟩ = some (.int .i64 x140002_1) := (blk_cell BK139.out 2).trans rfl
                have hfz43_0 := blk_frozen BK139.out 0
                have hfz43_1 := blk_frozen BK139.out 1
                have hfz43_2 := blk_frozen BK139.out 2
                go_wp2_with (first | ((with_reducible refine gate_callee (f := 56) rfl ?_); refine goesL_ (some 26) rfl rfl Tryd.func56 (by kernel_rfl) rfl #[.agg #[.int .i64 x139000_1, .int .i64 x139001_1, .string x139002_1, .bool x139003_1], .agg #[.int .i64 x140000_1, .int .i64 x140001_1, .int .i64 x140002_1]] rfl (by (try simp only [List.map_toArray, List.map_cons, List.map_nil]); first | done | rfl | (simp only [List.length_drop, List.length_take]; rfl)) ?_; (with_reducible refine (spec_miHit.calls kj17 x139000_1 x139001_1 x139002_1 x139003_1 x140000_1 x140001_1 x140002_1 t141 t142 t143 t144 t145 t146 t147 _ A30.out).mono ?_); rintro e w44 ⟨rfl, hb⟩; refine ⟨_, rfl, ?_⟩; have n0_ := Aside0.mk (blk_below (g := gb135) (o := .cells #[.int .i64 a0_0, .int .i64 a0_1, .string a0_2, .bool a0_3] 26 (0, 0)) (XSq.bq BK135) hb); have n1_ := Aside0.mk (blk_below (g := gb136) (o := .cells #[.int .i64 a1_0, .int .i64 a1_1, .int .i64 a1_2] 32 (0, 0)) (XSq.bq BK136) hb); have n2_ := Aside0.mk (blk_below (g := gb137) (o := .cells #[.int .i64 x138000_1, .int .i64 x138001_1, .string x138002_1, .bool x138003_1] 26 (0, 0)) (XSq.bq BK137) hb); have n3_ := Aside0.mk (blk_below (g := gb138) (o := .cells #[.int .i64 x139000_1, .int .i64 x139001_1, .string x139002_1, .bool x139003_1] 26 (0, 0)) (XSq.bq BK138) hb); have n4_ := Aside0.mk (blk_below (g := gb139) (o := .cells #[.int .i64 x140000_1, .int .i64 x140001_1, .int .i64 x140002_1] 32 (0, 0)) (XSq.bq BK139) hb); have n5_ := Aside0.mk (below_step (XSq.bB HB) hb); clear BK135; clear BK136; clear BK137; clear BK138; clear BK139; clear HB; have BK135 := n0_; have BK136 := n1_; have BK137 := n2_; have BK138 := n3_; have BK139 := n4_; have HB := n5_; clear n0_ n1_ n2_ n3_ n4_ n5_; (try clear hb); (try clear hb2); (try clear hk); (try clear hi); have hcz45_0 : w44.cell? ⟨gb138, 0, none⟩ = some (.int .i64 x139000_1) := (blk_cell BK138.out 0).trans rfl; have hcz45_1 : w44.cell? ⟨gb138, 1, none⟩ = some (.int .i64 x139001_1) := (blk_cell BK138.out 1).trans rfl; have hcz45_2 : w44.cell? ⟨gb138, 2, none⟩ = some (.string x139002_1) := (blk_cell BK138.out 2).trans rfl; have hcz45_3 : w44.cell? ⟨gb138, 3, none⟩ = some (.bool x139003_1) := (blk_cell BK138.out 3).trans rfl; have hfz45_0 := blk_frozen BK138.out 0; have hfz45_1 := blk_frozen BK138.out 1; have hfz45_2 := blk_frozen BK138.out 2; have hfz45_3 := blk_frozen BK138.out 3; have hcz46_0 : w44.cell? ⟨gb139, 0, none⟩ = some (.int .i64 x140000_1) := (blk_cell BK139.out 0).trans rfl; have hcz46_1 : w44.cell? ⟨gb139, 1, none⟩ = some (.int .i64 x140001_1) := (blk_cell BK139.out 1).trans rfl; have hcz46_2 : w44.cell? ⟨gb139, 2, none⟩ = some (.int .i64 x140002_1) := (blk_cell BK139.out 2).trans rfl; have hfz46_0 := blk_frozen BK139.out 0; have hfz46_1 := blk_frozen BK139.out 1; have hfz46_2 := blk_frozen BK139.out 2) | ((with_reducible refine gate_callee (f := 50) rfl ?_); refine goesL_ (some 31) rfl rfl Tryd.func50 (by kernel_rfl) rfl #[.agg #[.int .i64 t141, .int .i64 t142, .string t143, .bool t144], .agg #[.int .i64 t145, .int .i64 t146, .int .i64 t147]] rfl (by (try simp only [List.map_toArray, List.map_cons, List.map_nil]); first | done | rfl | (simp only [List.length_drop, List.length_take]; rfl)) ?_; (with_reducible refine (spec_miBall.calls kj17 t141 t142 t143 t144 t145 t146 t147 true _ A31.out).mono ?_); rintro e w47 ⟨rfl, hb⟩; refine ⟨_, rfl, ?_⟩; have n0_ := Aside0.mk (blk_below (g := gb135) (o := .cells #[.int .i64 a0_0, .int .i64 a0_1, .string a0_2, .bool a0_3] 26 (0, 0)) (by (with_reducible repeat (first | refine blk_drewN ?_ _ | refine blk_drew ?_ | refine blk_alloc ?_ _)); refine blk_far ?_ NB135_139.out _; (with_reducible repeat (first | refine blk_drewN ?_ _ | refine blk_drew ?_ | refine blk_alloc ?_ _)); refine blk_far ?_ NB135_139.out _; (with_reducible repeat (first | refine blk_drewN ?_ _ | refine blk_drew ?_ | refine blk_alloc ?_ _)); refine blk_far ?_ NB135_139.out _; (with_reducible repeat (first | refine blk_drewN ?_ _ | refine blk_drew ?_ | refine blk_alloc ?_ _)); refine blk_far ?_ NB135_138.out _; (with_reducible repeat (first | refine blk_drewN ?_ _ | refine blk_drew ?_ | refine blk_alloc ?_ _)); refine blk_far ?_ NB135_138.out _; (with_reducible repeat (first | refine blk_drewN ?_ _ | refine blk_drew ?_ | refine blk_alloc ?_ _)); refine blk_far ?_ NB135_138.out _; (with_reducible repeat (first | refine blk_drewN ?_ _ | refine blk_drew ?_ | refine blk_alloc ?_ _)); refine blk_far ?_ NB135_138.out _; (with_reducible repeat (first | refine blk_drewN ?_ _ | refine blk_drew ?_ | refine blk_alloc ?_ _)); exact BK135.out) hb); have n1_ := Aside0.mk (blk_below (g := gb136) (o := .cells #[.int .i64 a1_0, .int .i64 a1_1, .int .i64 a1_2] 32 (0, 0)) (by (with_reducible repeat (first | refine blk_drewN ?_ _ | refine blk_drew ?_ | refine blk_alloc ?_ _)); refine blk_far ?_ NB136_139.out _; (with_reducible repeat (first | refine blk_drewN ?_ _ | refine blk_drew ?_ | refine blk_alloc ?_ _)); refine blk_far ?_ NB136_139.out _; (with_reducible repeat (first | refine blk_drewN ?_ _ | refine blk_drew ?_ | refine blk_alloc ?_ _)); refine blk_far ?_ NB136_139.out _; (with_reducible repeat (first | refine blk_drewN ?_ _ | refine blk_drew ?_ | refine blk_alloc ?_ _)); refine blk_far ?_ NB136_138.out _; (with_reducible repeat (first | refine blk_drewN ?_ _ | refine blk_drew ?_ | refine blk_alloc ?_ _)); refine blk_far ?_ NB136_138.out _; (with_reducible repeat (first | refine blk_drewN ?_ _ | refine blk_drew ?_ | refine blk_alloc ?_ _)); refine blk_far ?_ NB136_138.out _; (with_reducible repeat (first | refine blk_drewN ?_ _ | refine blk_drew ?_ | refine blk_alloc ?_ _)); refine blk_far ?_ NB136_138.out _; (with_reducible repeat (first | refine blk_drewN ?_ _ | refine blk_drew ?_ | refine blk_alloc ?_ _)); exact BK136.out) hb); have n2_ := Aside0.mk (blk_below (g := gb137) (o := .cells #[.int .i64 x138000_1, .int .i64 x138001_1, .string x138002_1, .bool x138003_1] 26 (0, 0)) (by (with_reducible repeat (first | refine blk_drewN ?_ _ | refine blk_drew ?_ | refine blk_alloc ?_ _)); refine blk_far ?_ NB137_139.out _; (with_reducible repeat (first | refine blk_drewN ?_ _ | refine blk_drew ?_ | refine blk_alloc ?_ _)); refine blk_far ?_ NB137_139.out _; (with_reducible repeat (first | refine blk_drewN ?_ _ | refine blk_drew ?_ | refine blk_alloc ?_ _)); refine blk_far ?_ NB137_139.out _; (with_reducible repeat (first | refine blk_drewN ?_ _ | refine blk_drew ?_ | refine blk_alloc ?_ _)); refine blk_far ?_ NB137_138.out _; (with_reducible repeat (first | refine blk_drewN ?_ _ | refine blk_drew ?_ | refine blk_alloc ?_ _)); refine blk_far ?_ NB137_138.out _; (with_reducible repeat (first | refine blk_drewN ?_ _ | refine blk_drew ?_ | refine blk_alloc ?_ _)); refine blk_far ?_ NB137_138.out _; (with_reducible repeat (first | refine blk_drewN ?_ _ | refine blk_drew ?_ | refine blk_alloc ?_ _)); refine blk_far ?_ NB137_138.out _; (with_reducible repeat (first | refine blk_drewN ?_ _ | refine blk_drew ?_ | refine blk_alloc ?_ _)); exact BK137.out) hb); have n3_ := Aside0.mk (blk_below (g := gb138) (o := .cells #[.int .i64 t141, .int .i64 t142, .string t143, .bool t144] 26 (0, 0)) (by (with_reducible repeat (first | refine blk_drewN ?_ _ | refine blk_drew ?_ | refine blk_alloc ?_ _)); refine blk_far ?_ NB138_139.out _; (with_reducible repeat (first | refine blk_drewN ?_ _ | refine blk_drew ?_ | refine blk_alloc ?_ _)); refine blk_far ?_ NB138_139.out _; (with_reducible repeat (first | refine blk_drewN ?_ _ | refine blk_drew ?_ | refine blk_alloc ?_ _)); refine blk_far ?_ NB138_139.out _; (with_reducible repeat (first | refine blk_drewN ?_ _ | refine blk_drew ?_ | refine blk_alloc ?_ _)); refine blk_put (cs := #[.int .i64 t141, .int .i64 t142, .string t143, .bool x139003_1]) ?_ 3 _ rfl; (with_reducible repeat (first | refine blk_drewN ?_ _ | refine blk_drew ?_ | refine blk_alloc ?_ _)); refine blk_put (cs := #[.int .i64 t141, .int .i64 t142, .string x139002_1, .bool x139003_1]) ?_ 2 _ rfl; (with_reducible repeat (first | refine blk_drewN ?_ _ | refine blk_drew ?_ | refine blk_alloc ?_ _)); refine blk_put (cs := #[.int .i64 t141, .int .i64 x139001_1, .string x139002_1, .bool x139003_1]) ?_ 1 _ rfl; (with_reducible repeat (first | refine blk_drewN ?_ _ | refine blk_drew ?_ | refine blk_alloc ?_ _)); refine blk_put (cs := #[.int .i64 x139000_1, .int .i64 x139001_1, .string x139002_1, .bool x139003_1]) ?_ 0 _ rfl; (with_reducible repeat (first | refine blk_drewN ?_ _ | refine blk_drew ?_ | refine blk_alloc ?_ _)); exact BK138.out) hb); have n4_ := Aside0.mk (blk_below (g := gb139) (o := .cells #[.int .i64 t145, .int .i64 t146, .int .i64 t147] 32 (0, 0)) (by (with_reducible repeat (first | refine blk_drewN ?_ _ | refine blk_drew ?_ | refine blk_alloc ?_ _)); refine blk_put (cs := #[.int .i64 t145, .int .i64 t146, .int .i64 x140002_1]) ?_ 2 _ rfl; (with_reducible repeat (first | refine blk_drewN ?_ _ | refine blk_drew ?_ | refine blk_alloc ?_ _)); refine blk_put (cs := #[.int .i64 t145, .int .i64 x140001_1, .int .i64 x140002_1]) ?_ 1 _ rfl; (with_reducible repeat (first | refine blk_drewN ?_ _ | refine blk_drew ?_ | refine blk_alloc ?_ _)); refine blk_put (cs := #[.int .i64 x140000_1, .int .i64 x140001_1, .int .i64 x140002_1]) ?_ 0 _ rfl; (with_reducible repeat (first | refine blk_drewN ?_ _ | refine blk_drew ?_ | refine blk_alloc ?_ _)); refine blk_far ?_ NB139_138.out _; (with_reducible repeat (first | refine blk_drewN ?_ _ | refine blk_drew ?_ | refine blk_alloc ?_ _)); refine blk_far ?_ NB139_138.out _; (with_reducible repeat (first | refine blk_drewN ?_ _ | refine blk_drew ?_ | refine blk_alloc ?_ _)); refine blk_far ?_ NB139_138.out _; (with_reducible repeat (first | refine blk_drewN ?_ _ | refine blk_drew ?_ | refine blk_alloc ?_ _)); refine blk_far ?_ NB139_138.out _; (with_reducible repeat (first | refine blk_drewN ?_ _ | refine blk_drew ?_ | refine blk_alloc ?_ _)); exact BK139.out) hb); have n5_ := Aside0.mk (below_step (XSq.bB HB) hb); clear BK135; clear BK136; clear BK137; clear BK138; clear BK139; clear HB; have BK135 := n0_; have BK136 := n1_; have BK137 := n2_; have BK138 := n3_; have BK139 := n4_; have HB := n5_; clear n0_ n1_ n2_ n3_ n4_ n5_; (try clear hb); (try clear hb2); (try clear hk); (try clear hi); have hcz48_0 : w47.cell? ⟨gb139, 0, none⟩ = some (.int .i64 t145) := (blk_cell BK139.out 0).trans rfl; have hcz48_1 : w47.cell? ⟨gb139, 1, none⟩ = some (.int .i64 t146) := (blk_cell BK139.out 1).trans rfl; have hcz48_2 : w47.cell? ⟨gb139, 2, none⟩ = some (.int .i64 t147) := (blk_cell BK139.out 2).trans rfl; have hfz48_0 := blk_frozen BK139.out 0; have hfz48_1 := blk_frozen BK139.out 1; have hfz48_2 := blk_frozen BK139.out 2; have hnb49 := NB136_135.out; have hnc49 := NB135_136.out; have hnb50 := NB136_137.out; have hnc50 := NB137_136.out; have hcz51_0 : w47.cell? ⟨gb136, 0, none⟩ = some (.int .i64 a1_0) := (blk_cell BK136.out 0).trans rfl; have hcz51_1 : w47.cell? ⟨gb136, 1, none⟩ = some (.int .i64 a1_1) := (blk_cell BK136.out 1).trans rfl; have hcz51_2 : w47.cell? ⟨gb136, 2, none⟩ = some (.int .i64 a1_2) := (blk_cell BK136.out 2).trans rfl; have hfz51_0 := blk_frozen BK136.out 0; have hfz51_1 := blk_frozen BK136.out 1; have hfz51_2 := blk_frozen BK136.out 2; have hcz52_0 : w47.cell? ⟨gb138, 0, none⟩ = some (.int .i64 t141) := (blk_cell BK138.out 0).trans rfl; have hcz52_1 : w47.cell? ⟨gb138, 1, none⟩ = some (.int .i64 t142) := (blk_cell BK138.out 1).trans rfl; have hcz52_2 : w47.cell? ⟨gb138, 2, none⟩ = some (.string t143) := (blk_cell BK138.out 2).trans rfl; have hcz52_3 : w47.cell? ⟨gb138, 3, none⟩ = some (.bool t144) := (blk_cell BK138.out 3).trans rfl; have hfz52_0 := blk_frozen BK138.out 0; have hfz52_1 := blk_frozen BK138.out 1; have hfz52_2 := blk_frozen BK138.out 2; have hfz52_3 := blk_frozen BK138.out 3; have hnb53 := NB135_137.out; have hnc53 := NB137_135.out; have hcz54_0 : w47.cell? ⟨gb135, 0, none⟩ = some (.int .i64 a0_0) := (blk_cell BK135.out 0).trans rfl; have hcz54_1 : w47.cell? ⟨gb135, 1, none⟩ = some (.int .i64 a0_1) := (blk_cell BK135.out 1).trans rfl; have hcz54_2 : w47.cell? ⟨gb135, 2, none⟩ = some (.string a0_2) := (blk_cell BK135.out 2).trans rfl; have hcz54_3 : w47.cell? ⟨gb135, 3, none⟩ = some (.bool a0_3) := (blk_cell BK135.out 3).trans rfl; have hfz54_0 := blk_frozen BK135.out 0; have hfz54_1 := blk_frozen BK135.out 1; have hfz54_2 := blk_frozen BK135.out 2; have hfz54_3 := blk_frozen BK135.out 3; have hcz55_0 : w47.cell? ⟨gb137, 0, none⟩ = some (.int .i64 x138000_1) := (blk_cell BK137.out 0).trans rfl; have hcz55_1 : w47.cell? ⟨gb137, 1, none⟩ = some (.int .i64 x138001_1) := (blk_cell BK137.out 1).trans rfl; have hcz55_2 : w47.cell? ⟨gb137, 2, none⟩ = some (.string x138002_1) := (blk_cell BK137.out 2).trans rfl; have hcz55_3 : w47.cell? ⟨gb137, 3, none⟩ = some (.bool x138003_1) := (blk_cell BK137.out 3).trans rfl; have hfz55_0 := blk_frozen BK137.out 0; have hfz55_1 := blk_frozen BK137.out 1; have hfz55_2 := blk_frozen BK137.out 2; have hfz55_3 := blk_frozen BK137.out 3))
                refine bodyPost_ret (results_list (rs := [.cell 4 26, .tmp 5, .tmp 6, .tmp 7, .tmp 8]) rfl (by simp) (.cell gb137 26 #[.int .i64 0, .int .i64 0, .string (⟨#[]⟩ : ByteArray), .bool false] (0, 0) _ rfl (by (with_reducible repeat (first | refine blk_drewN ?_ _ | refine blk_drew ?_ | refine blk_alloc ?_ _)); refine blk_put (cs := #[.int .i64 0, .int .i64 0, .string (⟨#[]⟩ : ByteArray), .bool x138003_1]) ?_ 3 _ rfl; (with_reducible repeat (first | refine blk_drewN ?_ _ | refine blk_drew ?_ | refine blk_alloc ?_ _)); refine blk_put (cs := #[.int .i64 0, .int .i64 0, .string x138002_1, .bool x138003_1]) ?_ 2 _ rfl; (with_reducible repeat (first | refine blk_drewN ?_ _ | refine blk_drew ?_ | refine blk_alloc ?_ _)); refine blk_put (cs := #[.int .i64 0, .int .i64 x138001_1, .string x138002_1, .bool x138003_1]) ?_ 1 _ rfl; (with_reducible repeat (first | refine blk_drewN ?_ _ | refine blk_drew ?_ | refine blk_alloc ?_ _)); refine blk_put (cs := #[.int .i64 x138000_1, .int .i64 x138001_1, .string x138002_1, .bool x138003_1]) ?_ 0 _ rfl; (with_reducible repeat (first | refine blk_drewN ?_ _ | refine blk_drew ?_ | refine blk_alloc ?_ _)); exact BK137.out) Tryd.underlying26 rfl (by kernel_rfl) (.tmp (.tmp (.tmp (.tmp .nil)))))) rfl ?_
                exact ⟨by first | rfl | (simp [errW_none, errW_some] <;> rfl) | (simp [*, errW_none, errW_some] <;> rfl), by repeat (first | (with_reducible first | exact HB.out | apply below_alloc | apply pw_below_drewN | apply below_drew1 | refine below_set ?_ GE135.out | refine below_set ?_ GE136.out | refine below_set ?_ GE137.out | refine below_set ?_ GE138.out | refine below_set ?_ GE139.out) | exact HB.out)⟩
              · rw [if_neg c34] at H
                have c34b0 : (t143.toList == a0_2.toList) = false := beq_eq_false_iff_ne.mpr c34
                have c34b1 : (t143.toList != a0_2.toList) = true := bne_iff_ne.mpr c34
                have H' := Aside0.mk H
                clear H
                have hnb56 := NB138_135.out
                have hnc56 := NB135_138.out
                have hnb57 := NB138_136.out
                have hnc57 := NB136_138.out
                have hnb58 := NB138_137.out
                have hnc58 := NB137_138.out
                have hnb59 := NB138_139.out
                have hnc59 := NB139_138.out
                have hcz60_0 : wc.cell? ⟨gb138, 0, none⟩ = some (.int .i64 x139000_1) := (blk_cell BK138.out 0).trans rfl
                have hcz60_1 : wc.cell? ⟨gb138, 1, none⟩ = some (.int .i64 x139001_1) := (blk_cell BK138.out 1).trans rfl
                have hcz60_2 : wc.cell? ⟨gb138, 2, none⟩ = some (.string x139002_1) := (blk_cell BK138.out 2).trans rfl
                have hcz60_3 : wc.cell? ⟨gb138, 3, none⟩ = some (.bool x139003_1) := (blk_cell BK138.out 3).trans rfl
                have hfz60_0 := blk_frozen BK138.out 0
                have hfz60_1 := blk_frozen BK138.out 1
                have hfz60_2 := blk_frozen BK138.out 2
                have hfz60_3 := blk_frozen BK138.out 3
                have hnb61 := NB139_135.out
                have hnc61 := NB135_139.out
                have hnb62 := NB139_136.out
                have hnc62 := NB136_139.out
                have hnb63 := NB139_137.out
                have hnc63 := NB137_139.out
                have hcz64_0 : wc.cell? ⟨gb139, 0, none⟩ = some (.int .i64 x140000_1) := (blk_cell BK139.out 0).trans rfl
                have hcz64_1 : wc.cell? ⟨gb139, 1, none⟩ = some (.int .i64 x140001_1) := (blk_cell BK139.out 1).trans rfl
                have hcz64_2 : wc.cell? ⟨gb139, 2, none⟩ = some (.int .i64 x140002_1) := (blk_cell BK139.out 2).trans rfl
                have hfz64_0 := blk_frozen BK139.out 0
                have hfz64_1 := blk_frozen BK139.out 1
                have hfz64_2 := blk_frozen BK139.out 2
                go_wp2_with (first | ((with_reducible refine gate_callee (f := 56) rfl ?_); refine goesL_ (some 26) rfl rfl Tryd.func56 (by kernel_rfl) rfl #[.agg #[.int .i64 x139000_1, .int .i64 x139001_1, .string x139002_1, .bool x139003_1], .agg #[.int .i64 x140000_1, .int .i64 x140001_1, .int .i64 x140002_1]] rfl (by (try simp only [List.map_toArray, List.map_cons, List.map_nil]); first | done | rfl | (simp only [List.length_drop, List.length_take]; rfl)) ?_; (with_reducible refine (spec_miHit.calls kj17 x139000_1 x139001_1 x139002_1 x139003_1 x140000_1 x140001_1 x140002_1 t141 t142 t143 t144 t145 t146 t147 _ A30.out).mono ?_); rintro e w65 ⟨rfl, hb⟩; refine ⟨_, rfl, ?_⟩; have n0_ := Aside0.mk (blk_below (g := gb135) (o := .cells #[.int .i64 a0_0, .int .i64 a0_1, .string a0_2, .bool a0_3] 26 (0, 0)) (XSq.bq BK135) hb); have n1_ := Aside0.mk (blk_below (g := gb136) (o := .cells #[.int .i64 a1_0, .int .i64 a1_1, .int .i64 a1_2] 32 (0, 0)) (XSq.bq BK136) hb); have n2_ := Aside0.mk (blk_below (g := gb137) (o := .cells #[.int .i64 x138000_1, .int .i64 x138001_1, .string x138002_1, .bool x138003_1] 26 (0, 0)) (XSq.bq BK137) hb); have n3_ := Aside0.mk (blk_below (g := gb138) (o := .cells #[.int .i64 x139000_1, .int .i64 x139001_1, .string x139002_1, .bool x139003_1] 26 (0, 0)) (XSq.bq BK138) hb); have n4_ := Aside0.mk (blk_below (g := gb139) (o := .cells #[.int .i64 x140000_1, .int .i64 x140001_1, .int .i64 x140002_1] 32 (0, 0)) (XSq.bq BK139) hb); have n5_ := Aside0.mk (below_step (XSq.bB HB) hb); clear BK135; clear BK136; clear BK137; clear BK138; clear BK139; clear HB; have BK135 := n0_; have BK136 := n1_; have BK137 := n2_; have BK138 := n3_; have BK139 := n4_; have HB := n5_; clear n0_ n1_ n2_ n3_ n4_ n5_; (try clear hb); (try clear hb2); (try clear hk); (try clear hi); have hcz66_0 : w65.cell? ⟨gb138, 0, none⟩ = some (.int .i64 x139000_1) := (blk_cell BK138.out 0).trans rfl; have hcz66_1 : w65.cell? ⟨gb138, 1, none⟩ = some (.int .i64 x139001_1) := (blk_cell BK138.out 1).trans rfl; have hcz66_2 : w65.cell? ⟨gb138, 2, none⟩ = some (.string x139002_1) := (blk_cell BK138.out 2).trans rfl; have hcz66_3 : w65.cell? ⟨gb138, 3, none⟩ = some (.bool x139003_1) := (blk_cell BK138.out 3).trans rfl; have hfz66_0 := blk_frozen BK138.out 0; have hfz66_1 := blk_frozen BK138.out 1; have hfz66_2 := blk_frozen BK138.out 2; have hfz66_3 := blk_frozen BK138.out 3; have hcz67_0 : w65.cell? ⟨gb139, 0, none⟩ = some (.int .i64 x140000_1) := (blk_cell BK139.out 0).trans rfl; have hcz67_1 : w65.cell? ⟨gb139, 1, none⟩ = some (.int .i64 x140001_1) := (blk_cell BK139.out 1).trans rfl; have hcz67_2 : w65.cell? ⟨gb139, 2, none⟩ = some (.int .i64 x140002_1) := (blk_cell BK139.out 2).trans rfl; have hfz67_0 := blk_frozen BK139.out 0; have hfz67_1 := blk_frozen BK139.out 1; have hfz67_2 := blk_frozen BK139.out 2) | ((with_reducible refine gate_callee (f := 50) rfl ?_); refine goesL_ (some 31) rfl rfl Tryd.func50 (by kernel_rfl) rfl #[.agg #[.int .i64 t141, .int .i64 t142, .string t143, .bool t144], .agg #[.int .i64 t145, .int .i64 t146, .int .i64 t147]] rfl (by (try simp only [List.map_toArray, List.map_cons, List.map_nil]); first | done | rfl | (simp only [List.length_drop, List.length_take]; rfl)) ?_; (with_reducible refine (spec_miBall.calls kj17 t141 t142 t143 t144 t145 t146 t147 true _ A31.out).mono ?_); rintro e w68 ⟨rfl, hb⟩; refine ⟨_, rfl, ?_⟩; have n0_ := Aside0.mk (blk_below (g := gb135) (o := .cells #[.int .i64 a0_0, .int .i64 a0_1, .string a0_2, .bool a0_3] 26 (0, 0)) (by (with_reducible repeat (first | refine blk_drewN ?_ _ | refine blk_drew ?_ | refine blk_alloc ?_ _)); refine blk_far ?_ NB135_139.out _; (with_reducible repeat (first | refine blk_drewN ?_ _ | refine blk_drew ?_ | refine blk_alloc ?_ _)); refine blk_far ?_ NB135_139.out _; (with_reducible repeat (first | refine blk_drewN ?_ _ | refine blk_drew ?_ | refine blk_alloc ?_ _)); refine blk_far ?_ NB135_139.out _; (with_reducible repeat (first | refine blk_drewN ?_ _ | refine blk_drew ?_ | refine blk_alloc ?_ _)); refine blk_far ?_ NB135_138.out _; (with_reducible repeat (first | refine blk_drewN ?_ _ | refine blk_drew ?_ | refine blk_alloc ?_ _)); refine blk_far ?_ NB135_138.out _; (with_reducible repeat (first | refine blk_drewN ?_ _ | refine blk_drew ?_ | refine blk_alloc ?_ _)); refine blk_far ?_ NB135_138.out _; (with_reducible repeat (first | refine blk_drewN ?_ _ | refine blk_drew ?_ | refine blk_alloc ?_ _)); refine blk_far ?_ NB135_138.out _; (with_reducible repeat (first | refine blk_drewN ?_ _ | refine blk_drew ?_ | refine blk_alloc ?_ _)); exact BK135.out) hb); have n1_ := Aside0.mk (blk_below (g := gb136) (o := .cells #[.int .i64 a1_0, .int .i64 a1_1, .int .i64 a1_2] 32 (0, 0)) (by (with_reducible repeat (first | refine blk_drewN ?_ _ | refine blk_drew ?_ | refine blk_alloc ?_ _)); refine blk_far ?_ NB136_139.out _; (with_reducible repeat (first | refine blk_drewN ?_ _ | refine blk_drew ?_ | refine blk_alloc ?_ _)); refine blk_far ?_ NB136_139.out _; (with_reducible repeat (first | refine blk_drewN ?_ _ | refine blk_drew ?_ | refine blk_alloc ?_ _)); refine blk_far ?_ NB136_139.out _; (with_reducible repeat (first | refine blk_drewN ?_ _ | refine blk_drew ?_ | refine blk_alloc ?_ _)); refine blk_far ?_ NB136_138.out _; (with_reducible repeat (first | refine blk_drewN ?_ _ | refine blk_drew ?_ | refine blk_alloc ?_ _)); refine blk_far ?_ NB136_138.out _; (with_reducible repeat (first | refine blk_drewN ?_ _ | refine blk_drew ?_ | refine blk_alloc ?_ _)); refine blk_far ?_ NB136_138.out _; (with_reducible repeat (first | refine blk_drewN ?_ _ | refine blk_drew ?_ | refine blk_alloc ?_ _)); refine blk_far ?_ NB136_138.out _; (with_reducible repeat (first | refine blk_drewN ?_ _ | refine blk_drew ?_ | refine blk_alloc ?_ _)); exact BK136.out) hb); have n2_ := Aside0.mk (blk_below (g := gb137) (o := .cells #[.int .i64 x138000_1, .int .i64 x138001_1, .string x138002_1, .bool x138003_1] 26 (0, 0)) (by (with_reducible repeat (first | refine blk_drewN ?_ _ | refine blk_drew ?_ | refine blk_alloc ?_ _)); refine blk_far ?_ NB137_139.out _; (with_reducible repeat (first | refine blk_drewN ?_ _ | refine blk_drew ?_ | refine blk_alloc ?_ _)); refine blk_far ?_ NB137_139.out _; (with_reducible repeat (first | refine blk_drewN ?_ _ | refine blk_drew ?_ | refine blk_alloc ?_ _)); refine blk_far ?_ NB137_139.out _; (with_reducible repeat (first | refine blk_drewN ?_ _ | refine blk_drew ?_ | refine blk_alloc ?_ _)); refine blk_far ?_ NB137_138.out _; (with_reducible repeat (first | refine blk_drewN ?_ _ | refine blk_drew ?_ | refine blk_alloc ?_ _)); refine blk_far ?_ NB137_138.out _; (with_reducible repeat (first | refine blk_drewN ?_ _ | refine blk_drew ?_ | refine blk_alloc ?_ _)); refine blk_far ?_ NB137_138.out _; (with_reducible repeat (first | refine blk_drewN ?_ _ | refine blk_drew ?_ | refine blk_alloc ?_ _)); refine blk_far ?_ NB137_138.out _; (with_reducible repeat (first | refine blk_drewN ?_ _ | refine blk_drew ?_ | refine blk_alloc ?_ _)); exact BK137.out) hb); have n3_ := Aside0.mk (blk_below (g := gb138) (o := .cells #[.int .i64 t141, .int .i64 t142, .string t143, .bool t144] 26 (0, 0)) (by (with_reducible repeat (first | refine blk_drewN ?_ _ | refine blk_drew ?_ | refine blk_alloc ?_ _)); refine blk_far ?_ NB138_139.out _; (with_reducible repeat (first | refine blk_drewN ?_ _ | refine blk_drew ?_ | refine blk_alloc ?_ _)); refine blk_far ?_ NB138_139.out _; (with_reducible repeat (first | refine blk_drewN ?_ _ | refine blk_drew ?_ | refine blk_alloc ?_ _)); refine blk_far ?_ NB138_139.out _; (with_reducible repeat (first | refine blk_drewN ?_ _ | refine blk_drew ?_ | refine blk_alloc ?_ _)); refine blk_put (cs := #[.int .i64 t141, .int .i64 t142, .string t143, .bool x139003_1]) ?_ 3 _ rfl; (with_reducible repeat (first | refine blk_drewN ?_ _ | refine blk_drew ?_ | refine blk_alloc ?_ _)); refine blk_put (cs := #[.int .i64 t141, .int .i64 t142, .string x139002_1, .bool x139003_1]) ?_ 2 _ rfl; (with_reducible repeat (first | refine blk_drewN ?_ _ | refine blk_drew ?_ | refine blk_alloc ?_ _)); refine blk_put (cs := #[.int .i64 t141, .int .i64 x139001_1, .string x139002_1, .bool x139003_1]) ?_ 1 _ rfl; (with_reducible repeat (first | refine blk_drewN ?_ _ | refine blk_drew ?_ | refine blk_alloc ?_ _)); refine blk_put (cs := #[.int .i64 x139000_1, .int .i64 x139001_1, .string x139002_1, .bool x139003_1]) ?_ 0 _ rfl; (with_reducible repeat (first | refine blk_drewN ?_ _ | refine blk_drew ?_ | refine blk_alloc ?_ _)); exact BK138.out) hb); have n4_ := Aside0.mk (blk_below (g := gb139) (o := .cells #[.int .i64 t145, .int .i64 t146, .int .i64 t147] 32 (0, 0)) (by (with_reducible repeat (first | refine blk_drewN ?_ _ | refine blk_drew ?_ | refine blk_alloc ?_ _)); refine blk_put (cs := #[.int .i64 t145, .int .i64 t146, .int .i64 x140002_1]) ?_ 2 _ rfl; (with_reducible repeat (first | refine blk_drewN ?_ _ | refine blk_drew ?_ | refine blk_alloc ?_ _)); refine blk_put (cs := #[.int .i64 t145, .int .i64 x140001_1, .int .i64 x140002_1]) ?_ 1 _ rfl; (with_reducible repeat (first | refine blk_drewN ?_ _ | refine blk_drew ?_ | refine blk_alloc ?_ _)); refine blk_put (cs := #[.int .i64 x140000_1, .int .i64 x140001_1, .int .i64 x140002_1]) ?_ 0 _ rfl; (with_reducible repeat (first | refine blk_drewN ?_ _ | refine blk_drew ?_ | refine blk_alloc ?_ _)); refine blk_far ?_ NB139_138.out _; (with_reducible repeat (first | refine blk_drewN ?_ _ | refine blk_drew ?_ | refine blk_alloc ?_ _)); refine blk_far ?_ NB139_138.out _; (with_reducible repeat (first | refine blk_drewN ?_ _ | refine blk_drew ?_ | refine blk_alloc ?_ _)); refine blk_far ?_ NB139_138.out _; (with_reducible repeat (first | refine blk_drewN ?_ _ | refine blk_drew ?_ | refine blk_alloc ?_ _)); refine blk_far ?_ NB139_138.out _; (with_reducible repeat (first | refine blk_drewN ?_ _ | refine blk_drew ?_ | refine blk_alloc ?_ _)); exact BK139.out) hb); have n5_ := Aside0.mk (below_step (XSq.bB HB) hb); clear BK135; clear BK136; clear BK137; clear BK138; clear BK139; clear HB; have BK135 := n0_; have BK136 := n1_; have BK137 := n2_; have BK138 := n3_; have BK139 := n4_; have HB := n5_; clear n0_ n1_ n2_ n3_ n4_ n5_; (try clear hb); (try clear hb2); (try clear hk); (try clear hi); have hcz69_0 : w68.cell? ⟨gb139, 0, none⟩ = some (.int .i64 t145) := (blk_cell BK139.out 0).trans rfl; have hcz69_1 : w68.cell? ⟨gb139, 1, none⟩ = some (.int .i64 t146) := (blk_cell BK139.out 1).trans rfl; have hcz69_2 : w68.cell? ⟨gb139, 2, none⟩ = some (.int .i64 t147) := (blk_cell BK139.out 2).trans rfl; have hfz69_0 := blk_frozen BK139.out 0; have hfz69_1 := blk_frozen BK139.out 1; have hfz69_2 := blk_frozen BK139.out 2; have hnb70 := NB136_135.out; have hnc70 := NB135_136.out; have hnb71 := NB136_137.out; have hnc71 := NB137_136.out; have hcz72_0 : w68.cell? ⟨gb136, 0, none⟩ = some (.int .i64 a1_0) := (blk_cell BK136.out 0).trans rfl; have hcz72_1 : w68.cell? ⟨gb136, 1, none⟩ = some (.int .i64 a1_1) := (blk_cell BK136.out 1).trans rfl; have hcz72_2 : w68.cell? ⟨gb136, 2, none⟩ = some (.int .i64 a1_2) := (blk_cell BK136.out 2).trans rfl; have hfz72_0 := blk_frozen BK136.out 0; have hfz72_1 := blk_frozen BK136.out 1; have hfz72_2 := blk_frozen BK136.out 2; have hcz73_0 : w68.cell? ⟨gb138, 0, none⟩ = some (.int .i64 t141) := (blk_cell BK138.out 0).trans rfl; have hcz73_1 : w68.cell? ⟨gb138, 1, none⟩ = some (.int .i64 t142) := (blk_cell BK138.out 1).trans rfl; have hcz73_2 : w68.cell? ⟨gb138, 2, none⟩ = some (.string t143) := (blk_cell BK138.out 2).trans rfl; have hcz73_3 : w68.cell? ⟨gb138, 3, none⟩ = some (.bool t144) := (blk_cell BK138.out 3).trans rfl; have hfz73_0 := blk_frozen BK138.out 0; have hfz73_1 := blk_frozen BK138.out 1; have hfz73_2 := blk_frozen BK138.out 2; have hfz73_3 := blk_frozen BK138.out 3; have hnb74 := NB135_137.out; have hnc74 := NB137_135.out; have hcz75_0 : w68.cell? ⟨gb135, 0, none⟩ = some (.int .i64 a0_0) := (blk_cell BK135.out 0).trans rfl; have hcz75_1 : w68.cell? ⟨gb135, 1, none⟩ = some (.int .i64 a0_1) := (blk_cell BK135.out 1).trans rfl; have hcz75_2 : w68.cell? ⟨gb135, 2, none⟩ = some (.string a0_2) := (blk_cell BK135.out 2).trans rfl; have hcz75_3 : w68.cell? ⟨gb135, 3, none⟩ = some (.bool a0_3) := (blk_cell BK135.out 3).trans rfl; have hfz75_0 := blk_frozen BK135.out 0; have hfz75_1 := blk_frozen BK135.out 1; have hfz75_2 := blk_frozen BK135.out 2; have hfz75_3 := blk_frozen BK135.out 3))
                go_roundg kj17
                case measure => have := HK1.out; have := HJ17.out; omega
                case rel => exact ⟨(x11_17), (wrap64 (x12_1 + 1)), (x138000_1), (x138001_1), (x138002_1), (x138003_1), (t141), (t142), (t143), (t144), (t145), (t146), (t147), (by first | rfl | (simp; done) | (simp [*]; done)), (by first | rfl | (simp; done) | (simp [*]; done)), H', ⟨by have := HK1.out; have := HJ17.out; omega⟩, ⟨by (with_reducible repeat (first | refine blk_drewN ?_ _ | refine blk_drew ?_ | refine blk_alloc ?_ _)); exact BK135.out⟩, ⟨by (with_reducible repeat (first | refine blk_drewN ?_ _ | refine blk_drew ?_ | refine blk_alloc ?_ _)); exact BK136.out⟩, ⟨by (with_reducible repeat (first | refine blk_drewN ?_ _ | refine blk_drew ?_ | refine blk_alloc ?_ _)); exact BK137.out⟩, ⟨by (with_reducible repeat (first | refine blk_drewN ?_ _ | refine blk_drew ?_ | refine blk_alloc ?_ _)); exact BK138.out⟩, ⟨by (with_reducible repeat (first | refine blk_drewN ?_ _ | refine blk_drew ?_ | refine blk_alloc ?_ _)); exact BK139.out⟩, ⟨by repeat (first | (with_reducible first | exact HB.out | apply below_alloc | apply pw_below_drewN | apply below_drew1 | refine below_set ?_ GE135.out | refine below_set ?_ GE136.out | refine below_set ?_ GE137.out | refine below_set ?_ GE138.out | refine below_set ?_ GE139.out) | exact HB.out)⟩⟩
            · rw [if_neg c33] at H
              have c33b0 : (t145 == a1_0 && (t146 == a1_1 && (t147 == a1_2))) = false := by simpa using c33
              (try (have c33b1 : decide (t145 = a1_0 && (t146 == a1_1 && (t147 == a1_2))) = false := by simpa using c33))
              (try (have c33b2 : (t145 == a1_0 && (t146 == a1_1 && (t147 == a1_2))) = false := by simpa using c33))
              (try (have c33b3 : ¬ (t145 = a1_0 && (t146 == a1_1 && (t147 == a1_2))) := by simpa using c33))
              clear c33
              have H' := Aside0.mk H
              clear H
              have hnb76 := NB138_135.out
              have hnc76 := NB135_138.out
              have hnb77 := NB138_136.out
              have hnc77 := NB136_138.out
              have hnb78 := NB138_137.out
              have hnc78 := NB137_138.out
              have hnb79 := NB138_139.out
              have hnc79 := NB139_138.out
              have hcz80_0 : wc.cell? ⟨gb138, 0, none⟩ = some (.int .i64 x139000_1) := (blk_cell BK138.out 0).trans rfl
              have hcz80_1 : wc.cell? ⟨gb138, 1, none⟩ = some (.int .i64 x139001_1) := (blk_cell BK138.out 1).trans rfl
              have hcz80_2 : wc.cell? ⟨gb138, 2, none⟩ = some (.string x139002_1) := (blk_cell BK138.out 2).trans rfl
              have hcz80_3 : wc.cell? ⟨gb138, 3, none⟩ = some (.bool x139003_1) := (blk_cell BK138.out 3).trans rfl
              have hfz80_0 := blk_frozen BK138.out 0
              have hfz80_1 := blk_frozen BK138.out 1
              have hfz80_2 := blk_frozen BK138.out 2
              have hfz80_3 := blk_frozen BK138.out 3
              have hnb81 := NB139_135.out
              have hnc81 := NB135_139.out
              have hnb82 := NB139_136.out
              have hnc82 := NB136_139.out
              have hnb83 := NB139_137.out
              have hnc83 := NB137_139.out
              have hcz84_0 : wc.cell? ⟨gb139, 0, none⟩ = some (.int .i64 x140000_1) := (blk_cell BK139.out 0).trans rfl
              have hcz84_1 : wc.cell? ⟨gb139, 1, none⟩ = some (.int .i64 x140001_1) := (blk_cell BK139.out 1).trans rfl
              have hcz84_2 : wc.cell? ⟨gb139, 2, none⟩ = some (.int .i64 x140002_1) := (blk_cell BK139.out 2).trans rfl
              have hfz84_0 := blk_frozen BK139.out 0
              have hfz84_1 := blk_frozen BK139.out 1
              have hfz84_2 := blk_frozen BK139.out 2
              go_wp2_with (first | ((with_reducible refine gate_callee (f := 56) rfl ?_); refine goesL_ (some 26) rfl rfl Tryd.func56 (by kernel_rfl) rfl #[.agg #[.int .i64 x139000_1, .int .i64 x139001_1, .string x139002_1, .bool x139003_1], .agg #[.int .i64 x140000_1, .int .i64 x140001_1, .int .i64 x140002_1]] rfl (by (try simp only [List.map_toArray, List.map_cons, List.map_nil]); first | done | rfl | (simp only [List.length_drop, List.length_take]; rfl)) ?_; (with_reducible refine (spec_miHit.calls kj17 x139000_1 x139001_1 x139002_1 x139003_1 x140000_1 x140001_1 x140002_1 t141 t142 t143 t144 t145 t146 t147 _ A30.out).mono ?_); rintro e w85 ⟨rfl, hb⟩; refine ⟨_, rfl, ?_⟩; have n0_ := Aside0.mk (blk_below (g := gb135) (o := .cells #[.int .i64 a0_0, .int .i64 a0_1, .string a0_2, .bool a0_3] 26 (0, 0)) (XSq.bq BK135) hb); have n1_ := Aside0.mk (blk_below (g := gb136) (o := .cells #[.int .i64 a1_0, .int .i64 a1_1, .int .i64 a1_2] 32 (0, 0)) (XSq.bq BK136) hb); have n2_ := Aside0.mk (blk_below (g := gb137) (o := .cells #[.int .i64 x138000_1, .int .i64 x138001_1, .string x138002_1, .bool x138003_1] 26 (0, 0)) (XSq.bq BK137) hb); have n3_ := Aside0.mk (blk_below (g := gb138) (o := .cells #[.int .i64 x139000_1, .int .i64 x139001_1, .string x139002_1, .bool x139003_1] 26 (0, 0)) (XSq.bq BK138) hb); have n4_ := Aside0.mk (blk_below (g := gb139) (o := .cells #[.int .i64 x140000_1, .int .i64 x140001_1, .int .i64 x140002_1] 32 (0, 0)) (XSq.bq BK139) hb); have n5_ := Aside0.mk (below_step (XSq.bB HB) hb); clear BK135; clear BK136; clear BK137; clear BK138; clear BK139; clear HB; have BK135 := n0_; have BK136 := n1_; have BK137 := n2_; have BK138 := n3_; have BK139 := n4_; have HB := n5_; clear n0_ n1_ n2_ n3_ n4_ n5_; (try clear hb); (try clear hb2); (try clear hk); (try clear hi); have hcz86_0 : w85.cell? ⟨gb138, 0, none⟩ = some (.int .i64 x139000_1) := (blk_cell BK138.out 0).trans rfl; have hcz86_1 : w85.cell? ⟨gb138, 1, none⟩ = some (.int .i64 x139001_1) := (blk_cell BK138.out 1).trans rfl; have hcz86_2 : w85.cell? ⟨gb138, 2, none⟩ = some (.string x139002_1) := (blk_cell BK138.out 2).trans rfl; have hcz86_3 : w85.cell? ⟨gb138, 3, none⟩ = some (.bool x139003_1) := (blk_cell BK138.out 3).trans rfl; have hfz86_0 := blk_frozen BK138.out 0; have hfz86_1 := blk_frozen BK138.out 1; have hfz86_2 := blk_frozen BK138.out 2; have hfz86_3 := blk_frozen BK138.out 3; have hcz87_0 : w85.cell? ⟨gb139, 0, none⟩ = some (.int .i64 x140000_1) := (blk_cell BK139.out 0).trans rfl; have hcz87_1 : w85.cell? ⟨gb139, 1, none⟩ = some (.int .i64 x140001_1) := (blk_cell BK139.out 1).trans rfl; have hcz87_2 : w85.cell? ⟨gb139, 2, none⟩ = some (.int .i64 x140002_1) := (blk_cell BK139.out 2).trans rfl; have hfz87_0 := blk_frozen BK139.out 0; have hfz87_1 := blk_frozen BK139.out 1; have hfz87_2 := blk_frozen BK139.out 2) | ((with_reducible refine gate_callee (f := 50) rfl ?_); refine goesL_ (some 31) rfl rfl Tryd.func50 (by kernel_rfl) rfl #[.agg #[.int .i64 t141, .int .i64 t142, .string t143, .bool t144], .agg #[.int .i64 t145, .int .i64 t146, .int .i64 t147]] rfl (by (try simp only [List.map_toArray, List.map_cons, List.map_nil]); first | done | rfl | (simp only [List.length_drop, List.length_take]; rfl)) ?_; (with_reducible refine (spec_miBall.calls kj17 t141 t142 t143 t144 t145 t146 t147 true _ A31.out).mono ?_); rintro e w88 ⟨rfl, hb⟩; refine ⟨_, rfl, ?_⟩; have n0_ := Aside0.mk (blk_below (g := gb135) (o := .cells #[.int .i64 a0_0, .int .i64 a0_1, .string a0_2, .bool a0_3] 26 (0, 0)) (by (with_reducible repeat (first | refine blk_drewN ?_ _ | refine blk_drew ?_ | refine blk_alloc ?_ _)); refine blk_far ?_ NB135_139.out _; (with_reducible repeat (first | refine blk_drewN ?_ _ | refine blk_drew ?_ | refine blk_alloc ?_ _)); refine blk_far ?_ NB135_139.out _; (with_reducible repeat (first | refine blk_drewN ?_ _ | refine blk_drew ?_ | refine blk_alloc ?_ _)); refine blk_far ?_ NB135_139.out _; (with_reducible repeat (first | refine blk_drewN ?_ _ | refine blk_drew ?_ | refine blk_alloc ?_ _)); refine blk_far ?_ NB135_138.out _; (with_reducible repeat (first | refine blk_drewN ?_ _ | refine blk_drew ?_ | refine blk_alloc ?_ _)); refine blk_far ?_ NB135_138.out _; (with_reducible repeat (first | refine blk_drewN ?_ _ | refine blk_drew ?_ | refine blk_alloc ?_ _)); refine blk_far ?_ NB135_138.out _; (with_reducible repeat (first | refine blk_drewN ?_ _ | refine blk_drew ?_ | refine blk_alloc ?_ _)); refine blk_far ?_ NB135_138.out _; (with_reducible repeat (first | refine blk_drewN ?_ _ | refine blk_drew ?_ | refine blk_alloc ?_ _)); exact BK135.out) hb); have n1_ := Aside0.mk (blk_below (g := gb136) (o := .cells #[.int .i64 a1_0, .int .i64 a1_1, .int .i64 a1_2] 32 (0, 0)) (by (with_reducible repeat (first | refine blk_drewN ?_ _ | refine blk_drew ?_ | refine blk_alloc ?_ _)); refine blk_far ?_ NB136_139.out _; (with_reducible repeat (first | refine blk_drewN ?_ _ | refine blk_drew ?_ | refine blk_alloc ?_ _)); refine blk_far ?_ NB136_139.out _; (with_reducible repeat (first | refine blk_drewN ?_ _ | refine blk_drew ?_ | refine blk_alloc ?_ _)); refine blk_far ?_ NB136_139.out _; (with_reducible repeat (first | refine blk_drewN ?_ _ | refine blk_drew ?_ | refine blk_alloc ?_ _)); refine blk_far ?_ NB136_138.out _; (with_reducible repeat (first | refine blk_drewN ?_ _ | refine blk_drew ?_ | refine blk_alloc ?_ _)); refine blk_far ?_ NB136_138.out _; (with_reducible repeat (first | refine blk_drewN ?_ _ | refine blk_drew ?_ | refine blk_alloc ?_ _)); refine blk_far ?_ NB136_138.out _; (with_reducible repeat (first | refine blk_drewN ?_ _ | refine blk_drew ?_ | refine blk_alloc ?_ _)); refine blk_far ?_ NB136_138.out _; (with_reducible repeat (first | refine blk_drewN ?_ _ | refine blk_drew ?_ | refine blk_alloc ?_ _)); exact BK136.out) hb); have n2_ := Aside0.mk (blk_below (g := gb137) (o := .cells #[.int .i64 x138000_1, .int .i64 x138001_1, .string x138002_1, .bool x138003_1] 26 (0, 0)) (by (with_reducible repeat (first | refine blk_drewN ?_ _ | refine blk_drew ?_ | refine blk_alloc ?_ _)); refine blk_far ?_ NB137_139.out _; (with_reducible repeat (first | refine blk_drewN ?_ _ | refine blk_drew ?_ | refine blk_alloc ?_ _)); refine blk_far ?_ NB137_139.out _; (with_reducible repeat (first | refine blk_drewN ?_ _ | refine blk_drew ?_ | refine blk_alloc ?_ _)); refine blk_far ?_ NB137_139.out _; (with_reducible repeat (first | refine blk_drewN ?_ _ | refine blk_drew ?_ | refine blk_alloc ?_ _)); refine blk_far ?_ NB137_138.out _; (with_reducible repeat (first | refine blk_drewN ?_ _ | refine blk_drew ?_ | refine blk_alloc ?_ _)); refine blk_far ?_ NB137_138.out _; (with_reducible repeat (first | refine blk_drewN ?_ _ | refine blk_drew ?_ | refine blk_alloc ?_ _)); refine blk_far ?_ NB137_138.out _; (with_reducible repeat (first | refine blk_drewN ?_ _ | refine blk_drew ?_ | refine blk_alloc ?_ _)); refine blk_far ?_ NB137_138.out _; (with_reducible repeat (first | refine blk_drewN ?_ _ | refine blk_drew ?_ | refine blk_alloc ?_ _)); exact BK137.out) hb); have n3_ := Aside0.mk (blk_below (g := gb138) (o := .cells #[.int .i64 t141, .int .i64 t142, .string t143, .bool t144] 26 (0, 0)) (by (with_reducible repeat (first | refine blk_drewN ?_ _ | refine blk_drew ?_ | refine blk_alloc ?_ _)); refine blk_far ?_ NB138_139.out _; (with_reducible repeat (first | refine blk_drewN ?_ _ | refine blk_drew ?_ | refine blk_alloc ?_ _)); refine blk_far ?_ NB138_139.out _; (with_reducible repeat (first | refine blk_drewN ?_ _ | refine blk_drew ?_ | refine blk_alloc ?_ _)); refine blk_far ?_ NB138_139.out _; (with_reducible repeat (first | refine blk_drewN ?_ _ | refine blk_drew ?_ | refine blk_alloc ?_ _)); refine blk_put (cs := #[.int .i64 t141, .int .i64 t142, .string t143, .bool x139003_1]) ?_ 3 _ rfl; (with_reducible repeat (first | refine blk_drewN ?_ _ | refine blk_drew ?_ | refine blk_alloc ?_ _)); refine blk_put (cs := #[.int .i64 t141, .int .i64 t142, .string x139002_1, .bool x139003_1]) ?_ 2 _ rfl; (with_reducible repeat (first | refine blk_drewN ?_ _ | refine blk_drew ?_ | refine blk_alloc ?_ _)); refine blk_put (cs := #[.int .i64 t141, .int .i64 x139001_1, .string x139002_1, .bool x139003_1]) ?_ 1 _ rfl; (with_reducible repeat (first | refine blk_drewN ?_ _ | refine blk_drew ?_ | refine blk_alloc ?_ _)); refine blk_put (cs := #[.int .i64 x139000_1, .int .i64 x139001_1, .string x139002_1, .bool x139003_1]) ?_ 0 _ rfl; (with_reducible repeat (first | refine blk_drewN ?_ _ | refine blk_drew ?_ | refine blk_alloc ?_ _)); exact BK138.out) hb); have n4_ := Aside0.mk (blk_below (g := gb139) (o := .cells #[.int .i64 t145, .int .i64 t146, .int .i64 t147] 32 (0, 0)) (by (with_reducible repeat (first | refine blk_drewN ?_ _ | refine blk_drew ?_ | refine blk_alloc ?_ _)); refine blk_put (cs := #[.int .i64 t145, .int .i64 t146, .int .i64 x140002_1]) ?_ 2 _ rfl; (with_reducible repeat (first | refine blk_drewN ?_ _ | refine blk_drew ?_ | refine blk_alloc ?_ _)); refine blk_put (cs := #[.int .i64 t145, .int .i64 x140001_1, .int .i64 x140002_1]) ?_ 1 _ rfl; (with_reducible repeat (first | refine blk_drewN ?_ _ | refine blk_drew ?_ | refine blk_alloc ?_ _)); refine blk_put (cs := #[.int .i64 x140000_1, .int .i64 x140001_1, .int .i64 x140002_1]) ?_ 0 _ rfl; (with_reducible repeat (first | refine blk_drewN ?_ _ | refine blk_drew ?_ | refine blk_alloc ?_ _)); refine blk_far ?_ NB139_138.out _; (with_reducible repeat (first | refine blk_drewN ?_ _ | refine blk_drew ?_ | refine blk_alloc ?_ _)); refine blk_far ?_ NB139_138.out _; (with_reducible repeat (first | refine blk_drewN ?_ _ | refine blk_drew ?_ | refine blk_alloc ?_ _)); refine blk_far ?_ NB139_138.out _; (with_reducible repeat (first | refine blk_drewN ?_ _ | refine blk_drew ?_ | refine blk_alloc ?_ _)); refine blk_far ?_ NB139_138.out _; (with_reducible repeat (first | refine blk_drewN ?_ _ | refine blk_drew ?_ | refine blk_alloc ?_ _)); exact BK139.out) hb); have n5_ := Aside0.mk (below_step (XSq.bB HB) hb); clear BK135; clear BK136; clear BK137; clear BK138; clear BK139; clear HB; have BK135 := n0_; have BK136 := n1_; have BK137 := n2_; have BK138 := n3_; have BK139 := n4_; have HB := n5_; clear n0_ n1_ n2_ n3_ n4_ n5_; (try clear hb); (try clear hb2); (try clear hk); (try clear hi); have hcz89_0 : w88.cell? ⟨gb139, 0, none⟩ = some (.int .i64 t145) := (blk_cell BK139.out 0).trans rfl; have hcz89_1 : w88.cell? ⟨gb139, 1, none⟩ = some (.int .i64 t146) := (blk_cell BK139.out 1).trans rfl; have hcz89_2 : w88.cell? ⟨gb139, 2, none⟩ = some (.int .i64 t147) := (blk_cell BK139.out 2).trans rfl; have hfz89_0 := blk_frozen BK139.out 0; have hfz89_1 := blk_frozen BK139.out 1; have hfz89_2 := blk_frozen BK139.out 2; have hnb90 := NB136_135.out; have hnc90 := NB135_136.out; have hnb91 := NB136_137.out; have hnc91 := NB137_136.out; have hcz92_0 : w88.cell? ⟨gb136, 0, none⟩ = some (.int .i64 a1_0) := (blk_cell BK136.out 0).trans rfl; have hcz92_1 : w88.cell? ⟨gb136, 1, none⟩ = some (.int .i64 a1_1) := (blk_cell BK136.out 1).trans rfl; have hcz92_2 : w88.cell? ⟨gb136, 2, none⟩ = some (.int .i64 a1_2) := (blk_cell BK136.out 2).trans rfl; have hfz92_0 := blk_frozen BK136.out 0; have hfz92_1 := blk_frozen BK136.out 1; have hfz92_2 := blk_frozen BK136.out 2))
              go_roundg kj17
              case measure => have := HK1.out; have := HJ17.out; omega
              case rel => exact ⟨(x11_17), (wrap64 (x12_1 + 1)), (x138000_1), (x138001_1), (x138002_1), (x138003_1), (t141), (t142), (t143), (t144), (t145), (t146), (t147), (by first | rfl | (simp; done) | (simp [*]; done)), (by first | rfl | (simp; done) | (simp [*]; done)), H', ⟨by have := HK1.out; have := HJ17.out; omega⟩, ⟨by (with_reducible repeat (first | refine blk_drewN ?_ _ | refine blk_drew ?_ | refine blk_alloc ?_ _)); exact BK135.out⟩, ⟨by (with_reducible repeat (first | refine blk_drewN ?_ _ | refine blk_drew ?_ | refine blk_alloc ?_ _)); exact BK136.out⟩, ⟨by (with_reducible repeat (first | refine blk_drewN ?_ _ | refine blk_drew ?_ | refine blk_alloc ?_ _)); exact BK137.out⟩, ⟨by (with_reducible repeat (first | refine blk_drewN ?_ _ | refine blk_drew ?_ | refine blk_alloc ?_ _)); exact BK138.out⟩, ⟨by (with_reducible repeat (first | refine blk_drewN ?_ _ | refine blk_drew ?_ | refine blk_alloc ?_ _)); exact BK139.out⟩, ⟨by repeat (first | (with_reducible first | exact HB.out | apply below_alloc | apply pw_below_drewN | apply below_drew1 | refine below_set ?_ GE135.out | refine below_set ?_ GE136.out | refine below_set ?_ GE137.out | refine below_set ?_ GE138.out | refine below_set ?_ GE139.out) | exact HB.out)⟩⟩
          · replace c32 := Bool.eq_false_iff.mpr c32
            subst c32
            have H1 : ((spec_miOut.f a0_0 a0_1 a0_2 a0_3 t145 t146 t147).bind fun t149 => (some (t141, t142, t143, t144, t149, x11_17, wrap64 (x12_1 + 1), true))) = some (r1, r2, r3, r4, r5, r6, r7, r8) := by rw [if_neg (show ¬ (false = true) by decide)] at H; exact H
            clear H
            have H := H1
            clear H1
            replace H := Option.bind_eq_some_iff.mp H
            obtain ⟨t149, A930, H⟩ := H
            replace H : (some (t141, t142, t143, t144, t149, x11_17, wrap64 (x12_1 + 1), true)) = some (r1, r2, r3, r4, r5, r6, r7, r8) := H
            have A93 := Aside0.mk A930
            clear A930
            simp only [Option.some.injEq, Prod.mk.injEq] at H
            obtain ⟨rfl, rfl, rfl, rfl, rfl, rfl, rfl, rfl⟩ := H
            have hnb94 := NB138_135.out
            have hnc94 := NB135_138.out
            have hnb95 := NB138_136.out
            have hnc95 := NB136_138.out
            have hnb96 := NB138_137.out
            have hnc96 := NB137_138.out
            have hnb97 := NB138_139.out
            have hnc97 := NB139_138.out
            have hcz98_0 : wc.cell? ⟨gb138, 0, none⟩ = some (.int .i64 x139000_1) := (blk_cell BK138.out 0).trans rfl
            have hcz98_1 : wc.cell? ⟨gb138, 1, none⟩ = some (.int .i64 x139001_1) := (blk_cell BK138.out 1).trans rfl
            have hcz98_2 : wc.cell? ⟨gb138, 2, none⟩ = some (.string x139002_1) := (blk_cell BK138.out 2).trans rfl
            have hcz98_3 : wc.cell? ⟨gb138, 3, none⟩ = some (.bool x139003_1) := (blk_cell BK138.out 3).trans rfl
            have hfz98_0 := blk_frozen BK138.out 0
            have hfz98_1 := blk_frozen BK138.out 1
            have hfz98_2 := blk_frozen BK138.out 2
            have hfz98_3 := blk_frozen BK138.out 3
            have hnb99 := NB139_135.out
            have hnc99 := NB135_139.out
            have hnb100 := NB139_136.out
            have hnc100 := NB136_139.out
            have hnb101 := NB139_137.out
            have hnc101 := NB137_139.out
            have hcz102_0 : wc.cell? ⟨gb139, 0, none⟩ = some (.int .i64 x140000_1) := (blk_cell BK139.out 0).trans rfl
            have hcz102_1 : wc.cell? ⟨gb139, 1, none⟩ = some (.int .i64 x140001_1) := (blk_cell BK139.out 1).trans rfl
            have hcz102_2 : wc.cell? ⟨gb139, 2, none⟩ = some (.int .i64 x140002_1) := (blk_cell BK139.out 2).trans rfl
            have hfz102_0 := blk_frozen BK139.out 0
            have hfz102_1 := blk_frozen BK139.out 1
            have hfz102_2 := blk_frozen BK139.out 2
            try go_wp2_with (first | ((with_reducible refine gate_callee (f := 56) rfl ?_); refine goesL_ (some 26) rfl rfl Tryd.func56 (by kernel_rfl) rfl #[.agg #[.int .i64 x139000_1, .int .i64 x139001_1, .string x139002_1, .bool x139003_1], .agg #[.int .i64 x140000_1, .int .i64 x140001_1, .int .i64 x140002_1]] rfl (by (try simp only [List.map_toArray, List.map_cons, List.map_nil]); first | done | rfl | (simp only [List.length_drop, List.length_take]; rfl)) ?_; (with_reducible refine (spec_miHit.calls kj17 x139000_1 x139001_1 x139002_1 x139003_1 x140000_1 x140001_1 x140002_1 t141 t142 t143 t144 t145 t146 t147 _ A30.out).mono ?_); rintro e w103 ⟨rfl, hb⟩; refine ⟨_, rfl, ?_⟩; have n0_ := Aside0.mk (blk_below (g := gb135) (o := .cells #[.int .i64 a0_0, .int .i64 a0_1, .string a0_2, .bool a0_3] 26 (0, 0)) (XSq.bq BK135) hb); have n1_ := Aside0.mk (blk_below (g := gb136) (o := .cells #[.int .i64 a1_0, .int .i64 a1_1, .int .i64 a1_2] 32 (0, 0)) (XSq.bq BK136) hb); have n2_ := Aside0.mk (blk_below (g := gb137) (o := .cells #[.int .i64 x138000_1, .int .i64 x138001_1, .string x138002_1, .bool x138003_1] 26 (0, 0)) (XSq.bq BK137) hb); have n3_ := Aside0.mk (blk_below (g := gb138) (o := .cells #[.int .i64 x139000_1, .int .i64 x139001_1, .string x139002_1, .bool x139003_1] 26 (0, 0)) (XSq.bq BK138) hb); have n4_ := Aside0.mk (blk_below (g := gb139) (o := .cells #[.int .i64 x140000_1, .int .i64 x140001_1, .int .i64 x140002_1] 32 (0, 0)) (XSq.bq BK139) hb); have n5_ := Aside0.mk (below_step (XSq.bB HB) hb); clear BK135; clear BK136; clear BK137; clear BK138; clear BK139; clear HB; have BK135 := n0_; have BK136 := n1_; have BK137 := n2_; have BK138 := n3_; have BK139 := n4_; have HB := n5_; clear n0_ n1_ n2_ n3_ n4_ n5_; (try clear hb); (try clear hb2); (try clear hk); (try clear hi); have hcz104_0 : w103.cell? ⟨gb138, 0, none⟩ = some (.int .i64 x139000_1) := (blk_cell BK138.out 0).trans rfl; have hcz104_1 : w103.cell? ⟨gb138, 1, none⟩ = some (.int .i64 x139001_1) := (blk_cell BK138.out 1).trans rfl; have hcz104_2 : w103.cell? ⟨gb138, 2, none⟩ = some (.string x139002_1) := (blk_cell BK138.out 2).trans rfl; have hcz104_3 : w103.cell? ⟨gb138, 3, none⟩ = some (.bool x139003_1) := (blk_cell BK138.out 3).trans rfl; have hfz104_0 := blk_frozen BK138.out 0; have hfz104_1 := blk_frozen BK138.out 1; have hfz104_2 := blk_frozen BK138.out 2; have hfz104_3 := blk_frozen BK138.out 3; have hcz105_0 : w103.cell? ⟨gb139, 0, none⟩ = some (.int .i64 x140000_1) := (blk_cell BK139.out 0).trans rfl; have hcz105_1 : w103.cell? ⟨gb139, 1, none⟩ = some (.int .i64 x140001_1) := (blk_cell BK139.out 1).trans rfl; have hcz105_2 : w103.cell? ⟨gb139, 2, none⟩ = some (.int .i64 x140002_1) := (blk_cell BK139.out 2).trans rfl; have hfz105_0 := blk_frozen BK139.out 0; have hfz105_1 := blk_frozen BK139.out 1; have hfz105_2 := blk_frozen BK139.out 2) | ((with_reducible refine gate_callee (f := 50) rfl ?_); refine goesL_ (some 31) rfl rfl Tryd.func50 (by kernel_rfl) rfl #[.agg #[.int .i64 t141, .int .i64 t142, .string t143, .bool t144], .agg #[.int .i64 t145, .int .i64 t146, .int .i64 t147]] rfl (by (try simp only [List.map_toArray, List.map_cons, List.map_nil]); first | done | rfl | (simp only [List.length_drop, List.length_take]; rfl)) ?_; (with_reducible refine (spec_miBall.calls kj17 t141 t142 t143 t144 t145 t146 t147 false _ A31.out).mono ?_); rintro e w106 ⟨rfl, hb⟩; refine ⟨_, rfl, ?_⟩; have n0_ := Aside0.mk (blk_below (g := gb135) (o := .cells #[.int .i64 a0_0, .int .i64 a0_1, .string a0_2, .bool a0_3] 26 (0, 0)) (by (with_reducible repeat (first | refine blk_drewN ?_ _ | refine blk_drew ?_ | refine blk_alloc ?_ _)); refine blk_far ?_ NB135_139.out _; (with_reducible repeat (first | refine blk_drewN ?_ _ | refine blk_drew ?_ | refine blk_alloc ?_ _)); refine blk_far ?_ NB135_139.out _; (with_reducible repeat (first | refine blk_drewN ?_ _ | refine blk_drew ?_ | refine blk_alloc ?_ _)); refine blk_far ?_ NB135_139.out _; (with_reducible repeat (first | refine blk_drewN ?_ _ | refine blk_drew ?_ | refine blk_alloc ?_ _)); refine blk_far ?_ NB135_138.out _; (with_reducible repeat (first | refine blk_drewN ?_ _ | refine blk_drew ?_ | refine blk_alloc ?_ _)); refine blk_far ?_ NB135_138.out _; (with_reducible repeat (first | refine blk_drewN ?_ _ | refine blk_drew ?_ | refine blk_alloc ?_ _)); refine blk_far ?_ NB135_138.out _; (with_reducible repeat (first | refine blk_drewN ?_ _ | refine blk_drew ?_ | refine blk_alloc ?_ _)); refine blk_far ?_ NB135_138.out _; (with_reducible repeat (first | refine blk_drewN ?_ _ | refine blk_drew ?_ | refine blk_alloc ?_ _)); exact BK135.out) hb); have n1_ := Aside0.mk (blk_below (g := gb136) (o := .cells #[.int .i64 a1_0, .int .i64 a1_1, .int .i64 a1_2] 32 (0, 0)) (by (with_reducible repeat (first | refine blk_drewN ?_ _ | refine blk_drew ?_ | refine blk_alloc ?_ _)); refine blk_far ?_ NB136_139.out _; (with_reducible repeat (first | refine blk_drewN ?_ _ | refine blk_drew ?_ | refine blk_alloc ?_ _)); refine blk_far ?_ NB136_139.out _; (with_reducible repeat (first | refine blk_drewN ?_ _ | refine blk_drew ?_ | refine blk_alloc ?_ _)); refine blk_far ?_ NB136_139.out _; (with_reducible repeat (first | refine blk_drewN ?_ _ | refine blk_drew ?_ | refine blk_alloc ?_ _)); refine blk_far ?_ NB136_138.out _; (with_reducible repeat (first | refine blk_drewN ?_ _ | refine blk_drew ?_ | refine blk_alloc ?_ _)); refine blk_far ?_ NB136_138.out _; (with_reducible repeat (first | refine blk_drewN ?_ _ | refine blk_drew ?_ | refine blk_alloc ?_ _)); refine blk_far ?_ NB136_138.out _; (with_reducible repeat (first | refine blk_drewN ?_ _ | refine blk_drew ?_ | refine blk_alloc ?_ _)); refine blk_far ?_ NB136_138.out _; (with_reducible repeat (first | refine blk_drewN ?_ _ | refine blk_drew ?_ | refine blk_alloc ?_ _)); exact BK136.out) hb); have n2_ := Aside0.mk (blk_below (g := gb137) (o := .cells #[.int .i64 x138000_1, .int .i64 x138001_1, .string x138002_1, .bool x138003_1] 26 (0, 0)) (by (with_reducible repeat (first | refine blk_drewN ?_ _ | refine blk_drew ?_ | refine blk_alloc ?_ _)); refine blk_far ?_ NB137_139.out _; (with_reducible repeat (first | refine blk_drewN ?_ _ | refine blk_drew ?_ | refine blk_alloc ?_ _)); refine blk_far ?_ NB137_139.out _; (with_reducible repeat (first | refine blk_drewN ?_ _ | refine blk_drew ?_ | refine blk_alloc ?_ _)); refine blk_far ?_ NB137_139.out _; (with_reducible repeat (first | refine blk_drewN ?_ _ | refine blk_drew ?_ | refine blk_alloc ?_ _)); refine blk_far ?_ NB137_138.out _; (with_reducible repeat (first | refine blk_drewN ?_ _ | refine blk_drew ?_ | refine blk_alloc ?_ _)); refine blk_far ?_ NB137_138.out _; (with_reducible repeat (first | refine blk_drewN ?_ _ | refine blk_drew ?_ | refine blk_alloc ?_ _)); refine blk_far ?_ NB137_138.out _; (with_reducible repeat (first | refine blk_drewN ?_ _ | refine blk_drew ?_ | refine blk_alloc ?_ _)); refine blk_far ?_ NB137_138.out _; (with_reducible repeat (first | refine blk_drewN ?_ _ | refine blk_drew ?_ | refine blk_alloc ?_ _)); exact BK137.out) hb); have n3_ := Aside0.mk (blk_below (g := gb138) (o := .cells #[.int .i64 t141, .int .i64 t142, .string t143, .bool t144] 26 (0, 0)) (by (with_reducible repeat (first | refine blk_drewN ?_ _ | refine blk_drew ?_ | refine blk_alloc ?_ _)); refine blk_far ?_ NB138_139.out _; (with_reducible repeat (first | refine blk_drewN ?_ _ | refine blk_drew ?_ | refine blk_alloc ?_ _)); refine blk_far ?_ NB138_139.out _; (with_reducible repeat (first | refine blk_drewN ?_ _ | refine blk_drew ?_ | refine blk_alloc ?_ _)); refine blk_far ?_ NB138_139.out _; (with_reducible repeat (first | refine blk_drewN ?_ _ | refine blk_drew ?_ | refine blk_alloc ?_ _)); refine blk_put (cs := #[.int .i64 t141, .int .i64 t142, .string t143, .bool x139003_1]) ?_ 3 _ rfl; (with_reducible repeat (first | refine blk_drewN ?_ _ | refine blk_drew ?_ | refine blk_alloc ?_ _)); refine blk_put (cs := #[.int .i64 t141, .int .i64 t142, .string x139002_1, .bool x139003_1]) ?_ 2 _ rfl; (with_reducible repeat (first | refine blk_drewN ?_ _ | refine blk_drew ?_ | refine blk_alloc ?_ _)); refine blk_put (cs := #[.int .i64 t141, .int .i64 x139001_1, .string x139002_1, .bool x139003_1]) ?_ 1 _ rfl; (with_reducible repeat (first | refine blk_drewN ?_ _ | refine blk_drew ?_ | refine blk_alloc ?_ _)); refine blk_put (cs := #[.int .i64 x139000_1, .int .i64 x139001_1, .string x139002_1, .bool x139003_1]) ?_ 0 _ rfl; (with_reducible repeat (first | refine blk_drewN ?_ _ | refine blk_drew ?_ | refine blk_alloc ?_ _)); exact BK138.out) hb); have n4_ := Aside0.mk (blk_below (g := gb139) (o := .cells #[.int .i64 t145, .int .i64 t146, .int .i64 t147] 32 (0, 0)) (by (with_reducible repeat (first | refine blk_drewN ?_ _ | refine blk_drew ?_ | refine blk_alloc ?_ _)); refine blk_put (cs := #[.int .i64 t145, .int .i64 t146, .int .i64 x140002_1]) ?_ 2 _ rfl; (with_reducible repeat (first | refine blk_drewN ?_ _ | refine blk_drew ?_ | refine blk_alloc ?_ _)); refine blk_put (cs := #[.int .i64 t145, .int .i64 x140001_1, .int .i64 x140002_1]) ?_ 1 _ rfl; (with_reducible repeat (first | refine blk_drewN ?_ _ | refine blk_drew ?_ | refine blk_alloc ?_ _)); refine blk_put (cs := #[.int .i64 x140000_1, .int .i64 x140001_1, .int .i64 x140002_1]) ?_ 0 _ rfl; (with_reducible repeat (first | refine blk_drewN ?_ _ | refine blk_drew ?_ | refine blk_alloc ?_ _)); refine blk_far ?_ NB139_138.out _; (with_reducible repeat (first | refine blk_drewN ?_ _ | refine blk_drew ?_ | refine blk_alloc ?_ _)); refine blk_far ?_ NB139_138.out _; (with_reducible repeat (first | refine blk_drewN ?_ _ | refine blk_drew ?_ | refine blk_alloc ?_ _)); refine blk_far ?_ NB139_138.out _; (with_reducible repeat (first | refine blk_drewN ?_ _ | refine blk_drew ?_ | refine blk_alloc ?_ _)); refine blk_far ?_ NB139_138.out _; (with_reducible repeat (first | refine blk_drewN ?_ _ | refine blk_drew ?_ | refine blk_alloc ?_ _)); exact BK139.out) hb); have n5_ := Aside0.mk (below_step (XSq.bB HB) hb); clear BK135; clear BK136; clear BK137; clear BK138; clear BK139; clear HB; have BK135 := n0_; have BK136 := n1_; have BK137 := n2_; have BK138 := n3_; have BK139 := n4_; have HB := n5_; clear n0_ n1_ n2_ n3_ n4_ n5_; (try clear hb); (try clear hb2); (try clear hk); (try clear hi)))
            have n0_ := Aside0.mk (blk_drew BK135.out)
            have n1_ := Aside0.mk (blk_drew BK136.out)
            have n2_ := Aside0.mk (blk_drew BK137.out)
            have n3_ := Aside0.mk (blk_drew BK138.out)
            have n4_ := Aside0.mk (blk_drew BK139.out)
            have n5_ := Aside0.mk (below_drew1 HB.out)
            clear BK135
            clear BK136
            clear BK137
            clear BK138
            clear BK139
            clear HB
            have BK135 := n0_
            have BK136 := n1_
            have BK137 := n2_
            have BK138 := n3_
            have BK139 := n4_
            have HB := n5_
            clear n0_ n1_ n2_ n3_ n4_ n5_
            refine start_ (n := 11) (S := fun w' => w'.cell? ⟨gb138, 0, none⟩ = some (.int .i64 t141) ∧ w'.cell? ⟨gb138, 1, none⟩ = some (.int .i64 t142) ∧ w'.cell? ⟨gb138, 2, none⟩ = some (.string t143) ∧ w'.cell? ⟨gb138, 3, none⟩ = some (.bool t144) ∧ w'.cell? ⟨gb135, 0, none⟩ = some (.int .i64 a0_0) ∧ w'.cell? ⟨gb135, 1, none⟩ = some (.int .i64 a0_1) ∧ w'.cell? ⟨gb135, 2, none⟩ = some (.string a0_2) ∧ w'.cell? ⟨gb135, 3, none⟩ = some (.bool a0_3) ∧ w'.cell? ⟨gb139, 0, none⟩ = some (.int .i64 t145) ∧ w'.cell? ⟨gb139, 1, none⟩ = some (.int .i64 t146) ∧ w'.cell? ⟨gb139, 2, none⟩ = some (.int .i64 t147)) (ds := []) #[false, false, false, false, false, false, false, false, false, false, false] (by kernel_rfl) rfl rfl ⟨(blk_cell BK138.out 0).trans rfl, (blk_cell BK138.out 1).trans rfl, (blk_cell BK138.out 2).trans rfl, (blk_cell BK138.out 3).trans rfl, (blk_cell BK135.out 0).trans rfl, (blk_cell BK135.out 1).trans rfl, (blk_cell BK135.out 2).trans rfl, (blk_cell BK135.out 3).trans rfl, (blk_cell BK139.out 0).trans rfl, (blk_cell BK139.out 1).trans rfl, (blk_cell BK139.out 2).trans rfl⟩ (fun hHeld => ?_); refine with_tabW spec_miRun.tab8 spec_miRun.bits8 (fun HT_ HW_ => ?_)
            generalize w106.drew = w107 at BK135 BK136 BK137 BK138 BK139 HB hHeld ⊢
            refine pure_ (i := 4) (N := some 37) (v := ?_) (a' := ?_) #[false, false, false, false, true, false, false, false, false, false, false] rfl rfl (any_of HT_.out (by kernel_rfl)) (fun _ _ _ h => h) (Or.inl ⟨by rfl, ?_⟩) ?_ ?_
            rotate_left
            · intro w'
              go_simp
              with_reducible rfl
            rotate_left
            · simp only [Act.put, List.setIfInBounds_toArray, List.set_cons_zero, List.set_cons_succ, i64_w, i32_w]
              rfl
            refine pure_ (i := 5) (N := some 38) (v := ?_) (a' := ?_) #[false, false, false, false, true, true, false, false, false, false, false] rfl rfl (any_of HT_.out (by kernel_rfl)) (fun _ _ _ h => h) (Or.inl ⟨by rfl, ?_⟩) ?_ ?_
            rotate_left
            · intro w'
              go_simp
              with_reducible rfl
            rotate_left
            · simp only [Act.put, List.setIfInBounds_toArray, List.set_cons_zero, List.set_cons_succ, i64_w, i32_w]
              rfl
            refine take_ (i := 0) (N := some 33) (v := ?_) (a' := ?_) #[true, false, false, false, true, true, false, false, false, false, false] rfl rfl (take_ofW HT_.out HW_.out (by kernel_rfl)) (fun _ _ _ h => h) (Or.inl ⟨by rfl, ?_⟩) hHeld ?_ ?_
            rotate_left
            · rintro w' ⟨s0, s1, s2, s3, s4, s5, s6, s7, s8, s9, s10⟩
              go_simp
              with_reducible rfl
            rotate_left
            · simp only [Act.put, List.setIfInBounds_toArray, List.set_cons_zero, List.set_cons_succ, i64_w, i32_w]
              rfl
            refine take_ (i := 1) (N := some 34) (v := ?_) (a' := ?_) #[true, true, false, false, true, true, false, false, false, false, false] rfl rfl (take_ofW HT_.out HW_.out (by kernel_rfl)) (fun _ _ _ h => h) (Or.inl ⟨by rfl, ?_⟩) hHeld ?_ ?_
            rotate_left
            · rintro w' ⟨s0, s1, s2, s3, s4, s5, s6, s7, s8, s9, s10⟩
              go_simp
              with_reducible rfl
            rotate_left
            · simp only [Act.put, List.setIfInBounds_toArray, List.set_cons_zero, List.set_cons_succ, i64_w, i32_w]
              rfl
            refine take_ (i := 2) (N := some 35) (v := ?_) (a' := ?_) #[true, true, true, false, true, true, false, false, false, false, false] rfl rfl (take_ofW HT_.out HW_.out (by kernel_rfl)) (fun _ _ _ h => h) (Or.inl ⟨by rfl, ?_⟩) hHeld ?_ ?_
            rotate_left
            · rintro w' ⟨s0, s1, s2, s3, s4, s5, s6, s7, s8, s9, s10⟩
              go_simp
              with_reducible rfl
            rotate_left
            · simp only [Act.put, List.setIfInBounds_toArray, List.set_cons_zero, List.set_cons_succ, i64_w, i32_w]
              rfl
            refine one_ (i := 3) (N := some 36) #[true, true, true, true, true, true, false, false, false, false, false] rfl rfl (one_of HT_.out (by kernel_rfl)) (by decide) (fun K hK => ?_)
            refine goes_ Tryd.func80 (by kernel_rfl) rfl #[.agg #[.int .i64 a0_0, .int .i64 a0_1, .string a0_2, .bool a0_3], .agg #[.int .i64 t145, .int .i64 t146, .int .i64 t147]] (by rfl) rfl rfl (by (try simp only [List.map_toArray, List.map_cons, List.map_nil]); first | done | rfl | (simp only [List.length_drop, List.length_take]; rfl)) ?_
            with_reducible refine (spec_miOut.calls a0_0 a0_1 a0_2 a0_3 t145 t146 t147 t149 _ A93.out).mono ?_
            rintro e w108 ⟨rfl, hb⟩
            refine ⟨_, rfl, ?_⟩
            have n0_ := Aside0.mk (blk_below (g := gb135) (o := .cells #[.int .i64 a0_0, .int .i64 a0_1, .string a0_2, .bool a0_3] 26 (0, 0)) (XSq.bq BK135) hb)
            have n1_ := Aside0.mk (blk_below (g := gb136) (o := .cells #[.int .i64 a1_0, .int .i64 a1_1, .int .i64 a1_2] 32 (0, 0)) (XSq.bq BK136) hb)
            have n2_ := Aside0.mk (blk_below (g := gb137) (o := .cells #[.int .i64 x138000_1, .int .i64 x138001_1, .string x138002_1, .bool x138003_1] 26 (0, 0)) (XSq.bq BK137) hb)
            have n3_ := Aside0.mk (blk_below (g := gb138) (o := .cells #[.int .i64 t141, .int .i64 t142, .string t143, .bool t144] 26 (0, 0)) (XSq.bq BK138) hb)
            have n4_ := Aside0.mk (blk_below (g := gb139) (o := .cells #[.int .i64 t145, .int .i64 t146, .int .i64 t147] 32 (0, 0)) (XSq.bq BK139) hb)
            have n5_ := Aside0.mk (below_step (XSq.bB HB) hb)
            clear BK135
            clear BK136
            clear BK137
            clear BK138
            clear BK139
            clear HB
            have BK135 := n0_
            have BK136 := n1_
            have BK137 := n2_
            have BK138 := n3_
            have BK139 := n4_
            have HB := n5_
            clear n0_ n1_ n2_ n3_ n4_ n5_
            (try clear hb)
            (try clear hb2)
            (try clear hk)
            (try clear hi)
            refine hK.out _ _ ⟨(blk_cell BK138.out 0).trans rfl, (blk_cell BK138.out 1).trans rfl, (blk_cell BK138.out 2).trans rfl, (blk_cell BK138.out 3).trans rfl, (blk_cell BK135.out 0).trans rfl, (blk_cell BK135.out 1).trans rfl, (blk_cell BK135.out 2).trans rfl, (blk_cell BK135.out 3).trans rfl, (blk_cell BK139.out 0).trans rfl, (blk_cell BK139.out 1).trans rfl, (blk_cell BK139.out 2).trans rfl⟩ (fun hHeld => ?_)
            clear hK K
            refine norm_ (a' := ?_) ?_ ?_
            rotate_left
            · show Act.put _ (some 36) _ = _
              simp only [Act.put, List.setIfInBounds_toArray, List.set_cons_zero, List.set_cons_succ, i64_w, i32_w]
              rfl
            refine one_ (i := 6) (N := none) #[true, true, true, true, true, true, true, false, false, false, false] rfl rfl (one_of HT_.out (by kernel_rfl)) (by decide) (fun K hK => ?_)
            have hs109 : w108.cell? ⟨gb137, 0, none⟩ = some (.int .i64 x138000_1) := (blk_cell BK137.out 0).trans rfl
            have hfs109 := blk_frozen BK137.out 0
            have hns109_0 := NB135_137.out
            have hns109_1 := NB136_137.out
            have hns109_3 := NB138_137.out
            have hns109_4 := NB139_137.out
            have hms109_0 := NB137_135.out
            have hms109_1 := NB137_136.out
            have hms109_3 := NB137_138.out
            have hms109_4 := NB137_139.out
            have hs110 : w108.cell? ⟨gb137, 1, none⟩ = some (.int .i64 x138001_1) := (blk_cell BK137.out 1).trans rfl
            have hfs110 := blk_frozen BK137.out 1
            have hns110_0 := NB135_137.out
            have hns110_1 := NB136_137.out
            have hns110_3 := NB138_137.out
            have hns110_4 := NB139_137.out
            have hms110_0 := NB137_135.out
            have hms110_1 := NB137_136.out
            have hms110_3 := NB137_138.out
            have hms110_4 := NB137_139.out
            have hs111 : w108.cell? ⟨gb137, 2, none⟩ = some (.string x138002_1) := (blk_cell BK137.out 2).trans rfl
            have hfs111 := blk_frozen BK137.out 2
            have hns111_0 := NB135_137.out
            have hns111_1 := NB136_137.out
            have hns111_3 := NB138_137.out
            have hns111_4 := NB139_137.out
            have hms111_0 := NB137_135.out
            have hms111_1 := NB137_136.out
            have hms111_3 := NB137_138.out
            have hms111_4 := NB137_139.out
            have hs112 : w108.cell? ⟨gb137, 3, none⟩ = some (.bool x138003_1) := (blk_cell BK137.out 3).trans rfl
            have hfs112 := blk_frozen BK137.out 3
            have hns112_0 := NB135_137.out
            have hns112_1 := NB136_137.out
            have hns112_3 := NB138_137.out
            have hns112_4 := NB139_137.out
            have hms112_0 := NB137_135.out
            have hms112_1 := NB137_136.out
            have hms112_3 := NB137_138.out
            have hms112_4 := NB137_139.out
            refine skip_ (w1 := ?_) (by rfl) rfl ?_ ?_
            rotate_left
            · go_simp
              rfl
            refine hK.out _ _ ⟨((cell_far (p := ⟨gb137, _, none⟩) NB138_137.out _).trans (((cell_far (p := ⟨gb137, _, none⟩) NB138_137.out _).trans (((cell_far (p := ⟨gb137, _, none⟩) NB138_137.out _).trans (((cell_far (p := ⟨gb137, _, none⟩) NB138_137.out _).trans (hHeld.1)))))))), ((cell_far (p := ⟨gb137, _, none⟩) NB138_137.out _).trans (((cell_far (p := ⟨gb137, _, none⟩) NB138_137.out _).trans (((cell_far (p := ⟨gb137, _, none⟩) NB138_137.out _).trans (((cell_far (p := ⟨gb137, _, none⟩) NB138_137.out _).trans (hHeld.2.1)))))))), ((cell_far (p := ⟨gb137, _, none⟩) NB138_137.out _).trans (((cell_far (p := ⟨gb137, _, none⟩) NB138_137.out _).trans (((cell_far (p := ⟨gb137, _, none⟩) NB138_137.out _).trans (((cell_far (p := ⟨gb137, _, none⟩) NB138_137.out _).trans (hHeld.2.2.1)))))))), ((cell_far (p := ⟨gb137, _, none⟩) NB138_137.out _).trans (((cell_far (p := ⟨gb137, _, none⟩) NB138_137.out _).trans (((cell_far (p := ⟨gb137, _, none⟩) NB138_137.out _).trans (((cell_far (p := ⟨gb137, _, none⟩) NB138_137.out _).trans (hHeld.2.2.2.1)))))))), ((cell_far (p := ⟨gb137, _, none⟩) NB135_137.out _).trans (((cell_far (p := ⟨gb137, _, none⟩) NB135_137.out _).trans (((cell_far (p := ⟨gb137, _, none⟩) NB135_137.out _).trans (((cell_far (p := ⟨gb137, _, none⟩) NB135_137.out _).trans (hHeld.2.2.2.2.1)))))))), ((cell_far (p := ⟨gb137, _, none⟩) NB135_137.out _).trans (((cell_far (p := ⟨gb137, _, none⟩) NB135_137.out _).trans (((cell_far (p := ⟨gb137, _, none⟩) NB135_137.out _).trans (((cell_far (p := ⟨gb137, _, none⟩) NB135_137.out _).trans (hHeld.2.2.2.2.2.1)))))))), ((cell_far (p := ⟨gb137, _, none⟩) NB135_137.out _).trans (((cell_far (p := ⟨gb137, _, none⟩) NB135_137.out _).trans (((cell_far (p := ⟨gb137, _, none⟩) NB135_137.out _).trans (((cell_far (p := ⟨gb137, _, none⟩) NB135_137.out _).trans (hHeld.2.2.2.2.2.2.1)))))))), ((cell_far (p := ⟨gb137, _, none⟩) NB135_137.out _).trans (((cell_far (p := ⟨gb137, _, none⟩) NB135_137.out _).trans (((cell_far (p := ⟨gb137, _, none⟩) NB135_137.out _).trans (((cell_far (p := ⟨gb137, _, none⟩) NB135_137.out _).trans (hHeld.2.2.2.2.2.2.2.1)))))))), ((cell_far (p := ⟨gb137, _, none⟩) NB139_137.out _).trans (((cell_far (p := ⟨gb137, _, none⟩) NB139_137.out _).trans (((cell_far (p := ⟨gb137, _, none⟩) NB139_137.out _).trans (((cell_far (p := ⟨gb137, _, none⟩) NB139_137.out _).trans (hHeld.2.2.2.2.2.2.2.2.1)))))))), ((cell_far (p := ⟨gb137, _, none⟩) NB139_137.out _).trans (((cell_far (p := ⟨gb137, _, none⟩) NB139_137.out _).trans (((cell_far (p := ⟨gb137, _, none⟩) NB139_137.out _).trans (((cell_far (p := ⟨gb137, _, none⟩) NB139_137.out _).trans (hHeld.2.2.2.2.2.2.2.2.2.1)))))))), ((cell_far (p := ⟨gb137, _, none⟩) NB139_137.out _).trans (((cell_far (p := ⟨gb137, _, none⟩) NB139_137.out _).trans (((cell_far (p := ⟨gb137, _, none⟩) NB139_137.out _).trans (((cell_far (p := ⟨gb137, _, none⟩) NB139_137.out _).trans (hHeld.2.2.2.2.2.2.2.2.2.2))))))))⟩ (fun hHeld => ?_)
            clear hK K
            refine pure_ (i := 7) (N := some 5) (v := ?_) (a' := ?_) #[true, true, true, true, true, true, true, true, false, false, false] rfl rfl (any_of HT_.out (by kernel_rfl)) (fun _ _ _ h => h) (Or.inl ⟨by rfl, ?_⟩) ?_ ?_
            rotate_left
            · intro w'
              go_simp
              with_reducible rfl
            rotate_left
            · simp only [Act.put, List.setIfInBounds_toArray, List.set_cons_zero, List.set_cons_succ, i64_w, i32_w]
              rfl
            refine pure_ (i := 8) (N := some 6) (v := ?_) (a' := ?_) #[true, true, true, true, true, true, true, true, true, false, false] rfl rfl (any_of HT_.out (by kernel_rfl)) (fun _ _ _ h => h) (Or.inl ⟨by rfl, ?_⟩) ?_ ?_
            rotate_left
            · intro w'
              go_simp
              with_reducible rfl
            rotate_left
            · simp only [Act.put, List.setIfInBounds_toArray, List.set_cons_zero, List.set_cons_succ, i64_w, i32_w]
              rfl
            refine pure_ (i := 9) (N := some 7) (v := ?_) (a' := ?_) #[true, true, true, true, true, true, true, true, true, true, false] rfl rfl (any_of HT_.out (by kernel_rfl)) (fun _ _ _ h => h) (Or.inl ⟨by rfl, ?_⟩) ?_ ?_
            rotate_left
            · intro w'
              go_simp
              with_reducible rfl
            rotate_left
            · simp only [Act.put, List.setIfInBounds_toArray, List.set_cons_zero, List.set_cons_succ, i64_w, i32_w]
              rfl
            refine pure_ (i := 10) (N := some 8) (v := ?_) (a' := ?_) #[true, true, true, true, true, true, true, true, true, true, true] rfl rfl (any_of HT_.out (by kernel_rfl)) (fun _ _ _ h => h) (Or.inl ⟨by rfl, ?_⟩) ?_ ?_
            rotate_left
            · intro w'
              go_simp
              with_reducible rfl
            rotate_left
            · simp only [Act.put, List.setIfInBounds_toArray, List.set_cons_zero, List.set_cons_succ, i64_w, i32_w]
              rfl
            refine done_ (done_of HT_.out (by kernel_rfl)) ?_
            try go_wp2
            refine bodyPost_ret (results_list (rs := [.cell 4 26, .tmp 5, .tmp 6, .tmp 7, .tmp 8]) rfl (by simp) (.cell gb137 26 #[.int .i64 t141, .int .i64 t142, .string t143, .bool t144] (0, 0) _ rfl (by (with_reducible repeat (first | refine blk_drewN ?_ _ | refine blk_drew ?_ | refine blk_alloc ?_ _)); refine blk_put (cs := #[.int .i64 t141, .int .i64 t142, .string t143, .bool x138003_1]) ?_ 3 _ rfl; (with_reducible repeat (first | refine blk_drewN ?_ _ | refine blk_drew ?_ | refine blk_alloc ?_ _)); refine blk_put (cs := #[.int .i64 t141, .int .i64 t142, .string x138002_1, .bool x138003_1]) ?_ 2 _ rfl; (with_reducible repeat (first | refine blk_drewN ?_ _ | refine blk_drew ?_ | refine blk_alloc ?_ _)); refine blk_put (cs := #[.int .i64 t141, .int .i64 x138001_1, .string x138002_1, .bool x138003_1]) ?_ 1 _ rfl; (with_reducible repeat (first | refine blk_drewN ?_ _ | refine blk_drew ?_ | refine blk_alloc ?_ _)); refine blk_put (cs := #[.int .i64 x138000_1, .int .i64 x138001_1, .string x138002_1, .bool x138003_1]) ?_ 0 _ rfl; (with_reducible repeat (first | refine blk_drewN ?_ _ | refine blk_drew ?_ | refine blk_alloc ?_ _)); exact BK137.out) Tryd.underlying26 rfl (by kernel_rfl) (.tmp (.tmp (.tmp (.tmp .nil)))))) rfl ?_
            exact ⟨by first | rfl | (simp [errW_none, errW_some] <;> rfl) | (simp [*, errW_none, errW_some] <;> rfl), by repeat (first | (with_reducible first | exact HB.out | apply below_alloc | apply pw_below_drewN | apply below_drew1 | refine below_set ?_ GE135.out | refine below_set ?_ GE136.out | refine below_set ?_ GE137.out | refine below_set ?_ GE138.out | refine below_set ?_ GE139.out) | exact HB.out)⟩

end Go.Proofs.YthmokfnejjiplaaDoor.PFnExactExitsInTurn
