-- Made by wip/tools/xkit.py (a program of this session's) with the kit's printer.
import Derived.Test.YtieedlokpbeebaaDoorPFnExactPictureOfx0
import Derived.Test.YtieedlokpbeebaaDoorPFnExactPictureOfx7
import Derived.Test.YtieedlokpbeebaaDoorPFnExactPictureOfx8
import Derived.Test.YtieedlokpbeebaaDoorPFnExactPictureOfx9
import Derived.Test.YtieedlokpbeebaaDoorPFnExactPictureOfx10
namespace Go.Proofs.YtieedlokpbeebaaDoor.PFnExactPictureOf
open Go.RowKit Go.Proofs.YtieedlokpbeebaaDoorW.PrintWords Go.Proofs.YtieedlokpbeebaaDoorW.PrintLast Go.Proofs.YtieedlokpbeebaaDoorW.PrintMore
attribute [local go_sem] max2_int min2_int max_two min_two max_three min_three max_four min_four   -- for this text's walks alone
set_option linter.unusedVariables false
set_option linter.unusedSimpArgs false

/-- A look-up in a map that is told as a function. -/
def impl_look.f (F : Int → Int → Int) (x y : Int) : Option Int := if XMapP.In64 x then (if XMapP.In64 y then some (F x y) else none) else none
theorem impl_look.eq {F : Int → Int → Int} {x y r : Int} (h : impl_look.f F x y = some r) : XMapP.In64 x ∧ XMapP.In64 y ∧ F x y = r := by
  unfold impl_look.f at h
  by_cases h1 : XMapP.In64 x
  · rw [if_pos h1] at h
    by_cases h2 : XMapP.In64 y
    · rw [if_pos h2] at h
      exact ⟨h1, h2, Option.some.inj h⟩
    · rw [if_neg h2] at h; cases h
  · rw [if_neg h1] at h; cases h
/-! ### impl_PictureOf: function 17 -/
mutual
def impl_PictureOf.j0 : Nat → List Int → (Int → Int → Int) → List ByteArray → Bool → Option (ByteArray × Bool)
  | 0, _, _, _, _ => none
  | k + 1, x4, x5, x6, x38 => if x38 = true then (some ((⟨#[]⟩ : ByteArray), false)) else (if 2 < (x4.length : Int) then (impl_PictureOf.l0 k x4 x5 x6 (rd x4 2)) else (none))
def impl_PictureOf.l0 : Nat → List Int → (Int → Int → Int) → List ByteArray → Int → Option (ByteArray × Bool)
  | 0, _, _, _, _ => none
  | k + 1, x4, x5, x6, x7 => if 3 < (x4.length : Int) then (if x7 ≤ (rd x4 3) then (if 0 < (x4.length : Int) then (impl_PictureOf.l1 k x4 x5 x6 x7 (([] : List Int)) (rd x4 0)) else (none)) else ((strings_Join.f x6 (⟨#[47]⟩ : ByteArray)).bind fun t258 => (some (t258, true)))) else (none)
def impl_PictureOf.l1 : Nat → List Int → (Int → Int → Int) → List ByteArray → Int → List Int → Int → Option (ByteArray × Bool)
  | 0, _, _, _, _, _, _ => none
  | k + 1, x4, x5, x6, x7, x8, x9 => if 1 < (x4.length : Int) then (if x9 ≤ (rd x4 1) then ((impl_look.f x5 x9 x7).bind fun t264 => (if x8.length < 140737488355328 then (impl_PictureOf.l1 k x4 x5 x6 x7 (x8 ++ [(wrap64 (48 + t264)) % 256]) (wrap64 (x9 + 1))) else (none))) else (if x6.length < 8796093022208 then (impl_PictureOf.l0 k x4 x5 (x6 ++ [strOfNums x8]) (wrap64 (x7 + 1))) else (none))) else (none)
end
def impl_PictureOf.f (k : Nat) (a0_0 : ByteArray) (l0_1 : List (S78)) (a0_2 : Int) (a0_3 : Int) (a0_4 : Int) : Option (ByteArray × Bool) := (impl_IsPlain.f k a0_0 l0_1 a0_2 a0_3 a0_4).bind fun t244 => (if t244 = true then ((impl_Plain_box.f k a0_0 l0_1 a0_2 a0_3 a0_4).bind fun t245 => ((impl_Plain_going.f a0_0 l0_1 a0_2 a0_3 a0_4).bind fun t248 => ((some (([] : List ByteArray) : List ByteArray)).bind fun y249 => (if 1 < (t245.length : Int) then (if 0 < (t245.length : Int) then (if (wrap64 ((rd t245 1) - (rd t245 0))) ≥ 40 then (impl_PictureOf.j0 k t245 t248 y249 true) else (if 3 < (t245.length : Int) then (if 2 < (t245.length : Int) then (impl_PictureOf.j0 k t245 t248 y249 (decide ((wrap64 ((rd t245 3) - (rd t245 2))) ≥ 40))) else (none)) else (none))) else (none)) else (none))))) else (some ((⟨#[]⟩ : ByteArray), false)))
theorem impl_PictureOf.mono_l : ∀ k, (∀ y0 y1 y2 y3, LeO (impl_PictureOf.j0 k y0 y1 y2 y3) (impl_PictureOf.j0 (k + 1) y0 y1 y2 y3)) ∧ (∀ y0 y1 y2 y3, LeO (impl_PictureOf.l0 k y0 y1 y2 y3) (impl_PictureOf.l0 (k + 1) y0 y1 y2 y3)) ∧ (∀ y0 y1 y2 y3 y4 y5, LeO (impl_PictureOf.l1 k y0 y1 y2 y3 y4 y5) (impl_PictureOf.l1 (k + 1) y0 y1 y2 y3 y4 y5))
  | 0 => ⟨fun _ _ _ _ r h => by simp [impl_PictureOf.j0] at h, fun _ _ _ _ r h => by simp [impl_PictureOf.l0] at h, fun _ _ _ _ _ _ r h => by simp [impl_PictureOf.l1] at h⟩
  | k + 1 => by
    obtain ⟨ih0, ih1, ih2⟩ := impl_PictureOf.mono_l k
    refine ⟨?_, ?_, ?_⟩
    · intro y0 y1 y2 y3
      unfold impl_PictureOf.j0
      repeat' first
      | (with_reducible exact ih0 _ _ _ _)
      | (with_reducible exact ih1 _ _ _ _)
      | (with_reducible exact ih2 _ _ _ _ _ _)
      | (with_reducible exact impl_IsPlain.mono _ _ _ _ _ _)
      | (with_reducible exact impl_Plain_box.mono _ _ _ _ _ _)
      | (with_reducible exact LeO.refl _)
      | (with_reducible exact LeO.none _)
      | (with_reducible refine LeO.ite ?_ ?_)
      | (with_reducible refine LeO.bind ?_ (fun _ => ?_))
      | exact ih0 _ _ _ _
      | exact ih1 _ _ _ _
      | exact ih2 _ _ _ _ _ _
      | exact impl_IsPlain.mono _ _ _ _ _ _
      | exact impl_Plain_box.mono _ _ _ _ _ _
      | exact LeO.none _
      | refine LeO.ite ?_ ?_
      | refine LeO.bind ?_ (fun _ => ?_)
    · intro y0 y1 y2 y3
      unfold impl_PictureOf.l0
      repeat' first
      | (with_reducible exact ih0 _ _ _ _)
      | (with_reducible exact ih1 _ _ _ _)
      | (with_reducible exact ih2 _ _ _ _ _ _)
      | (with_reducible exact impl_IsPlain.mono _ _ _ _ _ _)
      | (with_reducible exact impl_Plain_box.mono _ _ _ _ _ _)
      | (with_reducible exact LeO.refl _)
      | (with_reducible exact LeO.none _)
      | (with_reducible refine LeO.ite ?_ ?_)
      | (with_reducible refine LeO.bind ?_ (fun _ => ?_))
      | exact ih0 _ _ _ _
      | exact ih1 _ _ _ _
      | exact ih2 _ _ _ _ _ _
      | exact impl_IsPlain.mono _ _ _ _ _ _
      | exact impl_Plain_box.mono _ _ _ _ _ _
      | exact LeO.none _
      | refine LeO.ite ?_ ?_
      | refine LeO.bind ?_ (fun _ => ?_)
    · intro y0 y1 y2 y3 y4 y5
      unfold impl_PictureOf.l1
      repeat' first
      | (with_reducible exact ih0 _ _ _ _)
      | (with_reducible exact ih1 _ _ _ _)
      | (with_reducible exact ih2 _ _ _ _ _ _)
      | (with_reducible exact impl_IsPlain.mono _ _ _ _ _ _)
      | (with_reducible exact impl_Plain_box.mono _ _ _ _ _ _)
      | (with_reducible exact LeO.refl _)
      | (with_reducible exact LeO.none _)
      | (with_reducible refine LeO.ite ?_ ?_)
      | (with_reducible refine LeO.bind ?_ (fun _ => ?_))
      | exact ih0 _ _ _ _
      | exact ih1 _ _ _ _
      | exact ih2 _ _ _ _ _ _
      | exact impl_IsPlain.mono _ _ _ _ _ _
      | exact impl_Plain_box.mono _ _ _ _ _ _
      | exact LeO.none _
      | refine LeO.ite ?_ ?_
      | refine LeO.bind ?_ (fun _ => ?_)
theorem impl_PictureOf.mono : ∀ a0 a1 a2 a3 a4 k, LeO (impl_PictureOf.f k a0 a1 a2 a3 a4) (impl_PictureOf.f (k + 1) a0 a1 a2 a3 a4) := by
  intro a0 a1 a2 a3 a4 k
  obtain ⟨ih0, ih1, ih2⟩ := impl_PictureOf.mono_l k
  unfold impl_PictureOf.f
  repeat' first
      | (with_reducible exact ih0 _ _ _ _)
      | (with_reducible exact ih1 _ _ _ _)
      | (with_reducible exact ih2 _ _ _ _ _ _)
      | (with_reducible exact impl_IsPlain.mono _ _ _ _ _ _)
      | (with_reducible exact impl_Plain_box.mono _ _ _ _ _ _)
      | (with_reducible exact LeO.refl _)
      | (with_reducible exact LeO.none _)
      | (with_reducible refine LeO.ite ?_ ?_)
      | (with_reducible refine LeO.bind ?_ (fun _ => ?_))
      | exact ih0 _ _ _ _
      | exact ih1 _ _ _ _
      | exact ih2 _ _ _ _ _ _
      | exact impl_IsPlain.mono _ _ _ _ _ _
      | exact impl_Plain_box.mono _ _ _ _ _ _
      | exact LeO.none _
      | refine LeO.ite ?_ ?_
      | refine LeO.bind ?_ (fun _ => ?_)
def impl_PictureOf.T3 : Bool × List (List Nat × List Nat) := (true, [([], []), ([0], [0]), ([], []), ([2, 1], [2]), ([3], [3]), ([4], [4]), ([5], [5]), ([], []), ([1, 3, 0, 1], [1]), ([6, 8, 0, 1, 2, 3, 4, 5, 6, 8], [6]), ([7, 9, 0, 1, 2, 3, 4, 5, 6, 7, 8, 9], [7])])
def impl_PictureOf.B3 : List Nat := [0, 1, 0, 7, 15, 31, 63, 0, 15, 383, 1023]
theorem impl_PictureOf.tab3 : rtab .any (opsOf Tryd.f17 3) = impl_PictureOf.T3 := by kernel_rfl
theorem impl_PictureOf.bits3 : waitsOk impl_PictureOf.T3.2 impl_PictureOf.B3 = true := by kernel_rfl
def impl_PictureOf.T4 : Bool × List (List Nat × List Nat) := (true, [([], []), ([0], [0]), ([1], [1]), ([], []), ([3], [3]), ([4], [4]), ([2, 5], [2, 5]), ([6], [6]), ([7], [7]), ([8], [8]), ([9, 8], [8, 9]), ([10, 8], [8, 10]), ([8], [8]), ([12, 8], [8, 12]), ([13, 8], [8, 13]), ([11, 14, 8], [8, 11, 14]), ([15, 8], [8, 15]), ([8, 16], [8, 16])])
def impl_PictureOf.B4 : List Nat := [0, 1, 3, 0, 8, 24, 63, 127, 255, 511, 1023, 2047, 511, 4607, 12799, 32767, 65535, 131071]
theorem impl_PictureOf.tab4 : rtab .any (opsOf Tryd.f17 4) = impl_PictureOf.T4 := by kernel_rfl
theorem impl_PictureOf.bits4 : waitsOk impl_PictureOf.T4.2 impl_PictureOf.B4 = true := by kernel_rfl
set_option maxHeartbeats 8000000 in
set_option maxRecDepth 100000 in
theorem impl_PictureOf.calls (k : Nat) (a0_0 : ByteArray) (A0_1 : Option Addr) (c0_1 : Nat) (l0_1 : List (S78)) (a0_2 : Int) (a0_3 : Int) (a0_4 : Int) (r1 : ByteArray) (r2 : Bool) (w : World) (hr0_1 : Kd.C k78 w A0_1 l0_1.length l0_1) (hc0_1 : l0_1.length ≤ c0_1) (h : impl_PictureOf.f k a0_0 l0_1 a0_2 a0_3 a0_4 = some (r1, r2)) :
    Calls Tryd.prog 17 #[.agg #[.string a0_0, .slice A0_1 l0_1.length c0_1, .int .i64 a0_2, .int .i64 a0_3, .int .i64 a0_4]] w fun e w' => e = .returned (.tuple #[.string r1, .bool r2]) ∧ Below w.heap.size w w' := by
  have hu28 := Tryd.underlying28
  have HR0_1 := Aside0.mk hr0_1
  have HC0_1 := Aside0.mk hc0_1
  clear hr0_1 hc0_1
  have HB := Aside0.mk (Below.refl w.heap.size w)
  have H : ((impl_IsPlain.f k a0_0 l0_1 a0_2 a0_3 a0_4).bind fun t244 => (if t244 = true then ((impl_Plain_box.f k a0_0 l0_1 a0_2 a0_3 a0_4).bind fun t245 => ((impl_Plain_going.f a0_0 l0_1 a0_2 a0_3 a0_4).bind fun t248 => ((some (([] : List ByteArray) : List ByteArray)).bind fun y249 => (if 1 < (t245.length : Int) then (if 0 < (t245.length : Int) then (if (wrap64 ((rd t245 1) - (rd t245 0))) ≥ 40 then (impl_PictureOf.j0 k t245 t248 y249 true) else (if 3 < (t245.length : Int) then (if 2 < (t245.length : Int) then (impl_PictureOf.j0 k t245 t248 y249 (decide ((wrap64 ((rd t245 3) - (rd t245 2))) ≥ 40))) else (none)) else (none))) else (none)) else (none))))) else (some ((⟨#[]⟩ : ByteArray), false)))) = some (r1, r2) := h
  clear h
  replace H := Option.bind_eq_some_iff.mp H
  obtain ⟨t244, A20, H⟩ := H
  replace H : (if t244 = true then ((impl_Plain_box.f k a0_0 l0_1 a0_2 a0_3 a0_4).bind fun t245 => ((impl_Plain_going.f a0_0 l0_1 a0_2 a0_3 a0_4).bind fun t248 => ((some (([] : List ByteArray) : List ByteArray)).bind fun y249 => (if 1 < (t245.length : Int) then (if 0 < (t245.length : Int) then (if (wrap64 ((rd t245 1) - (rd t245 0))) ≥ 40 then (impl_PictureOf.j0 k t245 t248 y249 true) else (if 3 < (t245.length : Int) then (if 2 < (t245.length : Int) then (impl_PictureOf.j0 k t245 t248 y249 (decide ((wrap64 ((rd t245 3) - (rd t245 2))) ≥ 40))) else (none)) else (none))) else (none)) else (none))))) else (some ((⟨#[]⟩ : ByteArray), false))) = some (r1, r2) := H
  have A2 := Aside0.mk A20
  clear A20
  by_cases c3 : t244 = true
  · subst c3
    have H1 : ((impl_Plain_box.f k a0_0 l0_1 a0_2 a0_3 a0_4).bind fun t245 => ((impl_Plain_going.f a0_0 l0_1 a0_2 a0_3 a0_4).bind fun t248 => ((some (([] : List ByteArray) : List ByteArray)).bind fun y249 => (if 1 < (t245.length : Int) then (if 0 < (t245.length : Int) then (if (wrap64 ((rd t245 1) - (rd t245 0))) ≥ 40 then (impl_PictureOf.j0 k t245 t248 y249 true) else (if 3 < (t245.length : Int) then (if 2 < (t245.length : Int) then (impl_PictureOf.j0 k t245 t248 y249 (decide ((wrap64 ((rd t245 3) - (rd t245 2))) ≥ 40))) else (none)) else (none))) else (none)) else (none))))) = some (r1, r2) := by rw [if_pos rfl] at H; exact H
    clear H
    have H := H1
    clear H1
    replace H := Option.bind_eq_some_iff.mp H
    obtain ⟨t245, A40, H⟩ := H
    replace H : ((impl_Plain_going.f a0_0 l0_1 a0_2 a0_3 a0_4).bind fun t248 => ((some (([] : List ByteArray) : List ByteArray)).bind fun y249 => (if 1 < (t245.length : Int) then (if 0 < (t245.length : Int) then (if (wrap64 ((rd t245 1) - (rd t245 0))) ≥ 40 then (impl_PictureOf.j0 k t245 t248 y249 true) else (if 3 < (t245.length : Int) then (if 2 < (t245.length : Int) then (impl_PictureOf.j0 k t245 t248 y249 (decide ((wrap64 ((rd t245 3) - (rd t245 2))) ≥ 40))) else (none)) else (none))) else (none)) else (none)))) = some (r1, r2) := H
    have A4 := Aside0.mk A40
    clear A40
    replace H := Option.bind_eq_some_iff.mp H
    obtain ⟨t248, A50, H⟩ := H
    replace H : ((some (([] : List ByteArray) : List ByteArray)).bind fun y249 => (if 1 < (t245.length : Int) then (if 0 < (t245.length : Int) then (if (wrap64 ((rd t245 1) - (rd t245 0))) ≥ 40 then (impl_PictureOf.j0 k t245 t248 y249 true) else (if 3 < (t245.length : Int) then (if 2 < (t245.length : Int) then (impl_PictureOf.j0 k t245 t248 y249 (decide ((wrap64 ((rd t245 3) - (rd t245 2))) ≥ 40))) else (none)) else (none))) else (none)) else (none))) = some (r1, r2) := H
    have A5 := Aside0.mk A50
    clear A50
    obtain ⟨y249, hy249⟩ : ∃ y_ : List ByteArray, y_ = (([] : List ByteArray)) := ⟨_, rfl⟩
    replace H : (if 1 < (t245.length : Int) then (if 0 < (t245.length : Int) then (if (wrap64 ((rd t245 1) - (rd t245 0))) ≥ 40 then (impl_PictureOf.j0 k t245 t248 y249 true) else (if 3 < (t245.length : Int) then (if 2 < (t245.length : Int) then (impl_PictureOf.j0 k t245 t248 y249 (decide ((wrap64 ((rd t245 3) - (rd t245 2))) ≥ 40))) else (none)) else (none))) else (none)) else (none)) = some (r1, r2) := by first | (rw [hy249]; with_reducible exact H) | (have H2_ := (Option.bind_some _ _).symm.trans H; rw [hy249]; with_reducible exact H2_) | (have H2_ := (Option.bind_some _ _).symm.trans H; with_reducible exact H2_) | with_reducible exact H | (rw [hy249]; exact H) | exact H
    have Ny249 := Aside0.mk hy249
    clear hy249
    have HC6 := Aside0.mk H
    clear H
    go_enter Tryd.func17, Tryd.ntmps17
    try go_wp2_with (first | ((with_reducible refine gate_dst (N := 1) rfl ?_); refine box_event ?hg (N := 1) ?hd (cs := #[.string a0_0, .slice A0_1 l0_1.length c0_1, .int .i64 a0_2, .int .i64 a0_3, .int .i64 a0_4]) (t := 28) ?hr ?_; (case hd => rfl); (case hg => rfl); (case hr => first | (go_simp; done) | (go_simp; rfl)); intro gb243 hg w7 hbox hb; have n0_ := Aside0.mk (below_step (XSq.bB HB) hb); have n1_ := Aside0.mk (hbox); have n2_ := Aside0.mk ((by rw [hg]; exact (below_size (XSq.bB HB)) : w.heap.size ≤ gb243)); have n3_ := Aside0.mk ((by rw [hg]; exact (below_size (XSq.bB HB)) : w.heap.size ≤ gb243)); clear HB; have HB := n0_; have BK243 := n1_; have GW243 := n2_; have GE243 := n3_; clear n0_ n1_ n2_ n3_; clear hb hbox hg; have hcz8_0 : w7.cell? ⟨gb243, 0, none⟩ = some (.string a0_0) := (blk_cell BK243.out 0).trans rfl; have hcz8_1 : w7.cell? ⟨gb243, 1, none⟩ = some (.slice A0_1 l0_1.length c0_1) := (blk_cell BK243.out 1).trans rfl; have hcz8_2 : w7.cell? ⟨gb243, 2, none⟩ = some (.int .i64 a0_2) := (blk_cell BK243.out 2).trans rfl; have hcz8_3 : w7.cell? ⟨gb243, 3, none⟩ = some (.int .i64 a0_3) := (blk_cell BK243.out 3).trans rfl; have hcz8_4 : w7.cell? ⟨gb243, 4, none⟩ = some (.int .i64 a0_4) := (blk_cell BK243.out 4).trans rfl; have hfz8_0 := blk_frozen BK243.out 0; have hfz8_1 := blk_frozen BK243.out 1; have hfz8_2 := blk_frozen BK243.out 2; have hfz8_3 := blk_frozen BK243.out 3; have hfz8_4 := blk_frozen BK243.out 4) | ((with_reducible refine gate_callee (f := 34) rfl ?_); refine goesL_ (some 11) rfl rfl Tryd.func34 (by kernel_rfl) rfl #[.agg #[.string a0_0, .slice A0_1 l0_1.length c0_1, .int .i64 a0_2, .int .i64 a0_3, .int .i64 a0_4]] rfl (by (try simp only [List.map_toArray, List.map_cons, List.map_nil]); first | done | rfl | (simp only [List.length_drop, List.length_take]; rfl)) ?_; (with_reducible refine (impl_IsPlain.calls k a0_0 _ _ l0_1 a0_2 a0_3 a0_4 true _ ?side1 ?side2 A2.out).mono ?_); (case side1 => repeat (first | exact (Kd.C_below HR0_1.out HB.out) | (with_reducible refine Kd.C_alloc ?_ _) | (with_reducible refine Kd.C_drewN ?_ _) | (with_reducible refine Kd.C_drew ?_))); (case side2 => exact HC0_1.out); rintro e w9 ⟨rfl, hb⟩; refine ⟨_, rfl, ?_⟩; have n0_ := Aside0.mk (blk_below (g := gb243) (o := .cells #[.string a0_0, .slice A0_1 l0_1.length c0_1, .int .i64 a0_2, .int .i64 a0_3, .int .i64 a0_4] 28 (0, 0)) (XSq.bq BK243) hb); have n1_ := Aside0.mk (below_step (XSq.bB HB) hb); clear BK243; clear HB; have BK243 := n0_; have HB := n1_; clear n0_ n1_; (try clear hb); (try clear hb2); (try clear hk); (try clear hi)))
    have n0_ := Aside0.mk (blk_drew BK243.out)
    have n1_ := Aside0.mk (below_drew1 HB.out)
    clear BK243
    clear HB
    have BK243 := n0_
    have HB := n1_
    clear n0_ n1_
    refine start_ (n := 11) (S := fun w' => True) (ds := []) #[false, false, false, false, false, false, false, false, false, false, false] (by kernel_rfl) rfl rfl trivial (fun hHeld => ?_); refine with_tabW impl_PictureOf.tab3 impl_PictureOf.bits3 (fun HT_ HW_ => ?_)
    generalize w9.drew = w10 at BK243 HB hHeld ⊢
    refine inv_at [0, 1, 2, 3, 4, 5, 6, 7, 8, 9, 10] (fun a0_ b a w' => ∃ (v246 : Value) (v250 : Value) (m8_ : Value) (m10_ : Value) (v3_ : Value) (v4_ : Value) (v5_ : Value) (v6_ : Value) (v9_ : Value), a = putSel a0_ b [(0, 13, .agg #[.string a0_0, .slice A0_1 l0_1.length c0_1, .int .i64 a0_2, .int .i64 a0_3, .int .i64 a0_4]), (1, 14, v246), (2, 15, .agg #[.string a0_0, .slice A0_1 l0_1.length c0_1, .int .i64 a0_2, .int .i64 a0_3, .int .i64 a0_4]), (3, 16, v3_), (4, 17, v4_), (5, 18, v5_), (6, 19, v6_), (7, 20, v250), (8, 4, m8_), (9, 5, v9_), (10, 6, m10_)] ∧ (w'.heap[gb243]? = some (.cells #[.string a0_0, .slice A0_1 l0_1.length c0_1, .int .i64 a0_2, .int .i64 a0_3, .int .i64 a0_4] 28 (0, 0))) ∧ (Below w.heap.size w w') ∧ (b 1 = true → Kd.R (Kd.int .i64) 3 w' w.heap.size (fun _ => True) v246 t245) ∧ (b 7 = true → Kd.R Kd.string 9 w' w.heap.size (fun _ => True) v250 y249) ∧ (b 8 = true → (m8_ : Value) = v246) ∧ (b 10 = true → (m10_ : Value) = v250) ∧ (b 3 = true → ∃ gG gM : Nat, w'.cell? ⟨gG, 1, none⟩ = some (.map (some gM)) ∧ XMapP.IsMapP Tryd.prog 62 3 w' gM l0_1.length t248 ∧ (v3_ = Value.pointer (some ⟨gG, 0, none⟩) ∧ (b 4 = true → v4_ = Value.pointer (some ⟨gG, 0, none⟩)) ∧ (b 5 = true → v5_ = Value.pointer (some ⟨gG, 1, none⟩)) ∧ (b 6 = true → v6_ = Value.map (some gM)) ∧ (b 9 = true → v9_ = Value.map (some gM))))) HT_.out HW_.out (by kernel_rfl) (by kernel_rfl) ?_ ?_ ?_
    · exact ⟨.bool false, .bool false, .bool false, .bool false, .bool false, .bool false, .bool false, .bool false, .bool false, by simp only [putSel, Bool.false_eq_true, if_false], BK243.out, HB.out, fun h_ => absurd h_ (by decide), fun h_ => absurd h_ (by decide), fun h_ => absurd h_ (by decide), fun h_ => absurd h_ (by decide), fun h_ => absurd h_ (by decide)⟩
    · skip
      clear BK243 HB
      refine steps_cons ?_ ?_
      · rintro b a w' ⟨v246, v250, m8_, m10_, v3_, v4_, v5_, v6_, v9_, ha, Q_BK243, Q_HB, Q_HO247, Q_HO251, Q_X8_, Q_X10_, Q_G⟩ hb_ hon hoff
        refine ⟨_, rfl, fun K hK => ?_⟩
        have e1 : a.tmps[1]? = some (.pointer (some ⟨gb243, 0, none⟩)) := by rw [ha]; exact (putSel_off rfl).trans rfl
        replace ha := Aside0.mk ha
        have BK243 := Aside0.mk Q_BK243
        have HB := Aside0.mk Q_HB
        have hc0_ : w'.cell? ⟨gb243, 0, none⟩ = some (.string a0_0) := (blk_cell BK243.out 0).trans rfl
        have hc1_ : w'.cell? ⟨gb243, 1, none⟩ = some (.slice A0_1 l0_1.length c0_1) := (blk_cell BK243.out 1).trans rfl
        have hc2_ : w'.cell? ⟨gb243, 2, none⟩ = some (.int .i64 a0_2) := (blk_cell BK243.out 2).trans rfl
        have hc3_ : w'.cell? ⟨gb243, 3, none⟩ = some (.int .i64 a0_3) := (blk_cell BK243.out 3).trans rfl
        have hc4_ : w'.cell? ⟨gb243, 4, none⟩ = some (.int .i64 a0_4) := (blk_cell BK243.out 4).trans rfl
        refine value_ (w1 := w') (v := .agg #[.string a0_0, .slice A0_1 l0_1.length c0_1, .int .i64 a0_2, .int .i64 a0_3, .int .i64 a0_4]) (by rfl) rfl ?_ ?_
        · go_simp
          (try simp only [i64_w])
          try rfl
        refine hK.out _ _ ⟨v246, v250, m8_, m10_, v3_, v4_, v5_, v6_, v9_, (by rw [ha.out]; exact putSel_upk 0 hb_ rfl rfl rfl), Q_BK243, Q_HB, fun h0_ => absurd ((hoff 1 (by kernel_rfl)).symm.trans h0_) (by decide), Q_HO251, fun h0_ => absurd ((hoff 8 (by kernel_rfl)).symm.trans h0_) (by decide), fun h0_ => absurd ((hoff 10 (by kernel_rfl)).symm.trans h0_) (by decide), Q_G⟩
      refine steps_cons ?_ ?_
      · rintro b a w' ⟨v246, v250, m8_, m10_, v3_, v4_, v5_, v6_, v9_, ha, Q_BK243, Q_HB, Q_HO247, Q_HO251, Q_X8_, Q_X10_, Q_G⟩ hb_ hon hoff
        refine ⟨_, rfl, fun K hK => ?_⟩
        have e13 : a.tmps[13]? = some (.agg #[.string a0_0, .slice A0_1 l0_1.length c0_1, .int .i64 a0_2, .int .i64 a0_3, .int .i64 a0_4]) := by rw [ha]; exact putSel_on (e := (0, 13, .agg #[.string a0_0, .slice A0_1 l0_1.length c0_1, .int .i64 a0_2, .int .i64 a0_3, .int .i64 a0_4])) 0 rfl rfl (hon 0 (by kernel_rfl)) rfl
        replace ha := Aside0.mk ha
        have BK243 := Aside0.mk Q_BK243
        have HB := Aside0.mk Q_HB
        refine goes_ Tryd.func39 (by kernel_rfl) rfl #[.agg #[.string a0_0, .slice A0_1 l0_1.length c0_1, .int .i64 a0_2, .int .i64 a0_3, .int .i64 a0_4]] (by rfl) rfl rfl (by first | (simp only [List.map_toArray, List.map_cons, List.map_nil, Act.eval, Array.getD_eq_getD_getElem?, Option.getD_some, e13]; done) | (simp only [List.map_toArray, List.map_cons, List.map_nil, Act.eval, Array.getD_eq_getD_getElem?, Option.getD_some, e13]; rfl)) ?_
        with_reducible refine (impl_Plain_box.calls k a0_0 _ _ l0_1 a0_2 a0_3 a0_4 t245 _ ?side1 ?side2 A4.out).mono ?_
        (case side1 => repeat (first | exact (Kd.C_below HR0_1.out HB.out) | (with_reducible refine Kd.C_alloc ?_ _) | (with_reducible refine Kd.C_drewN ?_ _) | (with_reducible refine Kd.C_drew ?_)))
        (case side2 => exact HC0_1.out)
        rintro e w11 ⟨v246, rfl, ho0, hb⟩
        refine ⟨_, rfl, ?_⟩
        have n0_ := Aside0.mk (Kd.R_lower ho0 (below_size (XSq.bB HB)))
        have n1_ := Aside0.mk (blk_below (g := gb243) (o := .cells #[.string a0_0, .slice A0_1 l0_1.length c0_1, .int .i64 a0_2, .int .i64 a0_3, .int .i64 a0_4] 28 (0, 0)) (XSq.bq BK243) hb)
        have n2_ := Aside0.mk (below_step (XSq.bB HB) hb)
        have z_HO251 := fun (h0_ : b 7 = true) => (show Kd.R Kd.string 9 w11 w.heap.size (fun _ => True) v250 y249 from by first | exact (Kd.R_below (by (with_reducible repeat (first | apply Kd.R_alloc | apply Kd.R_drewN | apply Kd.R_drew)); exact (Q_HO251 h0_)) hb) | exact Kd.R_mono (Kd.R_below (by (with_reducible repeat (first | apply Kd.R_alloc | apply Kd.R_drewN | apply Kd.R_drew)); exact (Q_HO251 h0_)) hb) (fun _ h_ => by first | trivial | exact h_ | exact h_.1))
        have z_G := fun (h0_ : b 3 = true) => XMapP.gi_below (Q_G h0_) hb
        clear BK243
        clear HB
        have HO247 := n0_
        have BK243 := n1_
        have HB := n2_
        clear n0_ n1_ n2_
        (try clear hb)
        (try clear hb2)
        (try clear hk)
        (try clear hi)
        (try clear ho0)
        refine hK.out _ _ ⟨v246, v250, m8_, m10_, v3_, v4_, v5_, v6_, v9_, (by rw [ha.out]; exact putSel_upk 1 hb_ rfl rfl rfl), (XSq.bq BK243), (XSq.bB HB), fun _ => (by (with_reducible repeat (first | apply Kd.R_alloc | apply Kd.R_drewN | apply Kd.R_drew)); exact HO247.out), z_HO251, fun h0_ => absurd ((hoff 8 (by kernel_rfl)).symm.trans h0_) (by decide), fun h0_ => absurd ((hoff 10 (by kernel_rfl)).symm.trans h0_) (by decide), z_G⟩
      refine steps_cons ?_ ?_
      · rintro b a w' ⟨v246, v250, m8_, m10_, v3_, v4_, v5_, v6_, v9_, ha, Q_BK243, Q_HB, Q_HO247, Q_HO251, Q_X8_, Q_X10_, Q_G⟩ hb_ hon hoff
        refine ⟨_, rfl, fun K hK => ?_⟩
        have e1 : a.tmps[1]? = some (.pointer (some ⟨gb243, 0, none⟩)) := by rw [ha]; exact (putSel_off rfl).trans rfl
        replace ha := Aside0.mk ha
        have BK243 := Aside0.mk Q_BK243
        have HB := Aside0.mk Q_HB
        have hc0_ : w'.cell? ⟨gb243, 0, none⟩ = some (.string a0_0) := (blk_cell BK243.out 0).trans rfl
        have hc1_ : w'.cell? ⟨gb243, 1, none⟩ = some (.slice A0_1 l0_1.length c0_1) := (blk_cell BK243.out 1).trans rfl
        have hc2_ : w'.cell? ⟨gb243, 2, none⟩ = some (.int .i64 a0_2) := (blk_cell BK243.out 2).trans rfl
        have hc3_ : w'.cell? ⟨gb243, 3, none⟩ = some (.int .i64 a0_3) := (blk_cell BK243.out 3).trans rfl
        have hc4_ : w'.cell? ⟨gb243, 4, none⟩ = some (.int .i64 a0_4) := (blk_cell BK243.out 4).trans rfl
        refine value_ (w1 := w') (v := .agg #[.string a0_0, .slice A0_1 l0_1.length c0_1, .int .i64 a0_2, .int .i64 a0_3, .int .i64 a0_4]) (by rfl) rfl ?_ ?_
        · go_simp
          (try simp only [i64_w])
          try rfl
        refine hK.out _ _ ⟨v246, v250, m8_, m10_, v3_, v4_, v5_, v6_, v9_, (by rw [ha.out]; exact putSel_upk 2 hb_ rfl rfl rfl), Q_BK243, Q_HB, Q_HO247, Q_HO251, fun h0_ => absurd ((hoff 8 (by kernel_rfl)).symm.trans h0_) (by decide), fun h0_ => absurd ((hoff 10 (by kernel_rfl)).symm.trans h0_) (by decide), Q_G⟩
      refine steps_cons ?_ ?_
      · rintro b a w' ⟨v246, v250, m8_, m10_, v3_, v4_, v5_, v6_, v9_, ha, Q_BK243, Q_HB, Q_HO247, Q_HO251, Q_X8_, Q_X10_, Q_G⟩ hb_ hon hoff
        refine ⟨_, rfl, fun K hK => ?_⟩
        have e15 : a.tmps[15]? = some (.agg #[.string a0_0, .slice A0_1 l0_1.length c0_1, .int .i64 a0_2, .int .i64 a0_3, .int .i64 a0_4]) := by rw [ha]; exact putSel_on (e := (2, 15, .agg #[.string a0_0, .slice A0_1 l0_1.length c0_1, .int .i64 a0_2, .int .i64 a0_3, .int .i64 a0_4])) 2 rfl rfl (hon 2 (by kernel_rfl)) rfl
        replace ha := Aside0.mk ha
        have BK243 := Aside0.mk Q_BK243
        have HB := Aside0.mk Q_HB
        have HO247 := Aside0.mk (Q_HO247 (hon 1 (by kernel_rfl)))
        refine goes_ Tryd.func26 (by kernel_rfl) rfl #[.agg #[.string a0_0, .slice A0_1 l0_1.length c0_1, .int .i64 a0_2, .int .i64 a0_3, .int .i64 a0_4]] (by rfl) rfl rfl (by first | (simp only [List.map_toArray, List.map_cons, List.map_nil, Act.eval, Array.getD_eq_getD_getElem?, Option.getD_some, e15]; done) | (simp only [List.map_toArray, List.map_cons, List.map_nil, Act.eval, Array.getD_eq_getD_getElem?, Option.getD_some, e15]; rfl)) ?_
        with_reducible refine (impl_Plain_going.calls a0_0 _ _ l0_1 a0_2 a0_3 a0_4 t248 _ ?side1 ?side2 A5.out).mono ?_
        (case side1 => repeat (first | exact (Kd.C_below HR0_1.out HB.out) | (with_reducible refine Kd.C_alloc ?_ _) | (with_reducible refine Kd.C_drewN ?_ _) | (with_reducible refine Kd.C_drew ?_)))
        (case side2 => exact HC0_1.out)
        rintro e w13 ⟨gG, gM, rfl, hG_, hM_, hb, hgG_, hgM_, hgN_⟩
        refine ⟨_, rfl, ?_⟩
        have n0_ := Aside0.mk (Kd.R_below (by (with_reducible repeat (first | apply Kd.R_alloc | apply Kd.R_drewN | apply Kd.R_drew)); exact HO247.out) hb)
        have n1_ := Aside0.mk (blk_below (g := gb243) (o := .cells #[.string a0_0, .slice A0_1 l0_1.length c0_1, .int .i64 a0_2, .int .i64 a0_3, .int .i64 a0_4] 28 (0, 0)) (XSq.bq BK243) hb)
        have n2_ := Aside0.mk (below_step (XSq.bB HB) hb)
        have z_HO251 := fun (h0_ : b 7 = true) => (show Kd.R Kd.string 9 w13 w.heap.size (fun _ => True) v250 y249 from by first | exact (Kd.R_below (by (with_reducible repeat (first | apply Kd.R_alloc | apply Kd.R_drewN | apply Kd.R_drew)); exact (Q_HO251 h0_)) hb) | exact Kd.R_mono (Kd.R_below (by (with_reducible repeat (first | apply Kd.R_alloc | apply Kd.R_drewN | apply Kd.R_drew)); exact (Q_HO251 h0_)) hb) (fun _ h_ => by first | trivial | exact h_ | exact h_.1))
        clear HO247
        clear BK243
        clear HB
        have HO247 := n0_
        have BK243 := n1_
        have HB := n2_
        clear n0_ n1_ n2_
        (try clear hb)
        (try clear hb2)
        (try clear hk)
        (try clear hi)
        refine hK.out _ _ ⟨v246, v250, m8_, m10_, (.pointer (some ⟨gG, 0, none⟩)), v4_, v5_, v6_, v9_, (by rw [ha.out]; exact putSel_upk 3 hb_ rfl rfl rfl), (XSq.bq BK243), (XSq.bB HB), fun _ => (by (with_reducible repeat (first | apply Kd.R_alloc | apply Kd.R_drewN | apply Kd.R_drew)); exact HO247.out), z_HO251, fun h0_ => absurd ((hoff 8 (by kernel_rfl)).symm.trans h0_) (by decide), fun h0_ => absurd ((hoff 10 (by kernel_rfl)).symm.trans h0_) (by decide), fun _ => ⟨gG, gM, (blk_cell hG_ 1).trans rfl, hM_, rfl, fun h0_ => absurd ((hoff 4 (by kernel_rfl)).symm.trans h0_) (by decide), fun h0_ => absurd ((hoff 5 (by kernel_rfl)).symm.trans h0_) (by decide), fun h0_ => absurd ((hoff 6 (by kernel_rfl)).symm.trans h0_) (by decide), fun h0_ => absurd ((hoff 9 (by kernel_rfl)).symm.trans h0_) (by decide)⟩⟩
      refine steps_cons ?_ ?_
      · rintro b a w' ⟨v246, v250, m8_, m10_, v3_, v4_, v5_, v6_, v9_, ha, Q_BK243, Q_HB, Q_HO247, Q_HO251, Q_X8_, Q_X10_, Q_G⟩ hb_ hon hoff
        refine ⟨_, rfl, fun K hK => ?_⟩
        have e16 : a.tmps[16]? = some (v3_) := by rw [ha]; exact putSel_on (e := (3, 16, v3_)) 3 rfl rfl (hon 3 (by kernel_rfl)) rfl
        replace ha := Aside0.mk ha
        obtain ⟨gG, gM, hcG_, hmG_, e3_, h4_, h5_, h6_, h9_⟩ := Q_G (hon 3 (by kernel_rfl))
        rw [e3_] at e16
        have BK243 := Aside0.mk Q_BK243
        have HB := Aside0.mk Q_HB
        have HO247 := Aside0.mk (Q_HO247 (hon 1 (by kernel_rfl)))
        refine value_ (w1 := w') (v := .pointer (some ⟨gG, 0, none⟩)) (by rfl) rfl ?_ ?_
        · go_simp
          (try simp only [i64_w])
          try rfl
        refine hK.out _ _ ⟨v246, v250, m8_, m10_, v3_, (.pointer (some ⟨gG, 0, none⟩)), v5_, v6_, v9_, (by rw [ha.out]; exact putSel_upk 4 hb_ rfl rfl rfl), Q_BK243, Q_HB, Q_HO247, Q_HO251, Q_X8_, fun h0_ => absurd ((hoff 10 (by kernel_rfl)).symm.trans h0_) (by decide), fun _ => ⟨gG, gM, hcG_, hmG_, e3_, fun _ => rfl, fun h0_ => absurd ((hoff 5 (by kernel_rfl)).symm.trans h0_) (by decide), fun h0_ => absurd ((hoff 6 (by kernel_rfl)).symm.trans h0_) (by decide), fun h0_ => absurd ((hoff 9 (by kernel_rfl)).symm.trans h0_) (by decide)⟩⟩
      refine steps_cons ?_ ?_
      · rintro b a w' ⟨v246, v250, m8_, m10_, v3_, v4_, v5_, v6_, v9_, ha, Q_BK243, Q_HB, Q_HO247, Q_HO251, Q_X8_, Q_X10_, Q_G⟩ hb_ hon hoff
        refine ⟨_, rfl, fun K hK => ?_⟩
        have e17 : a.tmps[17]? = some (v4_) := by rw [ha]; exact putSel_on (e := (4, 17, v4_)) 4 rfl rfl (hon 4 (by kernel_rfl)) rfl
        replace ha := Aside0.mk ha
        obtain ⟨gG, gM, hcG_, hmG_, e3_, h4_, h5_, h6_, h9_⟩ := Q_G (hon 3 (by kernel_rfl))
        rw [h4_ (hon 4 (by kernel_rfl))] at e17
        have BK243 := Aside0.mk Q_BK243
        have HB := Aside0.mk Q_HB
        have HO247 := Aside0.mk (Q_HO247 (hon 1 (by kernel_rfl)))
        refine value_ (w1 := w') (v := .pointer (some ⟨gG, 1, none⟩)) (by rfl) rfl ?_ ?_
        · go_simp
          (try simp only [i64_w])
          try rfl
        refine hK.out _ _ ⟨v246, v250, m8_, m10_, v3_, v4_, (.pointer (some ⟨gG, 1, none⟩)), v6_, v9_, (by rw [ha.out]; exact putSel_upk 5 hb_ rfl rfl rfl), Q_BK243, Q_HB, Q_HO247, Q_HO251, Q_X8_, fun h0_ => absurd ((hoff 10 (by kernel_rfl)).symm.trans h0_) (by decide), fun _ => ⟨gG, gM, hcG_, hmG_, e3_, h4_, fun _ => rfl, fun h0_ => absurd ((hoff 6 (by kernel_rfl)).symm.trans h0_) (by decide), fun h0_ => absurd ((hoff 9 (by kernel_rfl)).symm.trans h0_) (by decide)⟩⟩
      refine steps_cons ?_ ?_
      · rintro b a w' ⟨v246, v250, m8_, m10_, v3_, v4_, v5_, v6_, v9_, ha, Q_BK243, Q_HB, Q_HO247, Q_HO251, Q_X8_, Q_X10_, Q_G⟩ hb_ hon hoff
        refine ⟨_, rfl, fun K hK => ?_⟩
        have e18 : a.tmps[18]? = some (v5_) := by rw [ha]; exact putSel_on (e := (5, 18, v5_)) 5 rfl rfl (hon 5 (by kernel_rfl)) rfl
        replace ha := Aside0.mk ha
        obtain ⟨gG, gM, hcG_, hmG_, e3_, h4_, h5_, h6_, h9_⟩ := Q_G (hon 3 (by kernel_rfl))
        rw [h5_ (hon 5 (by kernel_rfl))] at e18
        have BK243 := Aside0.mk Q_BK243
        have HB := Aside0.mk Q_HB
        have HO247 := Aside0.mk (Q_HO247 (hon 1 (by kernel_rfl)))
        refine value_ (w1 := w') (v := .map (some gM)) (by rfl) rfl ?_ ?_
        · go_simp
          (try simp only [i64_w])
          try rfl
        refine hK.out _ _ ⟨v246, v250, m8_, m10_, v3_, v4_, v5_, (.map (some gM)), v9_, (by rw [ha.out]; exact putSel_upk 6 hb_ rfl rfl rfl), Q_BK243, Q_HB, Q_HO247, Q_HO251, Q_X8_, fun h0_ => absurd ((hoff 10 (by kernel_rfl)).symm.trans h0_) (by decide), fun _ => ⟨gG, gM, hcG_, hmG_, e3_, h4_, h5_, fun _ => rfl, fun h0_ => absurd ((hoff 9 (by kernel_rfl)).symm.trans h0_) (by decide)⟩⟩
      refine steps_cons ?_ ?_
      · rintro b a w' ⟨v246, v250, m8_, m10_, v3_, v4_, v5_, v6_, v9_, ha, Q_BK243, Q_HB, Q_HO247, Q_HO251, Q_X8_, Q_X10_, Q_G⟩ hb_ hon hoff
        refine ⟨_, rfl, fun K hK => ?_⟩
        replace ha := Aside0.mk ha
        have BK243 := Aside0.mk Q_BK243
        have HB := Aside0.mk Q_HB
        refine Kd.R_lit_step Kd.string _ 9 ?hg (N := 20) ?hd (xs := ([] : List ByteArray)) (inner := []) (ok := fun _ => True) (okp := fun _ => True) ?hr ?hp (fun _ hk => hk) trivial (Below.refl _ _) (Nat.le_refl _) (by simp) ?_; (case hd => rfl); (case hg => rfl); (case hr => first | (go_simp; done) | (go_simp; rfl)); (case hp => exact (Reps.none _ _))
        intro v250 w11 ho12 hb hg_ hnew_
        clear hg_ hnew_
        (first | rw [← Ny249.out] at ho12 | (simp only [Int.reduceToNat] at ho12; rw [← Ny249.out] at ho12))
        have n0_ := Aside0.mk (Kd.R_lower ho12 (below_size (XSq.bB HB)))
        have n1_ := Aside0.mk (blk_below (g := gb243) (o := .cells #[.string a0_0, .slice A0_1 l0_1.length c0_1, .int .i64 a0_2, .int .i64 a0_3, .int .i64 a0_4] 28 (0, 0)) (XSq.bq BK243) hb)
        have n2_ := Aside0.mk (below_step (XSq.bB HB) hb)
        have z_HO247 := fun (h0_ : b 1 = true) => (show Kd.R (Kd.int .i64) 3 w11 w.heap.size (fun _ => True) v246 t245 from by first | exact (Kd.R_below (by (with_reducible repeat (first | apply Kd.R_alloc | apply Kd.R_drewN | apply Kd.R_drew)); exact (Q_HO247 h0_)) hb) | exact Kd.R_mono (Kd.R_below (by (with_reducible repeat (first | apply Kd.R_alloc | apply Kd.R_drewN | apply Kd.R_drew)); exact (Q_HO247 h0_)) hb) (fun _ h_ => by first | trivial | exact h_ | exact h_.1))
        have z_G := fun (h0_ : b 3 = true) => XMapP.gi_below (Q_G h0_) hb
        clear BK243
        clear HB
        have HO251 := n0_
        have BK243 := n1_
        have HB := n2_
        clear n0_ n1_ n2_
        clear hb ho12
        refine hK.out _ _ ⟨v246, v250, m8_, m10_, v3_, v4_, v5_, v6_, v9_, (by rw [ha.out]; exact putSel_upk 7 hb_ rfl rfl rfl), (XSq.bq BK243), (XSq.bB HB), z_HO247, fun _ => (by (with_reducible repeat (first | apply Kd.R_alloc | apply Kd.R_drewN | apply Kd.R_drew)); exact HO251.out), Q_X8_, fun h0_ => absurd ((hoff 10 (by kernel_rfl)).symm.trans h0_) (by decide), z_G⟩
      refine steps_cons ?_ ?_
      · rintro b a w' ⟨v246, v250, m8_, m10_, v3_, v4_, v5_, v6_, v9_, ha, Q_BK243, Q_HB, Q_HO247, Q_HO251, Q_X8_, Q_X10_, Q_G⟩ hb_ hon hoff
        refine ⟨_, rfl, fun K hK => ?_⟩
        have e14 : a.tmps[14]? = some (v246) := by rw [ha]; exact putSel_on (e := (1, 14, v246)) 1 rfl rfl (hon 1 (by kernel_rfl)) rfl
        replace ha := Aside0.mk ha
        have BK243 := Aside0.mk Q_BK243
        have HB := Aside0.mk Q_HB
        have HO247 := Aside0.mk (Q_HO247 (hon 1 (by kernel_rfl)))
        refine value_ (w1 := w') (v := v246) (by rfl) rfl ?_ ?_
        · go_simp
          (try simp only [i64_w])
          try rfl
        refine hK.out _ _ ⟨v246, v250, (v246), m10_, v3_, v4_, v5_, v6_, v9_, (by rw [ha.out]; exact putSel_upk 8 hb_ rfl rfl rfl), Q_BK243, Q_HB, Q_HO247, Q_HO251, fun _ => rfl, fun h0_ => absurd ((hoff 10 (by kernel_rfl)).symm.trans h0_) (by decide), Q_G⟩
      refine steps_cons ?_ ?_
      · rintro b a w' ⟨v246, v250, m8_, m10_, v3_, v4_, v5_, v6_, v9_, ha, Q_BK243, Q_HB, Q_HO247, Q_HO251, Q_X8_, Q_X10_, Q_G⟩ hb_ hon hoff
        refine ⟨_, rfl, fun K hK => ?_⟩
        have e19 : a.tmps[19]? = some (v6_) := by rw [ha]; exact putSel_on (e := (6, 19, v6_)) 6 rfl rfl (hon 6 (by kernel_rfl)) rfl
        replace ha := Aside0.mk ha
        obtain ⟨gG, gM, hcG_, hmG_, e3_, h4_, h5_, h6_, h9_⟩ := Q_G (hon 3 (by kernel_rfl))
        rw [h6_ (hon 6 (by kernel_rfl))] at e19
        have BK243 := Aside0.mk Q_BK243
        have HB := Aside0.mk Q_HB
        have HO247 := Aside0.mk (Q_HO247 (hon 1 (by kernel_rfl)))
        refine value_ (w1 := w') (v := .map (some gM)) (by rfl) rfl ?_ ?_
        · go_simp
          (try simp only [i64_w])
          try rfl
        refine hK.out _ _ ⟨v246, v250, m8_, m10_, v3_, v4_, v5_, v6_, (.map (some gM)), (by rw [ha.out]; exact putSel_upk 9 hb_ rfl rfl rfl), Q_BK243, Q_HB, Q_HO247, Q_HO251, Q_X8_, fun h0_ => absurd ((hoff 10 (by kernel_rfl)).symm.trans h0_) (by decide), fun _ => ⟨gG, gM, hcG_, hmG_, e3_, h4_, h5_, h6_, fun _ => rfl⟩⟩
      refine steps_cons ?_ ?_
      · rintro b a w' ⟨v246, v250, m8_, m10_, v3_, v4_, v5_, v6_, v9_, ha, Q_BK243, Q_HB, Q_HO247, Q_HO251, Q_X8_, Q_X10_, Q_G⟩ hb_ hon hoff
        refine ⟨_, rfl, fun K hK => ?_⟩
        have e20 : a.tmps[20]? = some (v250) := by rw [ha]; exact putSel_on (e := (7, 20, v250)) 7 rfl rfl (hon 7 (by kernel_rfl)) rfl
        replace ha := Aside0.mk ha
        have BK243 := Aside0.mk Q_BK243
        have HB := Aside0.mk Q_HB
        have HO247 := Aside0.mk (Q_HO247 (hon 1 (by kernel_rfl)))
        have HO251 := Aside0.mk (Q_HO251 (hon 7 (by kernel_rfl)))
        refine value_ (w1 := w') (v := v250) (by rfl) rfl ?_ ?_
        · go_simp
          (try simp only [i64_w])
          try rfl
        refine hK.out _ _ ⟨v246, v250, m8_, (v250), v3_, v4_, v5_, v6_, v9_, (by rw [ha.out]; exact putSel_upk 10 hb_ rfl rfl rfl), Q_BK243, Q_HB, Q_HO247, Q_HO251, Q_X8_, fun _ => rfl, Q_G⟩
      exact steps_nil
    rintro b a w15 hall ⟨v246, v250, m8_, m10_, v3_, v4_, v5_, v6_, v9_, ha, Q_BK243, Q_HB, Q_HO247, Q_HO251, Q_X8_, Q_X10_, Q_G⟩
    clear BK243 HB
    have hb0_ := hall 0 (by kernel_rfl)
    have hb1_ := hall 1 (by kernel_rfl)
    have hb2_ := hall 2 (by kernel_rfl)
    have hb3_ := hall 3 (by kernel_rfl)
    have hb4_ := hall 4 (by kernel_rfl)
    have hb5_ := hall 5 (by kernel_rfl)
    have hb6_ := hall 6 (by kernel_rfl)
    have hb7_ := hall 7 (by kernel_rfl)
    have hb8_ := hall 8 (by kernel_rfl)
    have hb9_ := hall 9 (by kernel_rfl)
    have hb10_ := hall 10 (by kernel_rfl)
    subst ha
    have eX_ := (Q_X8_ hb8_).symm; subst eX_
    have eX_ := (Q_X10_ hb10_).symm; subst eX_
    obtain ⟨gG, gM, hcG_, hmG_, rfl, h4_, h5_, h6_, h9_⟩ := Q_G hb3_
    obtain rfl := h4_ hb4_
    obtain rfl := h5_ hb5_
    obtain rfl := h6_ hb6_
    obtain rfl := h9_ hb9_
    have HMG := Aside0.mk hmG_
    clear Q_G hcG_ hmG_
    simp only [putSel, hb0_, hb1_, hb2_, hb3_, hb4_, hb5_, hb6_, hb7_, hb8_, hb9_, hb10_, if_true, Act.put, List.setIfInBounds_toArray, List.set_cons_zero, List.set_cons_succ]
    have BK243 := Aside0.mk Q_BK243
    clear Q_BK243
    have HB := Aside0.mk Q_HB
    clear Q_HB
    have HO247 := Aside0.mk (Q_HO247 hb1_)
    clear Q_HO247
    have HO251 := Aside0.mk (Q_HO251 hb7_)
    clear Q_HO251
    clear hall hb0_ hb1_ hb2_ hb3_ hb4_ hb5_ hb6_ hb7_ hb8_ hb9_ hb10_
    go_upto_region 4 with (fail)
    go_cut [38] (fun v38 wc => ∃ (kq : Nat) (x38_5 : Bool), v38 = .bool x38_5 ∧ Aside0 (impl_PictureOf.j0 kq t245 t248 y249 x38_5 = some (r1, r2)) ∧ Aside0 (kq ≤ k) ∧ Aside0 (Kd.R (Kd.int .i64) 3 wc w.heap.size (fun _ => True) v246 t245) ∧ Aside0 (Kd.R Kd.string 9 wc w.heap.size (fun _ => True) v250 y249) ∧ Aside0 (wc.heap[gb243]? = some (.cells #[.string a0_0, (.slice A0_1 l0_1.length c0_1), .int .i64 a0_2, .int .i64 a0_3, .int .i64 a0_4] 28 (0, 0))) ∧ Aside0 (XMapP.IsMapP Tryd.prog 62 3 wc gM l0_1.length t248) ∧ Aside0 (Below w.heap.size w wc))
    case first =>
      have H := HC6.out
      clear HC6
      by_cases c16 : 1 < (t245.length : Int)
      · rw [if_pos c16] at H
        have c16b0 : decide (1 < (t245.length : Int)) = true := decide_eq_true c16
        have c16b1 : decide (1 < t245.length) = true := decide_eq_true (by omega)
        clear c16
        (first | rw [c16b0] | (simp only [i64_w, i32_w]; rw [c16b0]) | skip)
        by_cases c17 : 0 < (t245.length : Int)
        · rw [if_pos c17] at H
          have c17b0 : decide (0 < (t245.length : Int)) = true := decide_eq_true c17
          have c17b1 : decide (0 < t245.length) = true := decide_eq_true (by omega)
          clear c17
          by_cases c18 : (wrap64 ((rd t245 1) - (rd t245 0))) ≥ 40
          · rw [if_pos c18] at H
            have c18b0 : decide (40 ≤ (wrap64 ((rd t245 1) - (rd t245 0)))) = true := decide_eq_true c18
            clear c18
            have H' := Aside0.mk H
            clear H
            try go_wp2
            have nG_ := Aside0.mk (HMG.out.drew)
            clear HMG
            have HMG := nG_
            clear nG_
            have n0_ := Aside0.mk (Kd.R_drew HO247.out)
            have n1_ := Aside0.mk (Kd.R_drew HO251.out)
            have n2_ := Aside0.mk (blk_drew BK243.out)
            have n3_ := Aside0.mk (below_drew1 HB.out)
            clear HO247
            clear HO251
            clear BK243
            clear HB
            have HO247 := n0_
            have HO251 := n1_
            have BK243 := n2_
            have HB := n3_
            clear n0_ n1_ n2_ n3_
            obtain ⟨Ao20, co20, eo20⟩ := Kd.R_slice HO247.out
            (first | subst eo20 | (injection eo20 with f1_ f2_ f3_; have f4_ := f1_.symm; have f5_ := f3_.symm; clear f1_ f2_ f3_; subst f4_; subst f5_))
            have p252 : 0 ≤ (1 : Int) := (by omega)
            have q252 : 1 < (t245.length : Int) := of_decide_eq_true (by first | (with_reducible assumption) | assumption)
            obtain ⟨ad252, e252, hx252_0⟩ := Kd.at_int (Kd.R_reads' HO247.out).2.2 1 p252 q252
            cases e252
            (try simp only [show (1 : Int).toNat = 1 from rfl, Nat.reduceMul, Nat.reduceEqDiff, Go.Addr.add, ↓reduceIte] at hx252_0)
            have qi252 : (1 < t245.length) = True := eq_true (by omega)
            (try rw [show ((1 : Int)).toNat = 1 from rfl] at hx252_0)
            replace p252 := eq_true p252
            replace q252 := eq_true q252
            have p253 : 0 ≤ (0 : Int) := (by omega)
            have q253 : 0 < (t245.length : Int) := of_decide_eq_true (by first | (with_reducible assumption) | assumption)
            obtain ⟨ad253, e253, hx253_0⟩ := Kd.at_int (Kd.R_reads' HO247.out).2.2 0 p253 q253
            obtain rfl : ad252 = ad253 := (by injection e253)
            have qi253 : (0 < t245.length) = True := eq_true (by omega)
            (try rw [show ((0 : Int)).toNat = 0 from rfl] at hx253_0)
            (try rw [Addr.add_zero'] at hx253_0)
            replace p253 := eq_true p253
            replace q253 := eq_true q253
            refine start_ (n := 18) (S := fun w' => w'.cell? ⟨ad252.block, ad252.off + 1, none⟩ = some (.int .i64 (rd t245 1)) ∧ w'.cell? ad252 = some (.int .i64 (rd t245 0))) (ds := []) #[false, false, false, false, false, false, false, false, false, false, false, false, false, false, false, false, false, false] (by kernel_rfl) rfl rfl ⟨hx252_0, hx253_0⟩ (fun hHeld => ?_); refine with_tabW impl_PictureOf.tab4 impl_PictureOf.bits4 (fun HT_ HW_ => ?_)
            generalize w15.drew = w19 at HMG HO247 HO251 BK243 HB hx252_0 hx253_0 hHeld ⊢
            refine pure_ (i := 0) (N := some 21) (v := ?_) (a' := ?_) #[true, false, false, false, false, false, false, false, false, false, false, false, false, false, false, false, false, false] rfl rfl (any_of HT_.out (by kernel_rfl)) (fun _ _ _ h => h) (Or.inl ⟨by rfl, ?_⟩) ?_ ?_
            rotate_left
            · intro w'
              go_simp
              with_reducible rfl
            rotate_left
            · simp only [Act.put, List.setIfInBounds_toArray, List.set_cons_zero, List.set_cons_succ, i64_w, i32_w]
              rfl
            refine pure_ (i := 1) (N := some 22) (v := ?_) (a' := ?_) #[true, true, false, false, false, false, false, false, false, false, false, false, false, false, false, false, false, false] rfl rfl (any_of HT_.out (by kernel_rfl)) (fun _ _ _ h => h) (Or.inl ⟨by rfl, ?_⟩) ?_ ?_
            rotate_left
            · intro w'
              go_simp
              with_reducible rfl
            rotate_left
            · simp only [Act.put, List.setIfInBounds_toArray, List.set_cons_zero, List.set_cons_succ, i64_w, i32_w]
              rfl
            refine pure_ (i := 3) (N := some 24) (v := ?_) (a' := ?_) #[true, true, false, true, false, false, false, false, false, false, false, false, false, false, false, false, false, false] rfl rfl (any_of HT_.out (by kernel_rfl)) (fun _ _ _ h => h) (Or.inl ⟨by rfl, ?_⟩) ?_ ?_
            rotate_left
            · intro w'
              go_simp
              with_reducible rfl
            rotate_left
            · simp only [Act.put, List.setIfInBounds_toArray, List.set_cons_zero, List.set_cons_succ, i64_w, i32_w]
              rfl
            refine pure_ (i := 4) (N := some 25) (v := ?_) (a' := ?_) #[true, true, false, true, true, false, false, false, false, false, false, false, false, false, false, false, false, false] rfl rfl (any_of HT_.out (by kernel_rfl)) (fun _ _ _ h => h) (Or.inl ⟨by rfl, ?_⟩) ?_ ?_
            rotate_left
            · intro w'
              go_simp
              with_reducible rfl
            rotate_left
            · simp only [Act.put, List.setIfInBounds_toArray, List.set_cons_zero, List.set_cons_succ, i64_w, i32_w]
              rfl
            refine take_ (i := 2) (N := some 23) (v := ?_) (a' := ?_) #[true, true, true, true, true, false, false, false, false, false, false, false, false, false, false, false, false, false] rfl rfl (take_ofW HT_.out HW_.out (by kernel_rfl)) (fun _ _ _ h => h) (Or.inl ⟨by rfl, ?_⟩) hHeld ?_ ?_
            rotate_left
            · rintro w' ⟨s0, s1⟩
              go_simp
              with_reducible rfl
            rotate_left
            · simp only [Act.put, List.setIfInBounds_toArray, List.set_cons_zero, List.set_cons_succ, i64_w, i32_w]
              rfl
            refine take_ (i := 5) (N := some 26) (v := ?_) (a' := ?_) #[true, true, true, true, true, true, false, false, false, false, false, false, false, false, false, false, false, false] rfl rfl (take_ofW HT_.out HW_.out (by kernel_rfl)) (fun _ _ _ h => h) (Or.inl ⟨by rfl, ?_⟩) hHeld ?_ ?_
            rotate_left
            · rintro w' ⟨s0, s1⟩
              go_simp
              with_reducible rfl
            rotate_left
            · simp only [Act.put, List.setIfInBounds_toArray, List.set_cons_zero, List.set_cons_succ, i64_w, i32_w]
              rfl
            refine pure_ (i := 6) (N := some 27) (v := ?_) (a' := ?_) #[true, true, true, true, true, true, true, false, false, false, false, false, false, false, false, false, false, false] rfl rfl (any_of HT_.out (by kernel_rfl)) (fun _ _ _ h => h) (Or.inl ⟨by rfl, ?_⟩) ?_ ?_
            rotate_left
            · intro w'
              go_simp
              with_reducible rfl
            rotate_left
            · simp only [Act.put, List.setIfInBounds_toArray, List.set_cons_zero, List.set_cons_succ, i64_w, i32_w]
              rfl
            refine pure_ (i := 7) (N := some 28) (v := ?_) (a' := ?_) #[true, true, true, true, true, true, true, true, false, false, false, false, false, false, false, false, false, false] rfl rfl (any_of HT_.out (by kernel_rfl)) (fun _ _ _ h => h) (Or.inl ⟨by rfl, ?_⟩) ?_ ?_
            rotate_left
            · intro w'
              go_simp
              with_reducible rfl
            rotate_left
            · simp only [Act.put, List.setIfInBounds_toArray, List.set_cons_zero, List.set_cons_succ, i64_w, i32_w]
              rfl
            refine pure_ (i := 8) (N := some 29) (v := ?_) (a' := ?_) #[true, true, true, true, true, true, true, true, true, false, false, false, false, false, false, false, false, false] rfl rfl (any_of HT_.out (by kernel_rfl)) (fun _ _ _ h => h) (Or.inl ⟨by rfl, ?_⟩) ?_ ?_
            rotate_left
            · intro w'
              go_simp
              with_reducible rfl
            rotate_left
            · simp only [Act.put, List.setIfInBounds_toArray, List.set_cons_zero, List.set_cons_succ, i64_w, i32_w]
              rfl
            refine pure_ (i := 9) (N := some 30) (v := undef) (a' := ?_) #[true, true, true, true, true, true, true, true, true, true, false, false, false, false, false, false, false, false] rfl rfl (any_of HT_.out (by kernel_rfl)) (fun _ _ _ h => h) (Or.inr ⟨by rfl, rfl⟩) ?_ ?_
            rotate_left
            · simp only [Act.put, List.setIfInBounds_toArray, List.set_cons_zero, List.set_cons_succ, i64_w, i32_w]
              rfl
            refine pure_ (i := 10) (N := some 31) (v := undef) (a' := ?_) #[true, true, true, true, true, true, true, true, true, true, true, false, false, false, false, false, false, false] rfl rfl (any_of HT_.out (by kernel_rfl)) (fun _ _ _ h => h) (Or.inr ⟨by rfl, rfl⟩) ?_ ?_
            rotate_left
            · simp only [Act.put, List.setIfInBounds_toArray, List.set_cons_zero, List.set_cons_succ, i64_w, i32_w]
              rfl
            refine pure_ (i := 11) (N := some 32) (v := undef) (a' := ?_) #[true, true, true, true, true, true, true, true, true, true, true, true, false, false, false, false, false, false] rfl rfl (any_of HT_.out (by kernel_rfl)) (fun _ _ _ h => h) (Or.inr ⟨by rfl, rfl⟩) ?_ ?_
            rotate_left
            · simp only [Act.put, List.setIfInBounds_toArray, List.set_cons_zero, List.set_cons_succ, i64_w, i32_w]
              rfl
            refine pure_ (i := 12) (N := some 33) (v := undef) (a' := ?_) #[true, true, true, true, true, true, true, true, true, true, true, true, true, false, false, false, false, false] rfl rfl (any_of HT_.out (by kernel_rfl)) (fun _ _ _ h => h) (Or.inr ⟨by rfl, rfl⟩) ?_ ?_
            rotate_left
            · simp only [Act.put, List.setIfInBounds_toArray, List.set_cons_zero, List.set_cons_succ, i64_w, i32_w]
              rfl
            refine pure_ (i := 13) (N := some 34) (v := undef) (a' := ?_) #[true, true, true, true, true, true, true, true, true, true, true, true, true, true, false, false, false, false] rfl rfl (any_of HT_.out (by kernel_rfl)) (fun _ _ _ h => h) (Or.inr ⟨by rfl, rfl⟩) ?_ ?_
            rotate_left
            · simp only [Act.put, List.setIfInBounds_toArray, List.set_cons_zero, List.set_cons_succ, i64_w, i32_w]
              rfl
            refine pure_ (i := 14) (N := some 35) (v := undef) (a' := ?_) #[true, true, true, true, true, true, true, true, true, true, true, true, true, true, true, false, false, false] rfl rfl (any_of HT_.out (by kernel_rfl)) (fun _ _ _ h => h) (Or.inr ⟨by rfl, rfl⟩) ?_ ?_
            rotate_left
            · simp only [Act.put, List.setIfInBounds_toArray, List.set_cons_zero, List.set_cons_succ, i64_w, i32_w]
              rfl
            refine pure_ (i := 15) (N := some 36) (v := undef) (a' := ?_) #[true, true, true, true, true, true, true, true, true, true, true, true, true, true, true, true, false, false] rfl rfl (any_of HT_.out (by kernel_rfl)) (fun _ _ _ h => h) (Or.inr ⟨by rfl, rfl⟩) ?_ ?_
            rotate_left
            · simp only [Act.put, List.setIfInBounds_toArray, List.set_cons_zero, List.set_cons_succ, i64_w, i32_w]
              rfl
            refine pure_ (i := 16) (N := some 37) (v := undef) (a' := ?_) #[true, true, true, true, true, true, true, true, true, true, true, true, true, true, true, true, true, false] rfl rfl (any_of HT_.out (by kernel_rfl)) (fun _ _ _ h => h) (Or.inr ⟨by rfl, rfl⟩) ?_ ?_
            rotate_left
            · simp only [Act.put, List.setIfInBounds_toArray, List.set_cons_zero, List.set_cons_succ, i64_w, i32_w]
              rfl
            refine pure_ (i := 17) (N := some 38) (v := ?_) (a' := ?_) #[true, true, true, true, true, true, true, true, true, true, true, true, true, true, true, true, true, true] rfl rfl (any_of HT_.out (by kernel_rfl)) (fun _ _ _ h => h) (Or.inl ⟨by rfl, ?_⟩) ?_ ?_
            rotate_left
            · intro w'
              go_simp
              with_reducible rfl
            rotate_left
            · simp only [Act.put, List.setIfInBounds_toArray, List.set_cons_zero, List.set_cons_succ, i64_w, i32_w]
              rfl
            refine done_ (done_of HT_.out (by kernel_rfl)) ?_
            try go_wp2
            go_meet
            case rel => exact ⟨_, (true), (by first | rfl | (simp; done) | (simp [*]; done)), H', ⟨by first | omega | exact Nat.le_refl _⟩, ⟨by (with_reducible repeat (first | apply Kd.R_alloc | apply Kd.R_drewN | apply Kd.R_drew)); exact HO247.out⟩, ⟨by (with_reducible repeat (first | apply Kd.R_alloc | apply Kd.R_drewN | apply Kd.R_drew)); exact HO251.out⟩, ⟨by (with_reducible repeat (first | refine blk_drewN ?_ _ | refine blk_drew ?_ | refine blk_alloc ?_ _)); exact BK243.out⟩, ⟨by repeat (first | exact HMG.out | apply XMapP.IsMapP.drewN | apply XMapP.IsMapP.drew)⟩, ⟨by repeat (first | (with_reducible first | exact HB.out | apply below_alloc | apply pw_below_drewN | apply below_drew1 | refine below_set ?_ GE243.out) | exact HB.out)⟩⟩
          · rw [if_neg c18] at H
            have c18b0 : decide (40 ≤ (wrap64 ((rd t245 1) - (rd t245 0)))) = false := decide_eq_false c18
            clear c18
            by_cases c21 : 3 < (t245.length : Int)
            · rw [if_pos c21] at H
              have c21b0 : decide (3 < (t245.length : Int)) = true := decide_eq_true c21
              have c21b1 : decide (3 < t245.length) = true := decide_eq_true (by omega)
              clear c21
              by_cases c22 : 2 < (t245.length : Int)
              · rw [if_pos c22] at H
                have c22b0 : decide (2 < (t245.length : Int)) = true := decide_eq_true c22
                have c22b1 : decide (2 < t245.length) = true := decide_eq_true (by omega)
                clear c22
                have H' := Aside0.mk H
                clear H
                try go_wp2
                have nG_ := Aside0.mk (HMG.out.drew)
                clear HMG
                have HMG := nG_
                clear nG_
                have n0_ := Aside0.mk (Kd.R_drew HO247.out)
                have n1_ := Aside0.mk (Kd.R_drew HO251.out)
                have n2_ := Aside0.mk (blk_drew BK243.out)
                have n3_ := Aside0.mk (below_drew1 HB.out)
                clear HO247
                clear HO251
                clear BK243
                clear HB
                have HO247 := n0_
                have HO251 := n1_
                have BK243 := n2_
                have HB := n3_
                clear n0_ n1_ n2_ n3_
                obtain ⟨Ao24, co24, eo24⟩ := Kd.R_slice HO247.out
                (first | subst eo24 | (injection eo24 with f1_ f2_ f3_; have f4_ := f1_.symm; have f5_ := f3_.symm; clear f1_ f2_ f3_; subst f4_; subst f5_))
                have p252 : 0 ≤ (1 : Int) := (by omega)
                have q252 : 1 < (t245.length : Int) := of_decide_eq_true (by first | (with_reducible assumption) | assumption)
                obtain ⟨ad252, e252, hx252_0⟩ := Kd.at_int (Kd.R_reads' HO247.out).2.2 1 p252 q252
                cases e252
                (try simp only [show (1 : Int).toNat = 1 from rfl, Nat.reduceMul, Nat.reduceEqDiff, Go.Addr.add, ↓reduceIte] at hx252_0)
                have qi252 : (1 < t245.length) = True := eq_true (by omega)
                (try rw [show ((1 : Int)).toNat = 1 from rfl] at hx252_0)
                replace p252 := eq_true p252
                replace q252 := eq_true q252
                have p253 : 0 ≤ (0 : Int) := (by omega)
                have q253 : 0 < (t245.length : Int) := of_decide_eq_true (by first | (with_reducible assumption) | assumption)
                obtain ⟨ad253, e253, hx253_0⟩ := Kd.at_int (Kd.R_reads' HO247.out).2.2 0 p253 q253
                obtain rfl : ad252 = ad253 := (by injection e253)
                have qi253 : (0 < t245.length) = True := eq_true (by omega)
                (try rw [show ((0 : Int)).toNat = 0 from rfl] at hx253_0)
                (try rw [Addr.add_zero'] at hx253_0)
                replace p253 := eq_true p253
                replace q253 := eq_true q253
                have p254 : 0 ≤ (3 : Int) := (by omega)
                have q254 : 3 < (t245.length : Int) := of_decide_eq_true (by first | (with_reducible assumption) | assumption)
                obtain ⟨ad254, e254, hx254_0⟩ := Kd.at_int (Kd.R_reads' HO247.out).2.2 3 p254 q254
                obtain rfl : ad252 = ad254 := (by injection e254)
                (try simp only [show (3 : Int).toNat = 3 from rfl, Nat.reduceMul, Nat.reduceEqDiff, Go.Addr.add, ↓reduceIte] at hx254_0)
                have qi254 : (3 < t245.length) = True := eq_true (by omega)
                (try rw [show ((3 : Int)).toNat = 3 from rfl] at hx254_0)
                replace p254 := eq_true p254
                replace q254 := eq_true q254
                have p255 : 0 ≤ (2 : Int) := (by omega)
                have q255 : 2 < (t245.length : Int) := of_decide_eq_true (by first | (with_reducible assumption) | assumption)
                obtain ⟨ad255, e255, hx255_0⟩ := Kd.at_int (Kd.R_reads' HO247.out).2.2 2 p255 q255
                obtain rfl : ad252 = ad255 := (by injection e255)
                (try simp only [show (2 : Int).toNat = 2 from rfl, Nat.reduceMul, Nat.reduceEqDiff, Go.Addr.add, ↓reduceIte] at hx255_0)
                have qi255 : (2 < t245.length) = True := eq_true (by omega)
                (try rw [show ((2 : Int)).toNat = 2 from rfl] at hx255_0)
                replace p255 := eq_true p255
                replace q255 := eq_true q255
                refine start_ (n := 18) (S := fun w' => w'.cell? ⟨ad252.block, ad252.off + 1, none⟩ = some (.int .i64 (rd t245 1)) ∧ w'.cell? ad252 = some (.int .i64 (rd t245 0)) ∧ w'.cell? ⟨ad252.block, ad252.off + 3, none⟩ = some (.int .i64 (rd t245 3)) ∧ w'.cell? ⟨ad252.block, ad252.off + 2, none⟩ = some (.int .i64 (rd t245 2))) (ds := []) #[false, false, false, false, false, false, false, false, false, false, false, false, false, false, false, false, false, false] (by kernel_rfl) rfl rfl ⟨hx252_0, hx253_0, hx254_0, hx255_0⟩ (fun hHeld => ?_); refine with_tabW impl_PictureOf.tab4 impl_PictureOf.bits4 (fun HT_ HW_ => ?_)
                generalize w15.drew = w23 at HMG HO247 HO251 BK243 HB hx252_0 hx253_0 hx254_0 hx255_0 hHeld ⊢
                refine pure_ (i := 0) (N := some 21) (v := ?_) (a' := ?_) #[true, false, false, false, false, false, false, false, false, false, false, false, false, false, false, false, false, false] rfl rfl (any_of HT_.out (by kernel_rfl)) (fun _ _ _ h => h) (Or.inl ⟨by rfl, ?_⟩) ?_ ?_
                rotate_left
                · intro w'
                  go_simp
                  with_reducible rfl
                rotate_left
                · simp only [Act.put, List.setIfInBounds_toArray, List.set_cons_zero, List.set_cons_succ, i64_w, i32_w]
                  rfl
                refine pure_ (i := 1) (N := some 22) (v := ?_) (a' := ?_) #[true, true, false, false, false, false, false, false, false, false, false, false, false, false, false, false, false, false] rfl rfl (any_of HT_.out (by kernel_rfl)) (fun _ _ _ h => h) (Or.inl ⟨by rfl, ?_⟩) ?_ ?_
                rotate_left
                · intro w'
                  go_simp
                  with_reducible rfl
                rotate_left
                · simp only [Act.put, List.setIfInBounds_toArray, List.set_cons_zero, List.set_cons_succ, i64_w, i32_w]
                  rfl
                refine pure_ (i := 3) (N := some 24) (v := ?_) (a' := ?_) #[true, true, false, true, false, false, false, false, false, false, false, false, false, false, false, false, false, false] rfl rfl (any_of HT_.out (by kernel_rfl)) (fun _ _ _ h => h) (Or.inl ⟨by rfl, ?_⟩) ?_ ?_
                rotate_left
                · intro w'
                  go_simp
                  with_reducible rfl
                rotate_left
                · simp only [Act.put, List.setIfInBounds_toArray, List.set_cons_zero, List.set_cons_succ, i64_w, i32_w]
                  rfl
                refine pure_ (i := 4) (N := some 25) (v := ?_) (a' := ?_) #[true, true, false, true, true, false, false, false, false, false, false, false, false, false, false, false, false, false] rfl rfl (any_of HT_.out (by kernel_rfl)) (fun _ _ _ h => h) (Or.inl ⟨by rfl, ?_⟩) ?_ ?_
                rotate_left
                · intro w'
                  go_simp
                  with_reducible rfl
                rotate_left
                · simp only [Act.put, List.setIfInBounds_toArray, List.set_cons_zero, List.set_cons_succ, i64_w, i32_w]
                  rfl
                refine take_ (i := 2) (N := some 23) (v := ?_) (a' := ?_) #[true, true, true, true, true, false, false, false, false, false, false, false, false, false, false, false, false, false] rfl rfl (take_ofW HT_.out HW_.out (by kernel_rfl)) (fun _ _ _ h => h) (Or.inl ⟨by rfl, ?_⟩) hHeld ?_ ?_
                rotate_left
                · rintro w' ⟨s0, s1, s2, s3⟩
                  go_simp
                  with_reducible rfl
                rotate_left
                · simp only [Act.put, List.setIfInBounds_toArray, List.set_cons_zero, List.set_cons_succ, i64_w, i32_w]
                  rfl
                refine take_ (i := 5) (N := some 26) (v := ?_) (a' := ?_) #[true, true, true, true, true, true, false, false, false, false, false, false, false, false, false, false, false, false] rfl rfl (take_ofW HT_.out HW_.out (by kernel_rfl)) (fun _ _ _ h => h) (Or.inl ⟨by rfl, ?_⟩) hHeld ?_ ?_
                rotate_left
                · rintro w' ⟨s0, s1, s2, s3⟩
                  go_simp
                  with_reducible rfl
                rotate_left
                · simp only [Act.put, List.setIfInBounds_toArray, List.set_cons_zero, List.set_cons_succ, i64_w, i32_w]
                  rfl
                refine pure_ (i := 6) (N := some 27) (v := ?_) (a' := ?_) #[true, true, true, true, true, true, true, false, false, false, false, false, false, false, false, false, false, false] rfl rfl (any_of HT_.out (by kernel_rfl)) (fun _ _ _ h => h) (Or.inl ⟨by rfl, ?_⟩) ?_ ?_
                rotate_left
                · intro w'
                  go_simp
                  with_reducible rfl
                rotate_left
                · simp only [Act.put, List.setIfInBounds_toArray, List.set_cons_zero, List.set_cons_succ, i64_w, i32_w]
                  rfl
                refine pure_ (i := 7) (N := some 28) (v := ?_) (a' := ?_) #[true, true, true, true, true, true, true, true, false, false, false, false, false, false, false, false, false, false] rfl rfl (any_of HT_.out (by kernel_rfl)) (fun _ _ _ h => h) (Or.inl ⟨by rfl, ?_⟩) ?_ ?_
                rotate_left
                · intro w'
                  go_simp
                  with_reducible rfl
                rotate_left
                · simp only [Act.put, List.setIfInBounds_toArray, List.set_cons_zero, List.set_cons_succ, i64_w, i32_w]
                  rfl
                refine pure_ (i := 8) (N := some 29) (v := ?_) (a' := ?_) #[true, true, true, true, true, true, true, true, true, false, false, false, false, false, false, false, false, false] rfl rfl (any_of HT_.out (by kernel_rfl)) (fun _ _ _ h => h) (Or.inl ⟨by rfl, ?_⟩) ?_ ?_
                rotate_left
                · intro w'
                  go_simp
                  with_reducible rfl
                rotate_left
                · simp only [Act.put, List.setIfInBounds_toArray, List.set_cons_zero, List.set_cons_succ, i64_w, i32_w]
                  rfl
                refine pure_ (i := 9) (N := some 30) (v := ?_) (a' := ?_) #[true, true, true, true, true, true, true, true, true, true, false, false, false, false, false, false, false, false] rfl rfl (any_of HT_.out (by kernel_rfl)) (fun _ _ _ h => h) (Or.inl ⟨by rfl, ?_⟩) ?_ ?_
                rotate_left
                · intro w'
                  go_simp
                  with_reducible rfl
                rotate_left
                · simp only [Act.put, List.setIfInBounds_toArray, List.set_cons_zero, List.set_cons_succ, i64_w, i32_w]
                  rfl
                refine pure_ (i := 10) (N := some 31) (v := ?_) (a' := ?_) #[true, true, true, true, true, true, true, true, true, true, true, false, false, false, false, false, false, false] rfl rfl (any_of HT_.out (by kernel_rfl)) (fun _ _ _ h => h) (Or.inl ⟨by rfl, ?_⟩) ?_ ?_
                rotate_left
                · intro w'
                  go_simp
                  with_reducible rfl
                rotate_left
                · simp only [Act.put, List.setIfInBounds_toArray, List.set_cons_zero, List.set_cons_succ, i64_w, i32_w]
                  rfl
                refine pure_ (i := 12) (N := some 33) (v := ?_) (a' := ?_) #[true, true, true, true, true, true, true, true, true, true, true, false, true, false, false, false, false, false] rfl rfl (any_of HT_.out (by kernel_rfl)) (fun _ _ _ h => h) (Or.inl ⟨by rfl, ?_⟩) ?_ ?_
                rotate_left
                · intro w'
                  go_simp
                  with_reducible rfl
                rotate_left
                · simp only [Act.put, List.setIfInBounds_toArray, List.set_cons_zero, List.set_cons_succ, i64_w, i32_w]
                  rfl
                refine pure_ (i := 13) (N := some 34) (v := ?_) (a' := ?_) #[true, true, true, true, true, true, true, true, true, true, true, false, true, true, false, false, false, false] rfl rfl (any_of HT_.out (by kernel_rfl)) (fun _ _ _ h => h) (Or.inl ⟨by rfl, ?_⟩) ?_ ?_
                rotate_left
                · intro w'
                  go_simp
                  with_reducible rfl
                rotate_left
                · simp only [Act.put, List.setIfInBounds_toArray, List.set_cons_zero, List.set_cons_succ, i64_w, i32_w]
                  rfl
                refine take_ (i := 11) (N := some 32) (v := ?_) (a' := ?_) #[true, true, true, true, true, true, true, true, true, true, true, true, true, true, false, false, false, false] rfl rfl (take_ofW HT_.out HW_.out (by kernel_rfl)) (fun _ _ _ h => h) (Or.inl ⟨by rfl, ?_⟩) hHeld ?_ ?_
                rotate_left
                · rintro w' ⟨s0, s1, s2, s3⟩
                  go_simp
                  with_reducible rfl
                rotate_left
                · simp only [Act.put, List.setIfInBounds_toArray, List.set_cons_zero, List.set_cons_succ, i64_w, i32_w]
                  rfl
                refine take_ (i := 14) (N := some 35) (v := ?_) (a' := ?_) #[true, true, true, true, true, true, true, true, true, true, true, true, true, true, true, false, false, false] rfl rfl (take_ofW HT_.out HW_.out (by kernel_rfl)) (fun _ _ _ h => h) (Or.inl ⟨by rfl, ?_⟩) hHeld ?_ ?_
                rotate_left
                · rintro w' ⟨s0, s1, s2, s3⟩
                  go_simp
                  with_reducible rfl
                rotate_left
                · simp only [Act.put, List.setIfInBounds_toArray, List.set_cons_zero, List.set_cons_succ, i64_w, i32_w]
                  rfl
                refine pure_ (i := 15) (N := some 36) (v := ?_) (a' := ?_) #[true, true, true, true, true, true, true, true, true, true, true, true, true, true, true, true, false, false] rfl rfl (any_of HT_.out (by kernel_rfl)) (fun _ _ _ h => h) (Or.inl ⟨by rfl, ?_⟩) ?_ ?_
                rotate_left
                · intro w'
                  go_simp
                  with_reducible rfl
                rotate_left
                · simp only [Act.put, List.setIfInBounds_toArray, List.set_cons_zero, List.set_cons_succ, i64_w, i32_w]
                  rfl
                refine pure_ (i := 16) (N := some 37) (v := ?_) (a' := ?_) #[true, true, true, true, true, true, true, true, true, true, true, true, true, true, true, true, true, false] rfl rfl (any_of HT_.out (by kernel_rfl)) (fun _ _ _ h => h) (Or.inl ⟨by rfl, ?_⟩) ?_ ?_
                rotate_left
                · intro w'
                  go_simp
                  with_reducible rfl
                rotate_left
                · simp only [Act.put, List.setIfInBounds_toArray, List.set_cons_zero, List.set_cons_succ, i64_w, i32_w]
                  rfl
                refine pure_ (i := 17) (N := some 38) (v := ?_) (a' := ?_) #[true, true, true, true, true, true, true, true, true, true, true, true, true, true, true, true, true, true] rfl rfl (any_of HT_.out (by kernel_rfl)) (fun _ _ _ h => h) (Or.inl ⟨by rfl, ?_⟩) ?_ ?_
                rotate_left
                · intro w'
                  go_simp
                  with_reducible rfl
                rotate_left
                · simp only [Act.put, List.setIfInBounds_toArray, List.set_cons_zero, List.set_cons_succ, i64_w, i32_w]
                  rfl
                refine done_ (done_of HT_.out (by kernel_rfl)) ?_
                try go_wp2
                go_meet
                case rel => exact ⟨_, (decide ((wrap64 ((rd t245 3) - (rd t245 2))) ≥ 40)), (by first | rfl | (simp; done) | (simp [*]; done)), H', ⟨by first | omega | exact Nat.le_refl _⟩, ⟨by (with_reducible repeat (first | apply Kd.R_alloc | apply Kd.R_drewN | apply Kd.R_drew)); exact HO247.out⟩, ⟨by (with_reducible repeat (first | apply Kd.R_alloc | apply Kd.R_drewN | apply Kd.R_drew)); exact HO251.out⟩, ⟨by (with_reducible repeat (first | refine blk_drewN ?_ _ | refine blk_drew ?_ | refine blk_alloc ?_ _)); exact BK243.out⟩, ⟨by repeat (first | exact HMG.out | apply XMapP.IsMapP.drewN | apply XMapP.IsMapP.drew)⟩, ⟨by repeat (first | (with_reducible first | exact HB.out | apply below_alloc | apply pw_below_drewN | apply below_drew1 | refine below_set ?_ GE243.out) | exact HB.out)⟩⟩
              · rw [if_neg c22] at H
                exact absurd H (by simp)
            · rw [if_neg c21] at H
              exact absurd H (by simp)
        · rw [if_neg c17] at H
          exact absurd H (by simp)
      · rw [if_neg c16] at H
        exact absurd H (by simp)
    case rest =>
      clear HC6
      try clear c1
      try clear c2
      try clear p2
      try clear q2
      try clear hx2
      try clear qi2
      try clear c3
      try clear c4
      try clear p6
      try clear c16
      try clear c16b0
      try clear c16b1
      try clear c17
      try clear c17b0
      try clear c17b1
      try clear c18
      try clear c18b0
      try clear c21
      try clear c21b0
      try clear c21b1
      try clear c22
      try clear c22b0
      try clear c22b1
      try clear hx252_0
      try clear hx253_0
      try clear hx254_0
      try clear hx255_0
      try clear p252
      try clear p253
      try clear p254
      try clear p255
      try clear q252
      try clear q253
      try clear q254
      try clear q255
      obtain ⟨kq, x38_5, rfl, HA, HJ5, HO_4, HO_6, BK243, HMG, HB⟩ := hcut
      cases kq with
      | zero => exact absurd HA.out (by simp [impl_PictureOf.j0])
      | succ kj5 =>
        have H := HA.out
        clear HA
        simp only [impl_PictureOf.j0] at H
        by_cases c25 : x38_5 = true
        · subst c25
          have H1 : (some ((⟨#[]⟩ : ByteArray), false)) = some (r1, r2) := by rw [if_pos rfl] at H; exact H
          clear H
          have H := H1
          clear H1
          simp only [Option.some.injEq, Prod.mk.injEq] at H
          obtain ⟨rfl, rfl⟩ := H
          go_wp2
          go_ret2
          exact ⟨by first | rfl | (simp [errW_none, errW_some] <;> rfl) | (simp [*, errW_none, errW_some] <;> rfl), by repeat (first | (with_reducible first | exact HB.out | apply below_alloc | apply pw_below_drewN | apply below_drew1 | refine below_set ?_ GE243.out) | exact HB.out)⟩
        · replace c25 := Bool.eq_false_iff.mpr c25
          subst c25
          have H1 : (if 2 < (t245.length : Int) then (impl_PictureOf.l0 kj5 t245 t248 y249 (rd t245 2)) else (none)) = some (r1, r2) := by rw [if_neg (show ¬ (false = true) by decide)] at H; exact H
          clear H
          have H := H1
          clear H1
          by_cases c26 : 2 < (t245.length : Int)
          · rw [if_pos c26] at H
            have c26b0 : decide (2 < (t245.length : Int)) = true := decide_eq_true c26
            have c26b1 : decide (2 < t245.length) = true := decide_eq_true (by omega)
            clear c26
            have H' := Aside0.mk H
            clear H
            obtain ⟨Ao27, co27, eo27⟩ := Kd.R_slice HO_4.out
            subst eo27
            have p256 : 0 ≤ (2 : Int) := (by omega)
            have q256 : 2 < (t245.length : Int) := of_decide_eq_true (by first | (with_reducible assumption) | assumption)
            obtain ⟨ad256, e256, hx256_0⟩ := Kd.at_int (Kd.R_reads' HO_4.out).2.2 2 p256 q256
            cases e256
            (try simp only [show (2 : Int).toNat = 2 from rfl, Nat.reduceMul, Nat.reduceEqDiff, Go.Addr.add, ↓reduceIte] at hx256_0)
            have qi256 : (2 < t245.length) = True := eq_true (by omega)
            (try rw [show ((2 : Int)).toNat = 2 from rfl] at hx256_0)
            replace p256 := eq_true p256
            replace q256 := eq_true q256
            go_wp2
            go_loopg [6, 7] kj5 (fun kq v6 v7 w' => ∃ (x6_2 : List ByteArray) (x7_2 : Int), v7 = .int .i64 x7_2 ∧ Aside0 (impl_PictureOf.l0 kq t245 t248 x6_2 x7_2 = some (r1, r2)) ∧ Aside0 (kq ≤ kj5) ∧ Aside0 (Kd.R (Kd.int .i64) 3 w' w.heap.size (fun _ => True) (.slice (some ad256) t245.length co27) t245) ∧ Aside0 (Kd.R Kd.string 9 w' w.heap.size (fun _ => True) v6 x6_2) ∧ Aside0 (w'.heap[gb243]? = some (.cells #[.string a0_0, (.slice A0_1 l0_1.length c0_1), .int .i64 a0_2, .int .i64 a0_3, .int .i64 a0_4] 28 (0, 0))) ∧ Aside0 (XMapP.IsMapP Tryd.prog 62 3 w' gM l0_1.length t248) ∧ Aside0 (Below w.heap.size w w'))
            case atStart => exact ⟨(y249), (rd t245 2), (by first | rfl | (simp; done) | (simp [*]; done)), H', ⟨Nat.le_refl _⟩, ⟨by (with_reducible repeat (first | apply Kd.R_alloc | apply Kd.R_drewN | apply Kd.R_drew)); exact HO_4.out⟩, ⟨by (with_reducible repeat (first | apply Kd.R_alloc | apply Kd.R_drewN | apply Kd.R_drew)); exact HO_6.out⟩, ⟨by (with_reducible repeat (first | refine blk_drewN ?_ _ | refine blk_drew ?_ | refine blk_alloc ?_ _)); exact BK243.out⟩, ⟨by repeat (first | exact HMG.out | apply XMapP.IsMapP.drewN | apply XMapP.IsMapP.drew)⟩, ⟨by repeat (first | (with_reducible first | exact HB.out | apply below_alloc | apply pw_below_drewN | apply below_drew1 | refine below_set ?_ GE243.out) | exact HB.out)⟩⟩
            case round =>
              clear H'
              try clear c1
              try clear c2
              try clear p2
              try clear q2
              try clear hx2
              try clear qi2
              try clear c3
              try clear c4
              try clear p6
              try clear c16
              try clear c16b0
              try clear c16b1
              try clear c17
              try clear c17b0
              try clear c17b1
              try clear c18
              try clear c18b0
              try clear c21
              try clear c21b0
              try clear c21b1
              try clear c22
              try clear c22b0
              try clear c22b1
              try clear c25
              try clear p25
              try clear q25
              try clear hx25
              try clear qi25
              try clear c26
              try clear c26b0
              try clear c26b1
              try clear hx252_0
              try clear hx253_0
              try clear hx254_0
              try clear hx255_0
              try clear hx256_0
              try clear p2
              try clear p252
              try clear p253
              try clear p254
              try clear p255
              try clear p256
              try clear p6
              try clear q2
              try clear q252
              try clear q253
              try clear q254
              try clear q255
              try clear q256
              obtain ⟨x6_2, x7_2, rfl, HA, HK2, HO_4, HO_6, BK243, HMG, HB⟩ := hrel
              cases gk with
              | zero => exact absurd HA.out (by simp [impl_PictureOf.l0])
              | succ k2 =>
                have H := HA.out
                clear HA
                simp only [impl_PictureOf.l0] at H
                by_cases c28 : 3 < (t245.length : Int)
                · rw [if_pos c28] at H
                  have c28b0 : decide (3 < (t245.length : Int)) = true := decide_eq_true c28
                  have c28b1 : decide (3 < t245.length) = true := decide_eq_true (by omega)
                  clear c28
                  by_cases c29 : x7_2 ≤ (rd t245 3)
                  · rw [if_pos c29] at H
                    have c29b0 : decide (x7_2 ≤ (rd t245 3)) = true := decide_eq_true c29
                    clear c29
                    obtain ⟨y259, hy259⟩ : ∃ y_ : List Int, y_ = (([] : List Int)) := ⟨_, rfl⟩
                    replace H : (if 0 < (t245.length : Int) then (impl_PictureOf.l1 k2 t245 t248 x6_2 x7_2 y259 (rd t245 0)) else (none)) = some (r1, r2) := by first | (rw [hy259]; with_reducible exact H) | (have H2_ := (Option.bind_some _ _).symm.trans H; rw [hy259]; with_reducible exact H2_) | (have H2_ := (Option.bind_some _ _).symm.trans H; with_reducible exact H2_) | with_reducible exact H | (rw [hy259]; exact H) | exact H
                    have Ny259 := Aside0.mk hy259
                    clear hy259
                    by_cases c30 : 0 < (t245.length : Int)
                    · rw [if_pos c30] at H
                      have c30b0 : decide (0 < (t245.length : Int)) = true := decide_eq_true c30
                      have c30b1 : decide (0 < t245.length) = true := decide_eq_true (by omega)
                      clear c30
                      have H' := Aside0.mk H
                      clear H
                      have p257 : 0 ≤ (3 : Int) := (by omega)
                      have q257 : 3 < (t245.length : Int) := of_decide_eq_true (by first | (with_reducible assumption) | assumption)
                      obtain ⟨ad257, e257, hx257_0⟩ := Kd.at_int (Kd.R_reads' HO_4.out).2.2 3 p257 q257
                      obtain rfl : ad256 = ad257 := (by injection e257)
                      (try simp only [show (3 : Int).toNat = 3 from rfl, Nat.reduceMul, Nat.reduceEqDiff, Go.Addr.add, ↓reduceIte] at hx257_0)
                      have qi257 : (3 < t245.length) = True := eq_true (by omega)
                      (try rw [show ((3 : Int)).toNat = 3 from rfl] at hx257_0)
                      replace p257 := eq_true p257
                      replace q257 := eq_true q257
                      go_wp2_with (first | ((with_reducible refine gate_dst (N := 49) rfl ?_); refine Kd.R_lit (Kd.int .u8) _ 5 ?hg (N := 49) ?hd (xs := ([] : List Int)) (inner := []) (ok := fun _ => True) (okp := fun _ => True) ?hr ?hp (fun _ hk => hk) trivial (Below.refl _ _) (Nat.le_refl _) (by simp) ?_; (case hd => rfl); (case hg => rfl); (case hr => first | (go_simp; done) | (go_simp; rfl)); (case hp => exact (Reps.none _ _)); intro v260 w31 ho32 hb hg_ hnew_; clear hg_ hnew_; (first | rw [← Ny259.out] at ho32 | (simp only [Int.reduceToNat] at ho32; rw [← Ny259.out] at ho32)); have nG_ := Aside0.mk (XMapP.IsMapP.below HMG.out hb); clear HMG; have HMG := nG_; clear nG_; have n0_ := Aside0.mk (Kd.R_below (by (with_reducible repeat (first | apply Kd.R_alloc | apply Kd.R_drewN | apply Kd.R_drew)); exact HO_4.out) hb); have n1_ := Aside0.mk (Kd.R_below (by (with_reducible repeat (first | apply Kd.R_alloc | apply Kd.R_drewN | apply Kd.R_drew)); exact HO_6.out) hb); have n2_ := Aside0.mk (Kd.R_lower ho32 (below_size (XSq.bB HB))); have n3_ := Aside0.mk (blk_below (g := gb243) (o := .cells #[.string a0_0, .slice A0_1 l0_1.length c0_1, .int .i64 a0_2, .int .i64 a0_3, .int .i64 a0_4] 28 (0, 0)) (XSq.bq BK243) hb); have n4_ := Aside0.mk (below_step (XSq.bB HB) hb); clear HO_4; clear HO_6; clear BK243; clear HB; have HO_4 := n0_; have HO_6 := n1_; have HO261 := n2_; have BK243 := n3_; have HB := n4_; clear n0_ n1_ n2_ n3_ n4_; clear hb ho32; have p262 : 0 ≤ (0 : Int) := (by omega); have q262 : 0 < (t245.length : Int) := of_decide_eq_true (by first | (with_reducible assumption) | assumption); obtain ⟨ad262, e262, hx262_0⟩ := Kd.at_int (Kd.R_reads' HO_4.out).2.2 0 p262 q262; obtain rfl : ad256 = ad262 := (by injection e262); have qi262 : (0 < t245.length) = True := eq_true (by omega); (try rw [show ((0 : Int)).toNat = 0 from rfl] at hx262_0); (try rw [Addr.add_zero'] at hx262_0); replace p262 := eq_true p262; replace q262 := eq_true q262))
                      go_loopg [8, 9] k2 (fun kq v8 v9 w' => ∃ (x8_3 : List Int) (x9_3 : Int), v9 = .int .i64 x9_3 ∧ Aside0 (impl_PictureOf.l1 kq t245 t248 x6_2 x7_2 x8_3 x9_3 = some (r1, r2)) ∧ Aside0 (kq ≤ k2) ∧ Aside0 (Kd.R (Kd.int .i64) 3 w' w.heap.size (fun _ => True) (.slice (some ad256) t245.length co27) t245) ∧ Aside0 (Kd.R Kd.string 9 w' w.heap.size (fun _ => True) u6 x6_2) ∧ Aside0 (Kd.R (Kd.int .u8) 5 w' w.heap.size (fun _ => True) v8 x8_3) ∧ Aside0 (w'.heap[gb243]? = some (.cells #[.string a0_0, (.slice A0_1 l0_1.length c0_1), .int .i64 a0_2, .int .i64 a0_3, .int .i64 a0_4] 28 (0, 0))) ∧ Aside0 (XMapP.IsMapP Tryd.prog 62 3 w' gM l0_1.length t248) ∧ Aside0 (Below w.heap.size w w'))
                      case atStart => exact ⟨(y259), (rd t245 0), (by first | rfl | (simp; done) | (simp [*]; done)), H', ⟨Nat.le_refl _⟩, ⟨by (with_reducible repeat (first | apply Kd.R_alloc | apply Kd.R_drewN | apply Kd.R_drew)); exact HO_4.out⟩, ⟨by (with_reducible repeat (first | apply Kd.R_alloc | apply Kd.R_drewN | apply Kd.R_drew)); exact HO_6.out⟩, ⟨by (with_reducible repeat (first | apply Kd.R_alloc | apply Kd.R_drewN | apply Kd.R_drew)); exact HO261.out⟩, ⟨by (with_reducible repeat (first | refine blk_drewN ?_ _ | refine blk_drew ?_ | refine blk_alloc ?_ _)); exact BK243.out⟩, ⟨by repeat (first | exact HMG.out | apply XMapP.IsMapP.drewN | apply XMapP.IsMapP.drew)⟩, ⟨by repeat (first | (with_reducible first | exact HB.out | apply below_alloc | apply pw_below_drewN | apply below_drew1 | refine below_set ?_ GE243.out) | exact HB.out)⟩⟩
                      case round =>
                        clear H'
                        try clear c1
                        try clear c2
                        try clear p2
                        try clear q2
                        try clear hx2
                        try clear qi2
                        try clear c3
                        try clear c4
                        try clear p6
                        try clear c16
                        try clear c16b0
                        try clear c16b1
                        try clear c17
                        try clear c17b0
                        try clear c17b1
                        try clear c18
                        try clear c18b0
                        try clear c21
                        try clear c21b0
                        try clear c21b1
                        try clear c22
                        try clear c22b0
                        try clear c22b1
                        try clear c25
                        try clear p25
                        try clear q25
                        try clear hx25
                        try clear qi25
                        try clear c26
                        try clear c26b0
                        try clear c26b1
                        try clear p26
                        try clear q26
                        try clear hx26
                        try clear qi26
                        try clear c28
                        try clear c28b0
                        try clear c28b1
                        try clear c29
                        try clear c29b0
                        try clear c30
                        try clear c30b0
                        try clear c30b1
                        try clear hx252_0
                        try clear hx253_0
                        try clear hx254_0
                        try clear hx255_0
                        try clear hx256_0
                        try clear hx257_0
                        try clear hx262_0
                        try clear p2
                        try clear p25
                        try clear p252
                        try clear p253
                        try clear p254
                        try clear p255
                        try clear p256
                        try clear p257
                        try clear p262
                        try clear p6
                        try clear q2
                        try clear q25
                        try clear q252
                        try clear q253
                        try clear q254
                        try clear q255
                        try clear q256
                        try clear q257
                        try clear q262
                        obtain ⟨x8_3, x9_3, rfl, HA, HK3, HO_4, HO_6, HO_8, BK243, HMG, HB⟩ := hrel
                        cases gk with
                        | zero => exact absurd HA.out (by simp [impl_PictureOf.l1])
                        | succ k3 =>
                          have H := HA.out
                          clear HA
                          simp only [impl_PictureOf.l1] at H
                          by_cases c33 : 1 < (t245.length : Int)
                          · rw [if_pos c33] at H
                            have c33b0 : decide (1 < (t245.length : Int)) = true := decide_eq_true c33
                            have c33b1 : decide (1 < t245.length) = true := decide_eq_true (by omega)
                            clear c33
                            by_cases c34 : x9_3 ≤ (rd t245 1)
                            · rw [if_pos c34] at H
                              have c34b0 : decide (x9_3 ≤ (rd t245 1)) = true := decide_eq_true c34
                              clear c34
                              replace H := Option.bind_eq_some_iff.mp H
                              obtain ⟨t264, A350, H⟩ := H
                              replace H : (if x8_3.length < 140737488355328 then (impl_PictureOf.l1 k3 t245 t248 x6_2 x7_2 (x8_3 ++ [(wrap64 (48 + t264)) % 256]) (wrap64 (x9_3 + 1))) else (none)) = some (r1, r2) := H
                              have A35 := Aside0.mk A350
                              clear A350
                              by_cases c36 : x8_3.length < 140737488355328
                              · rw [if_pos c36] at H
                                have LMc36 := Aside0.mk c36
                                clear c36
                                obtain ⟨y265, hy265⟩ : ∃ y_ : List Int, y_ = (x8_3 ++ [(wrap64 (48 + t264)) % 256]) := ⟨_, rfl⟩
                                replace H : (impl_PictureOf.l1 k3 t245 t248 x6_2 x7_2 y265 (wrap64 (x9_3 + 1))) = some (r1, r2) := by first | (rw [hy265]; with_reducible exact H) | (have H2_ := (Option.bind_some _ _).symm.trans H; rw [hy265]; with_reducible exact H2_) | (have H2_ := (Option.bind_some _ _).symm.trans H; with_reducible exact H2_) | with_reducible exact H | (rw [hy265]; exact H) | exact H
                                have Ny265 := Aside0.mk hy265
                                clear hy265
                                have H' := Aside0.mk H
                                clear H
                                have p263 : 0 ≤ (1 : Int) := (by omega)
                                have q263 : 1 < (t245.length : Int) := of_decide_eq_true (by first | (with_reducible assumption) | assumption)
                                obtain ⟨ad263, e263, hx263_0⟩ := Kd.at_int (Kd.R_reads' HO_4.out).2.2 1 p263 q263
                                obtain rfl : ad256 = ad263 := (by injection e263)
                                (try simp only [show (1 : Int).toNat = 1 from rfl, Nat.reduceMul, Nat.reduceEqDiff, Go.Addr.add, ↓reduceIte] at hx263_0)
                                have qi263 : (1 < t245.length) = True := eq_true (by omega)
                                (try rw [show ((1 : Int)).toNat = 1 from rfl] at hx263_0)
                                replace p263 := eq_true p263
                                replace q263 := eq_true q263
                                go_wp2_with (first | (at_lookup; refine XMapP.look_event (by repeat (first | exact HMG.out | apply XMapP.IsMapP.drewN | apply XMapP.IsMapP.drew)) (impl_look.eq A35.out).1 (impl_look.eq A35.out).2.1 impl_Plain_going.keyP impl_Plain_going.lawP Tryd.underlying58 (impl_Plain_going.zb _) rfl _ _ rfl rfl rfl ?_; rw [(impl_look.eq A35.out).2.2]) | ((with_reducible refine gate_builtin (b := .append) (xs := #[.tmp 60, .tmp 68]) rfl ?_); at_builtin; refine Kd.R_append (Kd.int .u8) (w0 := w) w.heap.size rfl (.tmp 60) (.tmp 68) 68 5 (.int .u8 0) 1 rfl Tryd.underlying68 info5 rfl (by decide) (by omega) u8 x8_3 ((wrap64 (48 + t264)) % 256) [.int .u8 ((wrap64 (48 + t264)) % 256)] (fun _ => True) (fun _ => False) rfl rfl ?aP (fun _ hk => hk.elim) ?aF ?aO ?aB ?aS ?aL ?_; (case aP => exact rfl); (case aB => exact (XSq.bB HB)); (case aF => exact (fun _ _ => trivial)); (case aO => exact (by (with_reducible repeat (first | apply Kd.R_alloc | apply Kd.R_drewN | apply Kd.R_drew)); exact HO_8.out)); (case aS => exact (below_size (XSq.bB HB))); (case aL => have := LMc36.out; omega); intro v266 w38 ho hb hg hat; rw [← Ny265.out] at ho; have nG_ := Aside0.mk (XMapP.IsMapP.kept HMG.out hg (XMapP.far HMG.out (Kd.R_typed (by (with_reducible repeat (first | apply Kd.R_alloc | apply Kd.R_drewN | apply Kd.R_drew)); exact HO_8.out)))); clear HMG; have HMG := nG_; clear nG_; have n0_ := Aside0.mk (Kd.R_over' (by (with_reducible repeat (first | apply Kd.R_alloc | apply Kd.R_drewN | apply Kd.R_drew)); exact HO_4.out) (Kd.R_typed (by (with_reducible repeat (first | apply Kd.R_alloc | apply Kd.R_drewN | apply Kd.R_drew)); exact HO_8.out)) (by decide) hg); have n1_ := Aside0.mk (Kd.R_over' (by (with_reducible repeat (first | apply Kd.R_alloc | apply Kd.R_drewN | apply Kd.R_drew)); exact HO_6.out) (Kd.R_typed (by (with_reducible repeat (first | apply Kd.R_alloc | apply Kd.R_drewN | apply Kd.R_drew)); exact HO_8.out)) (by decide) hg); have n2_ := Aside0.mk (blk_grown (g := gb243) (o := .cells #[.string a0_0, .slice A0_1 l0_1.length c0_1, .int .i64 a0_2, .int .i64 a0_3, .int .i64 a0_4] 28 (0, 0)) (XSq.bq BK243) hg (Kd.R_ne HO_8.out BK243.out (by decide))); have n3_ := Aside0.mk (hb); have n4_ := Aside0.mk (ho); clear HO_4; clear HO_6; clear BK243; clear HB; clear HO_8; have HO_4 := n0_; have HO_6 := n1_; have BK243 := n2_; have HB := n3_; have HO267 := n4_; clear n0_ n1_ n2_ n3_ n4_; clear ho hb hg hat))
                                go_roundg k3
                                case measure => have := HJ5.out; have := HK2.out; have := HK3.out; omega
                                case rel => exact ⟨(y265), (wrap64 (x9_3 + 1)), (by first | rfl | (simp; done) | (simp [*]; done)), H', ⟨by have := HJ5.out; have := HK2.out; have := HK3.out; omega⟩, ⟨by (with_reducible repeat (first | apply Kd.R_alloc | apply Kd.R_drewN | apply Kd.R_drew)); exact HO_4.out⟩, ⟨by (with_reducible repeat (first | apply Kd.R_alloc | apply Kd.R_drewN | apply Kd.R_drew)); exact HO_6.out⟩, ⟨by (with_reducible repeat (first | apply Kd.R_alloc | apply Kd.R_drewN | apply Kd.R_drew)); exact HO267.out⟩, ⟨by (with_reducible repeat (first | refine blk_drewN ?_ _ | refine blk_drew ?_ | refine blk_alloc ?_ _)); exact BK243.out⟩, ⟨by repeat (first | exact HMG.out | apply XMapP.IsMapP.drewN | apply XMapP.IsMapP.drew)⟩, ⟨by repeat (first | (with_reducible first | exact HB.out | apply below_alloc | apply pw_below_drewN | apply below_drew1 | refine below_set ?_ GE243.out) | exact HB.out)⟩⟩
                              · rw [if_neg c36] at H
                                exact absurd H (by simp)
                            · rw [if_neg c34] at H
                              have c34b0 : decide (x9_3 ≤ (rd t245 1)) = false := decide_eq_false c34
                              clear c34
                              by_cases c39 : x6_2.length < 8796093022208
                              · rw [if_pos c39] at H
                                have LMc39 := Aside0.mk c39
                                clear c39
                                obtain ⟨y268, hy268⟩ : ∃ y_ : List ByteArray, y_ = (x6_2 ++ [strOfNums x8_3]) := ⟨_, rfl⟩
                                replace H : (impl_PictureOf.l0 k3 t245 t248 y268 (wrap64 (x7_2 + 1))) = some (r1, r2) := by first | (rw [hy268]; with_reducible exact H) | (have H2_ := (Option.bind_some _ _).symm.trans H; rw [hy268]; with_reducible exact H2_) | (have H2_ := (Option.bind_some _ _).symm.trans H; with_reducible exact H2_) | with_reducible exact H | (rw [hy268]; exact H) | exact H
                                have Ny268 := Aside0.mk hy268
                                clear hy268
                                have H' := Aside0.mk H
                                clear H
                                have p263 : 0 ≤ (1 : Int) := (by omega)
                                have q263 : 1 < (t245.length : Int) := of_decide_eq_true (by first | (with_reducible assumption) | assumption)
                                obtain ⟨ad263, e263, hx263_0⟩ := Kd.at_int (Kd.R_reads' HO_4.out).2.2 1 p263 q263
                                obtain rfl : ad256 = ad263 := (by injection e263)
                                (try simp only [show (1 : Int).toNat = 1 from rfl, Nat.reduceMul, Nat.reduceEqDiff, Go.Addr.add, ↓reduceIte] at hx263_0)
                                have qi263 : (1 < t245.length) = True := eq_true (by omega)
                                (try rw [show ((1 : Int)).toNat = 1 from rfl] at hx263_0)
                                replace p263 := eq_true p263
                                replace q263 := eq_true q263
                                have hcv40 := own_string (P := Tryd.prog) Tryd.underlying68 Tryd.underlying5 Tryd.underlying9 (Kd.own_of_R HO_8.out)
                                go_wp2_with (first | ((with_reducible refine gate_builtin (b := .append) (xs := #[.tmp 70, .tmp 73]) rfl ?_); at_builtin; refine Kd.R_append Kd.string (w0 := w) w.heap.size rfl (.tmp 70) (.tmp 73) 67 9 (.string ⟨#[]⟩) 16 rfl Tryd.underlying67 info9 rfl (by decide) (by omega) u6 x6_2 (strOfNums x8_3) [.string (strOfNums x8_3)] (fun _ => True) (fun _ => False) rfl rfl ?aP (fun _ hk => hk.elim) ?aF ?aO ?aB ?aS ?aL ?_; (case aP => exact rfl); (case aB => exact (XSq.bB HB)); (case aF => exact (fun _ _ => trivial)); (case aO => exact (by (with_reducible repeat (first | apply Kd.R_alloc | apply Kd.R_drewN | apply Kd.R_drew)); exact HO_6.out)); (case aS => exact (below_size (XSq.bB HB))); (case aL => have := LMc39.out; omega); intro v269 w41 ho hb hg hat; rw [← Ny268.out] at ho; have nG_ := Aside0.mk (XMapP.IsMapP.kept HMG.out hg (XMapP.far HMG.out (Kd.R_typed (by (with_reducible repeat (first | apply Kd.R_alloc | apply Kd.R_drewN | apply Kd.R_drew)); exact HO_6.out)))); clear HMG; have HMG := nG_; clear nG_; have n0_ := Aside0.mk (Kd.R_over' (by (with_reducible repeat (first | apply Kd.R_alloc | apply Kd.R_drewN | apply Kd.R_drew)); exact HO_4.out) (Kd.R_typed (by (with_reducible repeat (first | apply Kd.R_alloc | apply Kd.R_drewN | apply Kd.R_drew)); exact HO_6.out)) (by decide) hg); have n1_ := Aside0.mk (Kd.R_over' (by (with_reducible repeat (first | apply Kd.R_alloc | apply Kd.R_drewN | apply Kd.R_drew)); exact HO_8.out) (Kd.R_typed (by (with_reducible repeat (first | apply Kd.R_alloc | apply Kd.R_drewN | apply Kd.R_drew)); exact HO_6.out)) (by decide) hg); have n2_ := Aside0.mk (blk_grown (g := gb243) (o := .cells #[.string a0_0, .slice A0_1 l0_1.length c0_1, .int .i64 a0_2, .int .i64 a0_3, .int .i64 a0_4] 28 (0, 0)) (XSq.bq BK243) hg (Kd.R_ne HO_6.out BK243.out (by decide))); have n3_ := Aside0.mk (hb); have n4_ := Aside0.mk (ho); clear HO_4; clear HO_8; clear BK243; clear HB; clear HO_6; have HO_4 := n0_; have HO_8 := n1_; have BK243 := n2_; have HB := n3_; have HO270 := n4_; clear n0_ n1_ n2_ n3_ n4_; clear ho hb hg hat))
                                go_roundg k3
                                case measure => have := HJ5.out; have := HK2.out; have := HK3.out; omega
                                case rel => exact ⟨(y268), (wrap64 (x7_2 + 1)), (by first | rfl | (simp; done) | (simp [*]; done)), H', ⟨by have := HJ5.out; have := HK2.out; have := HK3.out; omega⟩, ⟨by (with_reducible repeat (first | apply Kd.R_alloc | apply Kd.R_drewN | apply Kd.R_drew)); exact HO_4.out⟩, ⟨by (with_reducible repeat (first | apply Kd.R_alloc | apply Kd.R_drewN | apply Kd.R_drew)); exact HO270.out⟩, ⟨by (with_reducible repeat (first | refine blk_drewN ?_ _ | refine blk_drew ?_ | refine blk_alloc ?_ _)); exact BK243.out⟩, ⟨by repeat (first | exact HMG.out | apply XMapP.IsMapP.drewN | apply XMapP.IsMapP.drew)⟩, ⟨by repeat (first | (with_reducible first | exact HB.out | apply below_alloc | apply pw_below_drewN | apply below_drew1 | refine below_set ?_ GE243.out) | exact HB.out)⟩⟩
                              · rw [if_neg c39] at H
                                exact absurd H (by simp)
                          · rw [if_neg c33] at H
                            exact absurd H (by simp)
                    · rw [if_neg c30] at H
                      exact absurd H (by simp)
                  · rw [if_neg c29] at H
                    have c29b0 : decide (x7_2 ≤ (rd t245 3)) = false := decide_eq_false c29
                    clear c29
                    replace H := Option.bind_eq_some_iff.mp H
                    obtain ⟨t258, A420, H⟩ := H
                    replace H : (some (t258, true)) = some (r1, r2) := H
                    have A42 := Aside0.mk A420
                    clear A420
                    simp only [Option.some.injEq, Prod.mk.injEq] at H
                    obtain ⟨rfl, rfl⟩ := H
                    have p257 : 0 ≤ (3 : Int) := (by omega)
                    have q257 : 3 < (t245.length : Int) := of_decide_eq_true (by first | (with_reducible assumption) | assumption)
                    obtain ⟨ad257, e257, hx257_0⟩ := Kd.at_int (Kd.R_reads' HO_4.out).2.2 3 p257 q257
                    obtain rfl : ad256 = ad257 := (by injection e257)
                    (try simp only [show (3 : Int).toNat = 3 from rfl, Nat.reduceMul, Nat.reduceEqDiff, Go.Addr.add, ↓reduceIte] at hx257_0)
                    have qi257 : (3 < t245.length) = True := eq_true (by omega)
                    (try rw [show ((3 : Int)).toNat = 3 from rfl] at hx257_0)
                    replace p257 := eq_true p257
                    replace q257 := eq_true q257
                    obtain ⟨Ao43, co43, eo43⟩ := Kd.R_slice HO_6.out
                    subst eo43
                    go_wp2_with (first | ((with_reducible refine gate_callee (f := 40) rfl ?_); refine goesL_ (some 76) rfl rfl Tryd.func40 (by kernel_rfl) rfl #[.slice Ao43 x6_2.length co43, .string (⟨#[47]⟩ : ByteArray)] rfl (by (try simp only [List.map_toArray, List.map_cons, List.map_nil]); first | done | rfl | (simp only [List.length_drop, List.length_take]; rfl)) ?_; (with_reducible refine (strings_Join.calls _ _ x6_2 (⟨#[47]⟩ : ByteArray) t258 _ ?side1 ?side2 ?side9 A42.out).mono ?_); (case side9 => exact XJoin.R_spot HO_6.out); (case side1 => repeat (first | exact (Kd.R_reads' HO_6.out).2.2 | (with_reducible refine Kd.C_alloc ?_ _) | (with_reducible refine Kd.C_drewN ?_ _) | (with_reducible refine Kd.C_drew ?_))); (case side2 => exact (Kd.R_reads' HO_6.out).2.1); rintro e w44 ⟨rfl, hb⟩; refine ⟨_, rfl, ?_⟩; have nG_ := Aside0.mk (XMapP.IsMapP.below HMG.out hb); clear HMG; have HMG := nG_; clear nG_; have n0_ := Aside0.mk (Kd.R_below (by (with_reducible repeat (first | apply Kd.R_alloc | apply Kd.R_drewN | apply Kd.R_drew)); exact HO_4.out) hb); have n1_ := Aside0.mk (Kd.R_below (by (with_reducible repeat (first | apply Kd.R_alloc | apply Kd.R_drewN | apply Kd.R_drew)); exact HO_6.out) hb); have n2_ := Aside0.mk (blk_below (g := gb243) (o := .cells #[.string a0_0, .slice A0_1 l0_1.length c0_1, .int .i64 a0_2, .int .i64 a0_3, .int .i64 a0_4] 28 (0, 0)) (XSq.bq BK243) hb); have n3_ := Aside0.mk (below_step (XSq.bB HB) hb); clear HO_4; clear HO_6; clear BK243; clear HB; have HO_4 := n0_; have HO_6 := n1_; have BK243 := n2_; have HB := n3_; clear n0_ n1_ n2_ n3_; (try clear hb); (try clear hb2); (try clear hk); (try clear hi)))
                    go_ret2
                    exact ⟨by first | rfl | (simp [errW_none, errW_some] <;> rfl) | (simp [*, errW_none, errW_some] <;> rfl), by repeat (first | (with_reducible first | exact HB.out | apply below_alloc | apply pw_below_drewN | apply below_drew1 | refine below_set ?_ GE243.out) | exact HB.out)⟩
                · rw [if_neg c28] at H
                  exact absurd H (by simp)
          · rw [if_neg c26] at H
            exact absurd H (by simp)
  · replace c3 := Bool.eq_false_iff.mpr c3
    subst c3
    have H1 : (some ((⟨#[]⟩ : ByteArray), false)) = some (r1, r2) := by rw [if_neg (show ¬ (false = true) by decide)] at H; exact H
    clear H
    have H := H1
    clear H1
    simp only [Option.some.injEq, Prod.mk.injEq] at H
    obtain ⟨rfl, rfl⟩ := H
    go_enter Tryd.func17, Tryd.ntmps17
    go_wp2_with (first | ((with_reducible refine gate_dst (N := 1) rfl ?_); refine box_event ?hg (N := 1) ?hd (cs := #[.string a0_0, .slice A0_1 l0_1.length c0_1, .int .i64 a0_2, .int .i64 a0_3, .int .i64 a0_4]) (t := 28) ?hr ?_; (case hd => rfl); (case hg => rfl); (case hr => first | (go_simp; done) | (go_simp; rfl)); intro gb243 hg w45 hbox hb; have n0_ := Aside0.mk (below_step (XSq.bB HB) hb); have n1_ := Aside0.mk (hbox); have n2_ := Aside0.mk ((by rw [hg]; exact (below_size (XSq.bB HB)) : w.heap.size ≤ gb243)); have n3_ := Aside0.mk ((by rw [hg]; exact (below_size (XSq.bB HB)) : w.heap.size ≤ gb243)); clear HB; have HB := n0_; have BK243 := n1_; have GW243 := n2_; have GE243 := n3_; clear n0_ n1_ n2_ n3_; clear hb hbox hg; have hcz46_0 : w45.cell? ⟨gb243, 0, none⟩ = some (.string a0_0) := (blk_cell BK243.out 0).trans rfl; have hcz46_1 : w45.cell? ⟨gb243, 1, none⟩ = some (.slice A0_1 l0_1.length c0_1) := (blk_cell BK243.out 1).trans rfl; have hcz46_2 : w45.cell? ⟨gb243, 2, none⟩ = some (.int .i64 a0_2) := (blk_cell BK243.out 2).trans rfl; have hcz46_3 : w45.cell? ⟨gb243, 3, none⟩ = some (.int .i64 a0_3) := (blk_cell BK243.out 3).trans rfl; have hcz46_4 : w45.cell? ⟨gb243, 4, none⟩ = some (.int .i64 a0_4) := (blk_cell BK243.out 4).trans rfl; have hfz46_0 := blk_frozen BK243.out 0; have hfz46_1 := blk_frozen BK243.out 1; have hfz46_2 := blk_frozen BK243.out 2; have hfz46_3 := blk_frozen BK243.out 3; have hfz46_4 := blk_frozen BK243.out 4) | ((with_reducible refine gate_callee (f := 34) rfl ?_); refine goesL_ (some 11) rfl rfl Tryd.func34 (by kernel_rfl) rfl #[.agg #[.string a0_0, .slice A0_1 l0_1.length c0_1, .int .i64 a0_2, .int .i64 a0_3, .int .i64 a0_4]] rfl (by (try simp only [List.map_toArray, List.map_cons, List.map_nil]); first | done | rfl | (simp only [List.length_drop, List.length_take]; rfl)) ?_; (with_reducible refine (impl_IsPlain.calls k a0_0 _ _ l0_1 a0_2 a0_3 a0_4 false _ ?side1 ?side2 A2.out).mono ?_); (case side1 => repeat (first | exact (Kd.C_below HR0_1.out HB.out) | (with_reducible refine Kd.C_alloc ?_ _) | (with_reducible refine Kd.C_drewN ?_ _) | (with_reducible refine Kd.C_drew ?_))); (case side2 => exact HC0_1.out); rintro e w47 ⟨rfl, hb⟩; refine ⟨_, rfl, ?_⟩; have n0_ := Aside0.mk (blk_below (g := gb243) (o := .cells #[.string a0_0, .slice A0_1 l0_1.length c0_1, .int .i64 a0_2, .int .i64 a0_3, .int .i64 a0_4] 28 (0, 0)) (XSq.bq BK243) hb); have n1_ := Aside0.mk (below_step (XSq.bB HB) hb); clear BK243; clear HB; have BK243 := n0_; have HB := n1_; clear n0_ n1_; (try clear hb); (try clear hb2); (try clear hk); (try clear hi)))
    go_ret2
    exact ⟨by first | rfl | (simp [errW_none, errW_some] <;> rfl) | (simp [*, errW_none, errW_some] <;> rfl), by repeat (first | (with_reducible first | exact HB.out | apply below_alloc | apply pw_below_drewN | apply below_drew1 | refine below_set ?_ GE243.out) | exact HB.out)⟩

end Go.Proofs.YtieedlokpbeebaaDoor.PFnExactPictureOf
