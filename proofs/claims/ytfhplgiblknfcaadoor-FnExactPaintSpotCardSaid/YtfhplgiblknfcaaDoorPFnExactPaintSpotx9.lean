-- Made by wip/tools/xkit.py (a program of this session's) with the kit's printer.
import Derived.Test.YtfhplgiblknfcaaDoorPFnExactPaintSpotx0
import Derived.Test.YtfhplgiblknfcaaDoorPFnExactPaintSpotx1
import Derived.Test.YtfhplgiblknfcaaDoorPFnExactPaintSpotx2
import Derived.Test.YtfhplgiblknfcaaDoorPFnExactPaintSpotx4
import Derived.Test.YtfhplgiblknfcaaDoorPFnExactPaintSpotx8
namespace Go.Proofs.YtfhplgiblknfcaaDoor.PFnExactPaintSpot
open Go.RowKit Go.Proofs.YtfhplgiblknfcaaDoorW.PrintWords Go.Proofs.YtfhplgiblknfcaaDoorW.PrintLast Go.Proofs.YtfhplgiblknfcaaDoorW.PrintMore
attribute [local go_sem] max2_int min2_int max_two min_two max_three min_three max_four min_four   -- for this text's walks alone
set_option linter.unusedVariables false
set_option linter.unusedSimpArgs false

/-! ### laws_FnExactPaintSpot: function 4 -/
mutual
def laws_FnExactPaintSpot.j0 : Nat → Int → Int → Int → Bool → Bool → Bool → ByteArray → List (S62) → Int → Int → Int → ByteArray → List (S60) → Int → Int → Int → ByteArray → List (S60) → Int → Int → Int → ByteArray → List (S60) → Int → Int → Int → Option (Bool)
  | 0, _, _, _, _, _, _, _, _, _, _, _, _, _, _, _, _, _, _, _, _, _, _, _, _, _, _ => none
  | k + 1, x1, x2, x3, x11, x14, x52, x240000, x240001, x240002, x240003, x240004, x257000, x257001, x257002, x257003, x257004, x265000, x265001, x265002, x265003, x265004, x274000, x274001, x274002, x274003, x274004 => if x52 = true then (none) else ((laws_toPlain.f k x240000 x240001 x240002 x240003 x240004).bind fun bt275 => ((laws_eqPlain.f k x265000 x265001 x265002 x265003 x265004 bt275.1 bt275.2.1 bt275.2.2.1 bt275.2.2.2.1 bt275.2.2.2.2).bind fun t282 => (if t282 = true then ((laws_markPlain.f k x265000 x265001 x265002 x265003 x265004 1).bind fun bt283 => (if bt283.1 < 0 then (laws_FnExactPaintSpot.j1 k x1 x2 x3 x11 true x240000 x240001 x240002 x240003 x240004 x257000 x257001 x257002 x257003 x257004 x274000 x274001 x274002 x274003 x274004) else ((laws_eqPlain.f k x274000 x274001 x274002 x274003 x274004 x257000 x257001 x257002 x257003 x257004).bind fun t285 => (if t285 = true then (laws_FnExactPaintSpot.j1 k x1 x2 x3 x11 (x14 != x11) x240000 x240001 x240002 x240003 x240004 x257000 x257001 x257002 x257003 x257004 x274000 x274001 x274002 x274003 x274004) else (laws_FnExactPaintSpot.j1 k x1 x2 x3 x11 true x240000 x240001 x240002 x240003 x240004 x257000 x257001 x257002 x257003 x257004 x274000 x274001 x274002 x274003 x274004))))) else (none))))
def laws_FnExactPaintSpot.j1 : Nat → Int → Int → Int → Bool → Bool → ByteArray → List (S62) → Int → Int → Int → ByteArray → List (S60) → Int → Int → Int → ByteArray → List (S60) → Int → Int → Int → Option (Bool)
  | 0, _, _, _, _, _, _, _, _, _, _, _, _, _, _, _, _, _, _, _, _ => none
  | k + 1, x1, x2, x3, x11, x73, x240000, x240001, x240002, x240003, x240004, x257000, x257001, x257002, x257003, x257004, x274000, x274001, x274002, x274003, x274004 => if x73 = true then (none) else ((laws_markPlain.f k x274000 x274001 x274002 x274003 x274004 1).bind fun bt286 => ((laws_heldPlain.f k x274000 bt286.2 x274002 x274003 x274004 1).bind fun t288 => (if t288 < 0 then (none) else (if t288 = bt286.1 then ((laws_toPlain.f k x240000 x240001 x240002 x240003 x240004).bind fun bt289 => ((impl_PaintSpot.f k bt289.1 bt289.2.1 bt289.2.2.1 bt289.2.2.2.1 bt289.2.2.2.2 x1 x2 x3).bind fun bt296 => ((laws_eqPlain.f k bt296.1 bt296.2.1 bt296.2.2.1 bt296.2.2.2.1 bt296.2.2.2.2.1 x257000 x257001 x257002 x257003 x257004).bind fun t305 => (if t305 = true then (laws_FnExactPaintSpot.j2 k bt286.1 (bt296.2.2.2.2.2 != x11) x274000 bt286.2 x274002 x274003 x274004) else (laws_FnExactPaintSpot.j2 k bt286.1 true x274000 bt286.2 x274002 x274003 x274004))))) else (none)))))
def laws_FnExactPaintSpot.j2 : Nat → Int → Bool → ByteArray → List (S60) → Int → Int → Int → Option (Bool)
  | 0, _, _, _, _, _, _, _ => none
  | k + 1, x16, x102, x274000, x274001, x274002, x274003, x274004 => if x102 = true then (none) else ((laws_heldPlain.f k x274000 x274001 x274002 x274003 x274004 1).bind fun t306 => (if t306 < 0 then (none) else (if t306 = x16 then (some true) else (none))))
end
def laws_FnExactPaintSpot.f (k : Nat) (a0_0 : ByteArray) (l0_1 : List (S62)) (a0_2 : Int) (a0_3 : Int) (a0_4 : Int) (a1 : Int) (a2 : Int) (a3 : Int) : Option (Bool) := (laws_szPlain.f a0_0 l0_1 a0_2 a0_3 a0_4 1048576).bind fun t240 => (if t240 < 0 then (some true) else ((laws_toPlain.f k a0_0 l0_1 a0_2 a0_3 a0_4).bind fun bt241 => ((spec_PaintSpot.f k bt241.1 bt241.2.1 bt241.2.2.1 bt241.2.2.2.1 bt241.2.2.2.2 a1 a2 a3).bind fun bt248 => ((laws_toPlain.f k a0_0 l0_1 a0_2 a0_3 a0_4).bind fun bt257 => ((impl_PaintSpot.f k bt257.1 bt257.2.1 bt257.2.2.1 bt257.2.2.2.1 bt257.2.2.2.2 a1 a2 a3).bind fun bt265 => ((laws_eqPlain.f k bt265.1 bt265.2.1 bt265.2.2.1 bt265.2.2.2.1 bt265.2.2.2.2.1 bt248.1 bt248.2.1 bt248.2.2.1 bt248.2.2.2.1 bt248.2.2.2.2.1).bind fun t274 => (if t274 = true then (laws_FnExactPaintSpot.j0 k a1 a2 a3 bt248.2.2.2.2.2 bt265.2.2.2.2.2 (bt265.2.2.2.2.2 != bt248.2.2.2.2.2) a0_0 l0_1 a0_2 a0_3 a0_4 bt248.1 bt248.2.1 bt248.2.2.1 bt248.2.2.2.1 bt248.2.2.2.2.1 bt257.1 bt257.2.1 bt257.2.2.1 bt257.2.2.2.1 bt257.2.2.2.2 bt265.1 bt265.2.1 bt265.2.2.1 bt265.2.2.2.1 bt265.2.2.2.2.1) else (laws_FnExactPaintSpot.j0 k a1 a2 a3 bt248.2.2.2.2.2 bt265.2.2.2.2.2 true a0_0 l0_1 a0_2 a0_3 a0_4 bt248.1 bt248.2.1 bt248.2.2.1 bt248.2.2.2.1 bt248.2.2.2.2.1 bt257.1 bt257.2.1 bt257.2.2.1 bt257.2.2.2.1 bt257.2.2.2.2 bt265.1 bt265.2.1 bt265.2.2.1 bt265.2.2.2.1 bt265.2.2.2.2.1))))))))
theorem laws_FnExactPaintSpot.mono_l : ∀ k, (∀ y0 y1 y2 y3 y4 y5 y6 y7 y8 y9 y10 y11 y12 y13 y14 y15 y16 y17 y18 y19 y20 y21 y22 y23 y24 y25, LeO (laws_FnExactPaintSpot.j0 k y0 y1 y2 y3 y4 y5 y6 y7 y8 y9 y10 y11 y12 y13 y14 y15 y16 y17 y18 y19 y20 y21 y22 y23 y24 y25) (laws_FnExactPaintSpot.j0 (k + 1) y0 y1 y2 y3 y4 y5 y6 y7 y8 y9 y10 y11 y12 y13 y14 y15 y16 y17 y18 y19 y20 y21 y22 y23 y24 y25)) ∧ (∀ y0 y1 y2 y3 y4 y5 y6 y7 y8 y9 y10 y11 y12 y13 y14 y15 y16 y17 y18 y19, LeO (laws_FnExactPaintSpot.j1 k y0 y1 y2 y3 y4 y5 y6 y7 y8 y9 y10 y11 y12 y13 y14 y15 y16 y17 y18 y19) (laws_FnExactPaintSpot.j1 (k + 1) y0 y1 y2 y3 y4 y5 y6 y7 y8 y9 y10 y11 y12 y13 y14 y15 y16 y17 y18 y19)) ∧ (∀ y0 y1 y2 y3 y4 y5 y6, LeO (laws_FnExactPaintSpot.j2 k y0 y1 y2 y3 y4 y5 y6) (laws_FnExactPaintSpot.j2 (k + 1) y0 y1 y2 y3 y4 y5 y6))
  | 0 => ⟨fun _ _ _ _ _ _ _ _ _ _ _ _ _ _ _ _ _ _ _ _ _ _ _ _ _ _ r h => by simp [laws_FnExactPaintSpot.j0] at h, fun _ _ _ _ _ _ _ _ _ _ _ _ _ _ _ _ _ _ _ _ r h => by simp [laws_FnExactPaintSpot.j1] at h, fun _ _ _ _ _ _ _ r h => by simp [laws_FnExactPaintSpot.j2] at h⟩
  | k + 1 => by
    obtain ⟨ih0, ih1, ih2⟩ := laws_FnExactPaintSpot.mono_l k
    refine ⟨?_, ?_, ?_⟩
    · intro y0 y1 y2 y3 y4 y5 y6 y7 y8 y9 y10 y11 y12 y13 y14 y15 y16 y17 y18 y19 y20 y21 y22 y23 y24 y25
      unfold laws_FnExactPaintSpot.j0
      repeat' first
      | (with_reducible exact ih0 _ _ _ _ _ _ _ _ _ _ _ _ _ _ _ _ _ _ _ _ _ _ _ _ _ _)
      | (with_reducible exact ih1 _ _ _ _ _ _ _ _ _ _ _ _ _ _ _ _ _ _ _ _)
      | (with_reducible exact ih2 _ _ _ _ _ _ _)
      | (with_reducible exact impl_PaintSpot.mono _ _ _ _ _ _ _ _ _)
      | (with_reducible exact laws_eqPlain.mono _ _ _ _ _ _ _ _ _ _ _)
      | (with_reducible exact laws_heldPlain.mono _ _ _ _ _ _ _)
      | (with_reducible exact laws_markPlain.mono _ _ _ _ _ _ _)
      | (with_reducible exact laws_toPlain.mono _ _ _ _ _ _)
      | (with_reducible exact spec_PaintSpot.mono _ _ _ _ _ _ _ _ _)
      | (with_reducible exact LeO.refl _)
      | (with_reducible exact LeO.none _)
      | (with_reducible refine LeO.ite ?_ ?_)
      | (with_reducible refine LeO.bind ?_ (fun _ => ?_))
      | exact ih0 _ _ _ _ _ _ _ _ _ _ _ _ _ _ _ _ _ _ _ _ _ _ _ _ _ _
      | exact ih1 _ _ _ _ _ _ _ _ _ _ _ _ _ _ _ _ _ _ _ _
      | exact ih2 _ _ _ _ _ _ _
      | exact impl_PaintSpot.mono _ _ _ _ _ _ _ _ _
      | exact laws_eqPlain.mono _ _ _ _ _ _ _ _ _ _ _
      | exact laws_heldPlain.mono _ _ _ _ _ _ _
      | exact laws_markPlain.mono _ _ _ _ _ _ _
      | exact laws_toPlain.mono _ _ _ _ _ _
      | exact spec_PaintSpot.mono _ _ _ _ _ _ _ _ _
      | exact LeO.none _
      | refine LeO.ite ?_ ?_
      | refine LeO.bind ?_ (fun _ => ?_)
    · intro y0 y1 y2 y3 y4 y5 y6 y7 y8 y9 y10 y11 y12 y13 y14 y15 y16 y17 y18 y19
      unfold laws_FnExactPaintSpot.j1
      repeat' first
      | (with_reducible exact ih0 _ _ _ _ _ _ _ _ _ _ _ _ _ _ _ _ _ _ _ _ _ _ _ _ _ _)
      | (with_reducible exact ih1 _ _ _ _ _ _ _ _ _ _ _ _ _ _ _ _ _ _ _ _)
      | (with_reducible exact ih2 _ _ _ _ _ _ _)
      | (with_reducible exact impl_PaintSpot.mono _ _ _ _ _ _ _ _ _)
      | (with_reducible exact laws_eqPlain.mono _ _ _ _ _ _ _ _ _ _ _)
      | (with_reducible exact laws_heldPlain.mono _ _ _ _ _ _ _)
      | (with_reducible exact laws_markPlain.mono _ _ _ _ _ _ _)
      | (with_reducible exact laws_toPlain.mono _ _ _ _ _ _)
      | (with_reducible exact spec_PaintSpot.mono _ _ _ _ _ _ _ _ _)
      | (with_reducible exact LeO.refl _)
      | (with_reducible exact LeO.none _)
      | (with_reducible refine LeO.ite ?_ ?_)
      | (with_reducible refine LeO.bind ?_ (fun _ => ?_))
      | exact ih0 _ _ _ _ _ _ _ _ _ _ _ _ _ _ _ _ _ _ _ _ _ _ _ _ _ _
      | exact ih1 _ _ _ _ _ _ _ _ _ _ _ _ _ _ _ _ _ _ _ _
      | exact ih2 _ _ _ _ _ _ _
      | exact impl_PaintSpot.mono _ _ _ _ _ _ _ _ _
      | exact laws_eqPlain.mono _ _ _ _ _ _ _ _ _ _ _
      | exact laws_heldPlain.mono _ _ _ _ _ _ _
      | exact laws_markPlain.mono _ _ _ _ _ _ _
      | exact laws_toPlain.mono _ _ _ _ _ _
      | exact spec_PaintSpot.mono _ _ _ _ _ _ _ _ _
      | exact LeO.none _
      | refine LeO.ite ?_ ?_
      | refine LeO.bind ?_ (fun _ => ?_)
    · intro y0 y1 y2 y3 y4 y5 y6
      unfold laws_FnExactPaintSpot.j2
      repeat' first
      | (with_reducible exact ih0 _ _ _ _ _ _ _ _ _ _ _ _ _ _ _ _ _ _ _ _ _ _ _ _ _ _)
      | (with_reducible exact ih1 _ _ _ _ _ _ _ _ _ _ _ _ _ _ _ _ _ _ _ _)
      | (with_reducible exact ih2 _ _ _ _ _ _ _)
      | (with_reducible exact impl_PaintSpot.mono _ _ _ _ _ _ _ _ _)
      | (with_reducible exact laws_eqPlain.mono _ _ _ _ _ _ _ _ _ _ _)
      | (with_reducible exact laws_heldPlain.mono _ _ _ _ _ _ _)
      | (with_reducible exact laws_markPlain.mono _ _ _ _ _ _ _)
      | (with_reducible exact laws_toPlain.mono _ _ _ _ _ _)
      | (with_reducible exact spec_PaintSpot.mono _ _ _ _ _ _ _ _ _)
      | (with_reducible exact LeO.refl _)
      | (with_reducible exact LeO.none _)
      | (with_reducible refine LeO.ite ?_ ?_)
      | (with_reducible refine LeO.bind ?_ (fun _ => ?_))
      | exact ih0 _ _ _ _ _ _ _ _ _ _ _ _ _ _ _ _ _ _ _ _ _ _ _ _ _ _
      | exact ih1 _ _ _ _ _ _ _ _ _ _ _ _ _ _ _ _ _ _ _ _
      | exact ih2 _ _ _ _ _ _ _
      | exact impl_PaintSpot.mono _ _ _ _ _ _ _ _ _
      | exact laws_eqPlain.mono _ _ _ _ _ _ _ _ _ _ _
      | exact laws_heldPlain.mono _ _ _ _ _ _ _
      | exact laws_markPlain.mono _ _ _ _ _ _ _
      | exact laws_toPlain.mono _ _ _ _ _ _
      | exact spec_PaintSpot.mono _ _ _ _ _ _ _ _ _
      | exact LeO.none _
      | refine LeO.ite ?_ ?_
      | refine LeO.bind ?_ (fun _ => ?_)
theorem laws_FnExactPaintSpot.mono : ∀ a0 a1 a2 a3 a4 a5 a6 a7 k, LeO (laws_FnExactPaintSpot.f k a0 a1 a2 a3 a4 a5 a6 a7) (laws_FnExactPaintSpot.f (k + 1) a0 a1 a2 a3 a4 a5 a6 a7) := by
  intro a0 a1 a2 a3 a4 a5 a6 a7 k; obtain ⟨ih0, ih1, ih2⟩ := laws_FnExactPaintSpot.mono_l k
  unfold laws_FnExactPaintSpot.f
  repeat' first
      | (with_reducible exact ih0 _ _ _ _ _ _ _ _ _ _ _ _ _ _ _ _ _ _ _ _ _ _ _ _ _ _)
      | (with_reducible exact ih1 _ _ _ _ _ _ _ _ _ _ _ _ _ _ _ _ _ _ _ _)
      | (with_reducible exact ih2 _ _ _ _ _ _ _)
      | (with_reducible exact impl_PaintSpot.mono _ _ _ _ _ _ _ _ _)
      | (with_reducible exact laws_eqPlain.mono _ _ _ _ _ _ _ _ _ _ _)
      | (with_reducible exact laws_heldPlain.mono _ _ _ _ _ _ _)
      | (with_reducible exact laws_markPlain.mono _ _ _ _ _ _ _)
      | (with_reducible exact laws_toPlain.mono _ _ _ _ _ _)
      | (with_reducible exact spec_PaintSpot.mono _ _ _ _ _ _ _ _ _)
      | (with_reducible exact LeO.refl _)
      | (with_reducible exact LeO.none _)
      | (with_reducible refine LeO.ite ?_ ?_)
      | (with_reducible refine LeO.bind ?_ (fun _ => ?_))
      | exact ih0 _ _ _ _ _ _ _ _ _ _ _ _ _ _ _ _ _ _ _ _ _ _ _ _ _ _
      | exact ih1 _ _ _ _ _ _ _ _ _ _ _ _ _ _ _ _ _ _ _ _
      | exact ih2 _ _ _ _ _ _ _
      | exact impl_PaintSpot.mono _ _ _ _ _ _ _ _ _
      | exact laws_eqPlain.mono _ _ _ _ _ _ _ _ _ _ _
      | exact laws_heldPlain.mono _ _ _ _ _ _ _
      | exact laws_markPlain.mono _ _ _ _ _ _ _
      | exact laws_toPlain.mono _ _ _ _ _ _
      | exact spec_PaintSpot.mono _ _ _ _ _ _ _ _ _
      | exact LeO.none _
      | refine LeO.ite ?_ ?_
      | refine LeO.bind ?_ (fun _ => ?_)
set_option maxHeartbeats 8000000 in
set_option maxRecDepth 100000 in
theorem laws_FnExactPaintSpot.calls (k : Nat) (a0_0 : ByteArray) (A0_1 : Option Addr) (c0_1 : Nat) (l0_1 : List (S62)) (a0_2 : Int) (a0_3 : Int) (a0_4 : Int) (a1 : Int) (a2 : Int) (a3 : Int) (r : Bool) (w : World) (hr0_1 : Kd.C k62 w A0_1 l0_1.length l0_1) (hc0_1 : l0_1.length ≤ c0_1) (h : laws_FnExactPaintSpot.f k a0_0 l0_1 a0_2 a0_3 a0_4 a1 a2 a3 = some r) :
  Calls Tryd.prog 4 #[.agg #[.string a0_0, .slice A0_1 l0_1.length c0_1, .int .i64 a0_2, .int .i64 a0_3, .int .i64 a0_4], .int .i64 a1, .int .i64 a2, .int .i64 a3] w fun e w' => e = .returned (.bool r) ∧ Below w.heap.size w w' := by
 have hu24 := Tryd.underlying24
 have hu28 := Tryd.underlying28
 have HR0_1 := Aside0.mk hr0_1
 have HC0_1 := Aside0.mk hc0_1
 clear hr0_1 hc0_1
 have HB := Aside0.mk (Below.refl w.heap.size w)
 have H : ((laws_szPlain.f a0_0 l0_1 a0_2 a0_3 a0_4 1048576).bind fun t240 => (if t240 < 0 then (some true) else ((laws_toPlain.f k a0_0 l0_1 a0_2 a0_3 a0_4).bind fun bt241 => ((spec_PaintSpot.f k bt241.1 bt241.2.1 bt241.2.2.1 bt241.2.2.2.1 bt241.2.2.2.2 a1 a2 a3).bind fun bt248 => ((laws_toPlain.f k a0_0 l0_1 a0_2 a0_3 a0_4).bind fun bt257 => ((impl_PaintSpot.f k bt257.1 bt257.2.1 bt257.2.2.1 bt257.2.2.2.1 bt257.2.2.2.2 a1 a2 a3).bind fun bt265 => ((laws_eqPlain.f k bt265.1 bt265.2.1 bt265.2.2.1 bt265.2.2.2.1 bt265.2.2.2.2.1 bt248.1 bt248.2.1 bt248.2.2.1 bt248.2.2.2.1 bt248.2.2.2.2.1).bind fun t274 => (if t274 = true then (laws_FnExactPaintSpot.j0 k a1 a2 a3 bt248.2.2.2.2.2 bt265.2.2.2.2.2 (bt265.2.2.2.2.2 != bt248.2.2.2.2.2) a0_0 l0_1 a0_2 a0_3 a0_4 bt248.1 bt248.2.1 bt248.2.2.1 bt248.2.2.2.1 bt248.2.2.2.2.1 bt257.1 bt257.2.1 bt257.2.2.1 bt257.2.2.2.1 bt257.2.2.2.2 bt265.1 bt265.2.1 bt265.2.2.1 bt265.2.2.2.1 bt265.2.2.2.2.1) else (laws_FnExactPaintSpot.j0 k a1 a2 a3 bt248.2.2.2.2.2 bt265.2.2.2.2.2 true a0_0 l0_1 a0_2 a0_3 a0_4 bt248.1 bt248.2.1 bt248.2.2.1 bt248.2.2.2.1 bt248.2.2.2.2.1 bt257.1 bt257.2.1 bt257.2.2.1 bt257.2.2.2.1 bt257.2.2.2.2 bt265.1 bt265.2.1 bt265.2.2.1 bt265.2.2.2.1 bt265.2.2.2.2.1))))))))) = some r := h
 clear h
 replace H := Option.bind_eq_some_iff.mp H
 obtain ⟨t240, A50, H⟩ := H
 replace H : (if t240 < 0 then (some true) else ((laws_toPlain.f k a0_0 l0_1 a0_2 a0_3 a0_4).bind fun bt241 => ((spec_PaintSpot.f k bt241.1 bt241.2.1 bt241.2.2.1 bt241.2.2.2.1 bt241.2.2.2.2 a1 a2 a3).bind fun bt248 => ((laws_toPlain.f k a0_0 l0_1 a0_2 a0_3 a0_4).bind fun bt257 => ((impl_PaintSpot.f k bt257.1 bt257.2.1 bt257.2.2.1 bt257.2.2.2.1 bt257.2.2.2.2 a1 a2 a3).bind fun bt265 => ((laws_eqPlain.f k bt265.1 bt265.2.1 bt265.2.2.1 bt265.2.2.2.1 bt265.2.2.2.2.1 bt248.1 bt248.2.1 bt248.2.2.1 bt248.2.2.2.1 bt248.2.2.2.2.1).bind fun t274 => (if t274 = true then (laws_FnExactPaintSpot.j0 k a1 a2 a3 bt248.2.2.2.2.2 bt265.2.2.2.2.2 (bt265.2.2.2.2.2 != bt248.2.2.2.2.2) a0_0 l0_1 a0_2 a0_3 a0_4 bt248.1 bt248.2.1 bt248.2.2.1 bt248.2.2.2.1 bt248.2.2.2.2.1 bt257.1 bt257.2.1 bt257.2.2.1 bt257.2.2.2.1 bt257.2.2.2.2 bt265.1 bt265.2.1 bt265.2.2.1 bt265.2.2.2.1 bt265.2.2.2.2.1) else (laws_FnExactPaintSpot.j0 k a1 a2 a3 bt248.2.2.2.2.2 bt265.2.2.2.2.2 true a0_0 l0_1 a0_2 a0_3 a0_4 bt248.1 bt248.2.1 bt248.2.2.1 bt248.2.2.2.1 bt248.2.2.2.2.1 bt257.1 bt257.2.1 bt257.2.2.1 bt257.2.2.2.1 bt257.2.2.2.2 bt265.1 bt265.2.1 bt265.2.2.1 bt265.2.2.2.1 bt265.2.2.2.2.1)))))))) = some r := H
 have A5 := Aside0.mk A50
 clear A50
 by_cases c6 : t240 < 0
 ·
  rw [if_pos c6] at H
  have c6b0 : decide (t240 < 0) = true := decide_eq_true c6; clear c6; obtain rfl := Option.some.inj H
  go_enter Tryd.func4, Tryd.ntmps4
  go_wp2_with (first | ((with_reducible refine gate_dst (N := 4) rfl ?_); refine box_event ?hg (N := 4) ?hd (cs := #[.string a0_0, .slice A0_1 l0_1.length c0_1, .int .i64 a0_2, .int .i64 a0_3, .int .i64 a0_4]) (t := 24) ?hr ?_; (case hd => rfl); (case hg => rfl); (case hr => first | (go_simp; done) | (go_simp; rfl)); intro gb239 hg w7 hbox hb; have BK239 := Aside0.mk (hbox); have GW239 := XSq.gw hg (XSq.bB HB); have GE239 := XSq.gw hg (XSq.bB HB); replace HB := Aside0.mk (below_step (XSq.bB HB) hb); clear hb hbox hg; have hcz8_0 : w7.cell? ⟨gb239, 0, none⟩ = some (.string a0_0) := (blk_cell BK239.out 0).trans rfl; have hcz8_1 : w7.cell? ⟨gb239, 1, none⟩ = some (.slice A0_1 l0_1.length c0_1) := (blk_cell BK239.out 1).trans rfl; have hcz8_2 : w7.cell? ⟨gb239, 2, none⟩ = some (.int .i64 a0_2) := (blk_cell BK239.out 2).trans rfl; have hcz8_3 : w7.cell? ⟨gb239, 3, none⟩ = some (.int .i64 a0_3) := (blk_cell BK239.out 3).trans rfl; have hcz8_4 : w7.cell? ⟨gb239, 4, none⟩ = some (.int .i64 a0_4) := (blk_cell BK239.out 4).trans rfl; have hfz8_0 := blk_frozen BK239.out 0; have hfz8_1 := blk_frozen BK239.out 1; have hfz8_2 := blk_frozen BK239.out 2; have hfz8_3 := blk_frozen BK239.out 3; have hfz8_4 := blk_frozen BK239.out 4) | ((with_reducible refine gate_callee (f := 5) rfl ?_); refine goesL_ (some 22) rfl rfl Tryd.func5 (by kernel_rfl) rfl #[.agg #[.string a0_0, .slice A0_1 l0_1.length c0_1, .int .i64 a0_2, .int .i64 a0_3, .int .i64 a0_4], .int .i64 1048576] rfl (by (try simp only [List.map_toArray, List.map_cons, List.map_nil]); first | done | rfl | (simp only [List.length_drop, List.length_take]; rfl)) ?_; (with_reducible refine (laws_szPlain.calls a0_0 _ _ l0_1 a0_2 a0_3 a0_4 1048576 t240 _ ?side1 ?side2 A5.out).mono ?_); (case side1 => repeat (first | exact (Kd.C_below HR0_1.out HB.out) | (with_reducible refine Kd.C_alloc ?_ _) | (with_reducible refine Kd.C_drewN ?_ _) | (with_reducible refine Kd.C_drew ?_))); (case side2 => exact HC0_1.out); rintro e w9 ⟨rfl, hb⟩; refine ⟨_, rfl, ?_⟩; replace BK239 := XSq.bb BK239 hb; replace HB := Aside0.mk (below_step (XSq.bB HB) hb); clear hb; (try clear hb2); (try clear hk); (try clear hi)))
  go_ret
  exact ⟨by first | rfl | (simp [errW_none, errW_some] <;> rfl) | (simp [*, errW_none, errW_some] <;> rfl), by repeat (first | (with_reducible first | exact HB.out | apply below_alloc | apply pw_below_drewN | apply below_drew1 | refine below_set ?_ GE239.out) | exact HB.out)⟩
 ·
  rw [if_neg c6] at H
  have c6b0 : decide (t240 < 0) = false := decide_eq_false c6; clear c6; replace H := Option.bind_eq_some_iff.mp H; obtain ⟨⟨t241, t242, t245, t246, t247⟩, A100, H⟩ := H; replace H : ((spec_PaintSpot.f k t241 t242 t245 t246 t247 a1 a2 a3).bind fun bt248 => ((laws_toPlain.f k a0_0 l0_1 a0_2 a0_3 a0_4).bind fun bt257 => ((impl_PaintSpot.f k bt257.1 bt257.2.1 bt257.2.2.1 bt257.2.2.2.1 bt257.2.2.2.2 a1 a2 a3).bind fun bt265 => ((laws_eqPlain.f k bt265.1 bt265.2.1 bt265.2.2.1 bt265.2.2.2.1 bt265.2.2.2.2.1 bt248.1 bt248.2.1 bt248.2.2.1 bt248.2.2.2.1 bt248.2.2.2.2.1).bind fun t274 => (if t274 = true then (laws_FnExactPaintSpot.j0 k a1 a2 a3 bt248.2.2.2.2.2 bt265.2.2.2.2.2 (bt265.2.2.2.2.2 != bt248.2.2.2.2.2) a0_0 l0_1 a0_2 a0_3 a0_4 bt248.1 bt248.2.1 bt248.2.2.1 bt248.2.2.2.1 bt248.2.2.2.2.1 bt257.1 bt257.2.1 bt257.2.2.1 bt257.2.2.2.1 bt257.2.2.2.2 bt265.1 bt265.2.1 bt265.2.2.1 bt265.2.2.2.1 bt265.2.2.2.2.1) else (laws_FnExactPaintSpot.j0 k a1 a2 a3 bt248.2.2.2.2.2 bt265.2.2.2.2.2 true a0_0 l0_1 a0_2 a0_3 a0_4 bt248.1 bt248.2.1 bt248.2.2.1 bt248.2.2.2.1 bt248.2.2.2.2.1 bt257.1 bt257.2.1 bt257.2.2.1 bt257.2.2.2.1 bt257.2.2.2.2 bt265.1 bt265.2.1 bt265.2.2.1 bt265.2.2.2.1 bt265.2.2.2.2.1)))))) = some r := H; have A10 := Aside0.mk A100; clear A100; replace H := Option.bind_eq_some_iff.mp H; obtain ⟨⟨t248, t249, t252, t253, t254, t255⟩, A110, H⟩ := H; replace H : ((laws_toPlain.f k a0_0 l0_1 a0_2 a0_3 a0_4).bind fun bt257 => ((impl_PaintSpot.f k bt257.1 bt257.2.1 bt257.2.2.1 bt257.2.2.2.1 bt257.2.2.2.2 a1 a2 a3).bind fun bt265 => ((laws_eqPlain.f k bt265.1 bt265.2.1 bt265.2.2.1 bt265.2.2.2.1 bt265.2.2.2.2.1 t248 t249 t252 t253 t254).bind fun t274 => (if t274 = true then (laws_FnExactPaintSpot.j0 k a1 a2 a3 t255 bt265.2.2.2.2.2 (bt265.2.2.2.2.2 != t255) a0_0 l0_1 a0_2 a0_3 a0_4 t248 t249 t252 t253 t254 bt257.1 bt257.2.1 bt257.2.2.1 bt257.2.2.2.1 bt257.2.2.2.2 bt265.1 bt265.2.1 bt265.2.2.1 bt265.2.2.2.1 bt265.2.2.2.2.1) else (laws_FnExactPaintSpot.j0 k a1 a2 a3 t255 bt265.2.2.2.2.2 true a0_0 l0_1 a0_2 a0_3 a0_4 t248 t249 t252 t253 t254 bt257.1 bt257.2.1 bt257.2.2.1 bt257.2.2.2.1 bt257.2.2.2.2 bt265.1 bt265.2.1 bt265.2.2.1 bt265.2.2.2.1 bt265.2.2.2.2.1))))) = some r := H; have A11 := Aside0.mk A110; clear A110; replace H := Option.bind_eq_some_iff.mp H; obtain ⟨⟨t257, t258, t261, t262, t263⟩, A120, H⟩ := H; replace H : ((impl_PaintSpot.f k t257 t258 t261 t262 t263 a1 a2 a3).bind fun bt265 => ((laws_eqPlain.f k bt265.1 bt265.2.1 bt265.2.2.1 bt265.2.2.2.1 bt265.2.2.2.2.1 t248 t249 t252 t253 t254).bind fun t274 => (if t274 = true then (laws_FnExactPaintSpot.j0 k a1 a2 a3 t255 bt265.2.2.2.2.2 (bt265.2.2.2.2.2 != t255) a0_0 l0_1 a0_2 a0_3 a0_4 t248 t249 t252 t253 t254 t257 t258 t261 t262 t263 bt265.1 bt265.2.1 bt265.2.2.1 bt265.2.2.2.1 bt265.2.2.2.2.1) else (laws_FnExactPaintSpot.j0 k a1 a2 a3 t255 bt265.2.2.2.2.2 true a0_0 l0_1 a0_2 a0_3 a0_4 t248 t249 t252 t253 t254 t257 t258 t261 t262 t263 bt265.1 bt265.2.1 bt265.2.2.1 bt265.2.2.2.1 bt265.2.2.2.2.1)))) = some r := H; have A12 := Aside0.mk A120; clear A120; replace H := Option.bind_eq_some_iff.mp H; obtain ⟨⟨t265, t266, t269, t270, t271, t272⟩, A130, H⟩ := H; replace H : ((laws_eqPlain.f k t265 t266 t269 t270 t271 t248 t249 t252 t253 t254).bind fun t274 => (if t274 = true then (laws_FnExactPaintSpot.j0 k a1 a2 a3 t255 t272 (t272 != t255) a0_0 l0_1 a0_2 a0_3 a0_4 t248 t249 t252 t253 t254 t257 t258 t261 t262 t263 t265 t266 t269 t270 t271) else (laws_FnExactPaintSpot.j0 k a1 a2 a3 t255 t272 true a0_0 l0_1 a0_2 a0_3 a0_4 t248 t249 t252 t253 t254 t257 t258 t261 t262 t263 t265 t266 t269 t270 t271))) = some r := H; have A13 := Aside0.mk A130; clear A130; have HC14 := Aside0.mk H; clear H
  go_enter Tryd.func4, Tryd.ntmps4
  go_upto_region 8 with (first | ((with_reducible refine gate_dst (N := 4) rfl ?_); refine box_event ?hg (N := 4) ?hd (cs := #[.string a0_0, .slice A0_1 l0_1.length c0_1, .int .i64 a0_2, .int .i64 a0_3, .int .i64 a0_4]) (t := 24) ?hr ?_; (case hd => rfl); (case hg => rfl); (case hr => first | (go_simp; done) | (go_simp; rfl)); intro gb239 hg w15 hbox hb; have BK239 := Aside0.mk (hbox); have GW239 := XSq.gw hg (XSq.bB HB); have GE239 := XSq.gw hg (XSq.bB HB); replace HB := Aside0.mk (below_step (XSq.bB HB) hb); clear hb hbox hg; have hcz16_0 : w15.cell? ⟨gb239, 0, none⟩ = some (.string a0_0) := (blk_cell BK239.out 0).trans rfl; have hcz16_1 : w15.cell? ⟨gb239, 1, none⟩ = some (.slice A0_1 l0_1.length c0_1) := (blk_cell BK239.out 1).trans rfl; have hcz16_2 : w15.cell? ⟨gb239, 2, none⟩ = some (.int .i64 a0_2) := (blk_cell BK239.out 2).trans rfl; have hcz16_3 : w15.cell? ⟨gb239, 3, none⟩ = some (.int .i64 a0_3) := (blk_cell BK239.out 3).trans rfl; have hcz16_4 : w15.cell? ⟨gb239, 4, none⟩ = some (.int .i64 a0_4) := (blk_cell BK239.out 4).trans rfl; have hfz16_0 := blk_frozen BK239.out 0; have hfz16_1 := blk_frozen BK239.out 1; have hfz16_2 := blk_frozen BK239.out 2; have hfz16_3 := blk_frozen BK239.out 3; have hfz16_4 := blk_frozen BK239.out 4) | ((with_reducible refine gate_callee (f := 5) rfl ?_); refine goesL_ (some 22) rfl rfl Tryd.func5 (by kernel_rfl) rfl #[.agg #[.string a0_0, .slice A0_1 l0_1.length c0_1, .int .i64 a0_2, .int .i64 a0_3, .int .i64 a0_4], .int .i64 1048576] rfl (by (try simp only [List.map_toArray, List.map_cons, List.map_nil]); first | done | rfl | (simp only [List.length_drop, List.length_take]; rfl)) ?_; (with_reducible refine (laws_szPlain.calls a0_0 _ _ l0_1 a0_2 a0_3 a0_4 1048576 t240 _ ?side1 ?side2 A5.out).mono ?_); (case side1 => repeat (first | exact (Kd.C_below HR0_1.out HB.out) | (with_reducible refine Kd.C_alloc ?_ _) | (with_reducible refine Kd.C_drewN ?_ _) | (with_reducible refine Kd.C_drew ?_))); (case side2 => exact HC0_1.out); rintro e w17 ⟨rfl, hb⟩; refine ⟨_, rfl, ?_⟩; replace BK239 := XSq.bb BK239 hb; replace HB := Aside0.mk (below_step (XSq.bB HB) hb); clear hb; (try clear hb2); (try clear hk); (try clear hi); have hcz18_0 : w17.cell? ⟨gb239, 0, none⟩ = some (.string a0_0) := (blk_cell BK239.out 0).trans rfl; have hcz18_1 : w17.cell? ⟨gb239, 1, none⟩ = some (.slice A0_1 l0_1.length c0_1) := (blk_cell BK239.out 1).trans rfl; have hcz18_2 : w17.cell? ⟨gb239, 2, none⟩ = some (.int .i64 a0_2) := (blk_cell BK239.out 2).trans rfl; have hcz18_3 : w17.cell? ⟨gb239, 3, none⟩ = some (.int .i64 a0_3) := (blk_cell BK239.out 3).trans rfl; have hcz18_4 : w17.cell? ⟨gb239, 4, none⟩ = some (.int .i64 a0_4) := (blk_cell BK239.out 4).trans rfl; have hfz18_0 := blk_frozen BK239.out 0; have hfz18_1 := blk_frozen BK239.out 1; have hfz18_2 := blk_frozen BK239.out 2; have hfz18_3 := blk_frozen BK239.out 3; have hfz18_4 := blk_frozen BK239.out 4) | ((with_reducible refine gate_callee (f := 7) rfl ?_); refine goesL_ (some 27) rfl rfl Tryd.func7 (by kernel_rfl) rfl #[.agg #[.string a0_0, .slice A0_1 l0_1.length c0_1, .int .i64 a0_2, .int .i64 a0_3, .int .i64 a0_4]] rfl (by (try simp only [List.map_toArray, List.map_cons, List.map_nil]); first | done | rfl | (simp only [List.length_drop, List.length_take]; rfl)) ?_; (with_reducible refine (laws_toPlain.calls k a0_0 _ _ l0_1 a0_2 a0_3 a0_4 t241 t242 t245 t246 t247 _ ?side1 ?side2 A10.out).mono ?_); (case side1 => repeat (first | exact (Kd.C_below HR0_1.out HB.out) | (with_reducible refine Kd.C_alloc ?_ _) | (with_reducible refine Kd.C_drewN ?_ _) | (with_reducible refine Kd.C_drew ?_))); (case side2 => exact HC0_1.out); rintro e w19 ⟨v243, rfl, ho0, hb⟩; refine ⟨_, rfl, ?_⟩; have HO244 := Aside0.mk (Kd.R_lower ho0 (below_size (XSq.bB HB))); replace BK239 := XSq.bb BK239 hb; replace HB := Aside0.mk (below_step (XSq.bB HB) hb); clear hb; (try clear hb2); (try clear hk); (try clear hi); (try clear ho0); obtain ⟨Ao20, co20, eo20⟩ := Kd.R_slice HO244.out; subst eo20) | ((with_reducible refine gate_callee (f := 12) rfl ?_); refine goesL_ (some 31) rfl rfl Tryd.func12 (by kernel_rfl) rfl #[.agg #[.string t241, .slice Ao20 t242.length co20, .int .i64 t245, .int .i64 t246, .int .i64 t247], .int .i64 a1, .int .i64 a2, .int .i64 a3] rfl (by (try simp only [List.map_toArray, List.map_cons, List.map_nil]); first | done | rfl | (simp only [List.length_drop, List.length_take]; rfl)) ?_; (with_reducible refine (spec_PaintSpot.calls k t241 _ _ t242 t245 t246 t247 a1 a2 a3 t248 t249 t252 t253 t254 t255 _ ?side1 ?side2 A11.out).mono ?_); (case side1 => repeat (first | exact (Kd.R_reads' HO244.out).2.2 | (with_reducible refine Kd.C_alloc ?_ _) | (with_reducible refine Kd.C_drewN ?_ _) | (with_reducible refine Kd.C_drew ?_))); (case side2 => exact (Kd.R_reads' HO244.out).2.1); rintro e w21 ⟨v250, rfl, ho0, hb⟩; refine ⟨_, rfl, ?_⟩; have HO251 := Aside0.mk (Kd.R_lower (Kd.R_new' ho0 (Kd.R_lt (XSq.pR HO244))) (below_size (XSq.bB HB))); replace HO244 := Aside0.mk (Kd.R_elder' (XSq.pR HO244) (Kd.R_base ho0) hb); replace BK239 := XSq.bb BK239 hb; replace HB := Aside0.mk (below_step (XSq.bB HB) hb); clear hb; (try clear hb2); (try clear hk); (try clear hi); (try clear ho0)) | ((with_reducible refine gate_dst (N := 10) rfl ?_); refine box_event ?hg (N := 10) ?hd (cs := #[.string ⟨#[]⟩, .slice none 0 0, .int .i64 0, .int .i64 0, .int .i64 0]) (t := 28) ?hr ?_; (case hd => rfl); (case hg => rfl); (case hr => first | (go_simp; done) | (go_simp; rfl)); intro gb256 hg w22 hbox hb; have BK256 := Aside0.mk (hbox); have GW256 := XSq.gw hg (XSq.bB HB); have GE256 := XSq.gw hg (XSq.bB HB); have NB239_256 := XSq.nl hg (XSq.bq BK239); have NB256_239 := XSq.nr hg (XSq.bq BK239); replace HO244 := Aside0.mk (Kd.R_below (XSq.pR HO244) hb); replace HO251 := Aside0.mk (Kd.R_below (XSq.pR HO251) hb); replace BK239 := XSq.bb BK239 hb; replace HB := Aside0.mk (below_step (XSq.bB HB) hb); clear hb hbox hg; have hnb23 := NB256_239.out; have hnc23 := NB239_256.out; have hcz24_0 : w22.cell? ⟨gb256, 0, none⟩ = some (.string ⟨#[]⟩) := (blk_cell BK256.out 0).trans rfl; have hcz24_1 : w22.cell? ⟨gb256, 1, none⟩ = some (.slice none 0 0) := (blk_cell BK256.out 1).trans rfl; have hcz24_2 : w22.cell? ⟨gb256, 2, none⟩ = some (.int .i64 0) := (blk_cell BK256.out 2).trans rfl; have hcz24_3 : w22.cell? ⟨gb256, 3, none⟩ = some (.int .i64 0) := (blk_cell BK256.out 3).trans rfl; have hcz24_4 : w22.cell? ⟨gb256, 4, none⟩ = some (.int .i64 0) := (blk_cell BK256.out 4).trans rfl; have hfz24_0 := blk_frozen BK256.out 0; have hfz24_1 := blk_frozen BK256.out 1; have hfz24_2 := blk_frozen BK256.out 2; have hfz24_3 := blk_frozen BK256.out 3; have hfz24_4 := blk_frozen BK256.out 4; obtain ⟨Ao25, co25, eo25⟩ := Kd.R_slice HO251.out; subst eo25; have hcz26_0 : w22.cell? ⟨gb239, 0, none⟩ = some (.string a0_0) := (blk_cell BK239.out 0).trans rfl; have hcz26_1 : w22.cell? ⟨gb239, 1, none⟩ = some (.slice A0_1 l0_1.length c0_1) := (blk_cell BK239.out 1).trans rfl; have hcz26_2 : w22.cell? ⟨gb239, 2, none⟩ = some (.int .i64 a0_2) := (blk_cell BK239.out 2).trans rfl; have hcz26_3 : w22.cell? ⟨gb239, 3, none⟩ = some (.int .i64 a0_3) := (blk_cell BK239.out 3).trans rfl; have hcz26_4 : w22.cell? ⟨gb239, 4, none⟩ = some (.int .i64 a0_4) := (blk_cell BK239.out 4).trans rfl; have hfz26_0 := blk_frozen BK239.out 0; have hfz26_1 := blk_frozen BK239.out 1; have hfz26_2 := blk_frozen BK239.out 2; have hfz26_3 := blk_frozen BK239.out 3; have hfz26_4 := blk_frozen BK239.out 4) | ((with_reducible refine gate_callee (f := 7) rfl ?_); refine goesL_ (some 35) rfl rfl Tryd.func7 (by kernel_rfl) rfl #[.agg #[.string a0_0, .slice A0_1 l0_1.length c0_1, .int .i64 a0_2, .int .i64 a0_3, .int .i64 a0_4]] rfl (by (try simp only [List.map_toArray, List.map_cons, List.map_nil]); first | done | rfl | (simp only [List.length_drop, List.length_take]; rfl)) ?_; (with_reducible refine (laws_toPlain.calls k a0_0 _ _ l0_1 a0_2 a0_3 a0_4 t257 t258 t261 t262 t263 _ ?side1 ?side2 A12.out).mono ?_); (case side1 => exact Kd.C_below HR0_1.out (XSq.bB HB)); (case side2 => exact HC0_1.out); rintro e w27 ⟨v259, rfl, ho0, hb⟩; refine ⟨_, rfl, ?_⟩; have n0_ := Aside0.mk (Kd.R_elder' (by (with_reducible repeat (first | apply Kd.R_alloc | apply Kd.R_drewN | apply Kd.R_drew)); exact (Kd.R_mono (Kd.R_far (p := ⟨gb256, 4, none⟩) (Kd.R_far (p := ⟨gb256, 3, none⟩) (Kd.R_far (p := ⟨gb256, 2, none⟩) (Kd.R_far (p := ⟨gb256, 1, none⟩) (Kd.R_far (p := ⟨gb256, 0, none⟩) (Kd.R_types HO244.out BK256.out (by decide)) (fun _ hk => hk.2) (.string t248)) (fun _ hk => hk.2) (.slice Ao25 t249.length co25)) (fun _ hk => hk.2) (.int .i64 t252)) (fun _ hk => hk.2) (.int .i64 t253)) (fun _ hk => hk.2) (.int .i64 t254)) (fun _ h_ => h_.1))) (Kd.R_base ho0) hb); have n1_ := Aside0.mk (Kd.R_elder' (by (with_reducible repeat (first | apply Kd.R_alloc | apply Kd.R_drewN | apply Kd.R_drew)); exact (Kd.R_mono (Kd.R_far (p := ⟨gb256, 4, none⟩) (Kd.R_far (p := ⟨gb256, 3, none⟩) (Kd.R_far (p := ⟨gb256, 2, none⟩) (Kd.R_far (p := ⟨gb256, 1, none⟩) (Kd.R_far (p := ⟨gb256, 0, none⟩) (Kd.R_types HO251.out BK256.out (by decide)) (fun _ hk => hk.2) (.string t248)) (fun _ hk => hk.2) (.slice Ao25 t249.length co25)) (fun _ hk => hk.2) (.int .i64 t252)) (fun _ hk => hk.2) (.int .i64 t253)) (fun _ hk => hk.2) (.int .i64 t254)) (fun _ h_ => h_.1))) (Kd.R_base ho0) hb); have n2_ := Aside0.mk (Kd.R_lower (Kd.R_new' (Kd.R_new' ho0 (Kd.R_lt (by (with_reducible repeat (first | apply Kd.R_alloc | apply Kd.R_drewN | apply Kd.R_drew)); exact (Kd.R_mono (Kd.R_far (p := ⟨gb256, 4, none⟩) (Kd.R_far (p := ⟨gb256, 3, none⟩) (Kd.R_far (p := ⟨gb256, 2, none⟩) (Kd.R_far (p := ⟨gb256, 1, none⟩) (Kd.R_far (p := ⟨gb256, 0, none⟩) (Kd.R_types HO244.out BK256.out (by decide)) (fun _ hk => hk.2) (.string t248)) (fun _ hk => hk.2) (.slice Ao25 t249.length co25)) (fun _ hk => hk.2) (.int .i64 t252)) (fun _ hk => hk.2) (.int .i64 t253)) (fun _ hk => hk.2) (.int .i64 t254)) (fun _ h_ => h_.1))))) (Kd.R_lt (by (with_reducible repeat (first | apply Kd.R_alloc | apply Kd.R_drewN | apply Kd.R_drew)); exact (Kd.R_mono (Kd.R_far (p := ⟨gb256, 4, none⟩) (Kd.R_far (p := ⟨gb256, 3, none⟩) (Kd.R_far (p := ⟨gb256, 2, none⟩) (Kd.R_far (p := ⟨gb256, 1, none⟩) (Kd.R_far (p := ⟨gb256, 0, none⟩) (Kd.R_types HO251.out BK256.out (by decide)) (fun _ hk => hk.2) (.string t248)) (fun _ hk => hk.2) (.slice Ao25 t249.length co25)) (fun _ hk => hk.2) (.int .i64 t252)) (fun _ hk => hk.2) (.int .i64 t253)) (fun _ hk => hk.2) (.int .i64 t254)) (fun _ h_ => h_.1))))) (below_size (XSq.bB HB))); have n3_ := Aside0.mk (blk_below (g := gb239) (o := .cells #[.string a0_0, .slice A0_1 l0_1.length c0_1, .int .i64 a0_2, .int .i64 a0_3, .int .i64 a0_4] 24 (0, 0)) (by (with_reducible repeat (first | refine blk_drewN ?_ _ | refine blk_drew ?_ | refine blk_alloc ?_ _)); refine blk_far ?_ NB239_256.out _; (with_reducible repeat (first | refine blk_drewN ?_ _ | refine blk_drew ?_ | refine blk_alloc ?_ _)); refine blk_far ?_ NB239_256.out _; (with_reducible repeat (first | refine blk_drewN ?_ _ | refine blk_drew ?_ | refine blk_alloc ?_ _)); refine blk_far ?_ NB239_256.out _; (with_reducible repeat (first | refine blk_drewN ?_ _ | refine blk_drew ?_ | refine blk_alloc ?_ _)); refine blk_far ?_ NB239_256.out _; (with_reducible repeat (first | refine blk_drewN ?_ _ | refine blk_drew ?_ | refine blk_alloc ?_ _)); refine blk_far ?_ NB239_256.out _; (with_reducible repeat (first | refine blk_drewN ?_ _ | refine blk_drew ?_ | refine blk_alloc ?_ _)); exact BK239.out) hb); have n4_ := Aside0.mk (blk_below (g := gb256) (o := .cells #[.string t248, .slice Ao25 t249.length co25, .int .i64 t252, .int .i64 t253, .int .i64 t254] 28 (0, 0)) (by (with_reducible repeat (first | refine blk_drewN ?_ _ | refine blk_drew ?_ | refine blk_alloc ?_ _)); refine blk_put (cs := #[.string t248, .slice Ao25 t249.length co25, .int .i64 t252, .int .i64 t253, .int .i64 0]) ?_ 4 _ rfl; (with_reducible repeat (first | refine blk_drewN ?_ _ | refine blk_drew ?_ | refine blk_alloc ?_ _)); refine blk_put (cs := #[.string t248, .slice Ao25 t249.length co25, .int .i64 t252, .int .i64 0, .int .i64 0]) ?_ 3 _ rfl; (with_reducible repeat (first | refine blk_drewN ?_ _ | refine blk_drew ?_ | refine blk_alloc ?_ _)); refine blk_put (cs := #[.string t248, .slice Ao25 t249.length co25, .int .i64 0, .int .i64 0, .int .i64 0]) ?_ 2 _ rfl; (with_reducible repeat (first | refine blk_drewN ?_ _ | refine blk_drew ?_ | refine blk_alloc ?_ _)); refine blk_put (cs := #[.string t248, .slice none 0 0, .int .i64 0, .int .i64 0, .int .i64 0]) ?_ 1 _ rfl; (with_reducible repeat (first | refine blk_drewN ?_ _ | refine blk_drew ?_ | refine blk_alloc ?_ _)); refine blk_put (cs := #[.string ⟨#[]⟩, .slice none 0 0, .int .i64 0, .int .i64 0, .int .i64 0]) ?_ 0 _ rfl; (with_reducible repeat (first | refine blk_drewN ?_ _ | refine blk_drew ?_ | refine blk_alloc ?_ _)); exact BK256.out) hb); have n5_ := Aside0.mk (below_step (XSq.bB HB) hb); clear HO244; clear HO251; clear BK239; clear BK256; clear HB; have HO244 := n0_; have HO251 := n1_; have HO260 := n2_; have BK239 := n3_; have BK256 := n4_; have HB := n5_; clear n0_ n1_ n2_ n3_ n4_ n5_; clear hb; (try clear hb2); (try clear hk); (try clear hi); (try clear ho0)) | ((with_reducible refine gate_dst (N := 12) rfl ?_); refine box_event ?hg (N := 12) ?hd (cs := #[.string ⟨#[]⟩, .slice none 0 0, .int .i64 0, .int .i64 0, .int .i64 0]) (t := 28) ?hr ?_; (case hd => rfl); (case hg => rfl); (case hr => first | (go_simp; done) | (go_simp; rfl)); intro gb264 hg w28 hbox hb; have n0_ := Aside0.mk (Kd.R_below (XSq.pR HO244) hb); have n1_ := Aside0.mk (Kd.R_below (XSq.pR HO251) hb); have n2_ := Aside0.mk (Kd.R_below (XSq.pR HO260) hb); have n3_ := XSq.bb BK239 hb; have n4_ := XSq.bb BK256 hb; have n5_ := Aside0.mk (below_step (XSq.bB HB) hb); have n6_ := Aside0.mk (hbox); have n7_ := XSq.gw hg (XSq.bB HB); have n8_ := XSq.gw hg (XSq.bB HB); have n9_ := XSq.nl hg (XSq.bq BK239); have n10_ := XSq.nr hg (XSq.bq BK239); have n11_ := XSq.nl hg (XSq.bq BK256); have n12_ := XSq.nr hg (XSq.bq BK256); clear HO244; clear HO251; clear HO260; clear BK239; clear BK256; clear HB; have HO244 := n0_; have HO251 := n1_; have HO260 := n2_; have BK239 := n3_; have BK256 := n4_; have HB := n5_; have BK264 := n6_; have GW264 := n7_; have GE264 := n8_; have NB239_264 := n9_; have NB264_239 := n10_; have NB256_264 := n11_; have NB264_256 := n12_; clear n0_ n1_ n2_ n3_ n4_ n5_ n6_ n7_ n8_ n9_ n10_ n11_ n12_; clear hb hbox hg; have hnb29 := NB264_239.out; have hnc29 := NB239_264.out; have hnb30 := NB264_256.out; have hnc30 := NB256_264.out; have hcz31_0 : w28.cell? ⟨gb264, 0, none⟩ = some (.string ⟨#[]⟩) := (blk_cell BK264.out 0).trans rfl; have hcz31_1 : w28.cell? ⟨gb264, 1, none⟩ = some (.slice none 0 0) := (blk_cell BK264.out 1).trans rfl; have hcz31_2 : w28.cell? ⟨gb264, 2, none⟩ = some (.int .i64 0) := (blk_cell BK264.out 2).trans rfl; have hcz31_3 : w28.cell? ⟨gb264, 3, none⟩ = some (.int .i64 0) := (blk_cell BK264.out 3).trans rfl; have hcz31_4 : w28.cell? ⟨gb264, 4, none⟩ = some (.int .i64 0) := (blk_cell BK264.out 4).trans rfl; have hfz31_0 := blk_frozen BK264.out 0; have hfz31_1 := blk_frozen BK264.out 1; have hfz31_2 := blk_frozen BK264.out 2; have hfz31_3 := blk_frozen BK264.out 3; have hfz31_4 := blk_frozen BK264.out 4; obtain ⟨Ao32, co32, eo32⟩ := Kd.R_slice HO260.out; subst eo32) | ((with_reducible refine gate_callee (f := 13) rfl ?_); refine goesL_ (some 41) rfl rfl Tryd.func13 (by kernel_rfl) rfl #[.agg #[.string t257, .slice Ao32 t258.length co32, .int .i64 t261, .int .i64 t262, .int .i64 t263], .int .i64 a1, .int .i64 a2, .int .i64 a3] rfl (by (try simp only [List.map_toArray, List.map_cons, List.map_nil]); first | done | rfl | (simp only [List.length_drop, List.length_take]; rfl)) ?_; (with_reducible refine (impl_PaintSpot.calls k t257 _ _ t258 t261 t262 t263 a1 a2 a3 t265 t266 t269 t270 t271 t272 _ ?side1 ?side2 A13.out).mono ?_); (case side1 => refine (Kd.R_reads' (e := 60) (base := w.heap.size) (ok := fun k_ => ((True ∧ some k_ ≠ (.slice Ao20 t242.length co20 : Value).ownBlock) ∧ some k_ ≠ (.slice Ao25 t249.length co25 : Value).ownBlock)) (n := t258.length) (c := co32) ?_).2.2; exact (by (with_reducible repeat (first | apply Kd.R_alloc | apply Kd.R_drewN | apply Kd.R_drew)); exact (Kd.R_mono (Kd.R_far (p := ⟨gb264, 4, none⟩) (Kd.R_far (p := ⟨gb264, 3, none⟩) (Kd.R_far (p := ⟨gb264, 2, none⟩) (Kd.R_far (p := ⟨gb264, 1, none⟩) (Kd.R_far (p := ⟨gb264, 0, none⟩) (Kd.R_types HO260.out BK264.out (by decide)) (fun _ hk => hk.2) (.string t257)) (fun _ hk => hk.2) (.slice Ao32 t258.length co32)) (fun _ hk => hk.2) (.int .i64 t261)) (fun _ hk => hk.2) (.int .i64 t262)) (fun _ hk => hk.2) (.int .i64 t263)) (fun _ h_ => h_.1)))); (case side2 => exact (Kd.R_reads' HO260.out).2.1); rintro e w33 ⟨v267, rfl, ho0, hb⟩; refine ⟨_, rfl, ?_⟩; have n0_ := Aside0.mk (Kd.R_elder' (by (with_reducible repeat (first | apply Kd.R_alloc | apply Kd.R_drewN | apply Kd.R_drew)); exact (Kd.R_mono (Kd.R_far (p := ⟨gb264, 4, none⟩) (Kd.R_far (p := ⟨gb264, 3, none⟩) (Kd.R_far (p := ⟨gb264, 2, none⟩) (Kd.R_far (p := ⟨gb264, 1, none⟩) (Kd.R_far (p := ⟨gb264, 0, none⟩) (Kd.R_types HO244.out BK264.out (by decide)) (fun _ hk => hk.2) (.string t257)) (fun _ hk => hk.2) (.slice Ao32 t258.length co32)) (fun _ hk => hk.2) (.int .i64 t261)) (fun _ hk => hk.2) (.int .i64 t262)) (fun _ hk => hk.2) (.int .i64 t263)) (fun _ h_ => h_.1))) (Kd.R_base ho0) hb); have n1_ := Aside0.mk (Kd.R_elder' (by (with_reducible repeat (first | apply Kd.R_alloc | apply Kd.R_drewN | apply Kd.R_drew)); exact (Kd.R_mono (Kd.R_far (p := ⟨gb264, 4, none⟩) (Kd.R_far (p := ⟨gb264, 3, none⟩) (Kd.R_far (p := ⟨gb264, 2, none⟩) (Kd.R_far (p := ⟨gb264, 1, none⟩) (Kd.R_far (p := ⟨gb264, 0, none⟩) (Kd.R_types HO251.out BK264.out (by decide)) (fun _ hk => hk.2) (.string t257)) (fun _ hk => hk.2) (.slice Ao32 t258.length co32)) (fun _ hk => hk.2) (.int .i64 t261)) (fun _ hk => hk.2) (.int .i64 t262)) (fun _ hk => hk.2) (.int .i64 t263)) (fun _ h_ => h_.1))) (Kd.R_base ho0) hb); have n2_ := Aside0.mk (Kd.R_elder' (by (with_reducible repeat (first | apply Kd.R_alloc | apply Kd.R_drewN | apply Kd.R_drew)); exact (Kd.R_mono (Kd.R_far (p := ⟨gb264, 4, none⟩) (Kd.R_far (p := ⟨gb264, 3, none⟩) (Kd.R_far (p := ⟨gb264, 2, none⟩) (Kd.R_far (p := ⟨gb264, 1, none⟩) (Kd.R_far (p := ⟨gb264, 0, none⟩) (Kd.R_types HO260.out BK264.out (by decide)) (fun _ hk => hk.2) (.string t257)) (fun _ hk => hk.2) (.slice Ao32 t258.length co32)) (fun _ hk => hk.2) (.int .i64 t261)) (fun _ hk => hk.2) (.int .i64 t262)) (fun _ hk => hk.2) (.int .i64 t263)) (fun _ h_ => h_.1))) (Kd.R_base ho0) hb); have n3_ := Aside0.mk (Kd.R_lower (Kd.R_new' (Kd.R_new' (Kd.R_new' ho0 (Kd.R_lt (by (with_reducible repeat (first | apply Kd.R_alloc | apply Kd.R_drewN | apply Kd.R_drew)); exact (Kd.R_mono (Kd.R_far (p := ⟨gb264, 4, none⟩) (Kd.R_far (p := ⟨gb264, 3, none⟩) (Kd.R_far (p := ⟨gb264, 2, none⟩) (Kd.R_far (p := ⟨gb264, 1, none⟩) (Kd.R_far (p := ⟨gb264, 0, none⟩) (Kd.R_types HO244.out BK264.out (by decide)) (fun _ hk => hk.2) (.string t257)) (fun _ hk => hk.2) (.slice Ao32 t258.length co32)) (fun _ hk => hk.2) (.int .i64 t261)) (fun _ hk => hk.2) (.int .i64 t262)) (fun _ hk => hk.2) (.int .i64 t263)) (fun _ h_ => h_.1))))) (Kd.R_lt (by (with_reducible repeat (first | apply Kd.R_alloc | apply Kd.R_drewN | apply Kd.R_drew)); exact (Kd.R_mono (Kd.R_far (p := ⟨gb264, 4, none⟩) (Kd.R_far (p := ⟨gb264, 3, none⟩) (Kd.R_far (p := ⟨gb264, 2, none⟩) (Kd.R_far (p := ⟨gb264, 1, none⟩) (Kd.R_far (p := ⟨gb264, 0, none⟩) (Kd.R_types HO251.out BK264.out (by decide)) (fun _ hk => hk.2) (.string t257)) (fun _ hk => hk.2) (.slice Ao32 t258.length co32)) (fun _ hk => hk.2) (.int .i64 t261)) (fun _ hk => hk.2) (.int .i64 t262)) (fun _ hk => hk.2) (.int .i64 t263)) (fun _ h_ => h_.1))))) (Kd.R_lt (by (with_reducible repeat (first | apply Kd.R_alloc | apply Kd.R_drewN | apply Kd.R_drew)); exact (Kd.R_mono (Kd.R_far (p := ⟨gb264, 4, none⟩) (Kd.R_far (p := ⟨gb264, 3, none⟩) (Kd.R_far (p := ⟨gb264, 2, none⟩) (Kd.R_far (p := ⟨gb264, 1, none⟩) (Kd.R_far (p := ⟨gb264, 0, none⟩) (Kd.R_types HO260.out BK264.out (by decide)) (fun _ hk => hk.2) (.string t257)) (fun _ hk => hk.2) (.slice Ao32 t258.length co32)) (fun _ hk => hk.2) (.int .i64 t261)) (fun _ hk => hk.2) (.int .i64 t262)) (fun _ hk => hk.2) (.int .i64 t263)) (fun _ h_ => h_.1))))) (below_size (XSq.bB HB))); have n4_ := Aside0.mk (blk_below (g := gb239) (o := .cells #[.string a0_0, .slice A0_1 l0_1.length c0_1, .int .i64 a0_2, .int .i64 a0_3, .int .i64 a0_4] 24 (0, 0)) (by (with_reducible repeat (first | refine blk_drewN ?_ _ | refine blk_drew ?_ | refine blk_alloc ?_ _)); refine blk_far ?_ NB239_264.out _; (with_reducible repeat (first | refine blk_drewN ?_ _ | refine blk_drew ?_ | refine blk_alloc ?_ _)); refine blk_far ?_ NB239_264.out _; (with_reducible repeat (first | refine blk_drewN ?_ _ | refine blk_drew ?_ | refine blk_alloc ?_ _)); refine blk_far ?_ NB239_264.out _; (with_reducible repeat (first | refine blk_drewN ?_ _ | refine blk_drew ?_ | refine blk_alloc ?_ _)); refine blk_far ?_ NB239_264.out _; (with_reducible repeat (first | refine blk_drewN ?_ _ | refine blk_drew ?_ | refine blk_alloc ?_ _)); refine blk_far ?_ NB239_264.out _; (with_reducible repeat (first | refine blk_drewN ?_ _ | refine blk_drew ?_ | refine blk_alloc ?_ _)); exact BK239.out) hb); have n5_ := Aside0.mk (blk_below (g := gb256) (o := .cells #[.string t248, .slice Ao25 t249.length co25, .int .i64 t252, .int .i64 t253, .int .i64 t254] 28 (0, 0)) (by (with_reducible repeat (first | refine blk_drewN ?_ _ | refine blk_drew ?_ | refine blk_alloc ?_ _)); refine blk_far ?_ NB256_264.out _; (with_reducible repeat (first | refine blk_drewN ?_ _ | refine blk_drew ?_ | refine blk_alloc ?_ _)); refine blk_far ?_ NB256_264.out _; (with_reducible repeat (first | refine blk_drewN ?_ _ | refine blk_drew ?_ | refine blk_alloc ?_ _)); refine blk_far ?_ NB256_264.out _; (with_reducible repeat (first | refine blk_drewN ?_ _ | refine blk_drew ?_ | refine blk_alloc ?_ _)); refine blk_far ?_ NB256_264.out _; (with_reducible repeat (first | refine blk_drewN ?_ _ | refine blk_drew ?_ | refine blk_alloc ?_ _)); refine blk_far ?_ NB256_264.out _; (with_reducible repeat (first | refine blk_drewN ?_ _ | refine blk_drew ?_ | refine blk_alloc ?_ _)); exact BK256.out) hb); have n6_ := Aside0.mk (blk_below (g := gb264) (o := .cells #[.string t257, .slice Ao32 t258.length co32, .int .i64 t261, .int .i64 t262, .int .i64 t263] 28 (0, 0)) (by (with_reducible repeat (first | refine blk_drewN ?_ _ | refine blk_drew ?_ | refine blk_alloc ?_ _)); refine blk_put (cs := #[.string t257, .slice Ao32 t258.length co32, .int .i64 t261, .int .i64 t262, .int .i64 0]) ?_ 4 _ rfl; (with_reducible repeat (first | refine blk_drewN ?_ _ | refine blk_drew ?_ | refine blk_alloc ?_ _)); refine blk_put (cs := #[.string t257, .slice Ao32 t258.length co32, .int .i64 t261, .int .i64 0, .int .i64 0]) ?_ 3 _ rfl; (with_reducible repeat (first | refine blk_drewN ?_ _ | refine blk_drew ?_ | refine blk_alloc ?_ _)); refine blk_put (cs := #[.string t257, .slice Ao32 t258.length co32, .int .i64 0, .int .i64 0, .int .i64 0]) ?_ 2 _ rfl; (with_reducible repeat (first | refine blk_drewN ?_ _ | refine blk_drew ?_ | refine blk_alloc ?_ _)); refine blk_put (cs := #[.string t257, .slice none 0 0, .int .i64 0, .int .i64 0, .int .i64 0]) ?_ 1 _ rfl; (with_reducible repeat (first | refine blk_drewN ?_ _ | refine blk_drew ?_ | refine blk_alloc ?_ _)); refine blk_put (cs := #[.string ⟨#[]⟩, .slice none 0 0, .int .i64 0, .int .i64 0, .int .i64 0]) ?_ 0 _ rfl; (with_reducible repeat (first | refine blk_drewN ?_ _ | refine blk_drew ?_ | refine blk_alloc ?_ _)); exact BK264.out) hb); have n7_ := Aside0.mk (below_step (XSq.bB HB) hb); clear HO244; clear HO251; clear HO260; clear BK239; clear BK256; clear BK264; clear HB; have HO244 := n0_; have HO251 := n1_; have HO260 := n2_; have HO268 := n3_; have BK239 := n4_; have BK256 := n5_; have BK264 := n6_; have HB := n7_; clear n0_ n1_ n2_ n3_ n4_ n5_ n6_ n7_; clear hb; (try clear hb2); (try clear hk); (try clear hi); (try clear ho0)) | ((with_reducible refine gate_dst (N := 13) rfl ?_); refine box_event ?hg (N := 13) ?hd (cs := #[.string ⟨#[]⟩, .slice none 0 0, .int .i64 0, .int .i64 0, .int .i64 0]) (t := 28) ?hr ?_; (case hd => rfl); (case hg => rfl); (case hr => first | (go_simp; done) | (go_simp; rfl)); intro gb273 hg w34 hbox hb; have n0_ := Aside0.mk (Kd.R_below (XSq.pR HO244) hb); have n1_ := Aside0.mk (Kd.R_below (XSq.pR HO251) hb); have n2_ := Aside0.mk (Kd.R_below (XSq.pR HO260) hb); have n3_ := Aside0.mk (Kd.R_below (XSq.pR HO268) hb); have n4_ := XSq.bb BK239 hb; have n5_ := XSq.bb BK256 hb; have n6_ := XSq.bb BK264 hb; have n7_ := Aside0.mk (below_step (XSq.bB HB) hb); have n8_ := Aside0.mk (hbox); have n9_ := XSq.gw hg (XSq.bB HB); have n10_ := XSq.gw hg (XSq.bB HB); have n11_ := XSq.nl hg (XSq.bq BK239); have n12_ := XSq.nr hg (XSq.bq BK239); have n13_ := XSq.nl hg (XSq.bq BK256); have n14_ := XSq.nr hg (XSq.bq BK256); have n15_ := XSq.nl hg (XSq.bq BK264); have n16_ := XSq.nr hg (XSq.bq BK264); clear HO244; clear HO251; clear HO260; clear HO268; clear BK239; clear BK256; clear BK264; clear HB; have HO244 := n0_; have HO251 := n1_; have HO260 := n2_; have HO268 := n3_; have BK239 := n4_; have BK256 := n5_; have BK264 := n6_; have HB := n7_; have BK273 := n8_; have GW273 := n9_; have GE273 := n10_; have NB239_273 := n11_; have NB273_239 := n12_; have NB256_273 := n13_; have NB273_256 := n14_; have NB264_273 := n15_; have NB273_264 := n16_; clear n0_ n1_ n2_ n3_ n4_ n5_ n6_ n7_ n8_ n9_ n10_ n11_ n12_ n13_ n14_ n15_ n16_; clear hb hbox hg; have hnb35 := NB273_239.out; have hnc35 := NB239_273.out; have hnb36 := NB273_256.out; have hnc36 := NB256_273.out; have hnb37 := NB273_264.out; have hnc37 := NB264_273.out; have hcz38_0 : w34.cell? ⟨gb273, 0, none⟩ = some (.string ⟨#[]⟩) := (blk_cell BK273.out 0).trans rfl; have hcz38_1 : w34.cell? ⟨gb273, 1, none⟩ = some (.slice none 0 0) := (blk_cell BK273.out 1).trans rfl; have hcz38_2 : w34.cell? ⟨gb273, 2, none⟩ = some (.int .i64 0) := (blk_cell BK273.out 2).trans rfl; have hcz38_3 : w34.cell? ⟨gb273, 3, none⟩ = some (.int .i64 0) := (blk_cell BK273.out 3).trans rfl; have hcz38_4 : w34.cell? ⟨gb273, 4, none⟩ = some (.int .i64 0) := (blk_cell BK273.out 4).trans rfl; have hfz38_0 := blk_frozen BK273.out 0; have hfz38_1 := blk_frozen BK273.out 1; have hfz38_2 := blk_frozen BK273.out 2; have hfz38_3 := blk_frozen BK273.out 3; have hfz38_4 := blk_frozen BK273.out 4; obtain ⟨Ao39, co39, eo39⟩ := Kd.R_slice HO268.out; subst eo39))
  (try simp only [Act.put, List.setIfInBounds_toArray, List.set_cons_zero, List.set_cons_succ])
  go_cut [52] (fun v52 wc => ∃ (kq : Nat) (x52_13 : Bool), v52 = .bool x52_13 ∧ Aside0 (laws_FnExactPaintSpot.j0 kq a1 a2 a3 t255 t272 x52_13 a0_0 l0_1 a0_2 a0_3 a0_4 t248 t249 t252 t253 t254 t257 t258 t261 t262 t263 t265 t266 t269 t270 t271 = some r) ∧ Aside0 (kq ≤ k) ∧ Aside0 (Kd.R k60 60 wc w.heap.size (fun k_ => some k_ ≠ ((.slice Ao32 t258.length co32) : Value).ownBlock ∧ some k_ ≠ ((.slice Ao39 t266.length co39) : Value).ownBlock) (.slice Ao25 t249.length co25) t249) ∧ Aside0 (Kd.R k60 60 wc w.heap.size (fun k_ => some k_ ≠ ((.slice Ao25 t249.length co25) : Value).ownBlock ∧ some k_ ≠ ((.slice Ao39 t266.length co39) : Value).ownBlock) (.slice Ao32 t258.length co32) t258) ∧ Aside0 (Kd.R k60 60 wc w.heap.size (fun k_ => some k_ ≠ ((.slice Ao25 t249.length co25) : Value).ownBlock ∧ some k_ ≠ ((.slice Ao32 t258.length co32) : Value).ownBlock) (.slice Ao39 t266.length co39) t266) ∧ Aside0 (wc.heap[gb239]? = some (.cells #[.string a0_0, (.slice A0_1 l0_1.length c0_1), .int .i64 a0_2, .int .i64 a0_3, .int .i64 a0_4] 24 (0, 0))) ∧ Aside0 (wc.heap[gb256]? = some (.cells #[.string t248, (.slice Ao25 t249.length co25), .int .i64 t252, .int .i64 t253, .int .i64 t254] 28 (0, 0))) ∧ Aside0 (wc.heap[gb264]? = some (.cells #[.string t257, (.slice Ao32 t258.length co32), .int .i64 t261, .int .i64 t262, .int .i64 t263] 28 (0, 0))) ∧ Aside0 (wc.heap[gb273]? = some (.cells #[.string t265, (.slice Ao39 t266.length co39), .int .i64 t269, .int .i64 t270, .int .i64 t271] 28 (0, 0))) ∧ Aside0 (Below w.heap.size w wc))
  case first =>
   have H := HC14.out; clear HC14; replace H := Option.bind_eq_some_iff.mp H; obtain ⟨t274, A400, H⟩ := H; replace H : (if t274 = true then (laws_FnExactPaintSpot.j0 k a1 a2 a3 t255 t272 (t272 != t255) a0_0 l0_1 a0_2 a0_3 a0_4 t248 t249 t252 t253 t254 t257 t258 t261 t262 t263 t265 t266 t269 t270 t271) else (laws_FnExactPaintSpot.j0 k a1 a2 a3 t255 t272 true a0_0 l0_1 a0_2 a0_3 a0_4 t248 t249 t252 t253 t254 t257 t258 t261 t262 t263 t265 t266 t269 t270 t271)) = some r := H; have A40 := Aside0.mk A400; clear A400
   by_cases c41 : t274 = true
   ·
    subst c41
    have H1 : (laws_FnExactPaintSpot.j0 k a1 a2 a3 t255 t272 (t272 != t255) a0_0 l0_1 a0_2 a0_3 a0_4 t248 t249 t252 t253 t254 t257 t258 t261 t262 t263 t265 t266 t269 t270 t271) = some r := by rw [if_pos rfl] at H; exact H
    clear H; have H := H1; clear H1; have H' := Aside0.mk H; clear H; have hnb42 := NB273_239.out; have hnc42 := NB239_273.out; have hnb43 := NB273_256.out; have hnc43 := NB256_273.out; have hnb44 := NB273_264.out; have hnc44 := NB264_273.out; have hcz45_0 : w34.cell? ⟨gb273, 0, none⟩ = some (.string ⟨#[]⟩) := (blk_cell BK273.out 0).trans rfl; have hcz45_1 : w34.cell? ⟨gb273, 1, none⟩ = some (.slice none 0 0) := (blk_cell BK273.out 1).trans rfl; have hcz45_2 : w34.cell? ⟨gb273, 2, none⟩ = some (.int .i64 0) := (blk_cell BK273.out 2).trans rfl; have hcz45_3 : w34.cell? ⟨gb273, 3, none⟩ = some (.int .i64 0) := (blk_cell BK273.out 3).trans rfl; have hcz45_4 : w34.cell? ⟨gb273, 4, none⟩ = some (.int .i64 0) := (blk_cell BK273.out 4).trans rfl; have hfz45_0 := blk_frozen BK273.out 0; have hfz45_1 := blk_frozen BK273.out 1; have hfz45_2 := blk_frozen BK273.out 2; have hfz45_3 := blk_frozen BK273.out 3; have hfz45_4 := blk_frozen BK273.out 4; have hnb46 := NB256_239.out; have hnc46 := NB239_256.out; have hnb47 := NB256_264.out; have hnc47 := NB264_256.out; have hcz48_0 : w34.cell? ⟨gb256, 0, none⟩ = some (.string t248) := (blk_cell BK256.out 0).trans rfl; have hcz48_1 : w34.cell? ⟨gb256, 1, none⟩ = some (.slice Ao25 t249.length co25) := (blk_cell BK256.out 1).trans rfl; have hcz48_2 : w34.cell? ⟨gb256, 2, none⟩ = some (.int .i64 t252) := (blk_cell BK256.out 2).trans rfl; have hcz48_3 : w34.cell? ⟨gb256, 3, none⟩ = some (.int .i64 t253) := (blk_cell BK256.out 3).trans rfl; have hcz48_4 : w34.cell? ⟨gb256, 4, none⟩ = some (.int .i64 t254) := (blk_cell BK256.out 4).trans rfl; have hfz48_0 := blk_frozen BK256.out 0; have hfz48_1 := blk_frozen BK256.out 1; have hfz48_2 := blk_frozen BK256.out 2; have hfz48_3 := blk_frozen BK256.out 3; have hfz48_4 := blk_frozen BK256.out 4
    go_wp2_with (first | ((with_reducible refine gate_callee (f := 9) rfl ?_); refine goesL_ (some 46) rfl rfl Tryd.func9 (by kernel_rfl) rfl #[.agg #[.string t265, .slice Ao39 t266.length co39, .int .i64 t269, .int .i64 t270, .int .i64 t271], .agg #[.string t248, .slice Ao25 t249.length co25, .int .i64 t252, .int .i64 t253, .int .i64 t254]] rfl (by (try simp only [List.map_toArray, List.map_cons, List.map_nil]); first | done | rfl | (simp only [List.length_drop, List.length_take]; rfl)) ?_; (with_reducible refine (laws_eqPlain.calls k t265 _ _ t266 t269 t270 t271 t248 _ _ t249 t252 t253 t254 true _ ?side1 ?side2 ?side3 ?side4 A40.out).mono ?_); (case side1 => refine (Kd.R_reads' (e := 60) (base := w.heap.size) (ok := fun k_ => (((True ∧ some k_ ≠ (.slice Ao20 t242.length co20 : Value).ownBlock) ∧ some k_ ≠ (.slice Ao25 t249.length co25 : Value).ownBlock) ∧ some k_ ≠ (.slice Ao32 t258.length co32 : Value).ownBlock)) (n := t266.length) (c := co39) ?_).2.2; exact (by (with_reducible repeat (first | apply Kd.R_alloc | apply Kd.R_drewN | apply Kd.R_drew)); exact (Kd.R_mono (Kd.R_far (p := ⟨gb273, 4, none⟩) (Kd.R_far (p := ⟨gb273, 3, none⟩) (Kd.R_far (p := ⟨gb273, 2, none⟩) (Kd.R_far (p := ⟨gb273, 1, none⟩) (Kd.R_far (p := ⟨gb273, 0, none⟩) (Kd.R_types HO268.out BK273.out (by decide)) (fun _ hk => hk.2) (.string t265)) (fun _ hk => hk.2) (.slice Ao39 t266.length co39)) (fun _ hk => hk.2) (.int .i64 t269)) (fun _ hk => hk.2) (.int .i64 t270)) (fun _ hk => hk.2) (.int .i64 t271)) (fun _ h_ => h_.1)))); (case side2 => exact (Kd.R_reads' HO268.out).2.1); (case side3 => refine (Kd.R_reads' (e := 60) (base := w.heap.size) (ok := fun k_ => (((True ∧ some k_ ≠ (.slice Ao20 t242.length co20 : Value).ownBlock) ∧ some k_ ≠ (.slice Ao32 t258.length co32 : Value).ownBlock) ∧ some k_ ≠ (.slice Ao39 t266.length co39 : Value).ownBlock)) (n := t249.length) (c := co25) ?_).2.2; exact (by (with_reducible repeat (first | apply Kd.R_alloc | apply Kd.R_drewN | apply Kd.R_drew)); exact (Kd.R_mono (Kd.R_far (p := ⟨gb273, 4, none⟩) (Kd.R_far (p := ⟨gb273, 3, none⟩) (Kd.R_far (p := ⟨gb273, 2, none⟩) (Kd.R_far (p := ⟨gb273, 1, none⟩) (Kd.R_far (p := ⟨gb273, 0, none⟩) (Kd.R_types HO251.out BK273.out (by decide)) (fun _ hk => hk.2) (.string t265)) (fun _ hk => hk.2) (.slice Ao39 t266.length co39)) (fun _ hk => hk.2) (.int .i64 t269)) (fun _ hk => hk.2) (.int .i64 t270)) (fun _ hk => hk.2) (.int .i64 t271)) (fun _ h_ => h_.1)))); (case side4 => exact (Kd.R_reads' HO251.out).2.1); rintro e w49 ⟨rfl, hb⟩; refine ⟨_, rfl, ?_⟩; have n0_ := Aside0.mk (Kd.R_below (by (with_reducible repeat (first | apply Kd.R_alloc | apply Kd.R_drewN | apply Kd.R_drew)); exact (Kd.R_mono (Kd.R_far (p := ⟨gb273, 4, none⟩) (Kd.R_far (p := ⟨gb273, 3, none⟩) (Kd.R_far (p := ⟨gb273, 2, none⟩) (Kd.R_far (p := ⟨gb273, 1, none⟩) (Kd.R_far (p := ⟨gb273, 0, none⟩) (Kd.R_types HO244.out BK273.out (by decide)) (fun _ hk => hk.2) (.string t265)) (fun _ hk => hk.2) (.slice Ao39 t266.length co39)) (fun _ hk => hk.2) (.int .i64 t269)) (fun _ hk => hk.2) (.int .i64 t270)) (fun _ hk => hk.2) (.int .i64 t271)) (fun _ h_ => h_.1))) hb); have n1_ := Aside0.mk (Kd.R_below (by (with_reducible repeat (first | apply Kd.R_alloc | apply Kd.R_drewN | apply Kd.R_drew)); exact (Kd.R_mono (Kd.R_far (p := ⟨gb273, 4, none⟩) (Kd.R_far (p := ⟨gb273, 3, none⟩) (Kd.R_far (p := ⟨gb273, 2, none⟩) (Kd.R_far (p := ⟨gb273, 1, none⟩) (Kd.R_far (p := ⟨gb273, 0, none⟩) (Kd.R_types HO251.out BK273.out (by decide)) (fun _ hk => hk.2) (.string t265)) (fun _ hk => hk.2) (.slice Ao39 t266.length co39)) (fun _ hk => hk.2) (.int .i64 t269)) (fun _ hk => hk.2) (.int .i64 t270)) (fun _ hk => hk.2) (.int .i64 t271)) (fun _ h_ => h_.1))) hb); have n2_ := Aside0.mk (Kd.R_below (by (with_reducible repeat (first | apply Kd.R_alloc | apply Kd.R_drewN | apply Kd.R_drew)); exact (Kd.R_mono (Kd.R_far (p := ⟨gb273, 4, none⟩) (Kd.R_far (p := ⟨gb273, 3, none⟩) (Kd.R_far (p := ⟨gb273, 2, none⟩) (Kd.R_far (p := ⟨gb273, 1, none⟩) (Kd.R_far (p := ⟨gb273, 0, none⟩) (Kd.R_types HO260.out BK273.out (by decide)) (fun _ hk => hk.2) (.string t265)) (fun _ hk => hk.2) (.slice Ao39 t266.length co39)) (fun _ hk => hk.2) (.int .i64 t269)) (fun _ hk => hk.2) (.int .i64 t270)) (fun _ hk => hk.2) (.int .i64 t271)) (fun _ h_ => h_.1))) hb); have n3_ := Aside0.mk (Kd.R_below (by (with_reducible repeat (first | apply Kd.R_alloc | apply Kd.R_drewN | apply Kd.R_drew)); exact (Kd.R_mono (Kd.R_far (p := ⟨gb273, 4, none⟩) (Kd.R_far (p := ⟨gb273, 3, none⟩) (Kd.R_far (p := ⟨gb273, 2, none⟩) (Kd.R_far (p := ⟨gb273, 1, none⟩) (Kd.R_far (p := ⟨gb273, 0, none⟩) (Kd.R_types HO268.out BK273.out (by decide)) (fun _ hk => hk.2) (.string t265)) (fun _ hk => hk.2) (.slice Ao39 t266.length co39)) (fun _ hk => hk.2) (.int .i64 t269)) (fun _ hk => hk.2) (.int .i64 t270)) (fun _ hk => hk.2) (.int .i64 t271)) (fun _ h_ => h_.1))) hb); have n4_ := Aside0.mk (blk_below (g := gb239) (o := .cells #[.string a0_0, .slice A0_1 l0_1.length c0_1, .int .i64 a0_2, .int .i64 a0_3, .int .i64 a0_4] 24 (0, 0)) (by (with_reducible repeat (first | refine blk_drewN ?_ _ | refine blk_drew ?_ | refine blk_alloc ?_ _)); refine blk_far ?_ NB239_273.out _; (with_reducible repeat (first | refine blk_drewN ?_ _ | refine blk_drew ?_ | refine blk_alloc ?_ _)); refine blk_far ?_ NB239_273.out _; (with_reducible repeat (first | refine blk_drewN ?_ _ | refine blk_drew ?_ | refine blk_alloc ?_ _)); refine blk_far ?_ NB239_273.out _; (with_reducible repeat (first | refine blk_drewN ?_ _ | refine blk_drew ?_ | refine blk_alloc ?_ _)); refine blk_far ?_ NB239_273.out _; (with_reducible repeat (first | refine blk_drewN ?_ _ | refine blk_drew ?_ | refine blk_alloc ?_ _)); refine blk_far ?_ NB239_273.out _; (with_reducible repeat (first | refine blk_drewN ?_ _ | refine blk_drew ?_ | refine blk_alloc ?_ _)); exact BK239.out) hb); have n5_ := Aside0.mk (blk_below (g := gb256) (o := .cells #[.string t248, .slice Ao25 t249.length co25, .int .i64 t252, .int .i64 t253, .int .i64 t254] 28 (0, 0)) (by (with_reducible repeat (first | refine blk_drewN ?_ _ | refine blk_drew ?_ | refine blk_alloc ?_ _)); refine blk_far ?_ NB256_273.out _; (with_reducible repeat (first | refine blk_drewN ?_ _ | refine blk_drew ?_ | refine blk_alloc ?_ _)); refine blk_far ?_ NB256_273.out _; (with_reducible repeat (first | refine blk_drewN ?_ _ | refine blk_drew ?_ | refine blk_alloc ?_ _)); refine blk_far ?_ NB256_273.out _; (with_reducible repeat (first | refine blk_drewN ?_ _ | refine blk_drew ?_ | refine blk_alloc ?_ _)); refine blk_far ?_ NB256_273.out _; (with_reducible repeat (first | refine blk_drewN ?_ _ | refine blk_drew ?_ | refine blk_alloc ?_ _)); refine blk_far ?_ NB256_273.out _; (with_reducible repeat (first | refine blk_drewN ?_ _ | refine blk_drew ?_ | refine blk_alloc ?_ _)); exact BK256.out) hb); have n6_ := Aside0.mk (blk_below (g := gb264) (o := .cells #[.string t257, .slice Ao32 t258.length co32, .int .i64 t261, .int .i64 t262, .int .i64 t263] 28 (0, 0)) (by (with_reducible repeat (first | refine blk_drewN ?_ _ | refine blk_drew ?_ | refine blk_alloc ?_ _)); refine blk_far ?_ NB264_273.out _; (with_reducible repeat (first | refine blk_drewN ?_ _ | refine blk_drew ?_ | refine blk_alloc ?_ _)); refine blk_far ?_ NB264_273.out _; (with_reducible repeat (first | refine blk_drewN ?_ _ | refine blk_drew ?_ | refine blk_alloc ?_ _)); refine blk_far ?_ NB264_273.out _; (with_reducible repeat (first | refine blk_drewN ?_ _ | refine blk_drew ?_ | refine blk_alloc ?_ _)); refine blk_far ?_ NB264_273.out _; (with_reducible repeat (first | refine blk_drewN ?_ _ | refine blk_drew ?_ | refine blk_alloc ?_ _)); refine blk_far ?_ NB264_273.out _; (with_reducible repeat (first | refine blk_drewN ?_ _ | refine blk_drew ?_ | refine blk_alloc ?_ _)); exact BK264.out) hb); have n7_ := Aside0.mk (blk_below (g := gb273) (o := .cells #[.string t265, .slice Ao39 t266.length co39, .int .i64 t269, .int .i64 t270, .int .i64 t271] 28 (0, 0)) (by (with_reducible repeat (first | refine blk_drewN ?_ _ | refine blk_drew ?_ | refine blk_alloc ?_ _)); refine blk_put (cs := #[.string t265, .slice Ao39 t266.length co39, .int .i64 t269, .int .i64 t270, .int .i64 0]) ?_ 4 _ rfl; (with_reducible repeat (first | refine blk_drewN ?_ _ | refine blk_drew ?_ | refine blk_alloc ?_ _)); refine blk_put (cs := #[.string t265, .slice Ao39 t266.length co39, .int .i64 t269, .int .i64 0, .int .i64 0]) ?_ 3 _ rfl; (with_reducible repeat (first | refine blk_drewN ?_ _ | refine blk_drew ?_ | refine blk_alloc ?_ _)); refine blk_put (cs := #[.string t265, .slice Ao39 t266.length co39, .int .i64 0, .int .i64 0, .int .i64 0]) ?_ 2 _ rfl; (with_reducible repeat (first | refine blk_drewN ?_ _ | refine blk_drew ?_ | refine blk_alloc ?_ _)); refine blk_put (cs := #[.string t265, .slice none 0 0, .int .i64 0, .int .i64 0, .int .i64 0]) ?_ 1 _ rfl; (with_reducible repeat (first | refine blk_drewN ?_ _ | refine blk_drew ?_ | refine blk_alloc ?_ _)); refine blk_put (cs := #[.string ⟨#[]⟩, .slice none 0 0, .int .i64 0, .int .i64 0, .int .i64 0]) ?_ 0 _ rfl; (with_reducible repeat (first | refine blk_drewN ?_ _ | refine blk_drew ?_ | refine blk_alloc ?_ _)); exact BK273.out) hb); have n8_ := Aside0.mk (below_step (XSq.bB HB) hb); clear HO244; clear HO251; clear HO260; clear HO268; clear BK239; clear BK256; clear BK264; clear BK273; clear HB; have HO244 := n0_; have HO251 := n1_; have HO260 := n2_; have HO268 := n3_; have BK239 := n4_; have BK256 := n5_; have BK264 := n6_; have BK273 := n7_; have HB := n8_; clear n0_ n1_ n2_ n3_ n4_ n5_ n6_ n7_ n8_; clear hb; (try clear hb2); (try clear hk); (try clear hi)))
    go_meet
    case rel => exact ⟨_, ((t272 != t255)), (by first | rfl | (simp; done) | (simp [*]; done)), H', ⟨by first | omega | exact Nat.le_refl _⟩, ⟨by (with_reducible repeat (first | apply Kd.R_alloc | apply Kd.R_drewN | apply Kd.R_drew)); exact Kd.R_mono HO251.out (fun _ hk => ⟨hk.1.2, hk.2⟩)⟩, ⟨by (with_reducible repeat (first | apply Kd.R_alloc | apply Kd.R_drewN | apply Kd.R_drew)); exact Kd.R_mono HO260.out (fun _ hk => ⟨hk.1.2, hk.2⟩)⟩, ⟨by (with_reducible repeat (first | apply Kd.R_alloc | apply Kd.R_drewN | apply Kd.R_drew)); exact Kd.R_mono HO268.out (fun _ hk => ⟨hk.1.2, hk.2⟩)⟩, ⟨by (with_reducible repeat (first | refine blk_drewN ?_ _ | refine blk_drew ?_ | refine blk_alloc ?_ _)); exact BK239.out⟩, ⟨by (with_reducible repeat (first | refine blk_drewN ?_ _ | refine blk_drew ?_ | refine blk_alloc ?_ _)); exact BK256.out⟩, ⟨by (with_reducible repeat (first | refine blk_drewN ?_ _ | refine blk_drew ?_ | refine blk_alloc ?_ _)); exact BK264.out⟩, ⟨by (with_reducible repeat (first | refine blk_drewN ?_ _ | refine blk_drew ?_ | refine blk_alloc ?_ _)); exact BK273.out⟩, ⟨by repeat (first | (with_reducible first | exact HB.out | apply below_alloc | apply pw_below_drewN | apply below_drew1 | refine below_set ?_ GE239.out | refine below_set ?_ GE256.out | refine below_set ?_ GE264.out | refine below_set ?_ GE273.out) | exact HB.out)⟩⟩
   ·
    replace c41 := Bool.eq_false_iff.mpr c41; subst c41
    have H1 : (laws_FnExactPaintSpot.j0 k a1 a2 a3 t255 t272 true a0_0 l0_1 a0_2 a0_3 a0_4 t248 t249 t252 t253 t254 t257 t258 t261 t262 t263 t265 t266 t269 t270 t271) = some r := by rw [if_neg (show ¬ (false = true) by decide)] at H; exact H
    clear H; have H := H1; clear H1; have H' := Aside0.mk H; clear H; have hnb50 := NB273_239.out; have hnc50 := NB239_273.out; have hnb51 := NB273_256.out; have hnc51 := NB256_273.out; have hnb52 := NB273_264.out; have hnc52 := NB264_273.out; have hcz53_0 : w34.cell? ⟨gb273, 0, none⟩ = some (.string ⟨#[]⟩) := (blk_cell BK273.out 0).trans rfl; have hcz53_1 : w34.cell? ⟨gb273, 1, none⟩ = some (.slice none 0 0) := (blk_cell BK273.out 1).trans rfl; have hcz53_2 : w34.cell? ⟨gb273, 2, none⟩ = some (.int .i64 0) := (blk_cell BK273.out 2).trans rfl; have hcz53_3 : w34.cell? ⟨gb273, 3, none⟩ = some (.int .i64 0) := (blk_cell BK273.out 3).trans rfl; have hcz53_4 : w34.cell? ⟨gb273, 4, none⟩ = some (.int .i64 0) := (blk_cell BK273.out 4).trans rfl; have hfz53_0 := blk_frozen BK273.out 0; have hfz53_1 := blk_frozen BK273.out 1; have hfz53_2 := blk_frozen BK273.out 2; have hfz53_3 := blk_frozen BK273.out 3; have hfz53_4 := blk_frozen BK273.out 4; have hnb54 := NB256_239.out; have hnc54 := NB239_256.out; have hnb55 := NB256_264.out; have hnc55 := NB264_256.out; have hcz56_0 : w34.cell? ⟨gb256, 0, none⟩ = some (.string t248) := (blk_cell BK256.out 0).trans rfl; have hcz56_1 : w34.cell? ⟨gb256, 1, none⟩ = some (.slice Ao25 t249.length co25) := (blk_cell BK256.out 1).trans rfl; have hcz56_2 : w34.cell? ⟨gb256, 2, none⟩ = some (.int .i64 t252) := (blk_cell BK256.out 2).trans rfl; have hcz56_3 : w34.cell? ⟨gb256, 3, none⟩ = some (.int .i64 t253) := (blk_cell BK256.out 3).trans rfl; have hcz56_4 : w34.cell? ⟨gb256, 4, none⟩ = some (.int .i64 t254) := (blk_cell BK256.out 4).trans rfl; have hfz56_0 := blk_frozen BK256.out 0; have hfz56_1 := blk_frozen BK256.out 1; have hfz56_2 := blk_frozen BK256.out 2; have hfz56_3 := blk_frozen BK256.out 3; have hfz56_4 := blk_frozen BK256.out 4
    go_wp2_with (first | ((with_reducible refine gate_callee (f := 9) rfl ?_); refine goesL_ (some 46) rfl rfl Tryd.func9 (by kernel_rfl) rfl #[.agg #[.string t265, .slice Ao39 t266.length co39, .int .i64 t269, .int .i64 t270, .int .i64 t271], .agg #[.string t248, .slice Ao25 t249.length co25, .int .i64 t252, .int .i64 t253, .int .i64 t254]] rfl (by (try simp only [List.map_toArray, List.map_cons, List.map_nil]); first | done | rfl | (simp only [List.length_drop, List.length_take]; rfl)) ?_; (with_reducible refine (laws_eqPlain.calls k t265 _ _ t266 t269 t270 t271 t248 _ _ t249 t252 t253 t254 false _ ?side1 ?side2 ?side3 ?side4 A40.out).mono ?_); (case side1 => refine (Kd.R_reads' (e := 60) (base := w.heap.size) (ok := fun k_ => (((True ∧ some k_ ≠ (.slice Ao20 t242.length co20 : Value).ownBlock) ∧ some k_ ≠ (.slice Ao25 t249.length co25 : Value).ownBlock) ∧ some k_ ≠ (.slice Ao32 t258.length co32 : Value).ownBlock)) (n := t266.length) (c := co39) ?_).2.2; exact (by (with_reducible repeat (first | apply Kd.R_alloc | apply Kd.R_drewN | apply Kd.R_drew)); exact (Kd.R_mono (Kd.R_far (p := ⟨gb273, 4, none⟩) (Kd.R_far (p := ⟨gb273, 3, none⟩) (Kd.R_far (p := ⟨gb273, 2, none⟩) (Kd.R_far (p := ⟨gb273, 1, none⟩) (Kd.R_far (p := ⟨gb273, 0, none⟩) (Kd.R_types HO268.out BK273.out (by decide)) (fun _ hk => hk.2) (.string t265)) (fun _ hk => hk.2) (.slice Ao39 t266.length co39)) (fun _ hk => hk.2) (.int .i64 t269)) (fun _ hk => hk.2) (.int .i64 t270)) (fun _ hk => hk.2) (.int .i64 t271)) (fun _ h_ => h_.1)))); (case side2 => exact (Kd.R_reads' HO268.out).2.1); (case side3 => refine (Kd.R_reads' (e := 60) (base := w.heap.size) (ok := fun k_ => (((True ∧ some k_ ≠ (.slice Ao20 t242.length co20 : Value).ownBlock) ∧ some k_ ≠ (.slice Ao32 t258.length co32 : Value).ownBlock) ∧ some k_ ≠ (.slice Ao39 t266.length co39 : Value).ownBlock)) (n := t249.length) (c := co25) ?_).2.2; exact (by (with_reducible repeat (first | apply Kd.R_alloc | apply Kd.R_drewN | apply Kd.R_drew)); exact (Kd.R_mono (Kd.R_far (p := ⟨gb273, 4, none⟩) (Kd.R_far (p := ⟨gb273, 3, none⟩) (Kd.R_far (p := ⟨gb273, 2, none⟩) (Kd.R_far (p := ⟨gb273, 1, none⟩) (Kd.R_far (p := ⟨gb273, 0, none⟩) (Kd.R_types HO251.out BK273.out (by decide)) (fun _ hk => hk.2) (.string t265)) (fun _ hk => hk.2) (.slice Ao39 t266.length co39)) (fun _ hk => hk.2) (.int .i64 t269)) (fun _ hk => hk.2) (.int .i64 t270)) (fun _ hk => hk.2) (.int .i64 t271)) (fun _ h_ => h_.1)))); (case side4 => exact (Kd.R_reads' HO251.out).2.1); rintro e w57 ⟨rfl, hb⟩; refine ⟨_, rfl, ?_⟩; have n0_ := Aside0.mk (Kd.R_below (by (with_reducible repeat (first | apply Kd.R_alloc | apply Kd.R_drewN | apply Kd.R_drew)); exact (Kd.R_mono (Kd.R_far (p := ⟨gb273, 4, none⟩) (Kd.R_far (p := ⟨gb273, 3, none⟩) (Kd.R_far (p := ⟨gb273, 2, none⟩) (Kd.R_far (p := ⟨gb273, 1, none⟩) (Kd.R_far (p := ⟨gb273, 0, none⟩) (Kd.R_types HO244.out BK273.out (by decide)) (fun _ hk => hk.2) (.string t265)) (fun _ hk => hk.2) (.slice Ao39 t266.length co39)) (fun _ hk => hk.2) (.int .i64 t269)) (fun _ hk => hk.2) (.int .i64 t270)) (fun _ hk => hk.2) (.int .i64 t271)) (fun _ h_ => h_.1))) hb); have n1_ := Aside0.mk (Kd.R_below (by (with_reducible repeat (first | apply Kd.R_alloc | apply Kd.R_drewN | apply Kd.R_drew)); exact (Kd.R_mono (Kd.R_far (p := ⟨gb273, 4, none⟩) (Kd.R_far (p := ⟨gb273, 3, none⟩) (Kd.R_far (p := ⟨gb273, 2, none⟩) (Kd.R_far (p := ⟨gb273, 1, none⟩) (Kd.R_far (p := ⟨gb273, 0, none⟩) (Kd.R_types HO251.out BK273.out (by decide)) (fun _ hk => hk.2) (.string t265)) (fun _ hk => hk.2) (.slice Ao39 t266.length co39)) (fun _ hk => hk.2) (.int .i64 t269)) (fun _ hk => hk.2) (.int .i64 t270)) (fun _ hk => hk.2) (.int .i64 t271)) (fun _ h_ => h_.1))) hb); have n2_ := Aside0.mk (Kd.R_below (by (with_reducible repeat (first | apply Kd.R_alloc | apply Kd.R_drewN | apply Kd.R_drew)); exact (Kd.R_mono (Kd.R_far (p := ⟨gb273, 4, none⟩) (Kd.R_far (p := ⟨gb273, 3, none⟩) (Kd.R_far (p := ⟨gb273, 2, none⟩) (Kd.R_far (p := ⟨gb273, 1, none⟩) (Kd.R_far (p := ⟨gb273, 0, none⟩) (Kd.R_types HO260.out BK273.out (by decide)) (fun _ hk => hk.2) (.string t265)) (fun _ hk => hk.2) (.slice Ao39 t266.length co39)) (fun _ hk => hk.2) (.int .i64 t269)) (fun _ hk => hk.2) (.int .i64 t270)) (fun _ hk => hk.2) (.int .i64 t271)) (fun _ h_ => h_.1))) hb); have n3_ := Aside0.mk (Kd.R_below (by (with_reducible repeat (first | apply Kd.R_alloc | apply Kd.R_drewN | apply Kd.R_drew)); exact (Kd.R_mono (Kd.R_far (p := ⟨gb273, 4, none⟩) (Kd.R_far (p := ⟨gb273, 3, none⟩) (Kd.R_far (p := ⟨gb273, 2, none⟩) (Kd.R_far (p := ⟨gb273, 1, none⟩) (Kd.R_far (p := ⟨gb273, 0, none⟩) (Kd.R_types HO268.out BK273.out (by decide)) (fun _ hk => hk.2) (.string t265)) (fun _ hk => hk.2) (.slice Ao39 t266.length co39)) (fun _ hk => hk.2) (.int .i64 t269)) (fun _ hk => hk.2) (.int .i64 t270)) (fun _ hk => hk.2) (.int .i64 t271)) (fun _ h_ => h_.1))) hb); have n4_ := Aside0.mk (blk_below (g := gb239) (o := .cells #[.string a0_0, .slice A0_1 l0_1.length c0_1, .int .i64 a0_2, .int .i64 a0_3, .int .i64 a0_4] 24 (0, 0)) (by (with_reducible repeat (first | refine blk_drewN ?_ _ | refine blk_drew ?_ | refine blk_alloc ?_ _)); refine blk_far ?_ NB239_273.out _; (with_reducible repeat (first | refine blk_drewN ?_ _ | refine blk_drew ?_ | refine blk_alloc ?_ _)); refine blk_far ?_ NB239_273.out _; (with_reducible repeat (first | refine blk_drewN ?_ _ | refine blk_drew ?_ | refine blk_alloc ?_ _)); refine blk_far ?_ NB239_273.out _; (with_reducible repeat (first | refine blk_drewN ?_ _ | refine blk_drew ?_ | refine blk_alloc ?_ _)); refine blk_far ?_ NB239_273.out _; (with_reducible repeat (first | refine blk_drewN ?_ _ | refine blk_drew ?_ | refine blk_alloc ?_ _)); refine blk_far ?_ NB239_273.out _; (with_reducible repeat (first | refine blk_drewN ?_ _ | refine blk_drew ?_ | refine blk_alloc ?_ _)); exact BK239.out) hb); have n5_ := Aside0.mk (blk_below (g := gb256) (o := .cells #[.string t248, .slice Ao25 t249.length co25, .int .i64 t252, .int .i64 t253, .int .i64 t254] 28 (0, 0)) (by (with_reducible repeat (first | refine blk_drewN ?_ _ | refine blk_drew ?_ | refine blk_alloc ?_ _)); refine blk_far ?_ NB256_273.out _; (with_reducible repeat (first | refine blk_drewN ?_ _ | refine blk_drew ?_ | refine blk_alloc ?_ _)); refine blk_far ?_ NB256_273.out _; (with_reducible repeat (first | refine blk_drewN ?_ _ | refine blk_drew ?_ | refine blk_alloc ?_ _)); refine blk_far ?_ NB256_273.out _; (with_reducible repeat (first | refine blk_drewN ?_ _ | refine blk_drew ?_ | refine blk_alloc ?_ _)); refine blk_far ?_ NB256_273.out _; (with_reducible repeat (first | refine blk_drewN ?_ _ | refine blk_drew ?_ | refine blk_alloc ?_ _)); refine blk_far ?_ NB256_273.out _; (with_reducible repeat (first | refine blk_drewN ?_ _ | refine blk_drew ?_ | refine blk_alloc ?_ _)); exact BK256.out) hb); have n6_ := Aside0.mk (blk_below (g := gb264) (o := .cells #[.string t257, .slice Ao32 t258.length co32, .int .i64 t261, .int .i64 t262, .int .i64 t263] 28 (0, 0)) (by (with_reducible repeat (first | refine blk_drewN ?_ _ | refine blk_drew ?_ | refine blk_alloc ?_ _)); refine blk_far ?_ NB264_273.out _; (with_reducible repeat (first | refine blk_drewN ?_ _ | refine blk_drew ?_ | refine blk_alloc ?_ _)); refine blk_far ?_ NB264_273.out _; (with_reducible repeat (first | refine blk_drewN ?_ _ | refine blk_drew ?_ | refine blk_alloc ?_ _)); refine blk_far ?_ NB264_273.out _; (with_reducible repeat (first | refine blk_drewN ?_ _ | refine blk_drew ?_ | refine blk_alloc ?_ _)); refine blk_far ?_ NB264_273.out _; (with_reducible repeat (first | refine blk_drewN ?_ _ | refine blk_drew ?_ | refine blk_alloc ?_ _)); refine blk_far ?_ NB264_273.out _; (with_reducible repeat (first | refine blk_drewN ?_ _ | refine blk_drew ?_ | refine blk_alloc ?_ _)); exact BK264.out) hb); have n7_ := Aside0.mk (blk_below (g := gb273) (o := .cells #[.string t265, .slice Ao39 t266.length co39, .int .i64 t269, .int .i64 t270, .int .i64 t271] 28 (0, 0)) (by (with_reducible repeat (first | refine blk_drewN ?_ _ | refine blk_drew ?_ | refine blk_alloc ?_ _)); refine blk_put (cs := #[.string t265, .slice Ao39 t266.length co39, .int .i64 t269, .int .i64 t270, .int .i64 0]) ?_ 4 _ rfl; (with_reducible repeat (first | refine blk_drewN ?_ _ | refine blk_drew ?_ | refine blk_alloc ?_ _)); refine blk_put (cs := #[.string t265, .slice Ao39 t266.length co39, .int .i64 t269, .int .i64 0, .int .i64 0]) ?_ 3 _ rfl; (with_reducible repeat (first | refine blk_drewN ?_ _ | refine blk_drew ?_ | refine blk_alloc ?_ _)); refine blk_put (cs := #[.string t265, .slice Ao39 t266.length co39, .int .i64 0, .int .i64 0, .int .i64 0]) ?_ 2 _ rfl; (with_reducible repeat (first | refine blk_drewN ?_ _ | refine blk_drew ?_ | refine blk_alloc ?_ _)); refine blk_put (cs := #[.string t265, .slice none 0 0, .int .i64 0, .int .i64 0, .int .i64 0]) ?_ 1 _ rfl; (with_reducible repeat (first | refine blk_drewN ?_ _ | refine blk_drew ?_ | refine blk_alloc ?_ _)); refine blk_put (cs := #[.string ⟨#[]⟩, .slice none 0 0, .int .i64 0, .int .i64 0, .int .i64 0]) ?_ 0 _ rfl; (with_reducible repeat (first | refine blk_drewN ?_ _ | refine blk_drew ?_ | refine blk_alloc ?_ _)); exact BK273.out) hb); have n8_ := Aside0.mk (below_step (XSq.bB HB) hb); clear HO244; clear HO251; clear HO260; clear HO268; clear BK239; clear BK256; clear BK264; clear BK273; clear HB; have HO244 := n0_; have HO251 := n1_; have HO260 := n2_; have HO268 := n3_; have BK239 := n4_; have BK256 := n5_; have BK264 := n6_; have BK273 := n7_; have HB := n8_; clear n0_ n1_ n2_ n3_ n4_ n5_ n6_ n7_ n8_; clear hb; (try clear hb2); (try clear hk); (try clear hi)))
    go_meet
    case rel => exact ⟨_, (true), (by first | rfl | (simp; done) | (simp [*]; done)), H', ⟨by first | omega | exact Nat.le_refl _⟩, ⟨by (with_reducible repeat (first | apply Kd.R_alloc | apply Kd.R_drewN | apply Kd.R_drew)); exact Kd.R_mono HO251.out (fun _ hk => ⟨hk.1.2, hk.2⟩)⟩, ⟨by (with_reducible repeat (first | apply Kd.R_alloc | apply Kd.R_drewN | apply Kd.R_drew)); exact Kd.R_mono HO260.out (fun _ hk => ⟨hk.1.2, hk.2⟩)⟩, ⟨by (with_reducible repeat (first | apply Kd.R_alloc | apply Kd.R_drewN | apply Kd.R_drew)); exact Kd.R_mono HO268.out (fun _ hk => ⟨hk.1.2, hk.2⟩)⟩, ⟨by (with_reducible repeat (first | refine blk_drewN ?_ _ | refine blk_drew ?_ | refine blk_alloc ?_ _)); exact BK239.out⟩, ⟨by (with_reducible repeat (first | refine blk_drewN ?_ _ | refine blk_drew ?_ | refine blk_alloc ?_ _)); exact BK256.out⟩, ⟨by (with_reducible repeat (first | refine blk_drewN ?_ _ | refine blk_drew ?_ | refine blk_alloc ?_ _)); exact BK264.out⟩, ⟨by (with_reducible repeat (first | refine blk_drewN ?_ _ | refine blk_drew ?_ | refine blk_alloc ?_ _)); exact BK273.out⟩, ⟨by repeat (first | (with_reducible first | exact HB.out | apply below_alloc | apply pw_below_drewN | apply below_drew1 | refine below_set ?_ GE239.out | refine below_set ?_ GE256.out | refine below_set ?_ GE264.out | refine below_set ?_ GE273.out) | exact HB.out)⟩⟩
  case rest =>
   clear HC14
   try clear c1
   try clear c2
   try clear p2
   try clear c3
   try clear c4
   try clear c5
   try clear c6
   try clear c6b0
   try clear c7
   try clear c9
   try clear c12
   try clear c13
   try clear c23
   try clear c29
   try clear c30
   try clear c35
   try clear c36
   try clear c37
   try clear c41
   try clear c42
   try clear c43
   try clear c44
   try clear c46
   try clear c47
   try clear c50
   try clear c51
   try clear c52
   try clear c54
   try clear c55
   try clear hcz16_0
   try clear hcz16_1
   try clear hcz16_2
   try clear hcz16_3
   try clear hcz16_4
   try clear hcz18_0
   try clear hcz18_1
   try clear hcz18_2
   try clear hcz18_3
   try clear hcz18_4
   try clear hcz24_0
   try clear hcz24_1
   try clear hcz24_2
   try clear hcz24_3
   try clear hcz24_4
   try clear hcz26_0
   try clear hcz26_1
   try clear hcz26_2
   try clear hcz26_3
   try clear hcz26_4
   try clear hcz31_0
   try clear hcz31_1
   try clear hcz31_2
   try clear hcz31_3
   try clear hcz31_4
   try clear hcz38_0
   try clear hcz38_1
   try clear hcz38_2
   try clear hcz38_3
   try clear hcz38_4
   try clear hcz45_0
   try clear hcz45_1
   try clear hcz45_2
   try clear hcz45_3
   try clear hcz45_4
   try clear hcz48_0
   try clear hcz48_1
   try clear hcz48_2
   try clear hcz48_3
   try clear hcz48_4
   try clear hcz53_0
   try clear hcz53_1
   try clear hcz53_2
   try clear hcz53_3
   try clear hcz53_4
   try clear hcz56_0
   try clear hcz56_1
   try clear hcz56_2
   try clear hcz56_3
   try clear hcz56_4
   try clear hcz8_0
   try clear hcz8_1
   try clear hcz8_2
   try clear hcz8_3
   try clear hcz8_4
   try clear hfz16_0
   try clear hfz16_1
   try clear hfz16_2
   try clear hfz16_3
   try clear hfz16_4
   try clear hfz18_0
   try clear hfz18_1
   try clear hfz18_2
   try clear hfz18_3
   try clear hfz18_4
   try clear hfz24_0
   try clear hfz24_1
   try clear hfz24_2
   try clear hfz24_3
   try clear hfz24_4
   try clear hfz26_0
   try clear hfz26_1
   try clear hfz26_2
   try clear hfz26_3
   try clear hfz26_4
   try clear hfz31_0
   try clear hfz31_1
   try clear hfz31_2
   try clear hfz31_3
   try clear hfz31_4
   try clear hfz38_0
   try clear hfz38_1
   try clear hfz38_2
   try clear hfz38_3
   try clear hfz38_4
   try clear hfz45_0
   try clear hfz45_1
   try clear hfz45_2
   try clear hfz45_3
   try clear hfz45_4
   try clear hfz48_0
   try clear hfz48_1
   try clear hfz48_2
   try clear hfz48_3
   try clear hfz48_4
   try clear hfz53_0
   try clear hfz53_1
   try clear hfz53_2
   try clear hfz53_3
   try clear hfz53_4
   try clear hfz56_0
   try clear hfz56_1
   try clear hfz56_2
   try clear hfz56_3
   try clear hfz56_4
   try clear hfz8_0
   try clear hfz8_1
   try clear hfz8_2
   try clear hfz8_3
   try clear hfz8_4
   obtain ⟨kq, x52_13, rfl, HA, HJ13, HO_257001, HO_265001, HO_274001, BK239, BK256, BK264, BK273, HB⟩ := hcut; cases kq with
   | zero => exact absurd HA.out (by simp [laws_FnExactPaintSpot.j0])
   | succ kj13 =>
    have H := HA.out; clear HA
    simp only [laws_FnExactPaintSpot.j0] at H
    by_cases c58 : x52_13 = true
    ·
     subst c58
     have H1 : (none) = some r := by rw [if_pos rfl] at H; exact H
     clear H; have H := H1; clear H1
     exact absurd H (by simp)
    ·
     replace c58 := Bool.eq_false_iff.mpr c58; subst c58
     have H1 : ((laws_toPlain.f kj13 a0_0 l0_1 a0_2 a0_3 a0_4).bind fun bt275 => ((laws_eqPlain.f kj13 t257 t258 t261 t262 t263 bt275.1 bt275.2.1 bt275.2.2.1 bt275.2.2.2.1 bt275.2.2.2.2).bind fun t282 => (if t282 = true then ((laws_markPlain.f kj13 t257 t258 t261 t262 t263 1).bind fun bt283 => (if bt283.1 < 0 then (laws_FnExactPaintSpot.j1 kj13 a1 a2 a3 t255 true a0_0 l0_1 a0_2 a0_3 a0_4 t248 t249 t252 t253 t254 t265 t266 t269 t270 t271) else ((laws_eqPlain.f kj13 t265 t266 t269 t270 t271 t248 t249 t252 t253 t254).bind fun t285 => (if t285 = true then (laws_FnExactPaintSpot.j1 kj13 a1 a2 a3 t255 (t272 != t255) a0_0 l0_1 a0_2 a0_3 a0_4 t248 t249 t252 t253 t254 t265 t266 t269 t270 t271) else (laws_FnExactPaintSpot.j1 kj13 a1 a2 a3 t255 true a0_0 l0_1 a0_2 a0_3 a0_4 t248 t249 t252 t253 t254 t265 t266 t269 t270 t271))))) else (none)))) = some r := by rw [if_neg (show ¬ (false = true) by decide)] at H; exact H
     clear H; have H := H1; clear H1; replace H := Option.bind_eq_some_iff.mp H; obtain ⟨⟨t275, t276, t279, t280, t281⟩, A590, H⟩ := H; replace H : ((laws_eqPlain.f kj13 t257 t258 t261 t262 t263 t275 t276 t279 t280 t281).bind fun t282 => (if t282 = true then ((laws_markPlain.f kj13 t257 t258 t261 t262 t263 1).bind fun bt283 => (if bt283.1 < 0 then (laws_FnExactPaintSpot.j1 kj13 a1 a2 a3 t255 true a0_0 l0_1 a0_2 a0_3 a0_4 t248 t249 t252 t253 t254 t265 t266 t269 t270 t271) else ((laws_eqPlain.f kj13 t265 t266 t269 t270 t271 t248 t249 t252 t253 t254).bind fun t285 => (if t285 = true then (laws_FnExactPaintSpot.j1 kj13 a1 a2 a3 t255 (t272 != t255) a0_0 l0_1 a0_2 a0_3 a0_4 t248 t249 t252 t253 t254 t265 t266 t269 t270 t271) else (laws_FnExactPaintSpot.j1 kj13 a1 a2 a3 t255 true a0_0 l0_1 a0_2 a0_3 a0_4 t248 t249 t252 t253 t254 t265 t266 t269 t270 t271))))) else (none))) = some r := H; have A59 := Aside0.mk A590; clear A590; replace H := Option.bind_eq_some_iff.mp H; obtain ⟨t282, A600, H⟩ := H; replace H : (if t282 = true then ((laws_markPlain.f kj13 t257 t258 t261 t262 t263 1).bind fun bt283 => (if bt283.1 < 0 then (laws_FnExactPaintSpot.j1 kj13 a1 a2 a3 t255 true a0_0 l0_1 a0_2 a0_3 a0_4 t248 t249 t252 t253 t254 t265 t266 t269 t270 t271) else ((laws_eqPlain.f kj13 t265 t266 t269 t270 t271 t248 t249 t252 t253 t254).bind fun t285 => (if t285 = true then (laws_FnExactPaintSpot.j1 kj13 a1 a2 a3 t255 (t272 != t255) a0_0 l0_1 a0_2 a0_3 a0_4 t248 t249 t252 t253 t254 t265 t266 t269 t270 t271) else (laws_FnExactPaintSpot.j1 kj13 a1 a2 a3 t255 true a0_0 l0_1 a0_2 a0_3 a0_4 t248 t249 t252 t253 t254 t265 t266 t269 t270 t271))))) else (none)) = some r := H; have A60 := Aside0.mk A600; clear A600
     by_cases c61 : t282 = true
     ·
      subst c61
      have H1 : ((laws_markPlain.f kj13 t257 t258 t261 t262 t263 1).bind fun bt283 => (if bt283.1 < 0 then (laws_FnExactPaintSpot.j1 kj13 a1 a2 a3 t255 true a0_0 l0_1 a0_2 a0_3 a0_4 t248 t249 t252 t253 t254 t265 t266 t269 t270 t271) else ((laws_eqPlain.f kj13 t265 t266 t269 t270 t271 t248 t249 t252 t253 t254).bind fun t285 => (if t285 = true then (laws_FnExactPaintSpot.j1 kj13 a1 a2 a3 t255 (t272 != t255) a0_0 l0_1 a0_2 a0_3 a0_4 t248 t249 t252 t253 t254 t265 t266 t269 t270 t271) else (laws_FnExactPaintSpot.j1 kj13 a1 a2 a3 t255 true a0_0 l0_1 a0_2 a0_3 a0_4 t248 t249 t252 t253 t254 t265 t266 t269 t270 t271))))) = some r := by rw [if_pos rfl] at H; exact H
      clear H; have H := H1; clear H1; replace H := Option.bind_eq_some_iff.mp H; obtain ⟨⟨t283, t284⟩, A620, H⟩ := H; replace H : (if t283 < 0 then (laws_FnExactPaintSpot.j1 kj13 a1 a2 a3 t255 true a0_0 l0_1 a0_2 a0_3 a0_4 t248 t249 t252 t253 t254 t265 t266 t269 t270 t271) else ((laws_eqPlain.f kj13 t265 t266 t269 t270 t271 t248 t249 t252 t253 t254).bind fun t285 => (if t285 = true then (laws_FnExactPaintSpot.j1 kj13 a1 a2 a3 t255 (t272 != t255) a0_0 l0_1 a0_2 a0_3 a0_4 t248 t249 t252 t253 t254 t265 t266 t269 t270 t271) else (laws_FnExactPaintSpot.j1 kj13 a1 a2 a3 t255 true a0_0 l0_1 a0_2 a0_3 a0_4 t248 t249 t252 t253 t254 t265 t266 t269 t270 t271)))) = some r := H; have A62 := Aside0.mk A620; clear A620; have HC63 := Aside0.mk H; clear H
      try go_wp2
      replace HO_257001 := Aside0.mk (Kd.R_drew HO_257001.out); replace HO_265001 := Aside0.mk (Kd.R_drew HO_265001.out); replace HO_274001 := Aside0.mk (Kd.R_drew HO_274001.out); replace BK239 := Aside0.mk (blk_drew BK239.out); replace BK256 := Aside0.mk (blk_drew BK256.out); replace BK264 := Aside0.mk (blk_drew BK264.out); replace BK273 := Aside0.mk (blk_drew BK273.out); replace HB := Aside0.mk (below_drew1 HB.out)
      refine start_ (n := 5) (S := fun w' => w'.cell? ⟨gb264, 0, none⟩ = some (.string t257) ∧ w'.cell? ⟨gb264, 1, none⟩ = some (.slice Ao32 t258.length co32) ∧ w'.cell? ⟨gb264, 2, none⟩ = some (.int .i64 t261) ∧ w'.cell? ⟨gb264, 3, none⟩ = some (.int .i64 t262) ∧ w'.cell? ⟨gb264, 4, none⟩ = some (.int .i64 t263) ∧ w'.cell? ⟨gb239, 0, none⟩ = some (.string a0_0) ∧ w'.cell? ⟨gb239, 1, none⟩ = some (.slice A0_1 l0_1.length c0_1) ∧ w'.cell? ⟨gb239, 2, none⟩ = some (.int .i64 a0_2) ∧ w'.cell? ⟨gb239, 3, none⟩ = some (.int .i64 a0_3) ∧ w'.cell? ⟨gb239, 4, none⟩ = some (.int .i64 a0_4)) (ds := []) #[false, false, false, false, false] (by kernel_rfl) rfl rfl ⟨(blk_cell BK264.out 0).trans rfl, (blk_cell BK264.out 1).trans rfl, (blk_cell BK264.out 2).trans rfl, (blk_cell BK264.out 3).trans rfl, (blk_cell BK264.out 4).trans rfl, (blk_cell BK239.out 0).trans rfl, (blk_cell BK239.out 1).trans rfl, (blk_cell BK239.out 2).trans rfl, (blk_cell BK239.out 3).trans rfl, (blk_cell BK239.out 4).trans rfl⟩ (fun hHeld => ?_)
      generalize wc.drew = w64 at HO_257001 HO_265001 HO_274001 BK239 BK256 BK264 BK273 HB hHeld ⊢
      refine take_ (i := 0) (N := some 53) (v := ?_) (a' := ?_) #[true, false, false, false, false] rfl rfl (by kernel_rfl) (fun _ _ _ h => h) (Or.inl ⟨by rfl, ?_⟩) hHeld ?_ ?_
      rotate_left
      ·
       rintro w' ⟨s0, s1, s2, s3, s4, s5, s6, s7, s8, s9⟩
       go_simp
       with_reducible rfl
      rotate_left
      ·
       simp only [Act.put, List.setIfInBounds_toArray, List.set_cons_zero, List.set_cons_succ, i64_w, i32_w]
       rfl
      refine take_ (i := 1) (N := some 54) (v := ?_) (a' := ?_) #[true, true, false, false, false] rfl rfl (by kernel_rfl) (fun _ _ _ h => h) (Or.inl ⟨by rfl, ?_⟩) hHeld ?_ ?_
      rotate_left
      ·
       rintro w' ⟨s0, s1, s2, s3, s4, s5, s6, s7, s8, s9⟩
       go_simp
       with_reducible rfl
      rotate_left
      ·
       simp only [Act.put, List.setIfInBounds_toArray, List.set_cons_zero, List.set_cons_succ, i64_w, i32_w]
       rfl
      refine one_ (i := 2) (N := some 55) #[true, true, true, false, false] rfl rfl (by kernel_rfl) (by decide) (fun K hK => ?_)
      refine goes_ Tryd.func7 (by kernel_rfl) rfl #[.agg #[.string a0_0, .slice A0_1 l0_1.length c0_1, .int .i64 a0_2, .int .i64 a0_3, .int .i64 a0_4]] (by rfl) rfl rfl (by (try simp only [List.map_toArray, List.map_cons, List.map_nil]); first | done | rfl | (simp only [List.length_drop, List.length_take]; rfl)) ?_
      with_reducible refine (laws_toPlain.calls kj13 a0_0 _ _ l0_1 a0_2 a0_3 a0_4 t275 t276 t279 t280 t281 _ ?side1 ?side2 A59.out).mono ?_
      (case side1 => repeat (first | exact (Kd.C_below HR0_1.out HB.out) | (with_reducible refine Kd.C_alloc ?_ _) | (with_reducible refine Kd.C_drewN ?_ _) | (with_reducible refine Kd.C_drew ?_)))
      (case side2 => exact HC0_1.out)
      rintro e w65 ⟨v277, rfl, ho0, hb⟩
      refine ⟨_, rfl, ?_⟩
      have HO278 := Aside0.mk (Kd.R_lower (Kd.R_new' (Kd.R_new' (Kd.R_new' ho0 (Kd.R_lt (XSq.pR HO_257001))) (Kd.R_lt (XSq.pR HO_265001))) (Kd.R_lt (XSq.pR HO_274001))) (below_size (XSq.bB HB))); replace HO_257001 := Aside0.mk (Kd.R_elder' (XSq.pR HO_257001) (Kd.R_base ho0) hb); replace HO_265001 := Aside0.mk (Kd.R_elder' (XSq.pR HO_265001) (Kd.R_base ho0) hb); replace HO_274001 := Aside0.mk (Kd.R_elder' (XSq.pR HO_274001) (Kd.R_base ho0) hb); replace BK239 := XSq.bb BK239 hb; replace BK256 := XSq.bb BK256 hb; replace BK264 := XSq.bb BK264 hb; replace BK273 := XSq.bb BK273 hb; replace HB := Aside0.mk (below_step (XSq.bB HB) hb); clear hb
      (try clear ho0)
      obtain ⟨Ao66, co66, eo66⟩ := Kd.R_slice HO278.out
      (first | subst eo66 | (injection eo66 with f1_ f2_ f3_; have f4_ := f1_.symm; have f5_ := f3_.symm; clear f1_ f2_ f3_; subst f4_; subst f5_))
      refine hK.out _ _ ⟨(blk_cell BK264.out 0).trans rfl, (blk_cell BK264.out 1).trans rfl, (blk_cell BK264.out 2).trans rfl, (blk_cell BK264.out 3).trans rfl, (blk_cell BK264.out 4).trans rfl, (blk_cell BK239.out 0).trans rfl, (blk_cell BK239.out 1).trans rfl, (blk_cell BK239.out 2).trans rfl, (blk_cell BK239.out 3).trans rfl, (blk_cell BK239.out 4).trans rfl⟩ (fun hHeld => ?_)
      clear hK K
      refine norm_ (a' := ?_) ?_ ?_
      rotate_left
      ·
       show Act.put _ (some 55) _ = _
       simp only [Act.put, List.setIfInBounds_toArray, List.set_cons_zero, List.set_cons_succ, i64_w, i32_w]
       rfl
      refine one_ (i := 3) (N := some 56) #[true, true, true, true, false] rfl rfl (by kernel_rfl) (by decide) (fun K hK => ?_)
      refine goes_ Tryd.func9 (by kernel_rfl) rfl #[.agg #[.string t257, .slice Ao32 t258.length co32, .int .i64 t261, .int .i64 t262, .int .i64 t263], .agg #[.string t275, .slice Ao66 t276.length co66, .int .i64 t279, .int .i64 t280, .int .i64 t281]] (by rfl) rfl rfl (by (try simp only [List.map_toArray, List.map_cons, List.map_nil]); first | done | rfl | (simp only [List.length_drop, List.length_take]; rfl)) ?_
      with_reducible refine (laws_eqPlain.calls kj13 t257 _ _ t258 t261 t262 t263 t275 _ _ t276 t279 t280 t281 true _ ?side1 ?side2 ?side3 ?side4 A60.out).mono ?_
      (case side1 => repeat (first | exact (Kd.R_reads' HO_265001.out).2.2 | (with_reducible refine Kd.C_alloc ?_ _) | (with_reducible refine Kd.C_drewN ?_ _) | (with_reducible refine Kd.C_drew ?_)))
      (case side2 => exact (Kd.R_reads' HO_265001.out).2.1)
      (case side3 => repeat (first | exact (Kd.R_reads' HO278.out).2.2 | (with_reducible refine Kd.C_alloc ?_ _) | (with_reducible refine Kd.C_drewN ?_ _) | (with_reducible refine Kd.C_drew ?_)))
      (case side4 => exact (Kd.R_reads' HO278.out).2.1)
      rintro e w67 ⟨rfl, hb⟩
      refine ⟨_, rfl, ?_⟩
      replace HO_257001 := Aside0.mk (Kd.R_below (XSq.pR HO_257001) hb); replace HO_265001 := Aside0.mk (Kd.R_below (XSq.pR HO_265001) hb); replace HO_274001 := Aside0.mk (Kd.R_below (XSq.pR HO_274001) hb); replace HO278 := Aside0.mk (Kd.R_below (XSq.pR HO278) hb); replace BK239 := XSq.bb BK239 hb; replace BK256 := XSq.bb BK256 hb; replace BK264 := XSq.bb BK264 hb; replace BK273 := XSq.bb BK273 hb; replace HB := Aside0.mk (below_step (XSq.bB HB) hb); clear hb
      refine hK.out _ _ ⟨(blk_cell BK264.out 0).trans rfl, (blk_cell BK264.out 1).trans rfl, (blk_cell BK264.out 2).trans rfl, (blk_cell BK264.out 3).trans rfl, (blk_cell BK264.out 4).trans rfl, (blk_cell BK239.out 0).trans rfl, (blk_cell BK239.out 1).trans rfl, (blk_cell BK239.out 2).trans rfl, (blk_cell BK239.out 3).trans rfl, (blk_cell BK239.out 4).trans rfl⟩ (fun hHeld => ?_)
      clear hK K
      refine norm_ (a' := ?_) ?_ ?_
      rotate_left
      ·
       show Act.put _ (some 56) _ = _
       simp only [Act.put, List.setIfInBounds_toArray, List.set_cons_zero, List.set_cons_succ, i64_w, i32_w]
       rfl
      refine pure_ (i := 4) (N := some 57) (v := ?_) (a' := ?_) #[true, true, true, true, true] rfl rfl (by kernel_rfl) (fun _ _ _ h => h) (Or.inl ⟨by rfl, ?_⟩) ?_ ?_
      rotate_left
      ·
       intro w'
       go_simp
       with_reducible rfl
      rotate_left
      ·
       simp only [Act.put, List.setIfInBounds_toArray, List.set_cons_zero, List.set_cons_succ, i64_w, i32_w]
       rfl
      refine done_ (by kernel_rfl) ?_
      have hnb68 := NB264_239.out; have hnc68 := NB239_264.out; have hnb69 := NB264_256.out; have hnc69 := NB256_264.out; have hnb70 := NB264_273.out; have hnc70 := NB273_264.out; have hcz71_0 : w67.cell? ⟨gb264, 0, none⟩ = some (.string t257) := (blk_cell BK264.out 0).trans rfl; have hcz71_1 : w67.cell? ⟨gb264, 1, none⟩ = some (.slice Ao32 t258.length co32) := (blk_cell BK264.out 1).trans rfl; have hcz71_2 : w67.cell? ⟨gb264, 2, none⟩ = some (.int .i64 t261) := (blk_cell BK264.out 2).trans rfl; have hcz71_3 : w67.cell? ⟨gb264, 3, none⟩ = some (.int .i64 t262) := (blk_cell BK264.out 3).trans rfl; have hcz71_4 : w67.cell? ⟨gb264, 4, none⟩ = some (.int .i64 t263) := (blk_cell BK264.out 4).trans rfl; have hfz71_0 := blk_frozen BK264.out 0; have hfz71_1 := blk_frozen BK264.out 1; have hfz71_2 := blk_frozen BK264.out 2; have hfz71_3 := blk_frozen BK264.out 3; have hfz71_4 := blk_frozen BK264.out 4
      go_upto_region 14 with (first | ((with_reducible refine gate_callee (f := 10) rfl ?_); refine goesL_ (some 60) rfl rfl Tryd.func10 (by kernel_rfl) rfl #[.agg #[.string t257, .slice Ao32 t258.length co32, .int .i64 t261, .int .i64 t262, .int .i64 t263], .int .i64 1] rfl (by (try simp only [List.map_toArray, List.map_cons, List.map_nil]); first | done | rfl | (simp only [List.length_drop, List.length_take]; rfl)) ?_; (with_reducible refine (laws_markPlain.calls kj13 t257 (fun k_ => some k_ = (.slice Ao32 t258.length co32 : Value).ownBlock) (.slice Ao32 t258.length co32) t258 t261 t262 t263 1 t283 t284 w _ ?side1 ?side2 A62.out).mono ?_); (case side1 => repeat (first | (with_reducible first | exact HB.out | apply below_alloc | apply pw_below_drewN | apply below_drew1 | refine below_set ?_ GE239.out | refine below_set ?_ GE256.out | refine below_set ?_ GE264.out | refine below_set ?_ GE273.out) | exact HB.out)); (case side2 => exact Kd.R_tight rfl HO_265001.out); rintro e w72 ⟨rfl, hy0, hb, hkp⟩; refine ⟨_, rfl, ?_⟩; replace HO_257001 := Aside0.mk (Kd.R_mono (ok' := fun k_ => some k_ ≠ (.slice Ao32 t258.length co32 : Value).ownBlock ∧ some k_ ≠ (.slice Ao39 t266.length co39 : Value).ownBlock ∧ some k_ ≠ (.slice Ao66 t276.length co66 : Value).ownBlock) (Kd.R_keptB (HO_257001.out) hkp (fun k_ hk_ hs_ => (hk_.1.1) hs_)) (fun k_ hk_ => ⟨hk_.1.1.1, hk_.1.1.2, hk_.1.2⟩)); replace HO_274001 := Aside0.mk (Kd.R_mono (ok' := fun k_ => some k_ ≠ (.slice Ao25 t249.length co25 : Value).ownBlock ∧ some k_ ≠ (.slice Ao32 t258.length co32 : Value).ownBlock ∧ some k_ ≠ (.slice Ao66 t276.length co66 : Value).ownBlock) (Kd.R_keptB (HO_274001.out) hkp (fun k_ hk_ hs_ => (hk_.1.2) hs_)) (fun k_ hk_ => ⟨hk_.1.1.1, hk_.1.1.2, hk_.1.2⟩)); replace BK239 := Aside0.mk (blk_kept (XSq.bq BK239) hkp (fun hs_ => (fun e_ => (Kd.R_ne HO_265001.out BK239.out (by decide)) e_) hs_)); replace BK256 := Aside0.mk (blk_kept (XSq.bq BK256) hkp (fun hs_ => (fun e_ => (Kd.R_ne HO_265001.out BK256.out (by decide)) e_) hs_)); replace BK264 := Aside0.mk (blk_kept (XSq.bq BK264) hkp (fun hs_ => (fun e_ => (Kd.R_ne HO_265001.out BK264.out (by decide)) e_) hs_)); replace BK273 := Aside0.mk (blk_kept (XSq.bq BK273) hkp (fun hs_ => (fun e_ => (Kd.R_ne HO_265001.out BK273.out (by decide)) e_) hs_)); replace HO_265001 := Aside0.mk (Kd.R_reok rfl hy0 (fun k_ e_ => HO_265001.out.1 k_ e_)); replace HO278 := Aside0.mk (Kd.R_mono (ok' := fun k_ => some k_ ≠ (.slice Ao25 t249.length co25 : Value).ownBlock ∧ some k_ ≠ (.slice Ao32 t258.length co32 : Value).ownBlock ∧ some k_ ≠ (.slice Ao39 t266.length co39 : Value).ownBlock) (Kd.R_keptB (HO278.out) hkp (fun k_ hk_ hs_ => (hk_.1.2) hs_)) (fun k_ hk_ => ⟨hk_.1.1.1.2, hk_.1.1.2, hk_.1.2⟩)); replace HB := Aside0.mk (hb); clear hb; (try clear hkp); (try clear hy0)))
      (try simp only [Act.put, List.setIfInBounds_toArray, List.set_cons_zero, List.set_cons_succ])
      go_cut [73] (fun v73 wc => ∃ (kq : Nat) (x73_62 : Bool), v73 = .bool x73_62 ∧ Aside0 (laws_FnExactPaintSpot.j1 kq a1 a2 a3 t255 x73_62 a0_0 l0_1 a0_2 a0_3 a0_4 t248 t249 t252 t253 t254 t265 t266 t269 t270 t271 = some r) ∧ Aside0 (kq ≤ kj13) ∧ Aside0 (Kd.R k60 60 wc w.heap.size (fun k_ => some k_ ≠ ((.slice Ao32 t258.length co32) : Value).ownBlock ∧ some k_ ≠ ((.slice Ao39 t266.length co39) : Value).ownBlock) (.slice Ao25 t249.length co25) t249) ∧ Aside0 (Kd.R k60 60 wc w.heap.size (fun k_ => some k_ ≠ ((.slice Ao25 t249.length co25) : Value).ownBlock ∧ some k_ ≠ ((.slice Ao39 t266.length co39) : Value).ownBlock) (.slice Ao32 t258.length co32) t284) ∧ Aside0 (Kd.R k60 60 wc w.heap.size (fun k_ => some k_ ≠ ((.slice Ao25 t249.length co25) : Value).ownBlock ∧ some k_ ≠ ((.slice Ao32 t258.length co32) : Value).ownBlock) (.slice Ao39 t266.length co39) t266) ∧ Aside0 (wc.heap[gb239]? = some (.cells #[.string a0_0, (.slice A0_1 l0_1.length c0_1), .int .i64 a0_2, .int .i64 a0_3, .int .i64 a0_4] 24 (0, 0))) ∧ Aside0 (wc.heap[gb256]? = some (.cells #[.string t248, (.slice Ao25 t249.length co25), .int .i64 t252, .int .i64 t253, .int .i64 t254] 28 (0, 0))) ∧ Aside0 (wc.heap[gb264]? = some (.cells #[.string t257, (.slice Ao32 t258.length co32), .int .i64 t261, .int .i64 t262, .int .i64 t263] 28 (0, 0))) ∧ Aside0 (wc.heap[gb273]? = some (.cells #[.string t265, (.slice Ao39 t266.length co39), .int .i64 t269, .int .i64 t270, .int .i64 t271] 28 (0, 0))) ∧ Aside0 (Below w.heap.size w wc))
      case first =>
       have H := HC63.out; clear HC63
       by_cases c73 : t283 < 0
       ·
        rw [if_pos c73] at H
        have c73b0 : decide (t283 < 0) = true := decide_eq_true c73; clear c73
        (first | rw [c73b0] | (simp only [i64_w, i32_w]; rw [c73b0]) | skip)
        have H' := Aside0.mk H; clear H
        go_wp2
        go_meet
        case rel => exact ⟨_, (true), (by first | rfl | (simp; done) | (simp [*]; done)), H', ⟨by have := HJ13.out; first | omega | exact Nat.le_refl _⟩, ⟨by (with_reducible repeat (first | apply Kd.R_alloc | apply Kd.R_drewN | apply Kd.R_drew)); exact Kd.R_mono HO_257001.out (fun _ hk => ⟨hk.1, hk.2.1⟩)⟩, ⟨by (with_reducible repeat (first | apply Kd.R_alloc | apply Kd.R_drewN | apply Kd.R_drew)); exact Kd.R_mono HO_265001.out (fun _ hk => ⟨hk.1.1, hk.1.2⟩)⟩, ⟨by (with_reducible repeat (first | apply Kd.R_alloc | apply Kd.R_drewN | apply Kd.R_drew)); exact Kd.R_mono HO_274001.out (fun _ hk => ⟨hk.1, hk.2.1⟩)⟩, ⟨by (with_reducible repeat (first | refine blk_drewN ?_ _ | refine blk_drew ?_ | refine blk_alloc ?_ _)); exact BK239.out⟩, ⟨by (with_reducible repeat (first | refine blk_drewN ?_ _ | refine blk_drew ?_ | refine blk_alloc ?_ _)); exact BK256.out⟩, ⟨by (with_reducible repeat (first | refine blk_drewN ?_ _ | refine blk_drew ?_ | refine blk_alloc ?_ _)); exact BK264.out⟩, ⟨by (with_reducible repeat (first | refine blk_drewN ?_ _ | refine blk_drew ?_ | refine blk_alloc ?_ _)); exact BK273.out⟩, ⟨by repeat (first | (with_reducible first | exact HB.out | apply below_alloc | apply pw_below_drewN | apply below_drew1 | refine below_set ?_ GE239.out | refine below_set ?_ GE256.out | refine below_set ?_ GE264.out | refine below_set ?_ GE273.out) | exact HB.out)⟩⟩
       ·
        rw [if_neg c73] at H
        have c73b0 : decide (t283 < 0) = false := decide_eq_false c73; clear c73
        (first | rw [c73b0] | (simp only [i64_w, i32_w]; rw [c73b0]) | skip)
        replace H := Option.bind_eq_some_iff.mp H; obtain ⟨t285, A740, H⟩ := H; replace H : (if t285 = true then (laws_FnExactPaintSpot.j1 kj13 a1 a2 a3 t255 (t272 != t255) a0_0 l0_1 a0_2 a0_3 a0_4 t248 t249 t252 t253 t254 t265 t266 t269 t270 t271) else (laws_FnExactPaintSpot.j1 kj13 a1 a2 a3 t255 true a0_0 l0_1 a0_2 a0_3 a0_4 t248 t249 t252 t253 t254 t265 t266 t269 t270 t271)) = some r := H; have A74 := Aside0.mk A740; clear A740
        by_cases c75 : t285 = true
        ·
         subst c75
         have H1 : (laws_FnExactPaintSpot.j1 kj13 a1 a2 a3 t255 (t272 != t255) a0_0 l0_1 a0_2 a0_3 a0_4 t248 t249 t252 t253 t254 t265 t266 t269 t270 t271) = some r := by rw [if_pos rfl] at H; exact H
         clear H; have H := H1; clear H1; have H' := Aside0.mk H; clear H; have hnb76 := NB273_239.out; have hnc76 := NB239_273.out; have hnb77 := NB273_256.out; have hnc77 := NB256_273.out; have hnb78 := NB273_264.out; have hnc78 := NB264_273.out; have hcz79_0 : w72.cell? ⟨gb273, 0, none⟩ = some (.string t265) := (blk_cell BK273.out 0).trans rfl; have hcz79_1 : w72.cell? ⟨gb273, 1, none⟩ = some (.slice Ao39 t266.length co39) := (blk_cell BK273.out 1).trans rfl; have hcz79_2 : w72.cell? ⟨gb273, 2, none⟩ = some (.int .i64 t269) := (blk_cell BK273.out 2).trans rfl; have hcz79_3 : w72.cell? ⟨gb273, 3, none⟩ = some (.int .i64 t270) := (blk_cell BK273.out 3).trans rfl; have hcz79_4 : w72.cell? ⟨gb273, 4, none⟩ = some (.int .i64 t271) := (blk_cell BK273.out 4).trans rfl; have hfz79_0 := blk_frozen BK273.out 0; have hfz79_1 := blk_frozen BK273.out 1; have hfz79_2 := blk_frozen BK273.out 2; have hfz79_3 := blk_frozen BK273.out 3; have hfz79_4 := blk_frozen BK273.out 4; have hnb80 := NB256_239.out; have hnc80 := NB239_256.out; have hnb81 := NB256_264.out; have hnc81 := NB264_256.out; have hcz82_0 : w72.cell? ⟨gb256, 0, none⟩ = some (.string t248) := (blk_cell BK256.out 0).trans rfl; have hcz82_1 : w72.cell? ⟨gb256, 1, none⟩ = some (.slice Ao25 t249.length co25) := (blk_cell BK256.out 1).trans rfl; have hcz82_2 : w72.cell? ⟨gb256, 2, none⟩ = some (.int .i64 t252) := (blk_cell BK256.out 2).trans rfl; have hcz82_3 : w72.cell? ⟨gb256, 3, none⟩ = some (.int .i64 t253) := (blk_cell BK256.out 3).trans rfl; have hcz82_4 : w72.cell? ⟨gb256, 4, none⟩ = some (.int .i64 t254) := (blk_cell BK256.out 4).trans rfl; have hfz82_0 := blk_frozen BK256.out 0; have hfz82_1 := blk_frozen BK256.out 1; have hfz82_2 := blk_frozen BK256.out 2; have hfz82_3 := blk_frozen BK256.out 3; have hfz82_4 := blk_frozen BK256.out 4
         go_wp2_with (first | (go_at_call 9; (with_reducible refine (laws_eqPlain.calls kj13 t265 _ _ t266 t269 t270 t271 t248 _ _ t249 t252 t253 t254 true _ ?side1 ?side2 ?side3 ?side4 A74.out).mono ?_); (case side1 => repeat (first | exact (Kd.R_reads' HO_274001.out).2.2 | (with_reducible refine Kd.C_alloc ?_ _) | (with_reducible refine Kd.C_drewN ?_ _) | (with_reducible refine Kd.C_drew ?_))); (case side2 => exact (Kd.R_reads' HO_274001.out).2.1); (case side3 => repeat (first | exact (Kd.R_reads' HO_257001.out).2.2 | (with_reducible refine Kd.C_alloc ?_ _) | (with_reducible refine Kd.C_drewN ?_ _) | (with_reducible refine Kd.C_drew ?_))); (case side4 => exact (Kd.R_reads' HO_257001.out).2.1); rintro e w83 ⟨rfl, hb⟩; replace HO_257001 := Aside0.mk (Kd.R_below (XSq.pR HO_257001) hb); replace HO_265001 := Aside0.mk (Kd.R_below (XSq.pR HO_265001) hb); replace HO_274001 := Aside0.mk (Kd.R_below (XSq.pR HO_274001) hb); replace HO278 := Aside0.mk (Kd.R_below (XSq.pR HO278) hb); replace BK239 := XSq.bb BK239 hb; replace BK256 := XSq.bb BK256 hb; replace BK264 := XSq.bb BK264 hb; replace BK273 := XSq.bb BK273 hb; replace HB := Aside0.mk (below_step (XSq.bB HB) hb); clear hb; (try clear hb2); (try clear hk); (try clear hi)))
         go_meet
         case rel => exact ⟨_, ((t272 != t255)), (by first | rfl | (simp; done) | (simp [*]; done)), H', ⟨by have := HJ13.out; first | omega | exact Nat.le_refl _⟩, ⟨by (with_reducible repeat (first | apply Kd.R_alloc | apply Kd.R_drewN | apply Kd.R_drew)); exact Kd.R_mono HO_257001.out (fun _ hk => ⟨hk.1, hk.2.1⟩)⟩, ⟨by (with_reducible repeat (first | apply Kd.R_alloc | apply Kd.R_drewN | apply Kd.R_drew)); exact Kd.R_mono HO_265001.out (fun _ hk => ⟨hk.1.1, hk.1.2⟩)⟩, ⟨by (with_reducible repeat (first | apply Kd.R_alloc | apply Kd.R_drewN | apply Kd.R_drew)); exact Kd.R_mono HO_274001.out (fun _ hk => ⟨hk.1, hk.2.1⟩)⟩, ⟨by (with_reducible repeat (first | refine blk_drewN ?_ _ | refine blk_drew ?_ | refine blk_alloc ?_ _)); exact BK239.out⟩, ⟨by (with_reducible repeat (first | refine blk_drewN ?_ _ | refine blk_drew ?_ | refine blk_alloc ?_ _)); exact BK256.out⟩, ⟨by (with_reducible repeat (first | refine blk_drewN ?_ _ | refine blk_drew ?_ | refine blk_alloc ?_ _)); exact BK264.out⟩, ⟨by (with_reducible repeat (first | refine blk_drewN ?_ _ | refine blk_drew ?_ | refine blk_alloc ?_ _)); exact BK273.out⟩, ⟨by repeat (first | (with_reducible first | exact HB.out | apply below_alloc | apply pw_below_drewN | apply below_drew1 | refine below_set ?_ GE239.out | refine below_set ?_ GE256.out | refine below_set ?_ GE264.out | refine below_set ?_ GE273.out) | exact HB.out)⟩⟩
        ·
         replace c75 := Bool.eq_false_iff.mpr c75; subst c75
         have H1 : (laws_FnExactPaintSpot.j1 kj13 a1 a2 a3 t255 true a0_0 l0_1 a0_2 a0_3 a0_4 t248 t249 t252 t253 t254 t265 t266 t269 t270 t271) = some r := by rw [if_neg (show ¬ (false = true) by decide)] at H; exact H
         clear H; have H := H1; clear H1; have H' := Aside0.mk H; clear H; have hnb84 := NB273_239.out; have hnc84 := NB239_273.out; have hnb85 := NB273_256.out; have hnc85 := NB256_273.out; have hnb86 := NB273_264.out; have hnc86 := NB264_273.out; have hcz87_0 : w72.cell? ⟨gb273, 0, none⟩ = some (.string t265) := (blk_cell BK273.out 0).trans rfl; have hcz87_1 : w72.cell? ⟨gb273, 1, none⟩ = some (.slice Ao39 t266.length co39) := (blk_cell BK273.out 1).trans rfl; have hcz87_2 : w72.cell? ⟨gb273, 2, none⟩ = some (.int .i64 t269) := (blk_cell BK273.out 2).trans rfl; have hcz87_3 : w72.cell? ⟨gb273, 3, none⟩ = some (.int .i64 t270) := (blk_cell BK273.out 3).trans rfl; have hcz87_4 : w72.cell? ⟨gb273, 4, none⟩ = some (.int .i64 t271) := (blk_cell BK273.out 4).trans rfl; have hfz87_0 := blk_frozen BK273.out 0; have hfz87_1 := blk_frozen BK273.out 1; have hfz87_2 := blk_frozen BK273.out 2; have hfz87_3 := blk_frozen BK273.out 3; have hfz87_4 := blk_frozen BK273.out 4; have hnb88 := NB256_239.out; have hnc88 := NB239_256.out; have hnb89 := NB256_264.out; have hnc89 := NB264_256.out; have hcz90_0 : w72.cell? ⟨gb256, 0, none⟩ = some (.string t248) := (blk_cell BK256.out 0).trans rfl; have hcz90_1 : w72.cell? ⟨gb256, 1, none⟩ = some (.slice Ao25 t249.length co25) := (blk_cell BK256.out 1).trans rfl; have hcz90_2 : w72.cell? ⟨gb256, 2, none⟩ = some (.int .i64 t252) := (blk_cell BK256.out 2).trans rfl; have hcz90_3 : w72.cell? ⟨gb256, 3, none⟩ = some (.int .i64 t253) := (blk_cell BK256.out 3).trans rfl; have hcz90_4 : w72.cell? ⟨gb256, 4, none⟩ = some (.int .i64 t254) := (blk_cell BK256.out 4).trans rfl; have hfz90_0 := blk_frozen BK256.out 0; have hfz90_1 := blk_frozen BK256.out 1; have hfz90_2 := blk_frozen BK256.out 2; have hfz90_3 := blk_frozen BK256.out 3; have hfz90_4 := blk_frozen BK256.out 4
         go_wp2_with (first | (go_at_call 9; (with_reducible refine (laws_eqPlain.calls kj13 t265 _ _ t266 t269 t270 t271 t248 _ _ t249 t252 t253 t254 false _ ?side1 ?side2 ?side3 ?side4 A74.out).mono ?_); (case side1 => repeat (first | exact (Kd.R_reads' HO_274001.out).2.2 | (with_reducible refine Kd.C_alloc ?_ _) | (with_reducible refine Kd.C_drewN ?_ _) | (with_reducible refine Kd.C_drew ?_))); (case side2 => exact (Kd.R_reads' HO_274001.out).2.1); (case side3 => repeat (first | exact (Kd.R_reads' HO_257001.out).2.2 | (with_reducible refine Kd.C_alloc ?_ _) | (with_reducible refine Kd.C_drewN ?_ _) | (with_reducible refine Kd.C_drew ?_))); (case side4 => exact (Kd.R_reads' HO_257001.out).2.1); rintro e w91 ⟨rfl, hb⟩; replace HO_257001 := Aside0.mk (Kd.R_below (XSq.pR HO_257001) hb); replace HO_265001 := Aside0.mk (Kd.R_below (XSq.pR HO_265001) hb); replace HO_274001 := Aside0.mk (Kd.R_below (XSq.pR HO_274001) hb); replace HO278 := Aside0.mk (Kd.R_below (XSq.pR HO278) hb); replace BK239 := XSq.bb BK239 hb; replace BK256 := XSq.bb BK256 hb; replace BK264 := XSq.bb BK264 hb; replace BK273 := XSq.bb BK273 hb; replace HB := Aside0.mk (below_step (XSq.bB HB) hb); clear hb; (try clear hb2); (try clear hk); (try clear hi)))
         go_meet
         case rel => exact ⟨_, (true), (by first | rfl | (simp; done) | (simp [*]; done)), H', ⟨by have := HJ13.out; first | omega | exact Nat.le_refl _⟩, ⟨by (with_reducible repeat (first | apply Kd.R_alloc | apply Kd.R_drewN | apply Kd.R_drew)); exact Kd.R_mono HO_257001.out (fun _ hk => ⟨hk.1, hk.2.1⟩)⟩, ⟨by (with_reducible repeat (first | apply Kd.R_alloc | apply Kd.R_drewN | apply Kd.R_drew)); exact Kd.R_mono HO_265001.out (fun _ hk => ⟨hk.1.1, hk.1.2⟩)⟩, ⟨by (with_reducible repeat (first | apply Kd.R_alloc | apply Kd.R_drewN | apply Kd.R_drew)); exact Kd.R_mono HO_274001.out (fun _ hk => ⟨hk.1, hk.2.1⟩)⟩, ⟨by (with_reducible repeat (first | refine blk_drewN ?_ _ | refine blk_drew ?_ | refine blk_alloc ?_ _)); exact BK239.out⟩, ⟨by (with_reducible repeat (first | refine blk_drewN ?_ _ | refine blk_drew ?_ | refine blk_alloc ?_ _)); exact BK256.out⟩, ⟨by (with_reducible repeat (first | refine blk_drewN ?_ _ | refine blk_drew ?_ | refine blk_alloc ?_ _)); exact BK264.out⟩, ⟨by (with_reducible repeat (first | refine blk_drewN ?_ _ | refine blk_drew ?_ | refine blk_alloc ?_ _)); exact BK273.out⟩, ⟨by repeat (first | (with_reducible first | exact HB.out | apply below_alloc | apply pw_below_drewN | apply below_drew1 | refine below_set ?_ GE239.out | refine below_set ?_ GE256.out | refine below_set ?_ GE264.out | refine below_set ?_ GE273.out) | exact HB.out)⟩⟩
      case rest =>
       clear HC63
       try clear c1
       try clear c2
       try clear p2
       try clear c3
       try clear c4
       try clear c5
       try clear c6
       try clear c6b0
       try clear c7
       try clear c8
       try clear c9
       try clear c10
       try clear c12
       try clear c13
       try clear c23
       try clear c29
       try clear c30
       try clear c35
       try clear c36
       try clear c37
       try clear c41
       try clear c42
       try clear c43
       try clear c44
       try clear c46
       try clear c47
       try clear c50
       try clear c51
       try clear c52
       try clear c54
       try clear c55
       try clear c58
       try clear c61
       try clear c68
       try clear c69
       try clear c70
       try clear c73
       try clear c73b0
       try clear c75
       try clear c76
       try clear c77
       try clear c78
       try clear c80
       try clear c81
       try clear c84
       try clear c85
       try clear c86
       try clear c88
       try clear c89
       try clear hcz16_0
       try clear hcz16_1
       try clear hcz16_2
       try clear hcz16_3
       try clear hcz16_4
       try clear hcz18_0
       try clear hcz18_1
       try clear hcz18_2
       try clear hcz18_3
       try clear hcz18_4
       try clear hcz24_0
       try clear hcz24_1
       try clear hcz24_2
       try clear hcz24_3
       try clear hcz24_4
       try clear hcz26_0
       try clear hcz26_1
       try clear hcz26_2
       try clear hcz26_3
       try clear hcz26_4
       try clear hcz31_0
       try clear hcz31_1
       try clear hcz31_2
       try clear hcz31_3
       try clear hcz31_4
       try clear hcz38_0
       try clear hcz38_1
       try clear hcz38_2
       try clear hcz38_3
       try clear hcz38_4
       try clear hcz45_0
       try clear hcz45_1
       try clear hcz45_2
       try clear hcz45_3
       try clear hcz45_4
       try clear hcz48_0
       try clear hcz48_1
       try clear hcz48_2
       try clear hcz48_3
       try clear hcz48_4
       try clear hcz53_0
       try clear hcz53_1
       try clear hcz53_2
       try clear hcz53_3
       try clear hcz53_4
       try clear hcz56_0
       try clear hcz56_1
       try clear hcz56_2
       try clear hcz56_3
       try clear hcz56_4
       try clear hcz71_0
       try clear hcz71_1
       try clear hcz71_2
       try clear hcz71_3
       try clear hcz71_4
       try clear hcz79_0
       try clear hcz79_1
       try clear hcz79_2
       try clear hcz79_3
       try clear hcz79_4
       try clear hcz82_0
       try clear hcz82_1
       try clear hcz82_2
       try clear hcz82_3
       try clear hcz82_4
       try clear hcz87_0
       try clear hcz87_1
       try clear hcz87_2
       try clear hcz87_3
       try clear hcz87_4
       try clear hcz8_0
       try clear hcz8_1
       try clear hcz8_2
       try clear hcz8_3
       try clear hcz8_4
       try clear hcz90_0
       try clear hcz90_1
       try clear hcz90_2
       try clear hcz90_3
       try clear hcz90_4
       try clear hfz16_0
       try clear hfz16_1
       try clear hfz16_2
       try clear hfz16_3
       try clear hfz16_4
       try clear hfz18_0
       try clear hfz18_1
       try clear hfz18_2
       try clear hfz18_3
       try clear hfz18_4
       try clear hfz24_0
       try clear hfz24_1
       try clear hfz24_2
       try clear hfz24_3
       try clear hfz24_4
       try clear hfz26_0
       try clear hfz26_1
       try clear hfz26_2
       try clear hfz26_3
       try clear hfz26_4
       try clear hfz31_0
       try clear hfz31_1
       try clear hfz31_2
       try clear hfz31_3
       try clear hfz31_4
       try clear hfz38_0
       try clear hfz38_1
       try clear hfz38_2
       try clear hfz38_3
       try clear hfz38_4
       try clear hfz45_0
       try clear hfz45_1
       try clear hfz45_2
       try clear hfz45_3
       try clear hfz45_4
       try clear hfz48_0
       try clear hfz48_1
       try clear hfz48_2
       try clear hfz48_3
       try clear hfz48_4
       try clear hfz53_0
       try clear hfz53_1
       try clear hfz53_2
       try clear hfz53_3
       try clear hfz53_4
       try clear hfz56_0
       try clear hfz56_1
       try clear hfz56_2
       try clear hfz56_3
       try clear hfz56_4
       try clear hfz71_0
       try clear hfz71_1
       try clear hfz71_2
       try clear hfz71_3
       try clear hfz71_4
       try clear hfz79_0
       try clear hfz79_1
       try clear hfz79_2
       try clear hfz79_3
       try clear hfz79_4
       try clear hfz82_0
       try clear hfz82_1
       try clear hfz82_2
       try clear hfz82_3
       try clear hfz82_4
       try clear hfz87_0
       try clear hfz87_1
       try clear hfz87_2
       try clear hfz87_3
       try clear hfz87_4
       try clear hfz8_0
       try clear hfz8_1
       try clear hfz8_2
       try clear hfz8_3
       try clear hfz8_4
       try clear hfz90_0
       try clear hfz90_1
       try clear hfz90_2
       try clear hfz90_3
       try clear hfz90_4
       try clear p2
       obtain ⟨kq, x73_62, rfl, HA, HJ62, HO_257001, HO_265001, HO_274001, BK239, BK256, BK264, BK273, HB⟩ := hcut; have hl265001_62 := (Kd.R_reads' HO_265001.out).1
       rw [hl265001_62] at HO_265001
       (try simp only [hl265001_62])
       (try simp only [hl265001_62] at BK239)
       (try simp only [hl265001_62] at BK256)
       (try simp only [hl265001_62] at BK264)
       (try simp only [hl265001_62] at BK273)
       (try simp only [hl265001_62] at HO_257001)
       (try simp only [hl265001_62] at HO_274001)
       cases kq with
       | zero => exact absurd HA.out (by simp [laws_FnExactPaintSpot.j1])
       | succ kj62 =>
        have H := HA.out; clear HA
        simp only [laws_FnExactPaintSpot.j1] at H
        by_cases c92 : x73_62 = true
        ·
         subst c92
         have H1 : (none) = some r := by rw [if_pos rfl] at H; exact H
         clear H; have H := H1; clear H1
         exact absurd H (by simp)
        ·
         replace c92 := Bool.eq_false_iff.mpr c92; subst c92
         have H1 : ((laws_markPlain.f kj62 t265 t266 t269 t270 t271 1).bind fun bt286 => ((laws_heldPlain.f kj62 t265 bt286.2 t269 t270 t271 1).bind fun t288 => (if t288 < 0 then (none) else (if t288 = bt286.1 then ((laws_toPlain.f kj62 a0_0 l0_1 a0_2 a0_3 a0_4).bind fun bt289 => ((impl_PaintSpot.f kj62 bt289.1 bt289.2.1 bt289.2.2.1 bt289.2.2.2.1 bt289.2.2.2.2 a1 a2 a3).bind fun bt296 => ((laws_eqPlain.f kj62 bt296.1 bt296.2.1 bt296.2.2.1 bt296.2.2.2.1 bt296.2.2.2.2.1 t248 t249 t252 t253 t254).bind fun t305 => (if t305 = true then (laws_FnExactPaintSpot.j2 kj62 bt286.1 (bt296.2.2.2.2.2 != t255) t265 bt286.2 t269 t270 t271) else (laws_FnExactPaintSpot.j2 kj62 bt286.1 true t265 bt286.2 t269 t270 t271))))) else (none))))) = some r := by rw [if_neg (show ¬ (false = true) by decide)] at H; exact H
         clear H; have H := H1; clear H1; replace H := Option.bind_eq_some_iff.mp H; obtain ⟨⟨t286, t287⟩, A930, H⟩ := H; replace H : ((laws_heldPlain.f kj62 t265 t287 t269 t270 t271 1).bind fun t288 => (if t288 < 0 then (none) else (if t288 = t286 then ((laws_toPlain.f kj62 a0_0 l0_1 a0_2 a0_3 a0_4).bind fun bt289 => ((impl_PaintSpot.f kj62 bt289.1 bt289.2.1 bt289.2.2.1 bt289.2.2.2.1 bt289.2.2.2.2 a1 a2 a3).bind fun bt296 => ((laws_eqPlain.f kj62 bt296.1 bt296.2.1 bt296.2.2.1 bt296.2.2.2.1 bt296.2.2.2.2.1 t248 t249 t252 t253 t254).bind fun t305 => (if t305 = true then (laws_FnExactPaintSpot.j2 kj62 t286 (bt296.2.2.2.2.2 != t255) t265 t287 t269 t270 t271) else (laws_FnExactPaintSpot.j2 kj62 t286 true t265 t287 t269 t270 t271))))) else (none)))) = some r := H; have A93 := Aside0.mk A930; clear A930; replace H := Option.bind_eq_some_iff.mp H; obtain ⟨t288, A940, H⟩ := H; replace H : (if t288 < 0 then (none) else (if t288 = t286 then ((laws_toPlain.f kj62 a0_0 l0_1 a0_2 a0_3 a0_4).bind fun bt289 => ((impl_PaintSpot.f kj62 bt289.1 bt289.2.1 bt289.2.2.1 bt289.2.2.2.1 bt289.2.2.2.2 a1 a2 a3).bind fun bt296 => ((laws_eqPlain.f kj62 bt296.1 bt296.2.1 bt296.2.2.1 bt296.2.2.2.1 bt296.2.2.2.2.1 t248 t249 t252 t253 t254).bind fun t305 => (if t305 = true then (laws_FnExactPaintSpot.j2 kj62 t286 (bt296.2.2.2.2.2 != t255) t265 t287 t269 t270 t271) else (laws_FnExactPaintSpot.j2 kj62 t286 true t265 t287 t269 t270 t271))))) else (none))) = some r := H; have A94 := Aside0.mk A940; clear A940
         by_cases c95 : t288 < 0
         ·
          rw [if_pos c95] at H
          exact absurd H (by simp)
         ·
          rw [if_neg c95] at H
          have c95b0 : decide (t288 < 0) = false := decide_eq_false c95; clear c95
          by_cases c96 : t288 = t286
          ·
           rw [if_pos c96] at H
           have c96b0 : (t288 == t286) = true := beq_iff_eq.mpr c96; have c96b1 : (t288 != t286) = false := bne_eq_false_iff_eq.mpr c96; clear c96; replace H := Option.bind_eq_some_iff.mp H; obtain ⟨⟨t289, t290, t293, t294, t295⟩, A970, H⟩ := H; replace H : ((impl_PaintSpot.f kj62 t289 t290 t293 t294 t295 a1 a2 a3).bind fun bt296 => ((laws_eqPlain.f kj62 bt296.1 bt296.2.1 bt296.2.2.1 bt296.2.2.2.1 bt296.2.2.2.2.1 t248 t249 t252 t253 t254).bind fun t305 => (if t305 = true then (laws_FnExactPaintSpot.j2 kj62 t286 (bt296.2.2.2.2.2 != t255) t265 t287 t269 t270 t271) else (laws_FnExactPaintSpot.j2 kj62 t286 true t265 t287 t269 t270 t271)))) = some r := H; have A97 := Aside0.mk A970; clear A970; replace H := Option.bind_eq_some_iff.mp H; obtain ⟨⟨t296, t297, t300, t301, t302, t303⟩, A980, H⟩ := H; replace H : ((laws_eqPlain.f kj62 t296 t297 t300 t301 t302 t248 t249 t252 t253 t254).bind fun t305 => (if t305 = true then (laws_FnExactPaintSpot.j2 kj62 t286 (t303 != t255) t265 t287 t269 t270 t271) else (laws_FnExactPaintSpot.j2 kj62 t286 true t265 t287 t269 t270 t271))) = some r := H; have A98 := Aside0.mk A980; clear A980; have HC99 := Aside0.mk H; clear H; have hnb100 := NB273_239.out; have hnc100 := NB239_273.out; have hnb101 := NB273_256.out; have hnc101 := NB256_273.out; have hnb102 := NB273_264.out; have hnc102 := NB264_273.out; have hcz103_0 : wc.cell? ⟨gb273, 0, none⟩ = some (.string t265) := (blk_cell BK273.out 0).trans rfl; have hcz103_1 : wc.cell? ⟨gb273, 1, none⟩ = some (.slice Ao39 t266.length co39) := (blk_cell BK273.out 1).trans rfl; have hcz103_2 : wc.cell? ⟨gb273, 2, none⟩ = some (.int .i64 t269) := (blk_cell BK273.out 2).trans rfl; have hcz103_3 : wc.cell? ⟨gb273, 3, none⟩ = some (.int .i64 t270) := (blk_cell BK273.out 3).trans rfl; have hcz103_4 : wc.cell? ⟨gb273, 4, none⟩ = some (.int .i64 t271) := (blk_cell BK273.out 4).trans rfl; have hfz103_0 := blk_frozen BK273.out 0; have hfz103_1 := blk_frozen BK273.out 1; have hfz103_2 := blk_frozen BK273.out 2; have hfz103_3 := blk_frozen BK273.out 3; have hfz103_4 := blk_frozen BK273.out 4
           go_upto_region 25 with (first | ((with_reducible refine gate_callee (f := 10) rfl ?_); refine goesL_ (some 76) rfl rfl Tryd.func10 (by kernel_rfl) rfl #[.agg #[.string t265, .slice Ao39 t266.length co39, .int .i64 t269, .int .i64 t270, .int .i64 t271], .int .i64 1] rfl (by (try simp only [List.map_toArray, List.map_cons, List.map_nil]); first | done | rfl | (simp only [List.length_drop, List.length_take]; rfl)) ?_; (with_reducible refine (laws_markPlain.calls kj62 t265 (fun k_ => some k_ = (.slice Ao39 t266.length co39 : Value).ownBlock) (.slice Ao39 t266.length co39) t266 t269 t270 t271 1 t286 t287 w _ ?side1 ?side2 A93.out).mono ?_); (case side1 => repeat (first | (with_reducible first | exact HB.out | apply below_alloc | apply pw_below_drewN | apply below_drew1 | refine below_set ?_ GE239.out | refine below_set ?_ GE256.out | refine below_set ?_ GE264.out | refine below_set ?_ GE273.out) | exact HB.out)); (case side2 => exact Kd.R_tight rfl HO_274001.out); rintro e w104 ⟨rfl, hy0, hb, hkp⟩; refine ⟨_, rfl, ?_⟩; replace HO_257001 := Aside0.mk (Kd.R_mono (ok' := fun k_ => some k_ ≠ (.slice Ao32 t284.length co32 : Value).ownBlock ∧ some k_ ≠ (.slice Ao39 t266.length co39 : Value).ownBlock) (Kd.R_keptB (HO_257001.out) hkp (fun k_ hk_ hs_ => (hk_.2) hs_)) (fun k_ hk_ => ⟨hk_.1.1, hk_.1.2⟩)); replace HO_265001 := Aside0.mk (Kd.R_mono (ok' := fun k_ => some k_ ≠ (.slice Ao25 t249.length co25 : Value).ownBlock ∧ some k_ ≠ (.slice Ao39 t266.length co39 : Value).ownBlock) (Kd.R_keptB (HO_265001.out) hkp (fun k_ hk_ hs_ => (hk_.2) hs_)) (fun k_ hk_ => ⟨hk_.1.1, hk_.1.2⟩)); replace BK239 := Aside0.mk (blk_kept (XSq.bq BK239) hkp (fun hs_ => (fun e_ => (Kd.R_ne HO_274001.out BK239.out (by decide)) e_) hs_)); replace BK256 := Aside0.mk (blk_kept (XSq.bq BK256) hkp (fun hs_ => (fun e_ => (Kd.R_ne HO_274001.out BK256.out (by decide)) e_) hs_)); replace BK264 := Aside0.mk (blk_kept (XSq.bq BK264) hkp (fun hs_ => (fun e_ => (Kd.R_ne HO_274001.out BK264.out (by decide)) e_) hs_)); replace BK273 := Aside0.mk (blk_kept (XSq.bq BK273) hkp (fun hs_ => (fun e_ => (Kd.R_ne HO_274001.out BK273.out (by decide)) e_) hs_)); replace HO_274001 := Aside0.mk (Kd.R_reok rfl hy0 (fun k_ e_ => HO_274001.out.1 k_ e_)); replace HB := Aside0.mk (hb); clear hb; (try clear hkp); (try clear hy0); have hcz105_0 : w104.cell? ⟨gb273, 0, none⟩ = some (.string t265) := (blk_cell BK273.out 0).trans rfl; have hcz105_1 : w104.cell? ⟨gb273, 1, none⟩ = some (.slice Ao39 t266.length co39) := (blk_cell BK273.out 1).trans rfl; have hcz105_2 : w104.cell? ⟨gb273, 2, none⟩ = some (.int .i64 t269) := (blk_cell BK273.out 2).trans rfl; have hcz105_3 : w104.cell? ⟨gb273, 3, none⟩ = some (.int .i64 t270) := (blk_cell BK273.out 3).trans rfl; have hcz105_4 : w104.cell? ⟨gb273, 4, none⟩ = some (.int .i64 t271) := (blk_cell BK273.out 4).trans rfl; have hfz105_0 := blk_frozen BK273.out 0; have hfz105_1 := blk_frozen BK273.out 1; have hfz105_2 := blk_frozen BK273.out 2; have hfz105_3 := blk_frozen BK273.out 3; have hfz105_4 := blk_frozen BK273.out 4) | ((with_reducible refine gate_callee (f := 11) rfl ?_); refine goesL_ (some 79) rfl rfl Tryd.func11 (by kernel_rfl) rfl #[.agg #[.string t265, .slice Ao39 t287.length co39, .int .i64 t269, .int .i64 t270, .int .i64 t271], .int .i64 1] rfl (by (try simp only [List.map_toArray, List.map_cons, List.map_nil]); first | done | (rw [show t287.length = t266.length from (Kd.R_reads' HO_274001.out).1.symm] <;> rfl) | rfl | (simp only [List.length_drop, List.length_take]; rfl)) ?_; (with_reducible refine (laws_heldPlain.calls kj62 t265 _ _ t287 t269 t270 t271 1 t288 _ ?side1 ?side2 A94.out).mono ?_); (case side1 => repeat (first | exact (Kd.R_reads' HO_274001.out).2.2 | (with_reducible refine Kd.C_alloc ?_ _) | (with_reducible refine Kd.C_drewN ?_ _) | (with_reducible refine Kd.C_drew ?_))); (case side2 => rw [show t287.length = t266.length from (Kd.R_reads' HO_274001.out).1.symm]; exact (Kd.R_reads' HO_274001.out).2.1); rintro e w106 ⟨rfl, hb⟩; refine ⟨_, rfl, ?_⟩; replace HO_257001 := Aside0.mk (Kd.R_below (XSq.pR HO_257001) hb); replace HO_265001 := Aside0.mk (Kd.R_below (XSq.pR HO_265001) hb); replace HO_274001 := Aside0.mk (Kd.R_below (XSq.pR HO_274001) hb); replace BK239 := XSq.bb BK239 hb; replace BK256 := XSq.bb BK256 hb; replace BK264 := XSq.bb BK264 hb; replace BK273 := XSq.bb BK273 hb; replace HB := Aside0.mk (below_step (XSq.bB HB) hb); clear hb; (try clear hb2); (try clear hk); (try clear hi); have hnb107 := NB239_256.out; have hnc107 := NB256_239.out; have hnb108 := NB239_264.out; have hnc108 := NB264_239.out; have hcz109_0 : w106.cell? ⟨gb239, 0, none⟩ = some (.string a0_0) := (blk_cell BK239.out 0).trans rfl; have hcz109_1 : w106.cell? ⟨gb239, 1, none⟩ = some (.slice A0_1 l0_1.length c0_1) := (blk_cell BK239.out 1).trans rfl; have hcz109_2 : w106.cell? ⟨gb239, 2, none⟩ = some (.int .i64 a0_2) := (blk_cell BK239.out 2).trans rfl; have hcz109_3 : w106.cell? ⟨gb239, 3, none⟩ = some (.int .i64 a0_3) := (blk_cell BK239.out 3).trans rfl; have hcz109_4 : w106.cell? ⟨gb239, 4, none⟩ = some (.int .i64 a0_4) := (blk_cell BK239.out 4).trans rfl; have hfz109_0 := blk_frozen BK239.out 0; have hfz109_1 := blk_frozen BK239.out 1; have hfz109_2 := blk_frozen BK239.out 2; have hfz109_3 := blk_frozen BK239.out 3; have hfz109_4 := blk_frozen BK239.out 4) | ((with_reducible refine gate_callee (f := 7) rfl ?_); refine goesL_ (some 87) rfl rfl Tryd.func7 (by kernel_rfl) rfl #[.agg #[.string a0_0, .slice A0_1 l0_1.length c0_1, .int .i64 a0_2, .int .i64 a0_3, .int .i64 a0_4]] rfl (by (try simp only [List.map_toArray, List.map_cons, List.map_nil]); first | done | rfl | (simp only [List.length_drop, List.length_take]; rfl)) ?_; (with_reducible refine (laws_toPlain.calls kj62 a0_0 _ _ l0_1 a0_2 a0_3 a0_4 t289 t290 t293 t294 t295 _ ?side1 ?side2 A97.out).mono ?_); (case side1 => repeat (first | exact (Kd.C_below HR0_1.out HB.out) | (with_reducible refine Kd.C_alloc ?_ _) | (with_reducible refine Kd.C_drewN ?_ _) | (with_reducible refine Kd.C_drew ?_))); (case side2 => exact HC0_1.out); rintro e w110 ⟨v291, rfl, ho0, hb⟩; refine ⟨_, rfl, ?_⟩; have HO292 := Aside0.mk (Kd.R_lower (Kd.R_new' (Kd.R_new' (Kd.R_new' ho0 (Kd.R_lt (XSq.pR HO_257001))) (Kd.R_lt (XSq.pR HO_265001))) (Kd.R_lt (XSq.pR HO_274001))) (below_size (XSq.bB HB))); replace HO_257001 := Aside0.mk (Kd.R_elder' (XSq.pR HO_257001) (Kd.R_base ho0) hb); replace HO_265001 := Aside0.mk (Kd.R_elder' (XSq.pR HO_265001) (Kd.R_base ho0) hb); replace HO_274001 := Aside0.mk (Kd.R_elder' (XSq.pR HO_274001) (Kd.R_base ho0) hb); replace BK239 := XSq.bb BK239 hb; replace BK256 := XSq.bb BK256 hb; replace BK264 := XSq.bb BK264 hb; replace BK273 := XSq.bb BK273 hb; replace HB := Aside0.mk (below_step (XSq.bB HB) hb); clear hb; (try clear hb2); (try clear hk); (try clear hi); (try clear ho0); obtain ⟨Ao111, co111, eo111⟩ := Kd.R_slice HO292.out; subst eo111) | ((with_reducible refine gate_callee (f := 13) rfl ?_); refine goesL_ (some 91) rfl rfl Tryd.func13 (by kernel_rfl) rfl #[.agg #[.string t289, .slice Ao111 t290.length co111, .int .i64 t293, .int .i64 t294, .int .i64 t295], .int .i64 a1, .int .i64 a2, .int .i64 a3] rfl (by (try simp only [List.map_toArray, List.map_cons, List.map_nil]); first | done | rfl | (simp only [List.length_drop, List.length_take]; rfl)) ?_; (with_reducible refine (impl_PaintSpot.calls kj62 t289 _ _ t290 t293 t294 t295 a1 a2 a3 t296 t297 t300 t301 t302 t303 _ ?side1 ?side2 A98.out).mono ?_); (case side1 => repeat (first | exact (Kd.R_reads' HO292.out).2.2 | (with_reducible refine Kd.C_alloc ?_ _) | (with_reducible refine Kd.C_drewN ?_ _) | (with_reducible refine Kd.C_drew ?_))); (case side2 => exact (Kd.R_reads' HO292.out).2.1); rintro e w112 ⟨v298, rfl, ho0, hb⟩; refine ⟨_, rfl, ?_⟩; have HO299 := Aside0.mk (Kd.R_lower (Kd.R_new' (Kd.R_new' (Kd.R_new' (Kd.R_new' ho0 (Kd.R_lt (XSq.pR HO_257001))) (Kd.R_lt (XSq.pR HO_265001))) (Kd.R_lt (XSq.pR HO_274001))) (Kd.R_lt (XSq.pR HO292))) (below_size (XSq.bB HB))); replace HO_257001 := Aside0.mk (Kd.R_elder' (XSq.pR HO_257001) (Kd.R_base ho0) hb); replace HO_265001 := Aside0.mk (Kd.R_elder' (XSq.pR HO_265001) (Kd.R_base ho0) hb); replace HO_274001 := Aside0.mk (Kd.R_elder' (XSq.pR HO_274001) (Kd.R_base ho0) hb); replace HO292 := Aside0.mk (Kd.R_elder' (XSq.pR HO292) (Kd.R_base ho0) hb); replace BK239 := XSq.bb BK239 hb; replace BK256 := XSq.bb BK256 hb; replace BK264 := XSq.bb BK264 hb; replace BK273 := XSq.bb BK273 hb; replace HB := Aside0.mk (below_step (XSq.bB HB) hb); clear hb; (try clear hb2); (try clear hk); (try clear hi); (try clear ho0)) | ((with_reducible refine gate_dst (N := 18) rfl ?_); refine box_event ?hg (N := 18) ?hd (cs := #[.string ⟨#[]⟩, .slice none 0 0, .int .i64 0, .int .i64 0, .int .i64 0]) (t := 28) ?hr ?_; (case hd => rfl); (case hg => rfl); (case hr => first | (go_simp; done) | (go_simp; rfl)); intro gb304 hg w113 hbox hb; have BK304 := Aside0.mk (hbox); have GW304 := XSq.gw hg (XSq.bB HB); have GE304 := XSq.gw hg (XSq.bB HB); have NB239_304 := XSq.nl hg (XSq.bq BK239); have NB304_239 := XSq.nr hg (XSq.bq BK239); have NB256_304 := XSq.nl hg (XSq.bq BK256); have NB304_256 := XSq.nr hg (XSq.bq BK256); have NB264_304 := XSq.nl hg (XSq.bq BK264); have NB304_264 := XSq.nr hg (XSq.bq BK264); have NB273_304 := XSq.nl hg (XSq.bq BK273); have NB304_273 := XSq.nr hg (XSq.bq BK273); replace HO_257001 := Aside0.mk (Kd.R_below (XSq.pR HO_257001) hb); replace HO_265001 := Aside0.mk (Kd.R_below (XSq.pR HO_265001) hb); replace HO_274001 := Aside0.mk (Kd.R_below (XSq.pR HO_274001) hb); replace HO292 := Aside0.mk (Kd.R_below (XSq.pR HO292) hb); replace HO299 := Aside0.mk (Kd.R_below (XSq.pR HO299) hb); replace BK239 := XSq.bb BK239 hb; replace BK256 := XSq.bb BK256 hb; replace BK264 := XSq.bb BK264 hb; replace BK273 := XSq.bb BK273 hb; replace HB := Aside0.mk (below_step (XSq.bB HB) hb); clear hb hbox hg; have hnb114 := NB304_239.out; have hnc114 := NB239_304.out; have hnb115 := NB304_256.out; have hnc115 := NB256_304.out; have hnb116 := NB304_264.out; have hnc116 := NB264_304.out; have hnb117 := NB304_273.out; have hnc117 := NB273_304.out; have hcz118_0 : w113.cell? ⟨gb304, 0, none⟩ = some (.string ⟨#[]⟩) := (blk_cell BK304.out 0).trans rfl; have hcz118_1 : w113.cell? ⟨gb304, 1, none⟩ = some (.slice none 0 0) := (blk_cell BK304.out 1).trans rfl; have hcz118_2 : w113.cell? ⟨gb304, 2, none⟩ = some (.int .i64 0) := (blk_cell BK304.out 2).trans rfl; have hcz118_3 : w113.cell? ⟨gb304, 3, none⟩ = some (.int .i64 0) := (blk_cell BK304.out 3).trans rfl; have hcz118_4 : w113.cell? ⟨gb304, 4, none⟩ = some (.int .i64 0) := (blk_cell BK304.out 4).trans rfl; have hfz118_0 := blk_frozen BK304.out 0; have hfz118_1 := blk_frozen BK304.out 1; have hfz118_2 := blk_frozen BK304.out 2; have hfz118_3 := blk_frozen BK304.out 3; have hfz118_4 := blk_frozen BK304.out 4; obtain ⟨Ao119, co119, eo119⟩ := Kd.R_slice HO299.out; subst eo119))
           (try simp only [Act.put, List.setIfInBounds_toArray, List.set_cons_zero, List.set_cons_succ])
           go_cut [102] (fun v102 wc => ∃ (kq : Nat) (x102_98 : Bool), v102 = .bool x102_98 ∧ Aside0 (laws_FnExactPaintSpot.j2 kq t286 x102_98 t265 t287 t269 t270 t271 = some r) ∧ Aside0 (kq ≤ kj62) ∧ Aside0 (Kd.R k60 60 wc w.heap.size (fun k_ => some k_ ≠ ((.slice Ao32 t284.length co32) : Value).ownBlock ∧ some k_ ≠ ((.slice Ao39 t266.length co39) : Value).ownBlock ∧ some k_ ≠ ((.slice Ao119 t297.length co119) : Value).ownBlock) (.slice Ao25 t249.length co25) t249) ∧ Aside0 (Kd.R k60 60 wc w.heap.size (fun k_ => some k_ ≠ ((.slice Ao25 t249.length co25) : Value).ownBlock ∧ some k_ ≠ ((.slice Ao39 t266.length co39) : Value).ownBlock ∧ some k_ ≠ ((.slice Ao119 t297.length co119) : Value).ownBlock) (.slice Ao32 t284.length co32) t284) ∧ Aside0 (Kd.R k60 60 wc w.heap.size (fun k_ => some k_ ≠ ((.slice Ao25 t249.length co25) : Value).ownBlock ∧ some k_ ≠ ((.slice Ao32 t284.length co32) : Value).ownBlock ∧ some k_ ≠ ((.slice Ao119 t297.length co119) : Value).ownBlock) (.slice Ao39 t266.length co39) t287) ∧ Aside0 (Kd.R k60 60 wc w.heap.size (fun k_ => some k_ ≠ ((.slice Ao25 t249.length co25) : Value).ownBlock ∧ some k_ ≠ ((.slice Ao32 t284.length co32) : Value).ownBlock ∧ some k_ ≠ ((.slice Ao39 t266.length co39) : Value).ownBlock) (.slice Ao119 t297.length co119) t297) ∧ Aside0 (wc.heap[gb239]? = some (.cells #[.string a0_0, (.slice A0_1 l0_1.length c0_1), .int .i64 a0_2, .int .i64 a0_3, .int .i64 a0_4] 24 (0, 0))) ∧ Aside0 (wc.heap[gb256]? = some (.cells #[.string t248, (.slice Ao25 t249.length co25), .int .i64 t252, .int .i64 t253, .int .i64 t254] 28 (0, 0))) ∧ Aside0 (wc.heap[gb264]? = some (.cells #[.string t257, (.slice Ao32 t284.length co32), .int .i64 t261, .int .i64 t262, .int .i64 t263] 28 (0, 0))) ∧ Aside0 (wc.heap[gb273]? = some (.cells #[.string t265, (.slice Ao39 t266.length co39), .int .i64 t269, .int .i64 t270, .int .i64 t271] 28 (0, 0))) ∧ Aside0 (wc.heap[gb304]? = some (.cells #[.string t296, (.slice Ao119 t297.length co119), .int .i64 t300, .int .i64 t301, .int .i64 t302] 28 (0, 0))) ∧ Aside0 (Below w.heap.size w wc))
           case first =>
            have H := HC99.out; clear HC99; replace H := Option.bind_eq_some_iff.mp H; obtain ⟨t305, A1200, H⟩ := H; replace H : (if t305 = true then (laws_FnExactPaintSpot.j2 kj62 t286 (t303 != t255) t265 t287 t269 t270 t271) else (laws_FnExactPaintSpot.j2 kj62 t286 true t265 t287 t269 t270 t271)) = some r := H; have A120 := Aside0.mk A1200; clear A1200
            by_cases c121 : t305 = true
            ·
             subst c121
             have H1 : (laws_FnExactPaintSpot.j2 kj62 t286 (t303 != t255) t265 t287 t269 t270 t271) = some r := by rw [if_pos rfl] at H; exact H
             clear H; have H := H1; clear H1; have H' := Aside0.mk H; clear H; have hnb122 := NB304_239.out; have hnc122 := NB239_304.out; have hnb123 := NB304_256.out; have hnc123 := NB256_304.out; have hnb124 := NB304_264.out; have hnc124 := NB264_304.out; have hnb125 := NB304_273.out; have hnc125 := NB273_304.out; have hcz126_0 : w113.cell? ⟨gb304, 0, none⟩ = some (.string ⟨#[]⟩) := (blk_cell BK304.out 0).trans rfl; have hcz126_1 : w113.cell? ⟨gb304, 1, none⟩ = some (.slice none 0 0) := (blk_cell BK304.out 1).trans rfl; have hcz126_2 : w113.cell? ⟨gb304, 2, none⟩ = some (.int .i64 0) := (blk_cell BK304.out 2).trans rfl; have hcz126_3 : w113.cell? ⟨gb304, 3, none⟩ = some (.int .i64 0) := (blk_cell BK304.out 3).trans rfl; have hcz126_4 : w113.cell? ⟨gb304, 4, none⟩ = some (.int .i64 0) := (blk_cell BK304.out 4).trans rfl; have hfz126_0 := blk_frozen BK304.out 0; have hfz126_1 := blk_frozen BK304.out 1; have hfz126_2 := blk_frozen BK304.out 2; have hfz126_3 := blk_frozen BK304.out 3; have hfz126_4 := blk_frozen BK304.out 4; have hnb127 := NB256_239.out; have hnc127 := NB239_256.out; have hnb128 := NB256_264.out; have hnc128 := NB264_256.out; have hnb129 := NB256_273.out; have hnc129 := NB273_256.out; have hcz130_0 : w113.cell? ⟨gb256, 0, none⟩ = some (.string t248) := (blk_cell BK256.out 0).trans rfl; have hcz130_1 : w113.cell? ⟨gb256, 1, none⟩ = some (.slice Ao25 t249.length co25) := (blk_cell BK256.out 1).trans rfl; have hcz130_2 : w113.cell? ⟨gb256, 2, none⟩ = some (.int .i64 t252) := (blk_cell BK256.out 2).trans rfl; have hcz130_3 : w113.cell? ⟨gb256, 3, none⟩ = some (.int .i64 t253) := (blk_cell BK256.out 3).trans rfl; have hcz130_4 : w113.cell? ⟨gb256, 4, none⟩ = some (.int .i64 t254) := (blk_cell BK256.out 4).trans rfl; have hfz130_0 := blk_frozen BK256.out 0; have hfz130_1 := blk_frozen BK256.out 1; have hfz130_2 := blk_frozen BK256.out 2; have hfz130_3 := blk_frozen BK256.out 3; have hfz130_4 := blk_frozen BK256.out 4
             go_wp2_with (first | ((with_reducible refine gate_callee (f := 9) rfl ?_); refine goesL_ (some 96) rfl rfl Tryd.func9 (by kernel_rfl) rfl #[.agg #[.string t296, .slice Ao119 t297.length co119, .int .i64 t300, .int .i64 t301, .int .i64 t302], .agg #[.string t248, .slice Ao25 t249.length co25, .int .i64 t252, .int .i64 t253, .int .i64 t254]] rfl (by (try simp only [List.map_toArray, List.map_cons, List.map_nil]); first | done | rfl | (simp only [List.length_drop, List.length_take]; rfl)) ?_; (with_reducible refine (laws_eqPlain.calls kj62 t296 _ _ t297 t300 t301 t302 t248 _ _ t249 t252 t253 t254 true _ ?side1 ?side2 ?side3 ?side4 A120.out).mono ?_); (case side1 => refine (Kd.R_reads' (e := 60) (base := w.heap.size) (ok := fun k_ => ((((True ∧ some k_ ≠ (.slice Ao25 t249.length co25 : Value).ownBlock) ∧ some k_ ≠ (.slice Ao32 t284.length co32 : Value).ownBlock) ∧ some k_ ≠ (.slice Ao39 t266.length co39 : Value).ownBlock) ∧ some k_ ≠ (.slice Ao111 t290.length co111 : Value).ownBlock)) (n := t297.length) (c := co119) ?_).2.2; exact (by (with_reducible repeat (first | apply Kd.R_alloc | apply Kd.R_drewN | apply Kd.R_drew)); exact (Kd.R_mono (Kd.R_far (p := ⟨gb304, 4, none⟩) (Kd.R_far (p := ⟨gb304, 3, none⟩) (Kd.R_far (p := ⟨gb304, 2, none⟩) (Kd.R_far (p := ⟨gb304, 1, none⟩) (Kd.R_far (p := ⟨gb304, 0, none⟩) (Kd.R_types HO299.out BK304.out (by decide)) (fun _ hk => hk.2) (.string t296)) (fun _ hk => hk.2) (.slice Ao119 t297.length co119)) (fun _ hk => hk.2) (.int .i64 t300)) (fun _ hk => hk.2) (.int .i64 t301)) (fun _ hk => hk.2) (.int .i64 t302)) (fun _ h_ => h_.1)))); (case side2 => exact (Kd.R_reads' HO299.out).2.1); (case side3 => refine (Kd.R_reads' (e := 60) (base := w.heap.size) (ok := fun k_ => (((some k_ ≠ (.slice Ao32 t284.length co32 : Value).ownBlock ∧ some k_ ≠ (.slice Ao39 t266.length co39 : Value).ownBlock) ∧ some k_ ≠ (.slice Ao111 t290.length co111 : Value).ownBlock) ∧ some k_ ≠ (.slice Ao119 t297.length co119 : Value).ownBlock)) (n := t249.length) (c := co25) ?_).2.2; exact (by (with_reducible repeat (first | apply Kd.R_alloc | apply Kd.R_drewN | apply Kd.R_drew)); exact (Kd.R_mono (Kd.R_far (p := ⟨gb304, 4, none⟩) (Kd.R_far (p := ⟨gb304, 3, none⟩) (Kd.R_far (p := ⟨gb304, 2, none⟩) (Kd.R_far (p := ⟨gb304, 1, none⟩) (Kd.R_far (p := ⟨gb304, 0, none⟩) (Kd.R_types HO_257001.out BK304.out (by decide)) (fun _ hk => hk.2) (.string t296)) (fun _ hk => hk.2) (.slice Ao119 t297.length co119)) (fun _ hk => hk.2) (.int .i64 t300)) (fun _ hk => hk.2) (.int .i64 t301)) (fun _ hk => hk.2) (.int .i64 t302)) (fun _ h_ => h_.1)))); (case side4 => exact (Kd.R_reads' HO_257001.out).2.1); rintro e w131 ⟨rfl, hb⟩; refine ⟨_, rfl, ?_⟩; have n0_ := Aside0.mk (Kd.R_below (by (with_reducible repeat (first | apply Kd.R_alloc | apply Kd.R_drewN | apply Kd.R_drew)); exact (Kd.R_mono (Kd.R_far (p := ⟨gb304, 4, none⟩) (Kd.R_far (p := ⟨gb304, 3, none⟩) (Kd.R_far (p := ⟨gb304, 2, none⟩) (Kd.R_far (p := ⟨gb304, 1, none⟩) (Kd.R_far (p := ⟨gb304, 0, none⟩) (Kd.R_types HO_257001.out BK304.out (by decide)) (fun _ hk => hk.2) (.string t296)) (fun _ hk => hk.2) (.slice Ao119 t297.length co119)) (fun _ hk => hk.2) (.int .i64 t300)) (fun _ hk => hk.2) (.int .i64 t301)) (fun _ hk => hk.2) (.int .i64 t302)) (fun _ h_ => h_.1))) hb); have n1_ := Aside0.mk (Kd.R_below (by (with_reducible repeat (first | apply Kd.R_alloc | apply Kd.R_drewN | apply Kd.R_drew)); exact (Kd.R_mono (Kd.R_far (p := ⟨gb304, 4, none⟩) (Kd.R_far (p := ⟨gb304, 3, none⟩) (Kd.R_far (p := ⟨gb304, 2, none⟩) (Kd.R_far (p := ⟨gb304, 1, none⟩) (Kd.R_far (p := ⟨gb304, 0, none⟩) (Kd.R_types HO_265001.out BK304.out (by decide)) (fun _ hk => hk.2) (.string t296)) (fun _ hk => hk.2) (.slice Ao119 t297.length co119)) (fun _ hk => hk.2) (.int .i64 t300)) (fun _ hk => hk.2) (.int .i64 t301)) (fun _ hk => hk.2) (.int .i64 t302)) (fun _ h_ => h_.1))) hb); have n2_ := Aside0.mk (Kd.R_below (by (with_reducible repeat (first | apply Kd.R_alloc | apply Kd.R_drewN | apply Kd.R_drew)); exact (Kd.R_mono (Kd.R_far (p := ⟨gb304, 4, none⟩) (Kd.R_far (p := ⟨gb304, 3, none⟩) (Kd.R_far (p := ⟨gb304, 2, none⟩) (Kd.R_far (p := ⟨gb304, 1, none⟩) (Kd.R_far (p := ⟨gb304, 0, none⟩) (Kd.R_types HO_274001.out BK304.out (by decide)) (fun _ hk => hk.2) (.string t296)) (fun _ hk => hk.2) (.slice Ao119 t297.length co119)) (fun _ hk => hk.2) (.int .i64 t300)) (fun _ hk => hk.2) (.int .i64 t301)) (fun _ hk => hk.2) (.int .i64 t302)) (fun _ h_ => h_.1))) hb); have n3_ := Aside0.mk (Kd.R_below (by (with_reducible repeat (first | apply Kd.R_alloc | apply Kd.R_drewN | apply Kd.R_drew)); exact (Kd.R_mono (Kd.R_far (p := ⟨gb304, 4, none⟩) (Kd.R_far (p := ⟨gb304, 3, none⟩) (Kd.R_far (p := ⟨gb304, 2, none⟩) (Kd.R_far (p := ⟨gb304, 1, none⟩) (Kd.R_far (p := ⟨gb304, 0, none⟩) (Kd.R_types HO292.out BK304.out (by decide)) (fun _ hk => hk.2) (.string t296)) (fun _ hk => hk.2) (.slice Ao119 t297.length co119)) (fun _ hk => hk.2) (.int .i64 t300)) (fun _ hk => hk.2) (.int .i64 t301)) (fun _ hk => hk.2) (.int .i64 t302)) (fun _ h_ => h_.1))) hb); have n4_ := Aside0.mk (Kd.R_below (by (with_reducible repeat (first | apply Kd.R_alloc | apply Kd.R_drewN | apply Kd.R_drew)); exact (Kd.R_mono (Kd.R_far (p := ⟨gb304, 4, none⟩) (Kd.R_far (p := ⟨gb304, 3, none⟩) (Kd.R_far (p := ⟨gb304, 2, none⟩) (Kd.R_far (p := ⟨gb304, 1, none⟩) (Kd.R_far (p := ⟨gb304, 0, none⟩) (Kd.R_types HO299.out BK304.out (by decide)) (fun _ hk => hk.2) (.string t296)) (fun _ hk => hk.2) (.slice Ao119 t297.length co119)) (fun _ hk => hk.2) (.int .i64 t300)) (fun _ hk => hk.2) (.int .i64 t301)) (fun _ hk => hk.2) (.int .i64 t302)) (fun _ h_ => h_.1))) hb); have n5_ := Aside0.mk (blk_below (g := gb239) (o := .cells #[.string a0_0, .slice A0_1 l0_1.length c0_1, .int .i64 a0_2, .int .i64 a0_3, .int .i64 a0_4] 24 (0, 0)) (by (with_reducible repeat (first | refine blk_drewN ?_ _ | refine blk_drew ?_ | refine blk_alloc ?_ _)); refine blk_far ?_ NB239_304.out _; (with_reducible repeat (first | refine blk_drewN ?_ _ | refine blk_drew ?_ | refine blk_alloc ?_ _)); refine blk_far ?_ NB239_304.out _; (with_reducible repeat (first | refine blk_drewN ?_ _ | refine blk_drew ?_ | refine blk_alloc ?_ _)); refine blk_far ?_ NB239_304.out _; (with_reducible repeat (first | refine blk_drewN ?_ _ | refine blk_drew ?_ | refine blk_alloc ?_ _)); refine blk_far ?_ NB239_304.out _; (with_reducible repeat (first | refine blk_drewN ?_ _ | refine blk_drew ?_ | refine blk_alloc ?_ _)); refine blk_far ?_ NB239_304.out _; (with_reducible repeat (first | refine blk_drewN ?_ _ | refine blk_drew ?_ | refine blk_alloc ?_ _)); exact BK239.out) hb); have n6_ := Aside0.mk (blk_below (g := gb256) (o := .cells #[.string t248, .slice Ao25 t249.length co25, .int .i64 t252, .int .i64 t253, .int .i64 t254] 28 (0, 0)) (by (with_reducible repeat (first | refine blk_drewN ?_ _ | refine blk_drew ?_ | refine blk_alloc ?_ _)); refine blk_far ?_ NB256_304.out _; (with_reducible repeat (first | refine blk_drewN ?_ _ | refine blk_drew ?_ | refine blk_alloc ?_ _)); refine blk_far ?_ NB256_304.out _; (with_reducible repeat (first | refine blk_drewN ?_ _ | refine blk_drew ?_ | refine blk_alloc ?_ _)); refine blk_far ?_ NB256_304.out _; (with_reducible repeat (first | refine blk_drewN ?_ _ | refine blk_drew ?_ | refine blk_alloc ?_ _)); refine blk_far ?_ NB256_304.out _; (with_reducible repeat (first | refine blk_drewN ?_ _ | refine blk_drew ?_ | refine blk_alloc ?_ _)); refine blk_far ?_ NB256_304.out _; (with_reducible repeat (first | refine blk_drewN ?_ _ | refine blk_drew ?_ | refine blk_alloc ?_ _)); exact BK256.out) hb); have n7_ := Aside0.mk (blk_below (g := gb264) (o := .cells #[.string t257, .slice Ao32 t284.length co32, .int .i64 t261, .int .i64 t262, .int .i64 t263] 28 (0, 0)) (by (with_reducible repeat (first | refine blk_drewN ?_ _ | refine blk_drew ?_ | refine blk_alloc ?_ _)); refine blk_far ?_ NB264_304.out _; (with_reducible repeat (first | refine blk_drewN ?_ _ | refine blk_drew ?_ | refine blk_alloc ?_ _)); refine blk_far ?_ NB264_304.out _; (with_reducible repeat (first | refine blk_drewN ?_ _ | refine blk_drew ?_ | refine blk_alloc ?_ _)); refine blk_far ?_ NB264_304.out _; (with_reducible repeat (first | refine blk_drewN ?_ _ | refine blk_drew ?_ | refine blk_alloc ?_ _)); refine blk_far ?_ NB264_304.out _; (with_reducible repeat (first | refine blk_drewN ?_ _ | refine blk_drew ?_ | refine blk_alloc ?_ _)); refine blk_far ?_ NB264_304.out _; (with_reducible repeat (first | refine blk_drewN ?_ _ | refine blk_drew ?_ | refine blk_alloc ?_ _)); exact BK264.out) hb); have n8_ := Aside0.mk (blk_below (g := gb273) (o := .cells #[.string t265, .slice Ao39 t266.length co39, .int .i64 t269, .int .i64 t270, .int .i64 t271] 28 (0, 0)) (by (with_reducible repeat (first | refine blk_drewN ?_ _ | refine blk_drew ?_ | refine blk_alloc ?_ _)); refine blk_far ?_ NB273_304.out _; (with_reducible repeat (first | refine blk_drewN ?_ _ | refine blk_drew ?_ | refine blk_alloc ?_ _)); refine blk_far ?_ NB273_304.out _; (with_reducible repeat (first | refine blk_drewN ?_ _ | refine blk_drew ?_ | refine blk_alloc ?_ _)); refine blk_far ?_ NB273_304.out _; (with_reducible repeat (first | refine blk_drewN ?_ _ | refine blk_drew ?_ | refine blk_alloc ?_ _)); refine blk_far ?_ NB273_304.out _; (with_reducible repeat (first | refine blk_drewN ?_ _ | refine blk_drew ?_ | refine blk_alloc ?_ _)); refine blk_far ?_ NB273_304.out _; (with_reducible repeat (first | refine blk_drewN ?_ _ | refine blk_drew ?_ | refine blk_alloc ?_ _)); exact BK273.out) hb); have n9_ := Aside0.mk (blk_below (g := gb304) (o := .cells #[.string t296, .slice Ao119 t297.length co119, .int .i64 t300, .int .i64 t301, .int .i64 t302] 28 (0, 0)) (by (with_reducible repeat (first | refine blk_drewN ?_ _ | refine blk_drew ?_ | refine blk_alloc ?_ _)); refine blk_put (cs := #[.string t296, .slice Ao119 t297.length co119, .int .i64 t300, .int .i64 t301, .int .i64 0]) ?_ 4 _ rfl; (with_reducible repeat (first | refine blk_drewN ?_ _ | refine blk_drew ?_ | refine blk_alloc ?_ _)); refine blk_put (cs := #[.string t296, .slice Ao119 t297.length co119, .int .i64 t300, .int .i64 0, .int .i64 0]) ?_ 3 _ rfl; (with_reducible repeat (first | refine blk_drewN ?_ _ | refine blk_drew ?_ | refine blk_alloc ?_ _)); refine blk_put (cs := #[.string t296, .slice Ao119 t297.length co119, .int .i64 0, .int .i64 0, .int .i64 0]) ?_ 2 _ rfl; (with_reducible repeat (first | refine blk_drewN ?_ _ | refine blk_drew ?_ | refine blk_alloc ?_ _)); refine blk_put (cs := #[.string t296, .slice none 0 0, .int .i64 0, .int .i64 0, .int .i64 0]) ?_ 1 _ rfl; (with_reducible repeat (first | refine blk_drewN ?_ _ | refine blk_drew ?_ | refine blk_alloc ?_ _)); refine blk_put (cs := #[.string ⟨#[]⟩, .slice none 0 0, .int .i64 0, .int .i64 0, .int .i64 0]) ?_ 0 _ rfl; (with_reducible repeat (first | refine blk_drewN ?_ _ | refine blk_drew ?_ | refine blk_alloc ?_ _)); exact BK304.out) hb); have n10_ := Aside0.mk (below_step (XSq.bB HB) hb); clear HO_257001; clear HO_265001; clear HO_274001; clear HO292; clear HO299; clear BK239; clear BK256; clear BK264; clear BK273; clear BK304; clear HB; have HO_257001 := n0_; have HO_265001 := n1_; have HO_274001 := n2_; have HO292 := n3_; have HO299 := n4_; have BK239 := n5_; have BK256 := n6_; have BK264 := n7_; have BK273 := n8_; have BK304 := n9_; have HB := n10_; clear n0_ n1_ n2_ n3_ n4_ n5_ n6_ n7_ n8_ n9_ n10_; clear hb; (try clear hb2); (try clear hk); (try clear hi)))
             go_meet
             case rel => exact ⟨_, ((t303 != t255)), (by first | rfl | (simp; done) | (simp [*]; done)), H', ⟨by have := HJ13.out; have := HJ62.out; first | omega | exact Nat.le_refl _⟩, ⟨by (try simp only [hl265001_62]); (with_reducible repeat (first | apply Kd.R_alloc | apply Kd.R_drewN | apply Kd.R_drew)); exact Kd.R_mono HO_257001.out (fun _ hk => ⟨hk.1.1.1, ⟨hk.1.1.2, hk.2⟩⟩)⟩, ⟨by (try simp only [hl265001_62]); (with_reducible repeat (first | apply Kd.R_alloc | apply Kd.R_drewN | apply Kd.R_drew)); exact Kd.R_mono HO_265001.out (fun _ hk => ⟨hk.1.1.1, ⟨hk.1.1.2, hk.2⟩⟩)⟩, ⟨by (try simp only [hl265001_62]); (with_reducible repeat (first | apply Kd.R_alloc | apply Kd.R_drewN | apply Kd.R_drew)); exact Kd.R_mono HO_274001.out (fun _ hk => ⟨hk.1.1.1, ⟨hk.1.1.2, hk.2⟩⟩)⟩, ⟨by (try simp only [hl265001_62]); (with_reducible repeat (first | apply Kd.R_alloc | apply Kd.R_drewN | apply Kd.R_drew)); exact Kd.R_mono HO299.out (fun _ hk => ⟨hk.1.1.1.2, ⟨hk.1.1.2, hk.1.2⟩⟩)⟩, ⟨by (try simp only [hl265001_62]); (with_reducible repeat (first | refine blk_drewN ?_ _ | refine blk_drew ?_ | refine blk_alloc ?_ _)); exact BK239.out⟩, ⟨by (try simp only [hl265001_62]); (with_reducible repeat (first | refine blk_drewN ?_ _ | refine blk_drew ?_ | refine blk_alloc ?_ _)); exact BK256.out⟩, ⟨by (try simp only [hl265001_62]); (with_reducible repeat (first | refine blk_drewN ?_ _ | refine blk_drew ?_ | refine blk_alloc ?_ _)); exact BK264.out⟩, ⟨by (try simp only [hl265001_62]); (with_reducible repeat (first | refine blk_drewN ?_ _ | refine blk_drew ?_ | refine blk_alloc ?_ _)); exact BK273.out⟩, ⟨by (try simp only [hl265001_62]); (with_reducible repeat (first | refine blk_drewN ?_ _ | refine blk_drew ?_ | refine blk_alloc ?_ _)); exact BK304.out⟩, ⟨by repeat (first | (with_reducible first | exact HB.out | apply below_alloc | apply pw_below_drewN | apply below_drew1 | refine below_set ?_ GE239.out | refine below_set ?_ GE256.out | refine below_set ?_ GE264.out | refine below_set ?_ GE273.out | refine below_set ?_ GE304.out) | exact HB.out)⟩⟩
            ·
             replace c121 := Bool.eq_false_iff.mpr c121; subst c121
             have H1 : (laws_FnExactPaintSpot.j2 kj62 t286 true t265 t287 t269 t270 t271) = some r := by rw [if_neg (show ¬ (false = true) by decide)] at H; exact H
             clear H; have H := H1; clear H1; have H' := Aside0.mk H; clear H; have hnb132 := NB304_239.out; have hnc132 := NB239_304.out; have hnb133 := NB304_256.out; have hnc133 := NB256_304.out; have hnb134 := NB304_264.out; have hnc134 := NB264_304.out; have hnb135 := NB304_273.out; have hnc135 := NB273_304.out; have hcz136_0 : w113.cell? ⟨gb304, 0, none⟩ = some (.string ⟨#[]⟩) := (blk_cell BK304.out 0).trans rfl; have hcz136_1 : w113.cell? ⟨gb304, 1, none⟩ = some (.slice none 0 0) := (blk_cell BK304.out 1).trans rfl; have hcz136_2 : w113.cell? ⟨gb304, 2, none⟩ = some (.int .i64 0) := (blk_cell BK304.out 2).trans rfl; have hcz136_3 : w113.cell? ⟨gb304, 3, none⟩ = some (.int .i64 0) := (blk_cell BK304.out 3).trans rfl; have hcz136_4 : w113.cell? ⟨gb304, 4, none⟩ = some (.int .i64 0) := (blk_cell BK304.out 4).trans rfl; have hfz136_0 := blk_frozen BK304.out 0; have hfz136_1 := blk_frozen BK304.out 1; have hfz136_2 := blk_frozen BK304.out 2; have hfz136_3 := blk_frozen BK304.out 3; have hfz136_4 := blk_frozen BK304.out 4; have hnb137 := NB256_239.out; have hnc137 := NB239_256.out; have hnb138 := NB256_264.out; have hnc138 := NB264_256.out; have hnb139 := NB256_273.out; have hnc139 := NB273_256.out; have hcz140_0 : w113.cell? ⟨gb256, 0, none⟩ = some (.string t248) := (blk_cell BK256.out 0).trans rfl; have hcz140_1 : w113.cell? ⟨gb256, 1, none⟩ = some (.slice Ao25 t249.length co25) := (blk_cell BK256.out 1).trans rfl; have hcz140_2 : w113.cell? ⟨gb256, 2, none⟩ = some (.int .i64 t252) := (blk_cell BK256.out 2).trans rfl; have hcz140_3 : w113.cell? ⟨gb256, 3, none⟩ = some (.int .i64 t253) := (blk_cell BK256.out 3).trans rfl; have hcz140_4 : w113.cell? ⟨gb256, 4, none⟩ = some (.int .i64 t254) := (blk_cell BK256.out 4).trans rfl; have hfz140_0 := blk_frozen BK256.out 0; have hfz140_1 := blk_frozen BK256.out 1; have hfz140_2 := blk_frozen BK256.out 2; have hfz140_3 := blk_frozen BK256.out 3; have hfz140_4 := blk_frozen BK256.out 4
             go_wp2_with (first | ((with_reducible refine gate_callee (f := 9) rfl ?_); refine goesL_ (some 96) rfl rfl Tryd.func9 (by kernel_rfl) rfl #[.agg #[.string t296, .slice Ao119 t297.length co119, .int .i64 t300, .int .i64 t301, .int .i64 t302], .agg #[.string t248, .slice Ao25 t249.length co25, .int .i64 t252, .int .i64 t253, .int .i64 t254]] rfl (by (try simp only [List.map_toArray, List.map_cons, List.map_nil]); first | done | rfl | (simp only [List.length_drop, List.length_take]; rfl)) ?_; (with_reducible refine (laws_eqPlain.calls kj62 t296 _ _ t297 t300 t301 t302 t248 _ _ t249 t252 t253 t254 false _ ?side1 ?side2 ?side3 ?side4 A120.out).mono ?_); (case side1 => refine (Kd.R_reads' (e := 60) (base := w.heap.size) (ok := fun k_ => ((((True ∧ some k_ ≠ (.slice Ao25 t249.length co25 : Value).ownBlock) ∧ some k_ ≠ (.slice Ao32 t284.length co32 : Value).ownBlock) ∧ some k_ ≠ (.slice Ao39 t266.length co39 : Value).ownBlock) ∧ some k_ ≠ (.slice Ao111 t290.length co111 : Value).ownBlock)) (n := t297.length) (c := co119) ?_).2.2; exact (by (with_reducible repeat (first | apply Kd.R_alloc | apply Kd.R_drewN | apply Kd.R_drew)); exact (Kd.R_mono (Kd.R_far (p := ⟨gb304, 4, none⟩) (Kd.R_far (p := ⟨gb304, 3, none⟩) (Kd.R_far (p := ⟨gb304, 2, none⟩) (Kd.R_far (p := ⟨gb304, 1, none⟩) (Kd.R_far (p := ⟨gb304, 0, none⟩) (Kd.R_types HO299.out BK304.out (by decide)) (fun _ hk => hk.2) (.string t296)) (fun _ hk => hk.2) (.slice Ao119 t297.length co119)) (fun _ hk => hk.2) (.int .i64 t300)) (fun _ hk => hk.2) (.int .i64 t301)) (fun _ hk => hk.2) (.int .i64 t302)) (fun _ h_ => h_.1)))); (case side2 => exact (Kd.R_reads' HO299.out).2.1); (case side3 => refine (Kd.R_reads' (e := 60) (base := w.heap.size) (ok := fun k_ => (((some k_ ≠ (.slice Ao32 t284.length co32 : Value).ownBlock ∧ some k_ ≠ (.slice Ao39 t266.length co39 : Value).ownBlock) ∧ some k_ ≠ (.slice Ao111 t290.length co111 : Value).ownBlock) ∧ some k_ ≠ (.slice Ao119 t297.length co119 : Value).ownBlock)) (n := t249.length) (c := co25) ?_).2.2; exact (by (with_reducible repeat (first | apply Kd.R_alloc | apply Kd.R_drewN | apply Kd.R_drew)); exact (Kd.R_mono (Kd.R_far (p := ⟨gb304, 4, none⟩) (Kd.R_far (p := ⟨gb304, 3, none⟩) (Kd.R_far (p := ⟨gb304, 2, none⟩) (Kd.R_far (p := ⟨gb304, 1, none⟩) (Kd.R_far (p := ⟨gb304, 0, none⟩) (Kd.R_types HO_257001.out BK304.out (by decide)) (fun _ hk => hk.2) (.string t296)) (fun _ hk => hk.2) (.slice Ao119 t297.length co119)) (fun _ hk => hk.2) (.int .i64 t300)) (fun _ hk => hk.2) (.int .i64 t301)) (fun _ hk => hk.2) (.int .i64 t302)) (fun _ h_ => h_.1)))); (case side4 => exact (Kd.R_reads' HO_257001.out).2.1); rintro e w141 ⟨rfl, hb⟩; refine ⟨_, rfl, ?_⟩; have n0_ := Aside0.mk (Kd.R_below (by (with_reducible repeat (first | apply Kd.R_alloc | apply Kd.R_drewN | apply Kd.R_drew)); exact (Kd.R_mono (Kd.R_far (p := ⟨gb304, 4, none⟩) (Kd.R_far (p := ⟨gb304, 3, none⟩) (Kd.R_far (p := ⟨gb304, 2, none⟩) (Kd.R_far (p := ⟨gb304, 1, none⟩) (Kd.R_far (p := ⟨gb304, 0, none⟩) (Kd.R_types HO_257001.out BK304.out (by decide)) (fun _ hk => hk.2) (.string t296)) (fun _ hk => hk.2) (.slice Ao119 t297.length co119)) (fun _ hk => hk.2) (.int .i64 t300)) (fun _ hk => hk.2) (.int .i64 t301)) (fun _ hk => hk.2) (.int .i64 t302)) (fun _ h_ => h_.1))) hb); have n1_ := Aside0.mk (Kd.R_below (by (with_reducible repeat (first | apply Kd.R_alloc | apply Kd.R_drewN | apply Kd.R_drew)); exact (Kd.R_mono (Kd.R_far (p := ⟨gb304, 4, none⟩) (Kd.R_far (p := ⟨gb304, 3, none⟩) (Kd.R_far (p := ⟨gb304, 2, none⟩) (Kd.R_far (p := ⟨gb304, 1, none⟩) (Kd.R_far (p := ⟨gb304, 0, none⟩) (Kd.R_types HO_265001.out BK304.out (by decide)) (fun _ hk => hk.2) (.string t296)) (fun _ hk => hk.2) (.slice Ao119 t297.length co119)) (fun _ hk => hk.2) (.int .i64 t300)) (fun _ hk => hk.2) (.int .i64 t301)) (fun _ hk => hk.2) (.int .i64 t302)) (fun _ h_ => h_.1))) hb); have n2_ := Aside0.mk (Kd.R_below (by (with_reducible repeat (first | apply Kd.R_alloc | apply Kd.R_drewN | apply Kd.R_drew)); exact (Kd.R_mono (Kd.R_far (p := ⟨gb304, 4, none⟩) (Kd.R_far (p := ⟨gb304, 3, none⟩) (Kd.R_far (p := ⟨gb304, 2, none⟩) (Kd.R_far (p := ⟨gb304, 1, none⟩) (Kd.R_far (p := ⟨gb304, 0, none⟩) (Kd.R_types HO_274001.out BK304.out (by decide)) (fun _ hk => hk.2) (.string t296)) (fun _ hk => hk.2) (.slice Ao119 t297.length co119)) (fun _ hk => hk.2) (.int .i64 t300)) (fun _ hk => hk.2) (.int .i64 t301)) (fun _ hk => hk.2) (.int .i64 t302)) (fun _ h_ => h_.1))) hb); have n3_ := Aside0.mk (Kd.R_below (by (with_reducible repeat (first | apply Kd.R_alloc | apply Kd.R_drewN | apply Kd.R_drew)); exact (Kd.R_mono (Kd.R_far (p := ⟨gb304, 4, none⟩) (Kd.R_far (p := ⟨gb304, 3, none⟩) (Kd.R_far (p := ⟨gb304, 2, none⟩) (Kd.R_far (p := ⟨gb304, 1, none⟩) (Kd.R_far (p := ⟨gb304, 0, none⟩) (Kd.R_types HO292.out BK304.out (by decide)) (fun _ hk => hk.2) (.string t296)) (fun _ hk => hk.2) (.slice Ao119 t297.length co119)) (fun _ hk => hk.2) (.int .i64 t300)) (fun _ hk => hk.2) (.int .i64 t301)) (fun _ hk => hk.2) (.int .i64 t302)) (fun _ h_ => h_.1))) hb); have n4_ := Aside0.mk (Kd.R_below (by (with_reducible repeat (first | apply Kd.R_alloc | apply Kd.R_drewN | apply Kd.R_drew)); exact (Kd.R_mono (Kd.R_far (p := ⟨gb304, 4, none⟩) (Kd.R_far (p := ⟨gb304, 3, none⟩) (Kd.R_far (p := ⟨gb304, 2, none⟩) (Kd.R_far (p := ⟨gb304, 1, none⟩) (Kd.R_far (p := ⟨gb304, 0, none⟩) (Kd.R_types HO299.out BK304.out (by decide)) (fun _ hk => hk.2) (.string t296)) (fun _ hk => hk.2) (.slice Ao119 t297.length co119)) (fun _ hk => hk.2) (.int .i64 t300)) (fun _ hk => hk.2) (.int .i64 t301)) (fun _ hk => hk.2) (.int .i64 t302)) (fun _ h_ => h_.1))) hb); have n5_ := Aside0.mk (blk_below (g := gb239) (o := .cells #[.string a0_0, .slice A0_1 l0_1.length c0_1, .int .i64 a0_2, .int .i64 a0_3, .int .i64 a0_4] 24 (0, 0)) (by (with_reducible repeat (first | refine blk_drewN ?_ _ | refine blk_drew ?_ | refine blk_alloc ?_ _)); refine blk_far ?_ NB239_304.out _; (with_reducible repeat (first | refine blk_drewN ?_ _ | refine blk_drew ?_ | refine blk_alloc ?_ _)); refine blk_far ?_ NB239_304.out _; (with_reducible repeat (first | refine blk_drewN ?_ _ | refine blk_drew ?_ | refine blk_alloc ?_ _)); refine blk_far ?_ NB239_304.out _; (with_reducible repeat (first | refine blk_drewN ?_ _ | refine blk_drew ?_ | refine blk_alloc ?_ _)); refine blk_far ?_ NB239_304.out _; (with_reducible repeat (first | refine blk_drewN ?_ _ | refine blk_drew ?_ | refine blk_alloc ?_ _)); refine blk_far ?_ NB239_304.out _; (with_reducible repeat (first | refine blk_drewN ?_ _ | refine blk_drew ?_ | refine blk_alloc ?_ _)); exact BK239.out) hb); have n6_ := Aside0.mk (blk_below (g := gb256) (o := .cells #[.string t248, .slice Ao25 t249.length co25, .int .i64 t252, .int .i64 t253, .int .i64 t254] 28 (0, 0)) (by (with_reducible repeat (first | refine blk_drewN ?_ _ | refine blk_drew ?_ | refine blk_alloc ?_ _)); refine blk_far ?_ NB256_304.out _; (with_reducible repeat (first | refine blk_drewN ?_ _ | refine blk_drew ?_ | refine blk_alloc ?_ _)); refine blk_far ?_ NB256_304.out _; (with_reducible repeat (first | refine blk_drewN ?_ _ | refine blk_drew ?_ | refine blk_alloc ?_ _)); refine blk_far ?_ NB256_304.out _; (with_reducible repeat (first | refine blk_drewN ?_ _ | refine blk_drew ?_ | refine blk_alloc ?_ _)); refine blk_far ?_ NB256_304.out _; (with_reducible repeat (first | refine blk_drewN ?_ _ | refine blk_drew ?_ | refine blk_alloc ?_ _)); refine blk_far ?_ NB256_304.out _; (with_reducible repeat (first | refine blk_drewN ?_ _ | refine blk_drew ?_ | refine blk_alloc ?_ _)); exact BK256.out) hb); have n7_ := Aside0.mk (blk_below (g := gb264) (o := .cells #[.string t257, .slice Ao32 t284.length co32, .int .i64 t261, .int .i64 t262, .int .i64 t263] 28 (0, 0)) (by (with_reducible repeat (first | refine blk_drewN ?_ _ | refine blk_drew ?_ | refine blk_alloc ?_ _)); refine blk_far ?_ NB264_304.out _; (with_reducible repeat (first | refine blk_drewN ?_ _ | refine blk_drew ?_ | refine blk_alloc ?_ _)); refine blk_far ?_ NB264_304.out _; (with_reducible repeat (first | refine blk_drewN ?_ _ | refine blk_drew ?_ | refine blk_alloc ?_ _)); refine blk_far ?_ NB264_304.out _; (with_reducible repeat (first | refine blk_drewN ?_ _ | refine blk_drew ?_ | refine blk_alloc ?_ _)); refine blk_far ?_ NB264_304.out _; (with_reducible repeat (first | refine blk_drewN ?_ _ | refine blk_drew ?_ | refine blk_alloc ?_ _)); refine blk_far ?_ NB264_304.out _; (with_reducible repeat (first | refine blk_drewN ?_ _ | refine blk_drew ?_ | refine blk_alloc ?_ _)); exact BK264.out) hb); have n8_ := Aside0.mk (blk_below (g := gb273) (o := .cells #[.string t265, .slice Ao39 t266.length co39, .int .i64 t269, .int .i64 t270, .int .i64 t271] 28 (0, 0)) (by (with_reducible repeat (first | refine blk_drewN ?_ _ | refine blk_drew ?_ | refine blk_alloc ?_ _)); refine blk_far ?_ NB273_304.out _; (with_reducible repeat (first | refine blk_drewN ?_ _ | refine blk_drew ?_ | refine blk_alloc ?_ _)); refine blk_far ?_ NB273_304.out _; (with_reducible repeat (first | refine blk_drewN ?_ _ | refine blk_drew ?_ | refine blk_alloc ?_ _)); refine blk_far ?_ NB273_304.out _; (with_reducible repeat (first | refine blk_drewN ?_ _ | refine blk_drew ?_ | refine blk_alloc ?_ _)); refine blk_far ?_ NB273_304.out _; (with_reducible repeat (first | refine blk_drewN ?_ _ | refine blk_drew ?_ | refine blk_alloc ?_ _)); refine blk_far ?_ NB273_304.out _; (with_reducible repeat (first | refine blk_drewN ?_ _ | refine blk_drew ?_ | refine blk_alloc ?_ _)); exact BK273.out) hb); have n9_ := Aside0.mk (blk_below (g := gb304) (o := .cells #[.string t296, .slice Ao119 t297.length co119, .int .i64 t300, .int .i64 t301, .int .i64 t302] 28 (0, 0)) (by (with_reducible repeat (first | refine blk_drewN ?_ _ | refine blk_drew ?_ | refine blk_alloc ?_ _)); refine blk_put (cs := #[.string t296, .slice Ao119 t297.length co119, .int .i64 t300, .int .i64 t301, .int .i64 0]) ?_ 4 _ rfl; (with_reducible repeat (first | refine blk_drewN ?_ _ | refine blk_drew ?_ | refine blk_alloc ?_ _)); refine blk_put (cs := #[.string t296, .slice Ao119 t297.length co119, .int .i64 t300, .int .i64 0, .int .i64 0]) ?_ 3 _ rfl; (with_reducible repeat (first | refine blk_drewN ?_ _ | refine blk_drew ?_ | refine blk_alloc ?_ _)); refine blk_put (cs := #[.string t296, .slice Ao119 t297.length co119, .int .i64 0, .int .i64 0, .int .i64 0]) ?_ 2 _ rfl; (with_reducible repeat (first | refine blk_drewN ?_ _ | refine blk_drew ?_ | refine blk_alloc ?_ _)); refine blk_put (cs := #[.string t296, .slice none 0 0, .int .i64 0, .int .i64 0, .int .i64 0]) ?_ 1 _ rfl; (with_reducible repeat (first | refine blk_drewN ?_ _ | refine blk_drew ?_ | refine blk_alloc ?_ _)); refine blk_put (cs := #[.string ⟨#[]⟩, .slice none 0 0, .int .i64 0, .int .i64 0, .int .i64 0]) ?_ 0 _ rfl; (with_reducible repeat (first | refine blk_drewN ?_ _ | refine blk_drew ?_ | refine blk_alloc ?_ _)); exact BK304.out) hb); have n10_ := Aside0.mk (below_step (XSq.bB HB) hb); clear HO_257001; clear HO_265001; clear HO_274001; clear HO292; clear HO299; clear BK239; clear BK256; clear BK264; clear BK273; clear BK304; clear HB; have HO_257001 := n0_; have HO_265001 := n1_; have HO_274001 := n2_; have HO292 := n3_; have HO299 := n4_; have BK239 := n5_; have BK256 := n6_; have BK264 := n7_; have BK273 := n8_; have BK304 := n9_; have HB := n10_; clear n0_ n1_ n2_ n3_ n4_ n5_ n6_ n7_ n8_ n9_ n10_; clear hb; (try clear hb2); (try clear hk); (try clear hi)))
             go_meet
             case rel => exact ⟨_, (true), (by first | rfl | (simp; done) | (simp [*]; done)), H', ⟨by have := HJ13.out; have := HJ62.out; first | omega | exact Nat.le_refl _⟩, ⟨by (try simp only [hl265001_62]); (with_reducible repeat (first | apply Kd.R_alloc | apply Kd.R_drewN | apply Kd.R_drew)); exact Kd.R_mono HO_257001.out (fun _ hk => ⟨hk.1.1.1, ⟨hk.1.1.2, hk.2⟩⟩)⟩, ⟨by (try simp only [hl265001_62]); (with_reducible repeat (first | apply Kd.R_alloc | apply Kd.R_drewN | apply Kd.R_drew)); exact Kd.R_mono HO_265001.out (fun _ hk => ⟨hk.1.1.1, ⟨hk.1.1.2, hk.2⟩⟩)⟩, ⟨by (try simp only [hl265001_62]); (with_reducible repeat (first | apply Kd.R_alloc | apply Kd.R_drewN | apply Kd.R_drew)); exact Kd.R_mono HO_274001.out (fun _ hk => ⟨hk.1.1.1, ⟨hk.1.1.2, hk.2⟩⟩)⟩, ⟨by (try simp only [hl265001_62]); (with_reducible repeat (first | apply Kd.R_alloc | apply Kd.R_drewN | apply Kd.R_drew)); exact Kd.R_mono HO299.out (fun _ hk => ⟨hk.1.1.1.2, ⟨hk.1.1.2, hk.1.2⟩⟩)⟩, ⟨by (try simp only [hl265001_62]); (with_reducible repeat (first | refine blk_drewN ?_ _ | refine blk_drew ?_ | refine blk_alloc ?_ _)); exact BK239.out⟩, ⟨by (try simp only [hl265001_62]); (with_reducible repeat (first | refine blk_drewN ?_ _ | refine blk_drew ?_ | refine blk_alloc ?_ _)); exact BK256.out⟩, ⟨by (try simp only [hl265001_62]); (with_reducible repeat (first | refine blk_drewN ?_ _ | refine blk_drew ?_ | refine blk_alloc ?_ _)); exact BK264.out⟩, ⟨by (try simp only [hl265001_62]); (with_reducible repeat (first | refine blk_drewN ?_ _ | refine blk_drew ?_ | refine blk_alloc ?_ _)); exact BK273.out⟩, ⟨by (try simp only [hl265001_62]); (with_reducible repeat (first | refine blk_drewN ?_ _ | refine blk_drew ?_ | refine blk_alloc ?_ _)); exact BK304.out⟩, ⟨by repeat (first | (with_reducible first | exact HB.out | apply below_alloc | apply pw_below_drewN | apply below_drew1 | refine below_set ?_ GE239.out | refine below_set ?_ GE256.out | refine below_set ?_ GE264.out | refine below_set ?_ GE273.out | refine below_set ?_ GE304.out) | exact HB.out)⟩⟩
           case rest =>
            clear HC99
            try clear c1
            try clear c2
            try clear p2
            try clear c3
            try clear c4
            try clear c5
            try clear c6
            try clear c6b0
            try clear c7
            try clear c8
            try clear c9
            try clear c10
            try clear c11
            try clear c12
            try clear c13
            try clear c23
            try clear c29
            try clear c30
            try clear c35
            try clear c36
            try clear c37
            try clear c41
            try clear c42
            try clear c43
            try clear c44
            try clear c46
            try clear c47
            try clear c50
            try clear c51
            try clear c52
            try clear c54
            try clear c55
            try clear c58
            try clear c61
            try clear c68
            try clear c69
            try clear c70
            try clear c73
            try clear c73b0
            try clear c75
            try clear c76
            try clear c77
            try clear c78
            try clear c80
            try clear c81
            try clear c84
            try clear c85
            try clear c86
            try clear c88
            try clear c89
            try clear c92
            try clear c95
            try clear c95b0
            try clear c96
            try clear c96b0
            try clear c96b1
            try clear c100
            try clear c101
            try clear c102
            try clear c107
            try clear c108
            try clear c114
            try clear c115
            try clear c116
            try clear c117
            try clear c121
            try clear c122
            try clear c123
            try clear c124
            try clear c125
            try clear c127
            try clear c128
            try clear c129
            try clear c132
            try clear c133
            try clear c134
            try clear c135
            try clear c137
            try clear c138
            try clear c139
            try clear hcz103_0
            try clear hcz103_1
            try clear hcz103_2
            try clear hcz103_3
            try clear hcz103_4
            try clear hcz105_0
            try clear hcz105_1
            try clear hcz105_2
            try clear hcz105_3
            try clear hcz105_4
            try clear hcz109_0
            try clear hcz109_1
            try clear hcz109_2
            try clear hcz109_3
            try clear hcz109_4
            try clear hcz118_0
            try clear hcz118_1
            try clear hcz118_2
            try clear hcz118_3
            try clear hcz118_4
            try clear hcz126_0
            try clear hcz126_1
            try clear hcz126_2
            try clear hcz126_3
            try clear hcz126_4
            try clear hcz130_0
            try clear hcz130_1
            try clear hcz130_2
            try clear hcz130_3
            try clear hcz130_4
            try clear hcz136_0
            try clear hcz136_1
            try clear hcz136_2
            try clear hcz136_3
            try clear hcz136_4
            try clear hcz140_0
            try clear hcz140_1
            try clear hcz140_2
            try clear hcz140_3
            try clear hcz140_4
            try clear hcz16_0
            try clear hcz16_1
            try clear hcz16_2
            try clear hcz16_3
            try clear hcz16_4
            try clear hcz18_0
            try clear hcz18_1
            try clear hcz18_2
            try clear hcz18_3
            try clear hcz18_4
            try clear hcz24_0
            try clear hcz24_1
            try clear hcz24_2
            try clear hcz24_3
            try clear hcz24_4
            try clear hcz26_0
            try clear hcz26_1
            try clear hcz26_2
            try clear hcz26_3
            try clear hcz26_4
            try clear hcz31_0
            try clear hcz31_1
            try clear hcz31_2
            try clear hcz31_3
            try clear hcz31_4
            try clear hcz38_0
            try clear hcz38_1
            try clear hcz38_2
            try clear hcz38_3
            try clear hcz38_4
            try clear hcz45_0
            try clear hcz45_1
            try clear hcz45_2
            try clear hcz45_3
            try clear hcz45_4
            try clear hcz48_0
            try clear hcz48_1
            try clear hcz48_2
            try clear hcz48_3
            try clear hcz48_4
            try clear hcz53_0
            try clear hcz53_1
            try clear hcz53_2
            try clear hcz53_3
            try clear hcz53_4
            try clear hcz56_0
            try clear hcz56_1
            try clear hcz56_2
            try clear hcz56_3
            try clear hcz56_4
            try clear hcz71_0
            try clear hcz71_1
            try clear hcz71_2
            try clear hcz71_3
            try clear hcz71_4
            try clear hcz79_0
            try clear hcz79_1
            try clear hcz79_2
            try clear hcz79_3
            try clear hcz79_4
            try clear hcz82_0
            try clear hcz82_1
            try clear hcz82_2
            try clear hcz82_3
            try clear hcz82_4
            try clear hcz87_0
            try clear hcz87_1
            try clear hcz87_2
            try clear hcz87_3
            try clear hcz87_4
            try clear hcz8_0
            try clear hcz8_1
            try clear hcz8_2
            try clear hcz8_3
            try clear hcz8_4
            try clear hcz90_0
            try clear hcz90_1
            try clear hcz90_2
            try clear hcz90_3
            try clear hcz90_4
            try clear hfz103_0
            try clear hfz103_1
            try clear hfz103_2
            try clear hfz103_3
            try clear hfz103_4
            try clear hfz105_0
            try clear hfz105_1
            try clear hfz105_2
            try clear hfz105_3
            try clear hfz105_4
            try clear hfz109_0
            try clear hfz109_1
            try clear hfz109_2
            try clear hfz109_3
            try clear hfz109_4
            try clear hfz118_0
            try clear hfz118_1
            try clear hfz118_2
            try clear hfz118_3
            try clear hfz118_4
            try clear hfz126_0
            try clear hfz126_1
            try clear hfz126_2
            try clear hfz126_3
            try clear hfz126_4
            try clear hfz130_0
            try clear hfz130_1
            try clear hfz130_2
            try clear hfz130_3
            try clear hfz130_4
            try clear hfz136_0
            try clear hfz136_1
            try clear hfz136_2
            try clear hfz136_3
            try clear hfz136_4
            try clear hfz140_0
            try clear hfz140_1
            try clear hfz140_2
            try clear hfz140_3
            try clear hfz140_4
            try clear hfz16_0
            try clear hfz16_1
            try clear hfz16_2
            try clear hfz16_3
            try clear hfz16_4
            try clear hfz18_0
            try clear hfz18_1
            try clear hfz18_2
            try clear hfz18_3
            try clear hfz18_4
            try clear hfz24_0
            try clear hfz24_1
            try clear hfz24_2
            try clear hfz24_3
            try clear hfz24_4
            try clear hfz26_0
            try clear hfz26_1
            try clear hfz26_2
            try clear hfz26_3
            try clear hfz26_4
            try clear hfz31_0
            try clear hfz31_1
            try clear hfz31_2
            try clear hfz31_3
            try clear hfz31_4
            try clear hfz38_0
            try clear hfz38_1
            try clear hfz38_2
            try clear hfz38_3
            try clear hfz38_4
            try clear hfz45_0
            try clear hfz45_1
            try clear hfz45_2
            try clear hfz45_3
            try clear hfz45_4
            try clear hfz48_0
            try clear hfz48_1
            try clear hfz48_2
            try clear hfz48_3
            try clear hfz48_4
            try clear hfz53_0
            try clear hfz53_1
            try clear hfz53_2
            try clear hfz53_3
            try clear hfz53_4
            try clear hfz56_0
            try clear hfz56_1
            try clear hfz56_2
            try clear hfz56_3
            try clear hfz56_4
            try clear hfz71_0
            try clear hfz71_1
            try clear hfz71_2
            try clear hfz71_3
            try clear hfz71_4
            try clear hfz79_0
            try clear hfz79_1
            try clear hfz79_2
            try clear hfz79_3
            try clear hfz79_4
            try clear hfz82_0
            try clear hfz82_1
            try clear hfz82_2
            try clear hfz82_3
            try clear hfz82_4
            try clear hfz87_0
            try clear hfz87_1
            try clear hfz87_2
            try clear hfz87_3
            try clear hfz87_4
            try clear hfz8_0
            try clear hfz8_1
            try clear hfz8_2
            try clear hfz8_3
            try clear hfz8_4
            try clear hfz90_0
            try clear hfz90_1
            try clear hfz90_2
            try clear hfz90_3
            try clear hfz90_4
            try clear p2
            obtain ⟨kq, x102_98, rfl, HA, HJ98, HO_257001, HO_265001, HO_274001, HO_305001, BK239, BK256, BK264, BK273, BK304, HB⟩ := hcut; have hl274001_98 := (Kd.R_reads' HO_274001.out).1
            rw [hl274001_98] at HO_274001
            (try simp only [hl274001_98])
            (try simp only [hl274001_98] at BK239)
            (try simp only [hl274001_98] at BK256)
            (try simp only [hl274001_98] at BK264)
            (try simp only [hl274001_98] at BK273)
            (try simp only [hl274001_98] at BK304)
            (try simp only [hl274001_98] at HO_257001)
            (try simp only [hl274001_98] at HO_265001)
            (try simp only [hl274001_98] at HO_305001)
            cases kq with
            | zero => exact absurd HA.out (by simp [laws_FnExactPaintSpot.j2])
            | succ kj98 =>
             have H := HA.out; clear HA
             simp only [laws_FnExactPaintSpot.j2] at H
             by_cases c142 : x102_98 = true
             ·
              subst c142
              have H1 : (none) = some r := by rw [if_pos rfl] at H; exact H
              clear H; have H := H1; clear H1
              exact absurd H (by simp)
             ·
              replace c142 := Bool.eq_false_iff.mpr c142; subst c142
              have H1 : ((laws_heldPlain.f kj98 t265 t287 t269 t270 t271 1).bind fun t306 => (if t306 < 0 then (none) else (if t306 = t286 then (some true) else (none)))) = some r := by rw [if_neg (show ¬ (false = true) by decide)] at H; exact H
              clear H; have H := H1; clear H1; replace H := Option.bind_eq_some_iff.mp H; obtain ⟨t306, A1430, H⟩ := H; replace H : (if t306 < 0 then (none) else (if t306 = t286 then (some true) else (none))) = some r := H; have A143 := Aside0.mk A1430; clear A1430
              by_cases c144 : t306 < 0
              ·
               rw [if_pos c144] at H
               exact absurd H (by simp)
              ·
               rw [if_neg c144] at H
               have c144b0 : decide (t306 < 0) = false := decide_eq_false c144; clear c144
               by_cases c145 : t306 = t286
               ·
                rw [if_pos c145] at H
                have c145b0 : (t306 == t286) = true := beq_iff_eq.mpr c145; have c145b1 : (t306 != t286) = false := bne_eq_false_iff_eq.mpr c145; clear c145; obtain rfl := Option.some.inj H; have hnb146 := NB273_239.out; have hnc146 := NB239_273.out; have hnb147 := NB273_256.out; have hnc147 := NB256_273.out; have hnb148 := NB273_264.out; have hnc148 := NB264_273.out; have hnb149 := NB273_304.out; have hnc149 := NB304_273.out; have hcz150_0 : wc.cell? ⟨gb273, 0, none⟩ = some (.string t265) := (blk_cell BK273.out 0).trans rfl; have hcz150_1 : wc.cell? ⟨gb273, 1, none⟩ = some (.slice Ao39 t287.length co39) := (blk_cell BK273.out 1).trans rfl; have hcz150_2 : wc.cell? ⟨gb273, 2, none⟩ = some (.int .i64 t269) := (blk_cell BK273.out 2).trans rfl; have hcz150_3 : wc.cell? ⟨gb273, 3, none⟩ = some (.int .i64 t270) := (blk_cell BK273.out 3).trans rfl; have hcz150_4 : wc.cell? ⟨gb273, 4, none⟩ = some (.int .i64 t271) := (blk_cell BK273.out 4).trans rfl; have hfz150_0 := blk_frozen BK273.out 0; have hfz150_1 := blk_frozen BK273.out 1; have hfz150_2 := blk_frozen BK273.out 2; have hfz150_3 := blk_frozen BK273.out 3; have hfz150_4 := blk_frozen BK273.out 4
                go_wp2_with (first | ((with_reducible refine gate_callee (f := 11) rfl ?_); refine goesL_ (some 105) rfl rfl Tryd.func11 (by kernel_rfl) rfl #[.agg #[.string t265, .slice Ao39 t287.length co39, .int .i64 t269, .int .i64 t270, .int .i64 t271], .int .i64 1] rfl (by (try simp only [List.map_toArray, List.map_cons, List.map_nil]); first | done | rfl | (simp only [List.length_drop, List.length_take]; rfl)) ?_; (with_reducible refine (laws_heldPlain.calls kj98 t265 _ _ t287 t269 t270 t271 1 t306 _ ?side1 ?side2 A143.out).mono ?_); (case side1 => repeat (first | exact (Kd.R_reads' HO_274001.out).2.2 | (with_reducible refine Kd.C_alloc ?_ _) | (with_reducible refine Kd.C_drewN ?_ _) | (with_reducible refine Kd.C_drew ?_))); (case side2 => exact (Kd.R_reads' HO_274001.out).2.1); rintro e w151 ⟨rfl, hb⟩; refine ⟨_, rfl, ?_⟩; replace HO_257001 := Aside0.mk (Kd.R_below (XSq.pR HO_257001) hb); replace HO_265001 := Aside0.mk (Kd.R_below (XSq.pR HO_265001) hb); replace HO_274001 := Aside0.mk (Kd.R_below (XSq.pR HO_274001) hb); replace HO_305001 := Aside0.mk (Kd.R_below (XSq.pR HO_305001) hb); replace BK239 := XSq.bb BK239 hb; replace BK256 := XSq.bb BK256 hb; replace BK264 := XSq.bb BK264 hb; replace BK273 := XSq.bb BK273 hb; replace BK304 := XSq.bb BK304 hb; replace HB := Aside0.mk (below_step (XSq.bB HB) hb); clear hb; (try clear hb2); (try clear hk); (try clear hi)))
                go_ret
                exact ⟨by first | rfl | (simp [errW_none, errW_some] <;> rfl) | (simp [*, errW_none, errW_some] <;> rfl), by repeat (first | (with_reducible first | exact HB.out | apply below_alloc | apply pw_below_drewN | apply below_drew1 | refine below_set ?_ GE239.out | refine below_set ?_ GE256.out | refine below_set ?_ GE264.out | refine below_set ?_ GE273.out | refine below_set ?_ GE304.out) | exact HB.out)⟩
               ·
                rw [if_neg c145] at H
                exact absurd H (by simp)
          ·
           rw [if_neg c96] at H
           exact absurd H (by simp)
     ·
      replace c61 := Bool.eq_false_iff.mpr c61; subst c61
      have H1 : (none) = some r := by rw [if_neg (show ¬ (false = true) by decide)] at H; exact H
      clear H; have H := H1; clear H1
      exact absurd H (by simp)

end Go.Proofs.YtfhplgiblknfcaaDoor.PFnExactPaintSpot
