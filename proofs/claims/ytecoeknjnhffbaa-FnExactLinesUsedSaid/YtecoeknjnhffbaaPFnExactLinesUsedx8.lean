-- Made by wip/tools/xkit.py (a program of this session's) with the kit's printer.
import Derived.Test.YtecoeknjnhffbaaPFnExactLinesUsedx0
import Derived.Test.YtecoeknjnhffbaaPFnExactLinesUsedx1
import Derived.Test.YtecoeknjnhffbaaPFnExactLinesUsedx2
import Derived.Test.YtecoeknjnhffbaaPFnExactLinesUsedx4
import Derived.Test.YtecoeknjnhffbaaPFnExactLinesUsedx7
namespace Go.Proofs.Ytecoeknjnhffbaa.PFnExactLinesUsed
open Go.RowKit Go.Proofs.YtecoeknjnhffbaaW.PrintWords Go.Proofs.YtecoeknjnhffbaaW.PrintLast Go.Proofs.YtecoeknjnhffbaaW.PrintMore
attribute [local go_sem] max2_int min2_int max_two min_two max_three min_three max_four min_four   -- for this text's walks alone
set_option linter.unusedVariables false
set_option linter.unusedSimpArgs false

/-! ### laws_FnExactLinesUsed: function 13, by hand -/
def laws_FnExactLinesUsed.f (k : Nat) (l0_0 : List (List Int)) (l0_1 : List Int) (a1 : Int) (a2 : Int) : Option Bool := (laws_szRoute.f k l0_0 l0_1 1048576).bind fun t => if t < 0 then some true else (laws_toRoute.f k l0_0 l0_1).bind fun x => (spec_LinesUsed.f k x.1 x.2 a1 a2).bind fun s => (impl_LinesUsed.f k x.1 x.2 a1 a2).bind fun g => (laws_eqIntSS.f k g.1 s.1).bind fun e1 => (laws_eqRoute.f k x.1 x.2 x.1 x.2).bind fun e2 => (laws_markRoute.f k x.1 x.2 1).bind fun m1 => (laws_markIntSS.f k g.1 1).bind fun m2 => (laws_heldIntSS.f k m2.2 1).bind fun q => if e1 = true ∧ e2 = true ∧ g.2 = s.2 ∧ 0 ≤ m1.1 ∧ 0 ≤ q ∧ q = m2.1 then some true else none
set_option maxHeartbeats 16000000 in
set_option maxRecDepth 100000 in
theorem laws_FnExactLinesUsed.calls (k : Nat) (A0_0 : Option Addr) (c0_0 : Nat) (l0_0 : List (List Int)) (A0_1 : Option Addr) (c0_1 : Nat) (l0_1 : List Int) (a1 : Int) (a2 : Int) (r : Bool) (w : World) (hr0_0 : Kd.C (Kd.slice 3 (Kd.int .i64)) w A0_0 l0_0.length l0_0) (hc0_0 : l0_0.length ≤ c0_0) (hr0_1 : Kd.C (Kd.int .i64) w A0_1 l0_1.length l0_1) (hc0_1 : l0_1.length ≤ c0_1) (h : laws_FnExactLinesUsed.f k l0_0 l0_1 a1 a2 = some r) :
    Calls Try.prog 13 #[.agg #[.slice A0_0 l0_0.length c0_0, .slice A0_1 l0_1.length c0_1], .int .i64 a1, .int .i64 a2] w fun e w' => e = .returned (.bool r) ∧ Below w.heap.size w w' := by
  have huA := Try.underlying25
  have huR := Try.underlying28
  have HR0_0 := Aside0.mk hr0_0
  clear hr0_0
  have HC0_0 := Aside0.mk hc0_0
  clear hc0_0
  have HR0_1 := Aside0.mk hr0_1
  clear hr0_1
  have HC0_1 := Aside0.mk hc0_1
  clear hc0_1
  have HB := Aside0.mk (Below.refl w.heap.size w)
  have h_ := Option.bind_eq_some_iff.1 h
  clear h
  obtain ⟨t0, B0_, h⟩ := h_
  have B0 := Aside0.mk B0_
  clear B0_
  change (if t0 < 0 then some true else _) = some r at h
  by_cases c0 : t0 < 0
  · rw [if_pos c0] at h
    obtain rfl := Option.some.inj h
    have c0b : decide (t0 < 0) = true := decide_eq_true c0
    clear c0 h
    go_enter Try.func13, Try.ntmps13
    go_wp2_with (first | (go_at_call 14; (with_reducible refine (laws_szRoute.calls k _ _ l0_0 _ _ l0_1 1048576 t0 _ ?s2_0 ?s2_1 ?s2_2 ?s2_3 B0.out).mono ?_); (case s2_0 => repeat (first | exact (Kd.C_below HR0_0.out HB.out) | (with_reducible refine Kd.C_alloc ?_ _) | (with_reducible refine Kd.C_drewN ?_ _) | (with_reducible refine Kd.C_drew ?_))); (case s2_1 => exact HC0_0.out); (case s2_2 => repeat (first | exact (Kd.C_below HR0_1.out HB.out) | (with_reducible refine Kd.C_alloc ?_ _) | (with_reducible refine Kd.C_drewN ?_ _) | (with_reducible refine Kd.C_drew ?_))); (case s2_3 => exact HC0_1.out); rintro e w1_ ⟨rfl, hb⟩; have hq : Below w.heap.size w w1_ := below_step (below_alloc (Below.refl _ _) _) hb; have KA := Aside0.mk (show w1_.heap[w.heap.size]? = some (.cells #[(.slice A0_0 l0_0.length c0_0), (.slice A0_1 l0_1.length c0_1)] 25 (0, 0)) from blk_below (blk_new _ _) hb); replace HB := Aside0.mk (below_step HB.out hq); clear hq hb; have hcz3_ : w1_.cell? ⟨w.heap.size, 0, none⟩ = some ((.slice A0_0 l0_0.length c0_0)) := (blk_cell KA.out 0).trans rfl; have hcz4_ : ∀ o_, (w1_.alloc o_).cell? ⟨w.heap.size, 0, none⟩ = some ((.slice A0_0 l0_0.length c0_0)) := fun o_ => (blk_cell (blk_alloc KA.out o_) 0).trans rfl; have hcz5_ : w1_.cell? ⟨w.heap.size, 1, none⟩ = some ((.slice A0_1 l0_1.length c0_1)) := (blk_cell KA.out 1).trans rfl; have hcz6_ : ∀ o_, (w1_.alloc o_).cell? ⟨w.heap.size, 1, none⟩ = some ((.slice A0_1 l0_1.length c0_1)) := fun o_ => (blk_cell (blk_alloc KA.out o_) 1).trans rfl))
    go_ret
    exact ⟨by first | rfl | (simp; done), HB.out⟩
  · rw [if_neg c0] at h
    have c0b : decide (t0 < 0) = false := decide_eq_false c0
    clear c0
    have h_ := Option.bind_eq_some_iff.1 h
    clear h
    obtain ⟨⟨x1, x2⟩, B1_, h⟩ := h_
    have B1 := Aside0.mk B1_
    clear B1_
    have h_ := Option.bind_eq_some_iff.1 h
    clear h
    obtain ⟨⟨s1, s2⟩, B2_, h⟩ := h_
    have B2 := Aside0.mk B2_
    clear B2_
    have h_ := Option.bind_eq_some_iff.1 h
    clear h
    obtain ⟨⟨g1, g2⟩, B3_, h⟩ := h_
    have B3 := Aside0.mk B3_
    clear B3_
    have h_ := Option.bind_eq_some_iff.1 h
    clear h
    obtain ⟨e1, B4_, h⟩ := h_
    have B4 := Aside0.mk B4_
    clear B4_
    have h_ := Option.bind_eq_some_iff.1 h
    clear h
    obtain ⟨e2, B5_, h⟩ := h_
    have B5 := Aside0.mk B5_
    clear B5_
    have h_ := Option.bind_eq_some_iff.1 h
    clear h
    obtain ⟨⟨k1, k2, k3⟩, B6_, h⟩ := h_
    have B6 := Aside0.mk B6_
    clear B6_
    have h_ := Option.bind_eq_some_iff.1 h
    clear h
    obtain ⟨⟨m1, m2⟩, B7_, h⟩ := h_
    have B7 := Aside0.mk B7_
    clear B7_
    have h_ := Option.bind_eq_some_iff.1 h
    clear h
    obtain ⟨q, B8_, h⟩ := h_
    have B8 := Aside0.mk B8_
    clear B8_
    by_cases hc : e1 = true ∧ e2 = true ∧ g2 = s2 ∧ 0 ≤ k1 ∧ 0 ≤ q ∧ q = m1
    · replace h := (if_pos hc).symm.trans h
      obtain rfl := Option.some.inj h
      obtain ⟨rfl, rfl, rfl, hk0, hq0, rfl⟩ := hc
      have hk0b : decide (k1 < 0) = false := decide_eq_false (by omega)
      have hq0b : decide (q < 0) = false := decide_eq_false (by omega)
      have hqqb : (q != q) = false := by simp
      clear hk0 hq0 h
      have hbb0 : (g2 != g2) = false := by simp
      have tok1 := trivial
      have tok2 := trivial
      have tok3 := trivial
      have tok4 := trivial
      go_enter Try.func13, Try.ntmps13
      go_wp2_with (first | (go_at_call 14; (with_reducible refine (laws_szRoute.calls k _ _ l0_0 _ _ l0_1 1048576 t0 _ ?s8_0 ?s8_1 ?s8_2 ?s8_3 B0.out).mono ?_); (case s8_0 => repeat (first | exact (Kd.C_below HR0_0.out HB.out) | (with_reducible refine Kd.C_alloc ?_ _) | (with_reducible refine Kd.C_drewN ?_ _) | (with_reducible refine Kd.C_drew ?_))); (case s8_1 => exact HC0_0.out); (case s8_2 => repeat (first | exact (Kd.C_below HR0_1.out HB.out) | (with_reducible refine Kd.C_alloc ?_ _) | (with_reducible refine Kd.C_drewN ?_ _) | (with_reducible refine Kd.C_drew ?_))); (case s8_3 => exact HC0_1.out); rintro e w7_ ⟨rfl, hb⟩; have hq : Below w.heap.size w w7_ := below_step (below_alloc (Below.refl _ _) _) hb; have KA := Aside0.mk (show w7_.heap[w.heap.size]? = some (.cells #[(.slice A0_0 l0_0.length c0_0), (.slice A0_1 l0_1.length c0_1)] 25 (0, 0)) from blk_below (blk_new _ _) hb); replace HB := Aside0.mk (below_step HB.out hq); clear hq hb; have hcz9_ : w7_.cell? ⟨w.heap.size, 0, none⟩ = some ((.slice A0_0 l0_0.length c0_0)) := (blk_cell KA.out 0).trans rfl; have hcz10_ : ∀ o_, (w7_.alloc o_).cell? ⟨w.heap.size, 0, none⟩ = some ((.slice A0_0 l0_0.length c0_0)) := fun o_ => (blk_cell (blk_alloc KA.out o_) 0).trans rfl; have hcz11_ : w7_.cell? ⟨w.heap.size, 1, none⟩ = some ((.slice A0_1 l0_1.length c0_1)) := (blk_cell KA.out 1).trans rfl; have hcz12_ : ∀ o_, (w7_.alloc o_).cell? ⟨w.heap.size, 1, none⟩ = some ((.slice A0_1 l0_1.length c0_1)) := fun o_ => (blk_cell (blk_alloc KA.out o_) 1).trans rfl) | (have tk := tok1; go_at_call 16; (with_reducible refine (laws_toRoute.calls k _ _ l0_0 _ _ l0_1 x1 x2 _ ?s14_0 ?s14_1 ?s14_2 ?s14_3 B1.out).mono ?_); (case s14_0 => repeat (first | exact (Kd.C_below HR0_0.out HB.out) | (with_reducible refine Kd.C_alloc ?_ _) | (with_reducible refine Kd.C_drewN ?_ _) | (with_reducible refine Kd.C_drew ?_))); (case s14_1 => exact HC0_0.out); (case s14_2 => repeat (first | exact (Kd.C_below HR0_1.out HB.out) | (with_reducible refine Kd.C_alloc ?_ _) | (with_reducible refine Kd.C_drewN ?_ _) | (with_reducible refine Kd.C_drew ?_))); (case s14_3 => exact HC0_1.out); rintro e w13_ ⟨v1_, v2_, rfl, hs, hr, hb⟩; obtain ⟨AT1, cT1, rfl⟩ := Kd.S_slice hs; obtain ⟨AT2, cT2, rfl⟩ := Kd.R_slice hr; have T := Aside0.mk (XRoute.Rt.made (n := w.heap.size) hs hr (below_size (HB.out))); clear hs hr; have hq : Below w7_.heap.size w7_ w13_ := below_step (Below.refl _ _) hb; replace KA := Aside0.mk (show w13_.heap[w.heap.size]? = some (.cells #[(.slice A0_0 l0_0.length c0_0), (.slice A0_1 l0_1.length c0_1)] 25 (0, 0)) from blk_below KA.out hq); replace HB := Aside0.mk (below_step HB.out hq); clear hq hb; clear hcz9_ hcz10_ hcz11_ hcz12_; have hcz15_ : w13_.cell? ⟨w.heap.size, 0, none⟩ = some ((.slice A0_0 l0_0.length c0_0)) := (blk_cell KA.out 0).trans rfl; have hcz16_ : ∀ o_, (w13_.alloc o_).cell? ⟨w.heap.size, 0, none⟩ = some ((.slice A0_0 l0_0.length c0_0)) := fun o_ => (blk_cell (blk_alloc KA.out o_) 0).trans rfl; have hcz17_ : w13_.cell? ⟨w.heap.size, 1, none⟩ = some ((.slice A0_1 l0_1.length c0_1)) := (blk_cell KA.out 1).trans rfl; have hcz18_ : ∀ o_, (w13_.alloc o_).cell? ⟨w.heap.size, 1, none⟩ = some ((.slice A0_1 l0_1.length c0_1)) := fun o_ => (blk_cell (blk_alloc KA.out o_) 1).trans rfl; clear tk tok1) | (go_at_call 42; (with_reducible refine (spec_LinesUsed.calls k _ _ x1 _ _ x2 a1 a2 s1 g2 _ ?s20_0 ?s20_1 ?s20_2 ?s20_3 B2.out).mono ?_); (case s20_0 => repeat (first | exact (Kd.S_reads' T.out.s).2.2 | (with_reducible refine Kd.C_alloc ?_ _) | (with_reducible refine Kd.C_drewN ?_ _) | (with_reducible refine Kd.C_drew ?_))); (case s20_1 => exact (Kd.S_reads' T.out.s).2.1); (case s20_2 => repeat (first | exact (Kd.R_reads' T.out.r).2.2 | (with_reducible refine Kd.C_alloc ?_ _) | (with_reducible refine Kd.C_drewN ?_ _) | (with_reducible refine Kd.C_drew ?_))); (case s20_3 => exact (Kd.R_reads' T.out.r).2.1); rintro e w19_ ⟨v1_, rfl, hs, hb⟩; obtain ⟨AS1, cS1, rfl⟩ := Kd.S_slice hs; have S := Aside0.mk (XRoute.Rs.made (n := w.heap.size) hs (below_size (HB.out))); clear hs; have hq : Below w13_.heap.size w13_ w19_ := below_step (Below.refl _ _) hb; replace T := Aside0.mk (XRoute.Rt.below T.out hq); replace KA := Aside0.mk (show w19_.heap[w.heap.size]? = some (.cells #[(.slice A0_0 l0_0.length c0_0), (.slice A0_1 l0_1.length c0_1)] 25 (0, 0)) from blk_below KA.out hq); replace HB := Aside0.mk (below_step HB.out hq); clear hq hb; clear hcz15_ hcz16_ hcz17_ hcz18_; have hcz21_ : w19_.cell? ⟨w.heap.size, 0, none⟩ = some ((.slice A0_0 l0_0.length c0_0)) := (blk_cell KA.out 0).trans rfl; have hcz22_ : ∀ o_, (w19_.alloc o_).cell? ⟨w.heap.size, 0, none⟩ = some ((.slice A0_0 l0_0.length c0_0)) := fun o_ => (blk_cell (blk_alloc KA.out o_) 0).trans rfl; have hcz23_ : w19_.cell? ⟨w.heap.size, 1, none⟩ = some ((.slice A0_1 l0_1.length c0_1)) := (blk_cell KA.out 1).trans rfl; have hcz24_ : ∀ o_, (w19_.alloc o_).cell? ⟨w.heap.size, 1, none⟩ = some ((.slice A0_1 l0_1.length c0_1)) := fun o_ => (blk_cell (blk_alloc KA.out o_) 1).trans rfl; clear T) | (have tk := tok2; go_at_call 16; (with_reducible refine (laws_toRoute.calls k _ _ l0_0 _ _ l0_1 x1 x2 _ ?s26_0 ?s26_1 ?s26_2 ?s26_3 B1.out).mono ?_); (case s26_0 => repeat (first | exact (Kd.C_below HR0_0.out HB.out) | (with_reducible refine Kd.C_alloc ?_ _) | (with_reducible refine Kd.C_drewN ?_ _) | (with_reducible refine Kd.C_drew ?_))); (case s26_1 => exact HC0_0.out); (case s26_2 => repeat (first | exact (Kd.C_below HR0_1.out HB.out) | (with_reducible refine Kd.C_alloc ?_ _) | (with_reducible refine Kd.C_drewN ?_ _) | (with_reducible refine Kd.C_drew ?_))); (case s26_3 => exact HC0_1.out); rintro e w25_ ⟨v1_, v2_, rfl, hs, hr, hb⟩; obtain ⟨AX1, cX1, rfl⟩ := Kd.S_slice hs; obtain ⟨AX2, cX2, rfl⟩ := Kd.R_slice hr; have X := Aside0.mk (XRoute.Rt.made (n := w.heap.size) hs hr (below_size (HB.out))); clear hs hr; have LSX := Aside0.mk (XRoute.sepR S.out.le (Below.refl _ _) hb); have LKAX := Aside0.mk (XRoute.sepB KA.out (Below.refl _ _) hb); have LX := Aside0.mk hb.size; have hq : Below w19_.heap.size w19_ w25_ := below_step (Below.refl _ _) hb; replace S := Aside0.mk (XRoute.Rs.below S.out hq); replace KA := Aside0.mk (show w25_.heap[w.heap.size]? = some (.cells #[(.slice A0_0 l0_0.length c0_0), (.slice A0_1 l0_1.length c0_1)] 25 (0, 0)) from blk_below KA.out hq); replace HB := Aside0.mk (below_step HB.out hq); clear hq hb; clear hcz21_ hcz22_ hcz23_ hcz24_; have hcz27_ : w25_.cell? ⟨w.heap.size, 0, none⟩ = some ((.slice A0_0 l0_0.length c0_0)) := (blk_cell KA.out 0).trans rfl; have hcz28_ : ∀ o_, (w25_.alloc o_).cell? ⟨w.heap.size, 0, none⟩ = some ((.slice A0_0 l0_0.length c0_0)) := fun o_ => (blk_cell (blk_alloc KA.out o_) 0).trans rfl; have hcz29_ : w25_.cell? ⟨w.heap.size, 1, none⟩ = some ((.slice A0_1 l0_1.length c0_1)) := (blk_cell KA.out 1).trans rfl; have hcz30_ : ∀ o_, (w25_.alloc o_).cell? ⟨w.heap.size, 1, none⟩ = some ((.slice A0_1 l0_1.length c0_1)) := fun o_ => (blk_cell (blk_alloc KA.out o_) 1).trans rfl; clear tk tok2) | (have tk := tok3; go_at_call 43; (with_reducible refine (impl_LinesUsed.calls k _ _ x1 _ _ x2 a1 a2 g1 g2 _ ?s32_0 ?s32_1 ?s32_2 ?s32_3 B3.out).mono ?_); (case s32_0 => repeat (first | exact (Kd.S_reads' X.out.s).2.2 | (with_reducible refine Kd.C_alloc ?_ _) | (with_reducible refine Kd.C_drewN ?_ _) | (with_reducible refine Kd.C_drew ?_))); (case s32_1 => exact (Kd.S_reads' X.out.s).2.1); (case s32_2 => repeat (first | exact (Kd.R_reads' X.out.r).2.2 | (with_reducible refine Kd.C_alloc ?_ _) | (with_reducible refine Kd.C_drewN ?_ _) | (with_reducible refine Kd.C_drew ?_))); (case s32_3 => exact (Kd.R_reads' X.out.r).2.1); rintro e w31_ ⟨v1_, rfl, hs, hb⟩; obtain ⟨AG1, cG1, rfl⟩ := Kd.S_slice hs; have G := Aside0.mk (XRoute.Rs.made (n := w.heap.size) hs (below_size (below_alloc (HB.out) _))); clear hs; have LSG := Aside0.mk (XRoute.sepR S.out.le (below_alloc (Below.refl _ _) _) hb); have LXG := Aside0.mk (XRoute.sepR X.out.le (below_alloc (Below.refl _ _) _) hb); have LKAG := Aside0.mk (XRoute.sepB KA.out (below_alloc (Below.refl _ _) _) hb); have LKXG := Aside0.mk (XRoute.sepN hb); have LG := Aside0.mk hb.size; have hq : Below w25_.heap.size w25_ w31_ := below_step (below_alloc (Below.refl _ _) _) hb; replace S := Aside0.mk (XRoute.Rs.below S.out hq); replace X := Aside0.mk (XRoute.Rt.below X.out hq); replace KA := Aside0.mk (show w31_.heap[w.heap.size]? = some (.cells #[(.slice A0_0 l0_0.length c0_0), (.slice A0_1 l0_1.length c0_1)] 25 (0, 0)) from blk_below KA.out hq); have KX := Aside0.mk (show w31_.heap[w25_.heap.size]? = some (.cells #[(.slice AX1 x1.length cX1), (.slice AX2 x2.length cX2)] 28 (0, 0)) from blk_below (blk_new _ _) hb); replace HB := Aside0.mk (below_step HB.out hq); clear hq hb; clear hcz27_ hcz28_ hcz29_ hcz30_; have hcz33_ : w31_.cell? ⟨w.heap.size, 0, none⟩ = some ((.slice A0_0 l0_0.length c0_0)) := (blk_cell KA.out 0).trans rfl; have hcz34_ : ∀ o_, (w31_.alloc o_).cell? ⟨w.heap.size, 0, none⟩ = some ((.slice A0_0 l0_0.length c0_0)) := fun o_ => (blk_cell (blk_alloc KA.out o_) 0).trans rfl; have hcz35_ : w31_.cell? ⟨w.heap.size, 1, none⟩ = some ((.slice A0_1 l0_1.length c0_1)) := (blk_cell KA.out 1).trans rfl; have hcz36_ : ∀ o_, (w31_.alloc o_).cell? ⟨w.heap.size, 1, none⟩ = some ((.slice A0_1 l0_1.length c0_1)) := fun o_ => (blk_cell (blk_alloc KA.out o_) 1).trans rfl; have hcz37_ : w31_.cell? ⟨w25_.heap.size, 0, none⟩ = some ((.slice AX1 x1.length cX1)) := (blk_cell KX.out 0).trans rfl; have hcz38_ : ∀ o_, (w31_.alloc o_).cell? ⟨w25_.heap.size, 0, none⟩ = some ((.slice AX1 x1.length cX1)) := fun o_ => (blk_cell (blk_alloc KX.out o_) 0).trans rfl; have hcz39_ : w31_.cell? ⟨w25_.heap.size, 1, none⟩ = some ((.slice AX2 x2.length cX2)) := (blk_cell KX.out 1).trans rfl; have hcz40_ : ∀ o_, (w31_.alloc o_).cell? ⟨w25_.heap.size, 1, none⟩ = some ((.slice AX2 x2.length cX2)) := fun o_ => (blk_cell (blk_alloc KX.out o_) 1).trans rfl; clear tk tok3) | (have tk := tok4; go_at_call 44; (with_reducible refine (laws_eqIntSS.calls k _ _ g1 _ _ s1 true _ ?s42_0 ?s42_1 ?s42_2 ?s42_3 B4.out).mono ?_); (case s42_0 => repeat (first | exact (Kd.S_reads' G.out.s).2.2 | (with_reducible refine Kd.C_alloc ?_ _) | (with_reducible refine Kd.C_drewN ?_ _) | (with_reducible refine Kd.C_drew ?_))); (case s42_1 => exact (Kd.S_reads' G.out.s).2.1); (case s42_2 => repeat (first | exact (Kd.S_reads' S.out.s).2.2 | (with_reducible refine Kd.C_alloc ?_ _) | (with_reducible refine Kd.C_drewN ?_ _) | (with_reducible refine Kd.C_drew ?_))); (case s42_3 => exact (Kd.S_reads' S.out.s).2.1); rintro e w41_ ⟨rfl, hd⟩; have hb := Drawn0.below hd; clear hd; have hq : Below w31_.heap.size w31_ w41_ := below_step (Below.refl _ _) hb; replace S := Aside0.mk (XRoute.Rs.below S.out hq); replace X := Aside0.mk (XRoute.Rt.below X.out hq); replace G := Aside0.mk (XRoute.Rs.below G.out hq); replace KA := Aside0.mk (show w41_.heap[w.heap.size]? = some (.cells #[(.slice A0_0 l0_0.length c0_0), (.slice A0_1 l0_1.length c0_1)] 25 (0, 0)) from blk_below KA.out hq); replace KX := Aside0.mk (show w41_.heap[w25_.heap.size]? = some (.cells #[(.slice AX1 x1.length cX1), (.slice AX2 x2.length cX2)] 28 (0, 0)) from blk_below KX.out hq); replace HB := Aside0.mk (below_step HB.out hq); clear hq hb; clear hcz33_ hcz34_ hcz35_ hcz36_ hcz37_ hcz38_ hcz39_ hcz40_; have hcz43_ : w41_.cell? ⟨w.heap.size, 0, none⟩ = some ((.slice A0_0 l0_0.length c0_0)) := (blk_cell KA.out 0).trans rfl; have hcz44_ : ∀ o_, (w41_.alloc o_).cell? ⟨w.heap.size, 0, none⟩ = some ((.slice A0_0 l0_0.length c0_0)) := fun o_ => (blk_cell (blk_alloc KA.out o_) 0).trans rfl; have hcz45_ : w41_.cell? ⟨w.heap.size, 1, none⟩ = some ((.slice A0_1 l0_1.length c0_1)) := (blk_cell KA.out 1).trans rfl; have hcz46_ : ∀ o_, (w41_.alloc o_).cell? ⟨w.heap.size, 1, none⟩ = some ((.slice A0_1 l0_1.length c0_1)) := fun o_ => (blk_cell (blk_alloc KA.out o_) 1).trans rfl; have hcz47_ : w41_.cell? ⟨w25_.heap.size, 0, none⟩ = some ((.slice AX1 x1.length cX1)) := (blk_cell KX.out 0).trans rfl; have hcz48_ : ∀ o_, (w41_.alloc o_).cell? ⟨w25_.heap.size, 0, none⟩ = some ((.slice AX1 x1.length cX1)) := fun o_ => (blk_cell (blk_alloc KX.out o_) 0).trans rfl; have hcz49_ : w41_.cell? ⟨w25_.heap.size, 1, none⟩ = some ((.slice AX2 x2.length cX2)) := (blk_cell KX.out 1).trans rfl; have hcz50_ : ∀ o_, (w41_.alloc o_).cell? ⟨w25_.heap.size, 1, none⟩ = some ((.slice AX2 x2.length cX2)) := fun o_ => (blk_cell (blk_alloc KX.out o_) 1).trans rfl; clear tk tok4))
      replace S := Aside0.mk (XRoute.Rs.below S.out (below_drew1 (Below.refl _ _)))
      replace X := Aside0.mk (XRoute.Rt.below X.out (below_drew1 (Below.refl _ _)))
      replace G := Aside0.mk (XRoute.Rs.below G.out (below_drew1 (Below.refl _ _)))
      replace KA := Aside0.mk (show w41_.drew.heap[w.heap.size]? = some (.cells #[(.slice A0_0 l0_0.length c0_0), (.slice A0_1 l0_1.length c0_1)] 25 (0, 0)) from blk_drew KA.out)
      replace KX := Aside0.mk (show w41_.drew.heap[w25_.heap.size]? = some (.cells #[(.slice AX1 x1.length cX1), (.slice AX2 x2.length cX2)] 28 (0, 0)) from blk_drew KX.out)
      replace HB := Aside0.mk (below_drew1 HB.out)
      clear hcz43_ hcz44_ hcz45_ hcz46_ hcz47_ hcz48_ hcz49_ hcz50_
      refine start_ (n := 5) (S := fun w' => w'.cell? ⟨w25_.heap.size, 0, none⟩ = some (.slice AX1 x1.length cX1) ∧ w'.cell? ⟨w25_.heap.size, 1, none⟩ = some (.slice AX2 x2.length cX2) ∧ w'.cell? ⟨w.heap.size, 0, none⟩ = some (.slice A0_0 l0_0.length c0_0) ∧ w'.cell? ⟨w.heap.size, 1, none⟩ = some (.slice A0_1 l0_1.length c0_1)) (ds := []) #[false, false, false, false, false] (by kernel_rfl) rfl rfl ⟨(blk_cell KX.out 0).trans rfl, (blk_cell KX.out 1).trans rfl, (blk_cell KA.out 0).trans rfl, (blk_cell KA.out 1).trans rfl⟩ (fun hHeld => ?_)
      generalize w41_.drew = w51_ at S X G KA KX HB hHeld ⊢
      refine take_ (i := 0) (N := some 49) (v := ?_) (a' := ?_) #[true, false, false, false, false] rfl rfl (by kernel_rfl) (fun _ _ _ h => h) (Or.inl ⟨by rfl, ?_⟩) hHeld ?_ ?_
      rotate_left
      · rintro w' ⟨s0, s1, s2, s3⟩
        go_simp
        with_reducible rfl
      rotate_left
      · simp only [Act.put, List.setIfInBounds_toArray, List.set_cons_zero, List.set_cons_succ, i64_w, i32_w]
        rfl
      refine take_ (i := 1) (N := some 50) (v := ?_) (a' := ?_) #[true, true, false, false, false] rfl rfl (by kernel_rfl) (fun _ _ _ h => h) (Or.inl ⟨by rfl, ?_⟩) hHeld ?_ ?_
      rotate_left
      · rintro w' ⟨s0, s1, s2, s3⟩
        go_simp
        with_reducible rfl
      rotate_left
      · simp only [Act.put, List.setIfInBounds_toArray, List.set_cons_zero, List.set_cons_succ, i64_w, i32_w]
        rfl
      refine one_ (i := 2) (N := some 51) #[true, true, true, false, false] rfl rfl (by kernel_rfl) (by decide) (fun K hK => ?_)
      refine goes_ Try.func16 (by kernel_rfl) rfl #[.agg #[.slice A0_0 l0_0.length c0_0, .slice A0_1 l0_1.length c0_1]] (by rfl) rfl rfl (by (try simp only [List.map_toArray, List.map_cons, List.map_nil]); first | done | rfl | (simp only [List.length_drop, List.length_take]; rfl)) ?_
      (with_reducible refine (laws_toRoute.calls k _ _ l0_0 _ _ l0_1 x1 x2 _ ?s53_0 ?s53_1 ?s53_2 ?s53_3 B1.out).mono ?_)
      (case s53_0 => repeat (first | exact (Kd.C_below HR0_0.out HB.out) | (with_reducible refine Kd.C_alloc ?_ _) | (with_reducible refine Kd.C_drewN ?_ _) | (with_reducible refine Kd.C_drew ?_)))
      (case s53_1 => exact HC0_0.out)
      (case s53_2 => repeat (first | exact (Kd.C_below HR0_1.out HB.out) | (with_reducible refine Kd.C_alloc ?_ _) | (with_reducible refine Kd.C_drewN ?_ _) | (with_reducible refine Kd.C_drew ?_)))
      (case s53_3 => exact HC0_1.out)
      rintro e w52_ ⟨v1_, v2_, rfl, hs, hr, hb⟩
      refine ⟨_, rfl, ?_⟩
      obtain ⟨AY1, cY1, rfl⟩ := Kd.S_slice hs
      obtain ⟨AY2, cY2, rfl⟩ := Kd.R_slice hr
      have Y := Aside0.mk (XRoute.Rt.made (n := w.heap.size) hs hr (below_size (HB.out)))
      clear hs hr
      have hq : Below w51_.heap.size w51_ w52_ := below_step (Below.refl _ _) hb
      replace S := Aside0.mk (XRoute.Rs.below S.out hq)
      replace X := Aside0.mk (XRoute.Rt.below X.out hq)
      replace G := Aside0.mk (XRoute.Rs.below G.out hq)
      replace KA := Aside0.mk (show w52_.heap[w.heap.size]? = some (.cells #[(.slice A0_0 l0_0.length c0_0), (.slice A0_1 l0_1.length c0_1)] 25 (0, 0)) from blk_below KA.out hq)
      replace KX := Aside0.mk (show w52_.heap[w25_.heap.size]? = some (.cells #[(.slice AX1 x1.length cX1), (.slice AX2 x2.length cX2)] 28 (0, 0)) from blk_below KX.out hq)
      replace HB := Aside0.mk (below_step HB.out hq)
      clear hq hb
      refine hK.out _ _ ⟨(blk_cell KX.out 0).trans rfl, (blk_cell KX.out 1).trans rfl, (blk_cell KA.out 0).trans rfl, (blk_cell KA.out 1).trans rfl⟩ (fun hHeld => ?_)
      clear hK K
      refine norm_ (a' := ?_) ?_ ?_
      rotate_left
      · show Act.put _ (some 51) _ = _
        simp only [Act.put, List.setIfInBounds_toArray, List.set_cons_zero, List.set_cons_succ, i64_w, i32_w]
        rfl
      refine one_ (i := 3) (N := some 52) #[true, true, true, true, false] rfl rfl (by kernel_rfl) (by decide) (fun K hK => ?_)
      refine goes_ Try.func18 (by kernel_rfl) rfl #[.agg #[.slice AX1 x1.length cX1, .slice AX2 x2.length cX2], .agg #[.slice AY1 x1.length cY1, .slice AY2 x2.length cY2]] (by rfl) rfl rfl (by (try simp only [List.map_toArray, List.map_cons, List.map_nil]); first | done | rfl | (simp only [List.length_drop, List.length_take]; rfl)) ?_
      (with_reducible refine (laws_eqRoute.calls k _ _ x1 _ _ x2 _ _ x1 _ _ x2 true _ ?s63_0 ?s63_1 ?s63_2 ?s63_3 ?s63_4 ?s63_5 ?s63_6 ?s63_7 B5.out).mono ?_)
      (case s63_0 => repeat (first | exact (Kd.S_reads' X.out.s).2.2 | (with_reducible refine Kd.C_alloc ?_ _) | (with_reducible refine Kd.C_drewN ?_ _) | (with_reducible refine Kd.C_drew ?_)))
      (case s63_1 => exact (Kd.S_reads' X.out.s).2.1)
      (case s63_2 => repeat (first | exact (Kd.R_reads' X.out.r).2.2 | (with_reducible refine Kd.C_alloc ?_ _) | (with_reducible refine Kd.C_drewN ?_ _) | (with_reducible refine Kd.C_drew ?_)))
      (case s63_3 => exact (Kd.R_reads' X.out.r).2.1)
      (case s63_4 => repeat (first | exact (Kd.S_reads' Y.out.s).2.2 | (with_reducible refine Kd.C_alloc ?_ _) | (with_reducible refine Kd.C_drewN ?_ _) | (with_reducible refine Kd.C_drew ?_)))
      (case s63_5 => exact (Kd.S_reads' Y.out.s).2.1)
      (case s63_6 => repeat (first | exact (Kd.R_reads' Y.out.r).2.2 | (with_reducible refine Kd.C_alloc ?_ _) | (with_reducible refine Kd.C_drewN ?_ _) | (with_reducible refine Kd.C_drew ?_)))
      (case s63_7 => exact (Kd.R_reads' Y.out.r).2.1)
      rintro e w62_ ⟨rfl, hb⟩
      refine ⟨_, rfl, ?_⟩
      have hq : Below w52_.heap.size w52_ w62_ := below_step (Below.refl _ _) hb
      replace S := Aside0.mk (XRoute.Rs.below S.out hq)
      replace X := Aside0.mk (XRoute.Rt.below X.out hq)
      replace G := Aside0.mk (XRoute.Rs.below G.out hq)
      replace Y := Aside0.mk (XRoute.Rt.below Y.out hq)
      replace KA := Aside0.mk (show w62_.heap[w.heap.size]? = some (.cells #[(.slice A0_0 l0_0.length c0_0), (.slice A0_1 l0_1.length c0_1)] 25 (0, 0)) from blk_below KA.out hq)
      replace KX := Aside0.mk (show w62_.heap[w25_.heap.size]? = some (.cells #[(.slice AX1 x1.length cX1), (.slice AX2 x2.length cX2)] 28 (0, 0)) from blk_below KX.out hq)
      replace HB := Aside0.mk (below_step HB.out hq)
      clear hq hb
      refine hK.out _ _ ⟨(blk_cell KX.out 0).trans rfl, (blk_cell KX.out 1).trans rfl, (blk_cell KA.out 0).trans rfl, (blk_cell KA.out 1).trans rfl⟩ (fun hHeld => ?_)
      clear hK K
      refine norm_ (a' := ?_) ?_ ?_
      rotate_left
      · show Act.put _ (some 52) _ = _
        simp only [Act.put, List.setIfInBounds_toArray, List.set_cons_zero, List.set_cons_succ, i64_w, i32_w]
        rfl
      refine pure_ (i := 4) (N := some 53) (v := ?_) (a' := ?_) #[true, true, true, true, true] rfl rfl (by kernel_rfl) (fun _ _ _ h => h) (Or.inl ⟨by rfl, ?_⟩) ?_ ?_
      rotate_left
      · intro w'
        go_simp
        with_reducible rfl
      rotate_left
      · simp only [Act.put, List.setIfInBounds_toArray, List.set_cons_zero, List.set_cons_succ, i64_w, i32_w]
        rfl
      refine done_ (by kernel_rfl) ?_
      clear hHeld Y
      have hcz72_ : w62_.cell? ⟨w.heap.size, 0, none⟩ = some ((.slice A0_0 l0_0.length c0_0)) := (blk_cell KA.out 0).trans rfl
      have hcz73_ : ∀ o_, (w62_.alloc o_).cell? ⟨w.heap.size, 0, none⟩ = some ((.slice A0_0 l0_0.length c0_0)) := fun o_ => (blk_cell (blk_alloc KA.out o_) 0).trans rfl
      have hcz74_ : w62_.cell? ⟨w.heap.size, 1, none⟩ = some ((.slice A0_1 l0_1.length c0_1)) := (blk_cell KA.out 1).trans rfl
      have hcz75_ : ∀ o_, (w62_.alloc o_).cell? ⟨w.heap.size, 1, none⟩ = some ((.slice A0_1 l0_1.length c0_1)) := fun o_ => (blk_cell (blk_alloc KA.out o_) 1).trans rfl
      have hcz76_ : w62_.cell? ⟨w25_.heap.size, 0, none⟩ = some ((.slice AX1 x1.length cX1)) := (blk_cell KX.out 0).trans rfl
      have hcz77_ : ∀ o_, (w62_.alloc o_).cell? ⟨w25_.heap.size, 0, none⟩ = some ((.slice AX1 x1.length cX1)) := fun o_ => (blk_cell (blk_alloc KX.out o_) 0).trans rfl
      have hcz78_ : w62_.cell? ⟨w25_.heap.size, 1, none⟩ = some ((.slice AX2 x2.length cX2)) := (blk_cell KX.out 1).trans rfl
      have hcz79_ : ∀ o_, (w62_.alloc o_).cell? ⟨w25_.heap.size, 1, none⟩ = some ((.slice AX2 x2.length cX2)) := fun o_ => (blk_cell (blk_alloc KX.out o_) 1).trans rfl
      have tok5 := trivial
      have tok6 := trivial
      have tok7 := trivial
      have tok8 := trivial
      have tok9 := trivial
      have tok10 := trivial
      go_wp2_with (first | (have tk := tok5; go_at_call 21; (with_reducible refine (laws_markRoute.calls k _ _ _ _ x1 x2 1 k1 k2 k3 w _ HB.out X.out.s X.out.r (fun _ h1_ h2_ => absurd h2_.2 h1_.2) B6.out).mono ?_); rintro e w80_ ⟨rfl, hs, hr, hb, hkp⟩; clear KX; replace S := Aside0.mk (XRoute.Rs.kept S.out hkp (fun k_ h1_ h2_ h3_ => by have h4_ := h3_.elim (fun z => z.1) (fun z => z.1); have := LSX.out; have := LKAX.out; have := LX.out; have := LSG.out; have := LXG.out; have := LKAG.out; have := LKXG.out; have := LG.out; omega)); replace G := Aside0.mk (XRoute.Rs.kept G.out hkp (fun k_ h1_ h2_ h3_ => by have h4_ := h3_.elim (fun z => z.1) (fun z => z.1); have := LSX.out; have := LKAX.out; have := LX.out; have := LSG.out; have := LXG.out; have := LKAG.out; have := LKXG.out; have := LG.out; omega)); replace KA := Aside0.mk (show w80_.heap[w.heap.size]? = some (.cells #[(.slice A0_0 l0_0.length c0_0), (.slice A0_1 l0_1.length c0_1)] 25 (0, 0)) from blk_kept KA.out hkp (fun h3_ => by have h4_ := h3_.elim (fun z => z.1) (fun z => z.1); have := LSX.out; have := LKAX.out; have := LX.out; have := LSG.out; have := LXG.out; have := LKAG.out; have := LKXG.out; have := LG.out; omega)); replace X := Aside0.mk (show XRoute.Rt 3 23 w80_ w.heap.size _ _ _ _ k2 k3 from ⟨hs, hr, Nat.le_trans X.out.le hkp.1⟩); replace HB := Aside0.mk hb; clear hb hkp hs hr; clear hcz72_ hcz73_ hcz74_ hcz75_ hcz76_ hcz77_ hcz78_ hcz79_; have hcz81_ : w80_.cell? ⟨w.heap.size, 0, none⟩ = some ((.slice A0_0 l0_0.length c0_0)) := (blk_cell KA.out 0).trans rfl; have hcz82_ : ∀ o_, (w80_.alloc o_).cell? ⟨w.heap.size, 0, none⟩ = some ((.slice A0_0 l0_0.length c0_0)) := fun o_ => (blk_cell (blk_alloc KA.out o_) 0).trans rfl; have hcz83_ : w80_.cell? ⟨w.heap.size, 1, none⟩ = some ((.slice A0_1 l0_1.length c0_1)) := (blk_cell KA.out 1).trans rfl; have hcz84_ : ∀ o_, (w80_.alloc o_).cell? ⟨w.heap.size, 1, none⟩ = some ((.slice A0_1 l0_1.length c0_1)) := fun o_ => (blk_cell (blk_alloc KA.out o_) 1).trans rfl; clear X; clear tk tok5) | (have tk := tok6; go_at_call 44; (with_reducible refine (laws_eqIntSS.calls k _ _ g1 _ _ s1 true _ ?s86_0 ?s86_1 ?s86_2 ?s86_3 B4.out).mono ?_); (case s86_0 => repeat (first | exact (Kd.S_reads' G.out.s).2.2 | (with_reducible refine Kd.C_alloc ?_ _) | (with_reducible refine Kd.C_drewN ?_ _) | (with_reducible refine Kd.C_drew ?_))); (case s86_1 => exact (Kd.S_reads' G.out.s).2.1); (case s86_2 => repeat (first | exact (Kd.S_reads' S.out.s).2.2 | (with_reducible refine Kd.C_alloc ?_ _) | (with_reducible refine Kd.C_drewN ?_ _) | (with_reducible refine Kd.C_drew ?_))); (case s86_3 => exact (Kd.S_reads' S.out.s).2.1); rintro e w85_ ⟨rfl, hd⟩; have hb := Drawn0.below hd; clear hd; have hq : Below w80_.heap.size w80_ w85_ := below_step (Below.refl _ _) hb; replace S := Aside0.mk (XRoute.Rs.below S.out hq); replace G := Aside0.mk (XRoute.Rs.below G.out hq); replace KA := Aside0.mk (show w85_.heap[w.heap.size]? = some (.cells #[(.slice A0_0 l0_0.length c0_0), (.slice A0_1 l0_1.length c0_1)] 25 (0, 0)) from blk_below KA.out hq); replace HB := Aside0.mk (below_step HB.out hq); clear hq hb; clear hcz81_ hcz82_ hcz83_ hcz84_; have hcz87_ : w85_.cell? ⟨w.heap.size, 0, none⟩ = some ((.slice A0_0 l0_0.length c0_0)) := (blk_cell KA.out 0).trans rfl; have hcz88_ : ∀ o_, (w85_.alloc o_).cell? ⟨w.heap.size, 0, none⟩ = some ((.slice A0_0 l0_0.length c0_0)) := fun o_ => (blk_cell (blk_alloc KA.out o_) 0).trans rfl; have hcz89_ : w85_.cell? ⟨w.heap.size, 1, none⟩ = some ((.slice A0_1 l0_1.length c0_1)) := (blk_cell KA.out 1).trans rfl; have hcz90_ : ∀ o_, (w85_.alloc o_).cell? ⟨w.heap.size, 1, none⟩ = some ((.slice A0_1 l0_1.length c0_1)) := fun o_ => (blk_cell (blk_alloc KA.out o_) 1).trans rfl; clear tk tok6) | (have tk := tok7; go_at_call 45; (with_reducible refine (laws_markIntSS.calls k _ _ g1 1 q m2 w _ HB.out G.out.s B7.out).mono ?_); rintro e w91_ ⟨rfl, hs, hb, hkp⟩; replace S := Aside0.mk (XRoute.Rs.kept S.out hkp (fun k_ h1_ h2_ h3_ => by have h4_ := h3_; have := LSX.out; have := LKAX.out; have := LX.out; have := LSG.out; have := LXG.out; have := LKAG.out; have := LKXG.out; have := LG.out; omega)); replace KA := Aside0.mk (show w91_.heap[w.heap.size]? = some (.cells #[(.slice A0_0 l0_0.length c0_0), (.slice A0_1 l0_1.length c0_1)] 25 (0, 0)) from blk_kept KA.out hkp (fun h3_ => by have h4_ := h3_; have := LSX.out; have := LKAX.out; have := LX.out; have := LSG.out; have := LXG.out; have := LKAG.out; have := LKXG.out; have := LG.out; omega)); replace G := Aside0.mk (show XRoute.Rs 3 23 w91_ w.heap.size _ _ _ m2 from ⟨hs, Nat.le_trans G.out.le hkp.1⟩); replace HB := Aside0.mk hb; clear hb hkp hs; clear hcz87_ hcz88_ hcz89_ hcz90_; have hcz92_ : w91_.cell? ⟨w.heap.size, 0, none⟩ = some ((.slice A0_0 l0_0.length c0_0)) := (blk_cell KA.out 0).trans rfl; have hcz93_ : ∀ o_, (w91_.alloc o_).cell? ⟨w.heap.size, 0, none⟩ = some ((.slice A0_0 l0_0.length c0_0)) := fun o_ => (blk_cell (blk_alloc KA.out o_) 0).trans rfl; have hcz94_ : w91_.cell? ⟨w.heap.size, 1, none⟩ = some ((.slice A0_1 l0_1.length c0_1)) := (blk_cell KA.out 1).trans rfl; have hcz95_ : ∀ o_, (w91_.alloc o_).cell? ⟨w.heap.size, 1, none⟩ = some ((.slice A0_1 l0_1.length c0_1)) := fun o_ => (blk_cell (blk_alloc KA.out o_) 1).trans rfl; clear tk tok7) | (have tk := tok8; go_at_call 46; refine calls_of_args (args' := #[.slice AG1 m2.length cG1, .int .i64 1]) (by rw [show g1.length = m2.length from (Kd.S_reads' G.out.s).1]) ?_; (with_reducible refine (laws_heldIntSS.calls k _ _ m2 1 q _ ?s97_0 ?s97_1 B8.out).mono ?_); (case s97_0 => repeat (first | exact (Kd.S_reads' G.out.s).2.2 | (with_reducible refine Kd.C_alloc ?_ _) | (with_reducible refine Kd.C_drewN ?_ _) | (with_reducible refine Kd.C_drew ?_))); (case s97_1 => have e_ := (Kd.S_reads' G.out.s); have := e_.1; have := e_.2.1; omega); rintro e w96_ ⟨rfl, hd⟩; have hb := Drawn0.below hd; clear hd; have hq : Below w91_.heap.size w91_ w96_ := below_step (Below.refl _ _) hb; replace S := Aside0.mk (XRoute.Rs.below S.out hq); replace G := Aside0.mk (XRoute.Rs.below G.out hq); replace KA := Aside0.mk (show w96_.heap[w.heap.size]? = some (.cells #[(.slice A0_0 l0_0.length c0_0), (.slice A0_1 l0_1.length c0_1)] 25 (0, 0)) from blk_below KA.out hq); replace HB := Aside0.mk (below_step HB.out hq); clear hq hb; clear hcz92_ hcz93_ hcz94_ hcz95_; have hcz98_ : w96_.cell? ⟨w.heap.size, 0, none⟩ = some ((.slice A0_0 l0_0.length c0_0)) := (blk_cell KA.out 0).trans rfl; have hcz99_ : ∀ o_, (w96_.alloc o_).cell? ⟨w.heap.size, 0, none⟩ = some ((.slice A0_0 l0_0.length c0_0)) := fun o_ => (blk_cell (blk_alloc KA.out o_) 0).trans rfl; have hcz100_ : w96_.cell? ⟨w.heap.size, 1, none⟩ = some ((.slice A0_1 l0_1.length c0_1)) := (blk_cell KA.out 1).trans rfl; have hcz101_ : ∀ o_, (w96_.alloc o_).cell? ⟨w.heap.size, 1, none⟩ = some ((.slice A0_1 l0_1.length c0_1)) := fun o_ => (blk_cell (blk_alloc KA.out o_) 1).trans rfl; clear tk tok8) | (go_at_call 16; (with_reducible refine (laws_toRoute.calls k _ _ l0_0 _ _ l0_1 x1 x2 _ ?s103_0 ?s103_1 ?s103_2 ?s103_3 B1.out).mono ?_); (case s103_0 => repeat (first | exact (Kd.C_below HR0_0.out HB.out) | (with_reducible refine Kd.C_alloc ?_ _) | (with_reducible refine Kd.C_drewN ?_ _) | (with_reducible refine Kd.C_drew ?_))); (case s103_1 => exact HC0_0.out); (case s103_2 => repeat (first | exact (Kd.C_below HR0_1.out HB.out) | (with_reducible refine Kd.C_alloc ?_ _) | (with_reducible refine Kd.C_drewN ?_ _) | (with_reducible refine Kd.C_drew ?_))); (case s103_3 => exact HC0_1.out); rintro e w102_ ⟨v1_, v2_, rfl, hs, hr, hb⟩; obtain ⟨AZ1, cZ1, rfl⟩ := Kd.S_slice hs; obtain ⟨AZ2, cZ2, rfl⟩ := Kd.R_slice hr; have Z := Aside0.mk (XRoute.Rt.made (n := w.heap.size) hs hr (below_size (HB.out))); clear hs hr; have hq : Below w96_.heap.size w96_ w102_ := below_step (Below.refl _ _) hb; replace S := Aside0.mk (XRoute.Rs.below S.out hq); replace G := Aside0.mk (XRoute.Rs.below G.out hq); replace KA := Aside0.mk (show w102_.heap[w.heap.size]? = some (.cells #[(.slice A0_0 l0_0.length c0_0), (.slice A0_1 l0_1.length c0_1)] 25 (0, 0)) from blk_below KA.out hq); replace HB := Aside0.mk (below_step HB.out hq); clear hq hb; clear hcz98_ hcz99_ hcz100_ hcz101_; have hcz104_ : w102_.cell? ⟨w.heap.size, 0, none⟩ = some ((.slice A0_0 l0_0.length c0_0)) := (blk_cell KA.out 0).trans rfl; have hcz105_ : ∀ o_, (w102_.alloc o_).cell? ⟨w.heap.size, 0, none⟩ = some ((.slice A0_0 l0_0.length c0_0)) := fun o_ => (blk_cell (blk_alloc KA.out o_) 0).trans rfl; have hcz106_ : w102_.cell? ⟨w.heap.size, 1, none⟩ = some ((.slice A0_1 l0_1.length c0_1)) := (blk_cell KA.out 1).trans rfl; have hcz107_ : ∀ o_, (w102_.alloc o_).cell? ⟨w.heap.size, 1, none⟩ = some ((.slice A0_1 l0_1.length c0_1)) := fun o_ => (blk_cell (blk_alloc KA.out o_) 1).trans rfl) | (go_at_call 43; (with_reducible refine (impl_LinesUsed.calls k _ _ x1 _ _ x2 a1 a2 g1 g2 _ ?s109_0 ?s109_1 ?s109_2 ?s109_3 B3.out).mono ?_); (case s109_0 => repeat (first | exact (Kd.S_reads' Z.out.s).2.2 | (with_reducible refine Kd.C_alloc ?_ _) | (with_reducible refine Kd.C_drewN ?_ _) | (with_reducible refine Kd.C_drew ?_))); (case s109_1 => exact (Kd.S_reads' Z.out.s).2.1); (case s109_2 => repeat (first | exact (Kd.R_reads' Z.out.r).2.2 | (with_reducible refine Kd.C_alloc ?_ _) | (with_reducible refine Kd.C_drewN ?_ _) | (with_reducible refine Kd.C_drew ?_))); (case s109_3 => exact (Kd.R_reads' Z.out.r).2.1); rintro e w108_ ⟨v1_, rfl, hs, hb⟩; obtain ⟨AH1, cH1, rfl⟩ := Kd.S_slice hs; have H := Aside0.mk (XRoute.Rs.made (n := w.heap.size) hs (below_size (HB.out))); clear hs; have hq : Below w102_.heap.size w102_ w108_ := below_step (Below.refl _ _) hb; replace S := Aside0.mk (XRoute.Rs.below S.out hq); replace G := Aside0.mk (XRoute.Rs.below G.out hq); replace Z := Aside0.mk (XRoute.Rt.below Z.out hq); replace KA := Aside0.mk (show w108_.heap[w.heap.size]? = some (.cells #[(.slice A0_0 l0_0.length c0_0), (.slice A0_1 l0_1.length c0_1)] 25 (0, 0)) from blk_below KA.out hq); replace HB := Aside0.mk (below_step HB.out hq); clear hq hb; clear hcz104_ hcz105_ hcz106_ hcz107_; have hcz110_ : w108_.cell? ⟨w.heap.size, 0, none⟩ = some ((.slice A0_0 l0_0.length c0_0)) := (blk_cell KA.out 0).trans rfl; have hcz111_ : ∀ o_, (w108_.alloc o_).cell? ⟨w.heap.size, 0, none⟩ = some ((.slice A0_0 l0_0.length c0_0)) := fun o_ => (blk_cell (blk_alloc KA.out o_) 0).trans rfl; have hcz112_ : w108_.cell? ⟨w.heap.size, 1, none⟩ = some ((.slice A0_1 l0_1.length c0_1)) := (blk_cell KA.out 1).trans rfl; have hcz113_ : ∀ o_, (w108_.alloc o_).cell? ⟨w.heap.size, 1, none⟩ = some ((.slice A0_1 l0_1.length c0_1)) := fun o_ => (blk_cell (blk_alloc KA.out o_) 1).trans rfl; clear Z) | (have tk := tok9; go_at_call 44; (with_reducible refine (laws_eqIntSS.calls k _ _ g1 _ _ s1 true _ ?s115_0 ?s115_1 ?s115_2 ?s115_3 B4.out).mono ?_); (case s115_0 => repeat (first | exact (Kd.S_reads' H.out.s).2.2 | (with_reducible refine Kd.C_alloc ?_ _) | (with_reducible refine Kd.C_drewN ?_ _) | (with_reducible refine Kd.C_drew ?_))); (case s115_1 => exact (Kd.S_reads' H.out.s).2.1); (case s115_2 => repeat (first | exact (Kd.S_reads' S.out.s).2.2 | (with_reducible refine Kd.C_alloc ?_ _) | (with_reducible refine Kd.C_drewN ?_ _) | (with_reducible refine Kd.C_drew ?_))); (case s115_3 => exact (Kd.S_reads' S.out.s).2.1); rintro e w114_ ⟨rfl, hd⟩; have hb := Drawn0.below hd; clear hd; have hq : Below w108_.heap.size w108_ w114_ := below_step (Below.refl _ _) hb; replace S := Aside0.mk (XRoute.Rs.below S.out hq); replace G := Aside0.mk (XRoute.Rs.below G.out hq); replace H := Aside0.mk (XRoute.Rs.below H.out hq); replace KA := Aside0.mk (show w114_.heap[w.heap.size]? = some (.cells #[(.slice A0_0 l0_0.length c0_0), (.slice A0_1 l0_1.length c0_1)] 25 (0, 0)) from blk_below KA.out hq); replace HB := Aside0.mk (below_step HB.out hq); clear hq hb; clear hcz110_ hcz111_ hcz112_ hcz113_; have hcz116_ : w114_.cell? ⟨w.heap.size, 0, none⟩ = some ((.slice A0_0 l0_0.length c0_0)) := (blk_cell KA.out 0).trans rfl; have hcz117_ : ∀ o_, (w114_.alloc o_).cell? ⟨w.heap.size, 0, none⟩ = some ((.slice A0_0 l0_0.length c0_0)) := fun o_ => (blk_cell (blk_alloc KA.out o_) 0).trans rfl; have hcz118_ : w114_.cell? ⟨w.heap.size, 1, none⟩ = some ((.slice A0_1 l0_1.length c0_1)) := (blk_cell KA.out 1).trans rfl; have hcz119_ : ∀ o_, (w114_.alloc o_).cell? ⟨w.heap.size, 1, none⟩ = some ((.slice A0_1 l0_1.length c0_1)) := fun o_ => (blk_cell (blk_alloc KA.out o_) 1).trans rfl; clear tk tok9) | (have tk := tok10; go_at_call 46; refine calls_of_args (args' := #[.slice AG1 m2.length cG1, .int .i64 1]) (by rw [show g1.length = m2.length from (Kd.S_reads' G.out.s).1]) ?_; (with_reducible refine (laws_heldIntSS.calls k _ _ m2 1 q _ ?s121_0 ?s121_1 B8.out).mono ?_); (case s121_0 => repeat (first | exact (Kd.S_reads' G.out.s).2.2 | (with_reducible refine Kd.C_alloc ?_ _) | (with_reducible refine Kd.C_drewN ?_ _) | (with_reducible refine Kd.C_drew ?_))); (case s121_1 => have e_ := (Kd.S_reads' G.out.s); have := e_.1; have := e_.2.1; omega); rintro e w120_ ⟨rfl, hd⟩; have hb := Drawn0.below hd; clear hd; have hq : Below w114_.heap.size w114_ w120_ := below_step (Below.refl _ _) hb; replace S := Aside0.mk (XRoute.Rs.below S.out hq); replace G := Aside0.mk (XRoute.Rs.below G.out hq); replace H := Aside0.mk (XRoute.Rs.below H.out hq); replace KA := Aside0.mk (show w120_.heap[w.heap.size]? = some (.cells #[(.slice A0_0 l0_0.length c0_0), (.slice A0_1 l0_1.length c0_1)] 25 (0, 0)) from blk_below KA.out hq); replace HB := Aside0.mk (below_step HB.out hq); clear hq hb; clear hcz116_ hcz117_ hcz118_ hcz119_; have hcz122_ : w120_.cell? ⟨w.heap.size, 0, none⟩ = some ((.slice A0_0 l0_0.length c0_0)) := (blk_cell KA.out 0).trans rfl; have hcz123_ : ∀ o_, (w120_.alloc o_).cell? ⟨w.heap.size, 0, none⟩ = some ((.slice A0_0 l0_0.length c0_0)) := fun o_ => (blk_cell (blk_alloc KA.out o_) 0).trans rfl; have hcz124_ : w120_.cell? ⟨w.heap.size, 1, none⟩ = some ((.slice A0_1 l0_1.length c0_1)) := (blk_cell KA.out 1).trans rfl; have hcz125_ : ∀ o_, (w120_.alloc o_).cell? ⟨w.heap.size, 1, none⟩ = some ((.slice A0_1 l0_1.length c0_1)) := fun o_ => (blk_cell (blk_alloc KA.out o_) 1).trans rfl; clear tk tok10))
      go_ret
      exact ⟨by first | rfl | (simp; done), HB.out⟩
    · exact absurd ((if_neg hc).symm.trans h) (by simp)

end Go.Proofs.Ytecoeknjnhffbaa.PFnExactLinesUsed
