-- Made by wip/tools/xkit.py (a program of this session's) with the kit's printer.
import Derived.Test.YtfhplgiblknfcaaDoorPFnExactPlainBeforex0
import Derived.Test.YtfhplgiblknfcaaDoorPFnExactPlainBeforex2
import Derived.Test.YtfhplgiblknfcaaDoorPFnExactPlainBeforex3
namespace Go.Proofs.YtfhplgiblknfcaaDoor.PFnExactPlainBefore
open Go.RowKit Go.Proofs.YtfhplgiblknfcaaDoorW.PrintWords Go.Proofs.YtfhplgiblknfcaaDoorW.PrintLast Go.Proofs.YtfhplgiblknfcaaDoorW.PrintMore
attribute [local go_sem] max2_int min2_int max_two min_two max_three min_three max_four min_four   -- for this text's walks alone
set_option linter.unusedVariables false
set_option linter.unusedSimpArgs false

/-! ### spec_enBack: function 17 -/
def spec_enBack.f (k : Nat) (a0_0 : ByteArray) (l0_1 : List (S60)) (a0_2 : Int) (a0_3 : Int) (a0_4 : Int) : Option (ByteArray × (List (S60)) × Int × Int × Int × Bool) := (spec_enGo.f a0_0 l0_1 a0_2 a0_3 a0_4 (-1)).bind fun bt183 => ((spec_enColour.f k bt183.1 l0_1 bt183.2.1 bt183.2.2.1 bt183.2.2.2 bt183.2.1 bt183.2.2.1).bind fun t187 => ((spec_l1Mod.f (wrap64 (t187 - 1)) (bt183.1.size : Int)).bind fun t188 => ((spec_enPaint.f k l0_1 bt183.2.1 bt183.2.2.1 t188).bind fun t189 => (if 0 ≤ t188 then (if t188 < (bt183.1.size : Int) then ((spec_woTurn.f (bt bt183.1 t188)).bind fun t192 => ((spec_l1Mod.f (wrap64 (bt183.2.2.2 - t192)) 4).bind fun t193 => ((spec_enGood.f k bt183.1 t189 bt183.2.1 bt183.2.2.1 t193).bind fun t194 => (if t194 = true then (some (bt183.1, t189, bt183.2.1, bt183.2.2.1, t193, true)) else (some ((⟨#[]⟩ : ByteArray), ([] : List (S60)), 0, 0, 0, false)))))) else (none)) else (none)))))
theorem spec_enBack.mono : ∀ a0 a1 a2 a3 a4 k, LeO (spec_enBack.f k a0 a1 a2 a3 a4) (spec_enBack.f (k + 1) a0 a1 a2 a3 a4) := by
  intro a0 a1 a2 a3 a4 k
  unfold spec_enBack.f
  repeat' first
      | (with_reducible exact spec_enColour.mono _ _ _ _ _ _ _ _)
      | (with_reducible exact spec_enGood.mono _ _ _ _ _ _)
      | (with_reducible exact spec_enPaint.mono _ _ _ _ _)
      | (with_reducible exact LeO.refl _)
      | (with_reducible exact LeO.none _)
      | (with_reducible refine LeO.ite ?_ ?_)
      | (with_reducible refine LeO.bind ?_ (fun _ => ?_))
      | exact spec_enColour.mono _ _ _ _ _ _ _ _
      | exact spec_enGood.mono _ _ _ _ _ _
      | exact spec_enPaint.mono _ _ _ _ _
      | exact LeO.none _
      | refine LeO.ite ?_ ?_
      | refine LeO.bind ?_ (fun _ => ?_)
def spec_enBack.T2 : Bool × List (List Nat × List Nat) := (true, [([], []), ([], []), ([1], [1]), ([], []), ([3], [3]), ([0, 2, 4], [0, 2, 4]), ([5], [5]), ([], []), ([7], [7]), ([8], [8]), ([6, 9, 5], [6, 9]), ([10, 10, 0, 1, 2, 3, 4, 5, 6, 7, 8, 9, 10], [10])])
def spec_enBack.B2 : List Nat := [0, 0, 2, 0, 8, 31, 63, 0, 128, 384, 1023, 2047]
theorem spec_enBack.tab2 : rtab .any (opsOf Tryd.f17 2) = spec_enBack.T2 := by kernel_rfl
theorem spec_enBack.bits2 : waitsOk spec_enBack.T2.2 spec_enBack.B2 = true := by kernel_rfl
def spec_enBack.T4 : Bool × List (List Nat × List Nat) := (true, [([], []), ([0], [0]), ([], []), ([2], [2]), ([], []), ([3, 4], [3, 4]), ([5], [5]), ([1, 6], [1, 6]), ([7, 6], [7]), ([0, 1, 2, 3, 4, 5, 6, 7, 8], []), ([9, 8, 8, 0, 1, 2, 3, 4, 5, 6, 7, 8], [8, 9])])
def spec_enBack.B4 : List Nat := [0, 1, 0, 4, 0, 28, 60, 127, 255, 511, 1023]
theorem spec_enBack.tab4 : rtab .any (opsOf Tryd.f17 4) = spec_enBack.T4 := by kernel_rfl
theorem spec_enBack.bits4 : waitsOk spec_enBack.T4.2 spec_enBack.B4 = true := by kernel_rfl
set_option maxHeartbeats 8000000 in
set_option maxRecDepth 100000 in
theorem spec_enBack.calls (k : Nat) (a0_0 : ByteArray) (A0_1 : Option Addr) (c0_1 : Nat) (l0_1 : List (S60)) (a0_2 : Int) (a0_3 : Int) (a0_4 : Int) (r1 : ByteArray) (r2 : List (S60)) (r3 : Int) (r4 : Int) (r5 : Int) (r6 : Bool) (w : World) (hr0_1 : Kd.C k60 w A0_1 l0_1.length l0_1) (hc0_1 : l0_1.length ≤ c0_1) (h : spec_enBack.f k a0_0 l0_1 a0_2 a0_3 a0_4 = some (r1, r2, r3, r4, r5, r6)) :
  Calls Tryd.prog 17 #[.agg #[.string a0_0, .slice A0_1 l0_1.length c0_1, .int .i64 a0_2, .int .i64 a0_3, .int .i64 a0_4]] w fun e w' => ∃ v1_ : Value, e = .returned (.tuple #[.agg #[.string r1, v1_, .int .i64 r3, .int .i64 r4, .int .i64 r5], .bool r6]) ∧ Kd.R k60 60 w' w.heap.size (fun _ => True) v1_ r2 ∧ Below w.heap.size w w' := by
 have hu28 := Tryd.underlying28
 have HR0_1 := Aside0.mk hr0_1
 have HC0_1 := Aside0.mk hc0_1
 clear hr0_1 hc0_1
 have HB := Aside0.mk (Below.refl w.heap.size w)
 have H : ((spec_enGo.f a0_0 l0_1 a0_2 a0_3 a0_4 (-1)).bind fun bt183 => ((spec_enColour.f k bt183.1 l0_1 bt183.2.1 bt183.2.2.1 bt183.2.2.2 bt183.2.1 bt183.2.2.1).bind fun t187 => ((spec_l1Mod.f (wrap64 (t187 - 1)) (bt183.1.size : Int)).bind fun t188 => ((spec_enPaint.f k l0_1 bt183.2.1 bt183.2.2.1 t188).bind fun t189 => (if 0 ≤ t188 then (if t188 < (bt183.1.size : Int) then ((spec_woTurn.f (bt bt183.1 t188)).bind fun t192 => ((spec_l1Mod.f (wrap64 (bt183.2.2.2 - t192)) 4).bind fun t193 => ((spec_enGood.f k bt183.1 t189 bt183.2.1 bt183.2.2.1 t193).bind fun t194 => (if t194 = true then (some (bt183.1, t189, bt183.2.1, bt183.2.2.1, t193, true)) else (some ((⟨#[]⟩ : ByteArray), ([] : List (S60)), 0, 0, 0, false)))))) else (none)) else (none)))))) = some (r1, r2, r3, r4, r5, r6) := h
 clear h
 replace H := Option.bind_eq_some_iff.mp H
 obtain ⟨⟨t183, t184, t185, t186⟩, A20, H⟩ := H
 replace H : ((spec_enColour.f k t183 l0_1 t184 t185 t186 t184 t185).bind fun t187 => ((spec_l1Mod.f (wrap64 (t187 - 1)) (t183.size : Int)).bind fun t188 => ((spec_enPaint.f k l0_1 t184 t185 t188).bind fun t189 => (if 0 ≤ t188 then (if t188 < (t183.size : Int) then ((spec_woTurn.f (bt t183 t188)).bind fun t192 => ((spec_l1Mod.f (wrap64 (t186 - t192)) 4).bind fun t193 => ((spec_enGood.f k t183 t189 t184 t185 t193).bind fun t194 => (if t194 = true then (some (t183, t189, t184, t185, t193, true)) else (some ((⟨#[]⟩ : ByteArray), ([] : List (S60)), 0, 0, 0, false)))))) else (none)) else (none))))) = some (r1, r2, r3, r4, r5, r6) := H
 have A2 := Aside0.mk A20
 clear A20
 replace H := Option.bind_eq_some_iff.mp H
 obtain ⟨t187, A30, H⟩ := H
 replace H : ((spec_l1Mod.f (wrap64 (t187 - 1)) (t183.size : Int)).bind fun t188 => ((spec_enPaint.f k l0_1 t184 t185 t188).bind fun t189 => (if 0 ≤ t188 then (if t188 < (t183.size : Int) then ((spec_woTurn.f (bt t183 t188)).bind fun t192 => ((spec_l1Mod.f (wrap64 (t186 - t192)) 4).bind fun t193 => ((spec_enGood.f k t183 t189 t184 t185 t193).bind fun t194 => (if t194 = true then (some (t183, t189, t184, t185, t193, true)) else (some ((⟨#[]⟩ : ByteArray), ([] : List (S60)), 0, 0, 0, false)))))) else (none)) else (none)))) = some (r1, r2, r3, r4, r5, r6) := H
 have A3 := Aside0.mk A30
 clear A30
 replace H := Option.bind_eq_some_iff.mp H
 obtain ⟨t188, A40, H⟩ := H
 replace H : ((spec_enPaint.f k l0_1 t184 t185 t188).bind fun t189 => (if 0 ≤ t188 then (if t188 < (t183.size : Int) then ((spec_woTurn.f (bt t183 t188)).bind fun t192 => ((spec_l1Mod.f (wrap64 (t186 - t192)) 4).bind fun t193 => ((spec_enGood.f k t183 t189 t184 t185 t193).bind fun t194 => (if t194 = true then (some (t183, t189, t184, t185, t193, true)) else (some ((⟨#[]⟩ : ByteArray), ([] : List (S60)), 0, 0, 0, false)))))) else (none)) else (none))) = some (r1, r2, r3, r4, r5, r6) := H
 have A4 := Aside0.mk A40
 clear A40
 replace H := Option.bind_eq_some_iff.mp H
 obtain ⟨t189, A50, H⟩ := H
 replace H : (if 0 ≤ t188 then (if t188 < (t183.size : Int) then ((spec_woTurn.f (bt t183 t188)).bind fun t192 => ((spec_l1Mod.f (wrap64 (t186 - t192)) 4).bind fun t193 => ((spec_enGood.f k t183 t189 t184 t185 t193).bind fun t194 => (if t194 = true then (some (t183, t189, t184, t185, t193, true)) else (some ((⟨#[]⟩ : ByteArray), ([] : List (S60)), 0, 0, 0, false)))))) else (none)) else (none)) = some (r1, r2, r3, r4, r5, r6) := H
 have A5 := Aside0.mk A50
 clear A50
 by_cases c6 : 0 ≤ t188
 ·
  rw [if_pos c6] at H
  have c6b0 : decide (0 ≤ t188) = true := decide_eq_true c6; clear c6
  by_cases c7 : t188 < (t183.size : Int)
  ·
   rw [if_pos c7] at H
   have c7b0 : decide (t188 < (t183.size : Int)) = true := decide_eq_true c7; clear c7; replace H := Option.bind_eq_some_iff.mp H; obtain ⟨t192, A90, H⟩ := H; replace H : ((spec_l1Mod.f (wrap64 (t186 - t192)) 4).bind fun t193 => ((spec_enGood.f k t183 t189 t184 t185 t193).bind fun t194 => (if t194 = true then (some (t183, t189, t184, t185, t193, true)) else (some ((⟨#[]⟩ : ByteArray), ([] : List (S60)), 0, 0, 0, false))))) = some (r1, r2, r3, r4, r5, r6) := H; have A9 := Aside0.mk A90; clear A90; replace H := Option.bind_eq_some_iff.mp H; obtain ⟨t193, A100, H⟩ := H; replace H : ((spec_enGood.f k t183 t189 t184 t185 t193).bind fun t194 => (if t194 = true then (some (t183, t189, t184, t185, t193, true)) else (some ((⟨#[]⟩ : ByteArray), ([] : List (S60)), 0, 0, 0, false)))) = some (r1, r2, r3, r4, r5, r6) := H; have A10 := Aside0.mk A100; clear A100; replace H := Option.bind_eq_some_iff.mp H; obtain ⟨t194, A110, H⟩ := H; replace H : (if t194 = true then (some (t183, t189, t184, t185, t193, true)) else (some ((⟨#[]⟩ : ByteArray), ([] : List (S60)), 0, 0, 0, false))) = some (r1, r2, r3, r4, r5, r6) := H; have A11 := Aside0.mk A110; clear A110
   by_cases c12 : t194 = true
   ·
    subst c12
    have H1 : (some (t183, t189, t184, t185, t193, true)) = some (r1, r2, r3, r4, r5, r6) := by rw [if_pos rfl] at H; exact H
    clear H; have H := H1; clear H1
    simp only [Option.some.injEq, Prod.mk.injEq] at H
    obtain ⟨rfl, rfl, rfl, rfl, rfl, rfl⟩ := H
    go_enter Tryd.func17, Tryd.ntmps17
    try go_wp2_with (first | ((with_reducible refine gate_dst (N := 1) rfl ?_); refine box_event ?hg (N := 1) ?hd (cs := #[.string a0_0, .slice A0_1 l0_1.length c0_1, .int .i64 a0_2, .int .i64 a0_3, .int .i64 a0_4]) (t := 28) ?hr ?_; (case hd => rfl); (case hg => rfl); (case hr => first | (go_simp; done) | (go_simp; rfl)); intro gb181 hg w13 hbox hb; have BK181 := Aside0.mk (hbox); have GW181 := XSq.gw hg (XSq.bB HB); have GE181 := XSq.gw hg (XSq.bB HB); replace HB := Aside0.mk (below_step (XSq.bB HB) hb); clear hb hbox hg) | ((with_reducible refine gate_dst (N := 2) rfl ?_); refine box_event ?hg (N := 2) ?hd (cs := #[.string ⟨#[]⟩, .slice none 0 0, .int .i64 0, .int .i64 0, .int .i64 0]) (t := 28) ?hr ?_; (case hd => rfl); (case hg => rfl); (case hr => first | (go_simp; done) | (go_simp; rfl)); intro gb182 hg w14 hbox hb; have BK182 := Aside0.mk (hbox); have GW182 := XSq.gw hg (XSq.bB HB); have GE182 := XSq.gw hg (XSq.bB HB); have NB181_182 := XSq.nl hg (XSq.bq BK181); have NB182_181 := XSq.nr hg (XSq.bq BK181); replace BK181 := XSq.bb BK181 hb; replace HB := Aside0.mk (below_step (XSq.bB HB) hb); clear hb hbox hg) | ((with_reducible refine gate_callee (f := 35) rfl ?_); refine goesL_ (some 5) rfl rfl Tryd.func35 (by kernel_rfl) rfl #[.pointer (some ⟨gb181, 0, none⟩), .int .i64 (-1)] rfl (by (try simp only [List.map_toArray, List.map_cons, List.map_nil]); first | done | rfl | (simp only [List.length_drop, List.length_take]; rfl)) ?_; (with_reducible refine (spec_enGo.calls2 A0_1 c0_1 gb181 a0_0 l0_1 a0_2 a0_3 a0_4 (-1) t183 t184 t185 t186 w _ ?side1 ?side2 A2.out).mono ?_); (case side1 => exact ⟨by (with_reducible repeat (first | refine blk_drewN ?_ _ | refine blk_drew ?_ | refine blk_alloc ?_ _)); exact BK181.out, GE181.out⟩); (case side2 => repeat (first | (with_reducible first | exact HB.out | apply below_alloc | apply pw_below_drewN | apply below_drew1 | refine below_set ?_ GE181.out | refine below_set ?_ GE182.out) | exact HB.out)); rintro e w15 ⟨rfl, hi, hb, hk⟩; refine ⟨_, rfl, ?_⟩; replace BK182 := Aside0.mk (KeepBut.blk hk (g' := gb182) (o := .cells #[.string ⟨#[]⟩, .slice none 0 0, .int .i64 0, .int .i64 0, .int .i64 0] 28 (0, 0)) (XSq.bq BK182) NB182_181.out (by simp)); replace HB := Aside0.mk (hb); replace BK181 := Aside0.mk (hi.1); clear hb; (try clear hb2); (try clear hk); (try clear hi)))
    replace BK181 := Aside0.mk (blk_drew BK181.out); replace BK182 := Aside0.mk (blk_drew BK182.out); replace HB := Aside0.mk (below_drew1 HB.out)
    refine start_ (n := 12) (S := fun w' => w'.cell? ⟨gb181, 0, none⟩ = some (.string t183) ∧ w'.cell? ⟨gb181, 1, none⟩ = some (.slice A0_1 l0_1.length c0_1) ∧ w'.cell? ⟨gb181, 2, none⟩ = some (.int .i64 t184) ∧ w'.cell? ⟨gb181, 3, none⟩ = some (.int .i64 t185) ∧ w'.cell? ⟨gb181, 4, none⟩ = some (.int .i64 t186)) (ds := []) #[false, false, false, false, false, false, false, false, false, false, false, false] (by kernel_rfl) rfl rfl ⟨(blk_cell BK181.out 0).trans rfl, (blk_cell BK181.out 1).trans rfl, (blk_cell BK181.out 2).trans rfl, (blk_cell BK181.out 3).trans rfl, (blk_cell BK181.out 4).trans rfl⟩ (fun hHeld => ?_); refine with_tabW spec_enBack.tab2 spec_enBack.bits2 (fun HT_ HW_ => ?_)
    generalize w15.drew = w16 at BK181 BK182 HB hHeld ⊢
    refine pure_ (i := 1) (N := some 7) (v := ?_) (a' := ?_) (XSq.bA 12 2) rfl rfl (any_of HT_.out (by kernel_rfl)) (fun _ _ _ h => h) (Or.inl ⟨by rfl, ?_⟩) ?_ ?_
    rotate_left
    ·
     intro w'
     go_simp
     with_reducible rfl
    rotate_left
    ·
     simp only [Act.put, XSq.p1, XSq.p2, XSq.p3, i64_w, i32_w]
     rfl
    refine pure_ (i := 3) (N := some 9) (v := ?_) (a' := ?_) (XSq.bA 12 10) rfl rfl (any_of HT_.out (by kernel_rfl)) (fun _ _ _ h => h) (Or.inl ⟨by rfl, ?_⟩) ?_ ?_
    rotate_left
    ·
     intro w'
     go_simp
     with_reducible rfl
    rotate_left
    ·
     simp only [Act.put, XSq.p1, XSq.p2, XSq.p3, i64_w, i32_w]
     rfl
    refine pure_ (i := 7) (N := some 13) (v := ?_) (a' := ?_) (XSq.bA 12 138) rfl rfl (any_of HT_.out (by kernel_rfl)) (fun _ _ _ h => h) (Or.inl ⟨by rfl, ?_⟩) ?_ ?_
    rotate_left
    ·
     intro w'
     go_simp
     with_reducible rfl
    rotate_left
    ·
     simp only [Act.put, XSq.p1, XSq.p2, XSq.p3, i64_w, i32_w]
     rfl
    refine take_ (i := 0) (N := some 6) (v := ?_) (a' := ?_) (XSq.bA 12 139) rfl rfl (take_ofW HT_.out HW_.out (by kernel_rfl)) (fun _ _ _ h => h) (Or.inl ⟨by rfl, ?_⟩) hHeld ?_ ?_
    rotate_left
    ·
     rintro w' ⟨s0, s1, s2, s3, s4⟩
     go_simp
     with_reducible rfl
    rotate_left
    ·
     simp only [Act.put, XSq.p1, XSq.p2, XSq.p3, i64_w, i32_w]
     rfl
    refine take_ (i := 2) (N := some 8) (v := ?_) (a' := ?_) (XSq.bA 12 143) rfl rfl (take_ofW HT_.out HW_.out (by kernel_rfl)) (fun _ _ _ h => h) (Or.inl ⟨by rfl, ?_⟩) hHeld ?_ ?_
    rotate_left
    ·
     rintro w' ⟨s0, s1, s2, s3, s4⟩
     go_simp
     with_reducible rfl
    rotate_left
    ·
     simp only [Act.put, XSq.p1, XSq.p2, XSq.p3, i64_w, i32_w]
     rfl
    refine take_ (i := 4) (N := some 10) (v := ?_) (a' := ?_) (XSq.bA 12 159) rfl rfl (take_ofW HT_.out HW_.out (by kernel_rfl)) (fun _ _ _ h => h) (Or.inl ⟨by rfl, ?_⟩) hHeld ?_ ?_
    rotate_left
    ·
     rintro w' ⟨s0, s1, s2, s3, s4⟩
     go_simp
     with_reducible rfl
    rotate_left
    ·
     simp only [Act.put, XSq.p1, XSq.p2, XSq.p3, i64_w, i32_w]
     rfl
    refine take_ (i := 8) (N := some 14) (v := ?_) (a' := ?_) (XSq.bA 12 415) rfl rfl (take_ofW HT_.out HW_.out (by kernel_rfl)) (fun _ _ _ h => h) (Or.inl ⟨by rfl, ?_⟩) hHeld ?_ ?_
    rotate_left
    ·
     rintro w' ⟨s0, s1, s2, s3, s4⟩
     go_simp
     with_reducible rfl
    rotate_left
    ·
     simp only [Act.put, XSq.p1, XSq.p2, XSq.p3, i64_w, i32_w]
     rfl
    refine pure_ (i := 9) (N := some 15) (v := ?_) (a' := ?_) (XSq.bA 12 927) rfl rfl (any_of HT_.out (by kernel_rfl)) (fun _ _ _ h => h) (Or.inl ⟨by rfl, ?_⟩) ?_ ?_
    rotate_left
    ·
     intro w'
     go_simp
     with_reducible rfl
    rotate_left
    ·
     simp only [Act.put, XSq.p1, XSq.p2, XSq.p3, i64_w, i32_w]
     rfl
    refine one_ (i := 5) (N := some 11) (XSq.bA 12 959) rfl rfl (one_of HT_.out (by kernel_rfl)) (by decide) (fun K hK => ?_)
    refine goes_ Tryd.func37 (by kernel_rfl) rfl #[.agg #[.string t183, .slice A0_1 l0_1.length c0_1, .int .i64 t184, .int .i64 t185, .int .i64 t186], .int .i64 t184, .int .i64 t185] (by rfl) rfl rfl (by (try simp only [List.map_toArray, List.map_cons, List.map_nil]); first | done | rfl | (simp only [List.length_drop, List.length_take]; rfl)) ?_
    with_reducible refine (spec_enColour.calls k t183 _ _ l0_1 t184 t185 t186 t184 t185 t187 _ ?side1 ?side2 A3.out).mono ?_
    (case side1 => repeat (first | exact (Kd.C_below HR0_1.out HB.out) | (with_reducible refine Kd.C_alloc ?_ _) | (with_reducible refine Kd.C_drewN ?_ _) | (with_reducible refine Kd.C_drew ?_)))
    (case side2 => exact HC0_1.out)
    rintro e w17 ⟨rfl, hb⟩
    refine ⟨_, rfl, ?_⟩
    replace BK181 := XSq.bb BK181 hb; replace BK182 := Aside0.mk (blk_below (g := gb182) (o := .cells #[.string ⟨#[]⟩, .slice none 0 0, .int .i64 0, .int .i64 0, .int .i64 0] 28 (0, 0)) (XSq.bq BK182) hb); replace HB := Aside0.mk (below_step (XSq.bB HB) hb); clear hb
    refine hK.out _ _ ⟨(blk_cell BK181.out 0).trans rfl, (blk_cell BK181.out 1).trans rfl, (blk_cell BK181.out 2).trans rfl, (blk_cell BK181.out 3).trans rfl, (blk_cell BK181.out 4).trans rfl⟩ (fun hHeld => ?_)
    clear hK K
    refine norm_ (a' := ?_) ?_ ?_
    rotate_left
    ·
     show Act.put _ (some 11) _ = _
     simp only [Act.put, XSq.p1, XSq.p2, XSq.p3, i64_w, i32_w]
     rfl
    refine pure_ (i := 6) (N := some 12) (v := ?_) (a' := ?_) (XSq.bA 12 1023) rfl rfl (any_of HT_.out (by kernel_rfl)) (fun _ _ _ h => h) (Or.inl ⟨by rfl, ?_⟩) ?_ ?_
    rotate_left
    ·
     intro w'
     go_simp
     with_reducible rfl
    rotate_left
    ·
     simp only [Act.put, XSq.p1, XSq.p2, XSq.p3, i64_w, i32_w]
     rfl
    refine one_ (i := 10) (N := some 16) (XSq.bA 12 2047) rfl rfl (one_of HT_.out (by kernel_rfl)) (by decide) (fun K hK => ?_)
    refine goes_ Tryd.func36 (by kernel_rfl) rfl #[.int .i64 (wrap64 (t187 - 1)), .int .i64 (t183.size : Int)] (by rfl) rfl rfl (by (try simp only [List.map_toArray, List.map_cons, List.map_nil]); first | done | rfl | (simp only [List.length_drop, List.length_take]; rfl)) ?_
    with_reducible refine (spec_l1Mod.calls (wrap64 (t187 - 1)) (t183.size : Int) t188 _ A4.out).mono ?_
    rintro e w' ⟨rfl, ⟨nd, rfl⟩⟩
    refine ⟨_, rfl, ?_⟩
    refine hK.out _ _ ⟨(blk_cell BK181.out 0).trans rfl, (blk_cell BK181.out 1).trans rfl, (blk_cell BK181.out 2).trans rfl, (blk_cell BK181.out 3).trans rfl, (blk_cell BK181.out 4).trans rfl⟩ (fun hHeld => ?_)
    clear hK K
    refine norm_ (a' := ?_) ?_ ?_
    rotate_left
    ·
     show Act.put _ (some 16) _ = _
     simp only [Act.put, XSq.p1, XSq.p2, XSq.p3, i64_w, i32_w]
     rfl
    refine pure_ (i := 11) (N := some 4) (v := ?_) (a' := ?_) (XSq.bA 12 4095) rfl rfl (any_of HT_.out (by kernel_rfl)) (fun _ _ _ h => h) (Or.inl ⟨by rfl, ?_⟩) ?_ ?_
    rotate_left
    ·
     intro w'
     go_simp
     with_reducible rfl
    rotate_left
    ·
     simp only [Act.put, XSq.p1, XSq.p2, XSq.p3, i64_w, i32_w]
     rfl
    refine done_ (done_of HT_.out (by kernel_rfl)) ?_
    have hnb18 := NB181_182.out; have hnc18 := NB182_181.out; have hcz19_0 := XSq.ck BK181 0; have hcz19_1 := XSq.ck BK181 1; have hcz19_2 := XSq.ck BK181 2; have hcz19_3 := XSq.ck BK181 3; have hcz19_4 := XSq.ck BK181 4; have hfz19_0 := blk_frozen BK181.out 0; have hfz19_1 := blk_frozen BK181.out 1; have hfz19_2 := blk_frozen BK181.out 2; have hfz19_3 := blk_frozen BK181.out 3; have hfz19_4 := blk_frozen BK181.out 4
    try go_wp2_with (first | ((with_reducible refine gate_callee (f := 28) rfl ?_); refine goesL_ (some 24) rfl rfl Tryd.func28 (by kernel_rfl) rfl #[.slice A0_1 l0_1.length c0_1, .int .i64 t184, .int .i64 t185, .int .i64 t188] rfl (by (try simp only [List.map_toArray, List.map_cons, List.map_nil]); first | done | rfl | (simp only [List.length_drop, List.length_take]; rfl)) ?_; (with_reducible refine (spec_enPaint.calls k _ _ l0_1 t184 t185 t188 t189 _ ?side1 ?side2 A5.out).mono ?_); (case side1 => repeat (first | exact (Kd.C_below HR0_1.out (XSq.bB HB)) | (with_reducible refine Kd.C_alloc ?_ _) | (with_reducible refine Kd.C_drewN ?_ _) | (with_reducible refine Kd.C_drew ?_))); (case side2 => exact HC0_1.out); rintro e w20 ⟨v190, rfl, ho0, hb⟩; refine ⟨_, rfl, ?_⟩; have HO191 := Aside0.mk (Kd.R_lower ho0 (below_size (XSq.bB HB))); replace BK181 := XSq.bb BK181 hb; replace BK182 := Aside0.mk (blk_below (g := gb182) (o := .cells #[.string ⟨#[]⟩, .slice none 0 0, .int .i64 0, .int .i64 0, .int .i64 0] 28 (0, 0)) (XSq.bq BK182) hb); replace HB := Aside0.mk (below_step (XSq.bB HB) hb); clear hb; (try clear hb2); (try clear hk); (try clear hi); (try clear ho0); obtain ⟨Ao21, co21, eo21⟩ := Kd.R_slice HO191.out; subst eo21; have hcz22_0 := XSq.ck BK181 0; have hcz22_1 := XSq.ck BK181 1; have hcz22_2 := XSq.ck BK181 2; have hcz22_3 := XSq.ck BK181 3; have hcz22_4 := XSq.ck BK181 4; have hfz22_0 := blk_frozen BK181.out 0; have hfz22_1 := blk_frozen BK181.out 1; have hfz22_2 := blk_frozen BK181.out 2; have hfz22_3 := blk_frozen BK181.out 3; have hfz22_4 := blk_frozen BK181.out 4))
    have n0_ : Aside0 (Kd.R k60 60 (w20.setCell ⟨gb181, 1, none⟩ (.slice Ao21 t189.length co21)) w.heap.size (fun _ => True) (.slice Ao21 t189.length co21) t189) := ⟨by (with_reducible repeat (first | apply Kd.R_alloc | apply Kd.R_drewN | apply Kd.R_drew)); exact Kd.R_mono (Kd.R_far (p := ⟨gb181, 1, none⟩) (Kd.R_types HO191.out BK181.out (by decide)) (fun _ hk => hk.2) (.slice Ao21 t189.length co21)) (fun _ hk => trivial)⟩; have n1_ : Aside0 ((w20.setCell ⟨gb181, 1, none⟩ (.slice Ao21 t189.length co21)).heap[gb181]? = some (.cells #[.string t183, .slice Ao21 t189.length co21, .int .i64 t184, .int .i64 t185, .int .i64 t186] 28 (0, 0))) := ⟨by (with_reducible repeat (first | refine blk_drewN ?_ _ | refine blk_drew ?_ | refine blk_alloc ?_ _)); refine blk_put (cs := #[.string t183, .slice A0_1 l0_1.length c0_1, .int .i64 t184, .int .i64 t185, .int .i64 t186]) ?_ 1 _ rfl; (with_reducible repeat (first | refine blk_drewN ?_ _ | refine blk_drew ?_ | refine blk_alloc ?_ _)); exact BK181.out⟩; have n2_ : Aside0 ((w20.setCell ⟨gb181, 1, none⟩ (.slice Ao21 t189.length co21)).heap[gb182]? = some (.cells #[.string ⟨#[]⟩, .slice none 0 0, .int .i64 0, .int .i64 0, .int .i64 0] 28 (0, 0))) := ⟨by (with_reducible repeat (first | refine blk_drewN ?_ _ | refine blk_drew ?_ | refine blk_alloc ?_ _)); refine blk_far ?_ NB182_181.out _; (with_reducible repeat (first | refine blk_drewN ?_ _ | refine blk_drew ?_ | refine blk_alloc ?_ _)); exact BK182.out⟩; have n3_ : Aside0 (Below w.heap.size w (w20.setCell ⟨gb181, 1, none⟩ (.slice Ao21 t189.length co21))) := ⟨by repeat (first | (with_reducible first | exact HB.out | apply below_alloc | apply pw_below_drewN | apply below_drew1 | refine below_set ?_ GE181.out | refine below_set ?_ GE182.out) | exact HB.out)⟩
    (try clear HO191)
    (try clear BK181)
    (try clear BK182)
    (try clear HB)
    try rw [show ∀ (n_ : Nat) (p_ : Addr) (v_ : Value), (w20.drewN n_).setCell p_ v_ = (w20.setCell p_ v_).drewN n_ from fun _ _ _ => rfl]
    generalize (w20.setCell ⟨gb181, 1, none⟩ (.slice Ao21 t189.length co21)) = w23 at n0_ n1_ n2_ n3_ ⊢
    have HO191 := n0_; have BK181 := n1_; have BK182 := n2_; have HB := n3_; clear n0_ n1_ n2_ n3_; replace HO191 := Aside0.mk (Kd.R_drew HO191.out); replace BK181 := Aside0.mk (blk_drew BK181.out); replace BK182 := Aside0.mk (blk_drew BK182.out); replace HB := Aside0.mk (below_drew1 HB.out); have p8 : 0 ≤ (t188 : Int) := of_decide_eq_true (by first | (with_reducible assumption) | assumption); have q8 : t188 < (t183.size : Int) := of_decide_eq_true (by first | (with_reducible assumption) | assumption); have hx8 := bt_at t183 t188; replace p8 := eq_true p8; replace q8 := eq_true q8
    refine start_ (n := 11) (S := fun w' => w'.cell? ⟨gb181, 0, none⟩ = some (.string t183) ∧ w'.cell? ⟨gb181, 1, none⟩ = some (.slice Ao21 t189.length co21) ∧ w'.cell? ⟨gb181, 2, none⟩ = some (.int .i64 t184) ∧ w'.cell? ⟨gb181, 3, none⟩ = some (.int .i64 t185) ∧ w'.cell? ⟨gb181, 4, none⟩ = some (.int .i64 t186)) (ds := [10]) #[false, false, false, false, false, false, false, false, false, false, false] (by kernel_rfl) rfl rfl ⟨(blk_cell BK181.out 0).trans rfl, (blk_cell BK181.out 1).trans rfl, (blk_cell BK181.out 2).trans rfl, (blk_cell BK181.out 3).trans rfl, (blk_cell BK181.out 4).trans rfl⟩ (fun hHeld => ?_); refine with_tabW spec_enBack.tab4 spec_enBack.bits4 (fun HT_ HW_ => ?_)
    generalize w23.drew = w24 at HO191 BK181 BK182 HB hHeld ⊢
    refine pure_ (i := 0) (N := some 26) (v := ?_) (a' := ?_) (XSq.bA 11 1) rfl rfl (any_of HT_.out (by kernel_rfl)) (fun _ _ _ h => h) (Or.inl ⟨by rfl, ?_⟩) ?_ ?_
    rotate_left
    ·
     intro w'
     go_simp
     with_reducible rfl
    rotate_left
    ·
     simp only [Act.put, XSq.p1, XSq.p2, XSq.p3, i64_w, i32_w]
     rfl
    refine pure_ (i := 2) (N := some 28) (v := ?_) (a' := ?_) (XSq.bA 11 5) rfl rfl (any_of HT_.out (by kernel_rfl)) (fun _ _ _ h => h) (Or.inl ⟨by rfl, ?_⟩) ?_ ?_
    rotate_left
    ·
     intro w'
     go_simp
     with_reducible rfl
    rotate_left
    ·
     simp only [Act.put, XSq.p1, XSq.p2, XSq.p3, i64_w, i32_w]
     rfl
    refine pure_ (i := 4) (N := some 30) (v := ?_) (a' := ?_) (XSq.bA 11 21) rfl rfl (any_of HT_.out (by kernel_rfl)) (fun _ _ _ h => h) (Or.inl ⟨by rfl, ?_⟩) ?_ ?_
    rotate_left
    ·
     intro w'
     go_simp
     with_reducible rfl
    rotate_left
    ·
     simp only [Act.put, XSq.p1, XSq.p2, XSq.p3, i64_w, i32_w]
     rfl
    refine take_ (i := 1) (N := some 27) (v := ?_) (a' := ?_) (XSq.bA 11 23) rfl rfl (take_ofW HT_.out HW_.out (by kernel_rfl)) (fun _ _ _ h => h) (Or.inl ⟨by rfl, ?_⟩) hHeld ?_ ?_
    rotate_left
    ·
     rintro w' ⟨s0, s1, s2, s3, s4⟩
     go_simp
     with_reducible rfl
    rotate_left
    ·
     simp only [Act.put, XSq.p1, XSq.p2, XSq.p3, i64_w, i32_w]
     rfl
    refine take_ (i := 3) (N := some 29) (v := ?_) (a' := ?_) (XSq.bA 11 31) rfl rfl (take_ofW HT_.out HW_.out (by kernel_rfl)) (fun _ _ _ h => h) (Or.inl ⟨by rfl, ?_⟩) hHeld ?_ ?_
    rotate_left
    ·
     rintro w' ⟨s0, s1, s2, s3, s4⟩
     go_simp
     with_reducible rfl
    rotate_left
    ·
     simp only [Act.put, XSq.p1, XSq.p2, XSq.p3, i64_w, i32_w]
     rfl
    refine take_ (i := 5) (N := some 31) (v := ?_) (a' := ?_) (XSq.bA 11 63) rfl rfl (take_ofW HT_.out HW_.out (by kernel_rfl)) (fun _ _ _ h => h) (Or.inl ⟨by rfl, ?_⟩) hHeld ?_ ?_
    rotate_left
    ·
     rintro w' ⟨s0, s1, s2, s3, s4⟩
     go_simp
     with_reducible rfl
    rotate_left
    ·
     simp only [Act.put, XSq.p1, XSq.p2, XSq.p3, i64_w, i32_w]
     rfl
    refine one_ (i := 6) (N := some 32) (XSq.bA 11 127) rfl rfl (one_of HT_.out (by kernel_rfl)) (by decide) (fun K hK => ?_)
    refine goes_ Tryd.func38 (by kernel_rfl) rfl #[.int .u8 (bt t183 t188)] (by rfl) rfl rfl (by (try simp only [List.map_toArray, List.map_cons, List.map_nil]); first | done | rfl | (simp only [List.length_drop, List.length_take]; rfl)) ?_
    with_reducible refine (spec_woTurn.calls (bt t183 t188) t192 _ A9.out).mono ?_
    rintro e w' ⟨rfl, ⟨nd, rfl⟩⟩
    refine ⟨_, rfl, ?_⟩
    refine hK.out _ _ ⟨(blk_cell BK181.out 0).trans rfl, (blk_cell BK181.out 1).trans rfl, (blk_cell BK181.out 2).trans rfl, (blk_cell BK181.out 3).trans rfl, (blk_cell BK181.out 4).trans rfl⟩ (fun hHeld => ?_)
    clear hK K
    refine norm_ (a' := ?_) ?_ ?_
    rotate_left
    ·
     show Act.put _ (some 32) _ = _
     simp only [Act.put, XSq.p1, XSq.p2, XSq.p3, i64_w, i32_w]
     rfl
    refine pure_ (i := 7) (N := some 33) (v := ?_) (a' := ?_) (XSq.bA 11 255) rfl rfl (any_of HT_.out (by kernel_rfl)) (fun _ _ _ h => h) (Or.inl ⟨by rfl, ?_⟩) ?_ ?_
    rotate_left
    ·
     intro w'
     go_simp
     with_reducible rfl
    rotate_left
    ·
     simp only [Act.put, XSq.p1, XSq.p2, XSq.p3, i64_w, i32_w]
     rfl
    refine one_ (i := 8) (N := some 34) (XSq.bA 11 511) rfl rfl (one_of HT_.out (by kernel_rfl)) (by decide) (fun K hK => ?_)
    refine goes_ Tryd.func36 (by kernel_rfl) rfl #[.int .i64 (wrap64 (t186 - t192)), .int .i64 4] (by rfl) rfl rfl (by (try simp only [List.map_toArray, List.map_cons, List.map_nil]); first | done | rfl | (simp only [List.length_drop, List.length_take]; rfl)) ?_
    with_reducible refine (spec_l1Mod.calls (wrap64 (t186 - t192)) 4 t193 _ A10.out).mono ?_
    rintro e w' ⟨rfl, ⟨nd, rfl⟩⟩
    refine ⟨_, rfl, ?_⟩
    refine hK.out _ _ ⟨(blk_cell BK181.out 0).trans rfl, (blk_cell BK181.out 1).trans rfl, (blk_cell BK181.out 2).trans rfl, (blk_cell BK181.out 3).trans rfl, (blk_cell BK181.out 4).trans rfl⟩ (fun hHeld => ?_)
    clear hK K
    refine norm_ (a' := ?_) ?_ ?_
    rotate_left
    ·
     show Act.put _ (some 34) _ = _
     simp only [Act.put, XSq.p1, XSq.p2, XSq.p3, i64_w, i32_w]
     rfl
    refine pure_ (i := 9) (N := some 35) (v := ?_) (a' := ?_) (XSq.bA 11 1023) rfl rfl (any_of HT_.out (by kernel_rfl)) (fun _ _ _ h => h) (Or.inl ⟨by rfl, ?_⟩) ?_ ?_
    rotate_left
    ·
     intro w'
     go_simp
     with_reducible rfl
    rotate_left
    ·
     simp only [Act.put, XSq.p1, XSq.p2, XSq.p3, i64_w, i32_w]
     rfl
    refine last_ (i := 10) (N := none) (XSq.bA 11 2047) rfl rfl (one_of HT_.out (by kernel_rfl)) (by decide) (fun K hK => ?_)
    have hs25 : w24.cell? ⟨gb181, 4, none⟩ = some (.int .i64 t186) := (blk_cell BK181.out 4).trans rfl; have hfs25 := blk_frozen BK181.out 4; have hns25_1 := NB182_181.out; have hms25_1 := NB181_182.out
    refine skip_ (w1 := ?_) (by rfl) rfl ?_ ?_
    rotate_left
    ·
     go_simp
     rfl
    refine hK.out _ _ ?_
    clear hK K
    refine done_ (done_of HT_.out (by kernel_rfl)) ?_
    have hcz26_0 := XSq.ck BK181 0; have hcz26_1 := XSq.ck BK181 1; have hcz26_2 := XSq.ck BK181 2; have hcz26_3 := XSq.ck BK181 3; have hcz26_4 := XSq.ck BK181 4; have hfz26_0 := blk_frozen BK181.out 0; have hfz26_1 := blk_frozen BK181.out 1; have hfz26_2 := blk_frozen BK181.out 2; have hfz26_3 := blk_frozen BK181.out 3; have hfz26_4 := blk_frozen BK181.out 4
    try go_wp2_with (first | ((with_reducible refine gate_callee (f := 29) rfl ?_); refine goesL_ (some 37) rfl rfl Tryd.func29 (by kernel_rfl) rfl #[.agg #[.string t183, .slice Ao21 t189.length co21, .int .i64 t184, .int .i64 t185, .int .i64 t193]] rfl (by (try simp only [List.map_toArray, List.map_cons, List.map_nil]); first | done | rfl | (simp only [List.length_drop, List.length_take]; rfl)) ?_; (with_reducible refine (spec_enGood.calls k t183 _ _ t189 t184 t185 t193 true _ ?side1 ?side2 A11.out).mono ?_); (case side1 => refine (Kd.R_reads' (e := 60) (base := w.heap.size) (ok := fun k_ => True) (n := t189.length) (c := co21) ?_).2.2; exact (by (with_reducible repeat (first | apply Kd.R_alloc | apply Kd.R_drewN | apply Kd.R_drew)); exact (Kd.R_mono (Kd.R_far (p := ⟨gb181, 4, none⟩) (Kd.R_types HO191.out BK181.out (by decide)) (fun _ hk => hk.2) (.int .i64 t193)) (fun _ h_ => h_.1)))); (case side2 => exact (Kd.R_reads' HO191.out).2.1); rintro e w27 ⟨rfl, hb⟩; refine ⟨_, rfl, ?_⟩; have n0_ := Aside0.mk (Kd.R_below (by (with_reducible repeat (first | apply Kd.R_alloc | apply Kd.R_drewN | apply Kd.R_drew)); exact (Kd.R_mono (Kd.R_far (p := ⟨gb181, 4, none⟩) (Kd.R_types HO191.out BK181.out (by decide)) (fun _ hk => hk.2) (.int .i64 t193)) (fun _ h_ => h_.1))) hb); have n1_ := Aside0.mk (blk_below (g := gb181) (o := .cells #[.string t183, .slice Ao21 t189.length co21, .int .i64 t184, .int .i64 t185, .int .i64 t193] 28 (0, 0)) (by (with_reducible repeat (first | refine blk_drewN ?_ _ | refine blk_drew ?_ | refine blk_alloc ?_ _)); refine blk_put (cs := #[.string t183, .slice Ao21 t189.length co21, .int .i64 t184, .int .i64 t185, .int .i64 t186]) ?_ 4 _ rfl; (with_reducible repeat (first | refine blk_drewN ?_ _ | refine blk_drew ?_ | refine blk_alloc ?_ _)); exact BK181.out) hb); have n2_ := Aside0.mk (blk_below (g := gb182) (o := .cells #[.string ⟨#[]⟩, .slice none 0 0, .int .i64 0, .int .i64 0, .int .i64 0] 28 (0, 0)) (by (with_reducible repeat (first | refine blk_drewN ?_ _ | refine blk_drew ?_ | refine blk_alloc ?_ _)); refine blk_far ?_ NB182_181.out _; (with_reducible repeat (first | refine blk_drewN ?_ _ | refine blk_drew ?_ | refine blk_alloc ?_ _)); exact BK182.out) hb); have n3_ := Aside0.mk (below_step (XSq.bB HB) hb); clear HO191; clear BK181; clear BK182; clear HB; have HO191 := n0_; have BK181 := n1_; have BK182 := n2_; have HB := n3_; clear n0_ n1_ n2_ n3_; clear hb; (try clear hb2); (try clear hk); (try clear hi); have hcz28_0 := XSq.ck BK181 0; have hcz28_1 := XSq.ck BK181 1; have hcz28_2 := XSq.ck BK181 2; have hcz28_3 := XSq.ck BK181 3; have hcz28_4 := XSq.ck BK181 4; have hfz28_0 := blk_frozen BK181.out 0; have hfz28_1 := blk_frozen BK181.out 1; have hfz28_2 := blk_frozen BK181.out 2; have hfz28_3 := blk_frozen BK181.out 3; have hfz28_4 := blk_frozen BK181.out 4; have hcz29_0 := XSq.ck BK182 0; have hcz29_1 := XSq.ck BK182 1; have hcz29_2 := XSq.ck BK182 2; have hcz29_3 := XSq.ck BK182 3; have hcz29_4 := XSq.ck BK182 4; have hfz29_0 := blk_frozen BK182.out 0; have hfz29_1 := blk_frozen BK182.out 1; have hfz29_2 := blk_frozen BK182.out 2; have hfz29_3 := blk_frozen BK182.out 3; have hfz29_4 := blk_frozen BK182.out 4))
    refine bodyPost_ret (results_ct rfl _ _ gb182 28 #[.string t183, .slice Ao21 t189.length co21, .int .i64 t184, .int .i64 t185, .int .i64 t193] (0, 0) _ rfl (by (with_reducible repeat (first | refine blk_drewN ?_ _ | refine blk_drew ?_ | refine blk_alloc ?_ _)); refine blk_put (cs := #[.string t183, .slice Ao21 t189.length co21, .int .i64 t184, .int .i64 t185, .int .i64 0]) ?_ 4 _ rfl; (with_reducible repeat (first | refine blk_drewN ?_ _ | refine blk_drew ?_ | refine blk_alloc ?_ _)); refine blk_put (cs := #[.string t183, .slice Ao21 t189.length co21, .int .i64 t184, .int .i64 0, .int .i64 0]) ?_ 3 _ rfl; (with_reducible repeat (first | refine blk_drewN ?_ _ | refine blk_drew ?_ | refine blk_alloc ?_ _)); refine blk_put (cs := #[.string t183, .slice Ao21 t189.length co21, .int .i64 0, .int .i64 0, .int .i64 0]) ?_ 2 _ rfl; (with_reducible repeat (first | refine blk_drewN ?_ _ | refine blk_drew ?_ | refine blk_alloc ?_ _)); refine blk_put (cs := #[.string t183, .slice none 0 0, .int .i64 0, .int .i64 0, .int .i64 0]) ?_ 1 _ rfl; (with_reducible repeat (first | refine blk_drewN ?_ _ | refine blk_drew ?_ | refine blk_alloc ?_ _)); refine blk_put (cs := #[.string ⟨#[]⟩, .slice none 0 0, .int .i64 0, .int .i64 0, .int .i64 0]) ?_ 0 _ rfl; (with_reducible repeat (first | refine blk_drewN ?_ _ | refine blk_drew ?_ | refine blk_alloc ?_ _)); exact BK182.out) Tryd.underlying28 rfl (by kernel_rfl)) rfl ?_
    exact ⟨_, by first | rfl | (simp [errW_none, errW_some] <;> rfl) | (simp [*, errW_none, errW_some] <;> rfl), by (with_reducible repeat (first | apply Kd.R_alloc | apply Kd.R_drewN | apply Kd.R_drew)); exact Kd.R_mono (Kd.R_far (p := ⟨gb182, 4, none⟩) (Kd.R_far (p := ⟨gb182, 3, none⟩) (Kd.R_far (p := ⟨gb182, 2, none⟩) (Kd.R_far (p := ⟨gb182, 1, none⟩) (Kd.R_far (p := ⟨gb182, 0, none⟩) (Kd.R_types HO191.out BK182.out (by decide)) (fun _ hk => hk.2) (.string t183)) (fun _ hk => hk.2) (.slice Ao21 t189.length co21)) (fun _ hk => hk.2) (.int .i64 t184)) (fun _ hk => hk.2) (.int .i64 t185)) (fun _ hk => hk.2) (.int .i64 t193)) (fun _ hk => trivial), by repeat (first | (with_reducible first | exact HB.out | apply below_alloc | apply pw_below_drewN | apply below_drew1 | refine below_set ?_ GE181.out | refine below_set ?_ GE182.out) | exact HB.out)⟩
   ·
    replace c12 := Bool.eq_false_iff.mpr c12; subst c12
    have H1 : (some ((⟨#[]⟩ : ByteArray), ([] : List (S60)), 0, 0, 0, false)) = some (r1, r2, r3, r4, r5, r6) := by rw [if_neg (show ¬ (false = true) by decide)] at H; exact H
    clear H; have H := H1; clear H1
    simp only [Option.some.injEq, Prod.mk.injEq] at H
    obtain ⟨rfl, rfl, rfl, rfl, rfl, rfl⟩ := H
    go_enter Tryd.func17, Tryd.ntmps17
    try go_wp2_with (first | ((with_reducible refine gate_dst (N := 1) rfl ?_); refine box_event ?hg (N := 1) ?hd (cs := #[.string a0_0, .slice A0_1 l0_1.length c0_1, .int .i64 a0_2, .int .i64 a0_3, .int .i64 a0_4]) (t := 28) ?hr ?_; (case hd => rfl); (case hg => rfl); (case hr => first | (go_simp; done) | (go_simp; rfl)); intro gb181 hg w30 hbox hb; have BK181 := Aside0.mk (hbox); have GW181 := XSq.gw hg (XSq.bB HB); have GE181 := XSq.gw hg (XSq.bB HB); replace HB := Aside0.mk (below_step (XSq.bB HB) hb); clear hb hbox hg) | ((with_reducible refine gate_dst (N := 2) rfl ?_); refine box_event ?hg (N := 2) ?hd (cs := #[.string ⟨#[]⟩, .slice none 0 0, .int .i64 0, .int .i64 0, .int .i64 0]) (t := 28) ?hr ?_; (case hd => rfl); (case hg => rfl); (case hr => first | (go_simp; done) | (go_simp; rfl)); intro gb182 hg w31 hbox hb; have BK182 := Aside0.mk (hbox); have GW182 := XSq.gw hg (XSq.bB HB); have GE182 := XSq.gw hg (XSq.bB HB); have NB181_182 := XSq.nl hg (XSq.bq BK181); have NB182_181 := XSq.nr hg (XSq.bq BK181); replace BK181 := XSq.bb BK181 hb; replace HB := Aside0.mk (below_step (XSq.bB HB) hb); clear hb hbox hg) | ((with_reducible refine gate_callee (f := 35) rfl ?_); refine goesL_ (some 5) rfl rfl Tryd.func35 (by kernel_rfl) rfl #[.pointer (some ⟨gb181, 0, none⟩), .int .i64 (-1)] rfl (by (try simp only [List.map_toArray, List.map_cons, List.map_nil]); first | done | rfl | (simp only [List.length_drop, List.length_take]; rfl)) ?_; (with_reducible refine (spec_enGo.calls2 A0_1 c0_1 gb181 a0_0 l0_1 a0_2 a0_3 a0_4 (-1) t183 t184 t185 t186 w _ ?side1 ?side2 A2.out).mono ?_); (case side1 => exact ⟨by (with_reducible repeat (first | refine blk_drewN ?_ _ | refine blk_drew ?_ | refine blk_alloc ?_ _)); exact BK181.out, GE181.out⟩); (case side2 => repeat (first | (with_reducible first | exact HB.out | apply below_alloc | apply pw_below_drewN | apply below_drew1 | refine below_set ?_ GE181.out | refine below_set ?_ GE182.out) | exact HB.out)); rintro e w32 ⟨rfl, hi, hb, hk⟩; refine ⟨_, rfl, ?_⟩; replace BK182 := Aside0.mk (KeepBut.blk hk (g' := gb182) (o := .cells #[.string ⟨#[]⟩, .slice none 0 0, .int .i64 0, .int .i64 0, .int .i64 0] 28 (0, 0)) (XSq.bq BK182) NB182_181.out (by simp)); replace HB := Aside0.mk (hb); replace BK181 := Aside0.mk (hi.1); clear hb; (try clear hb2); (try clear hk); (try clear hi)))
    replace BK181 := Aside0.mk (blk_drew BK181.out); replace BK182 := Aside0.mk (blk_drew BK182.out); replace HB := Aside0.mk (below_drew1 HB.out)
    refine start_ (n := 12) (S := fun w' => w'.cell? ⟨gb181, 0, none⟩ = some (.string t183) ∧ w'.cell? ⟨gb181, 1, none⟩ = some (.slice A0_1 l0_1.length c0_1) ∧ w'.cell? ⟨gb181, 2, none⟩ = some (.int .i64 t184) ∧ w'.cell? ⟨gb181, 3, none⟩ = some (.int .i64 t185) ∧ w'.cell? ⟨gb181, 4, none⟩ = some (.int .i64 t186)) (ds := []) #[false, false, false, false, false, false, false, false, false, false, false, false] (by kernel_rfl) rfl rfl ⟨(blk_cell BK181.out 0).trans rfl, (blk_cell BK181.out 1).trans rfl, (blk_cell BK181.out 2).trans rfl, (blk_cell BK181.out 3).trans rfl, (blk_cell BK181.out 4).trans rfl⟩ (fun hHeld => ?_); refine with_tabW spec_enBack.tab2 spec_enBack.bits2 (fun HT_ HW_ => ?_)
    generalize w32.drew = w33 at BK181 BK182 HB hHeld ⊢
    refine pure_ (i := 1) (N := some 7) (v := ?_) (a' := ?_) (XSq.bA 12 2) rfl rfl (any_of HT_.out (by kernel_rfl)) (fun _ _ _ h => h) (Or.inl ⟨by rfl, ?_⟩) ?_ ?_
    rotate_left
    ·
     intro w'
     go_simp
     with_reducible rfl
    rotate_left
    ·
     simp only [Act.put, XSq.p1, XSq.p2, XSq.p3, i64_w, i32_w]
     rfl
    refine pure_ (i := 3) (N := some 9) (v := ?_) (a' := ?_) (XSq.bA 12 10) rfl rfl (any_of HT_.out (by kernel_rfl)) (fun _ _ _ h => h) (Or.inl ⟨by rfl, ?_⟩) ?_ ?_
    rotate_left
    ·
     intro w'
     go_simp
     with_reducible rfl
    rotate_left
    ·
     simp only [Act.put, XSq.p1, XSq.p2, XSq.p3, i64_w, i32_w]
     rfl
    refine pure_ (i := 7) (N := some 13) (v := ?_) (a' := ?_) (XSq.bA 12 138) rfl rfl (any_of HT_.out (by kernel_rfl)) (fun _ _ _ h => h) (Or.inl ⟨by rfl, ?_⟩) ?_ ?_
    rotate_left
    ·
     intro w'
     go_simp
     with_reducible rfl
    rotate_left
    ·
     simp only [Act.put, XSq.p1, XSq.p2, XSq.p3, i64_w, i32_w]
     rfl
    refine take_ (i := 0) (N := some 6) (v := ?_) (a' := ?_) (XSq.bA 12 139) rfl rfl (take_ofW HT_.out HW_.out (by kernel_rfl)) (fun _ _ _ h => h) (Or.inl ⟨by rfl, ?_⟩) hHeld ?_ ?_
    rotate_left
    ·
     rintro w' ⟨s0, s1, s2, s3, s4⟩
     go_simp
     with_reducible rfl
    rotate_left
    ·
     simp only [Act.put, XSq.p1, XSq.p2, XSq.p3, i64_w, i32_w]
     rfl
    refine take_ (i := 2) (N := some 8) (v := ?_) (a' := ?_) (XSq.bA 12 143) rfl rfl (take_ofW HT_.out HW_.out (by kernel_rfl)) (fun _ _ _ h => h) (Or.inl ⟨by rfl, ?_⟩) hHeld ?_ ?_
    rotate_left
    ·
     rintro w' ⟨s0, s1, s2, s3, s4⟩
     go_simp
     with_reducible rfl
    rotate_left
    ·
     simp only [Act.put, XSq.p1, XSq.p2, XSq.p3, i64_w, i32_w]
     rfl
    refine take_ (i := 4) (N := some 10) (v := ?_) (a' := ?_) (XSq.bA 12 159) rfl rfl (take_ofW HT_.out HW_.out (by kernel_rfl)) (fun _ _ _ h => h) (Or.inl ⟨by rfl, ?_⟩) hHeld ?_ ?_
    rotate_left
    ·
     rintro w' ⟨s0, s1, s2, s3, s4⟩
     go_simp
     with_reducible rfl
    rotate_left
    ·
     simp only [Act.put, XSq.p1, XSq.p2, XSq.p3, i64_w, i32_w]
     rfl
    refine take_ (i := 8) (N := some 14) (v := ?_) (a' := ?_) (XSq.bA 12 415) rfl rfl (take_ofW HT_.out HW_.out (by kernel_rfl)) (fun _ _ _ h => h) (Or.inl ⟨by rfl, ?_⟩) hHeld ?_ ?_
    rotate_left
    ·
     rintro w' ⟨s0, s1, s2, s3, s4⟩
     go_simp
     with_reducible rfl
    rotate_left
    ·
     simp only [Act.put, XSq.p1, XSq.p2, XSq.p3, i64_w, i32_w]
     rfl
    refine pure_ (i := 9) (N := some 15) (v := ?_) (a' := ?_) (XSq.bA 12 927) rfl rfl (any_of HT_.out (by kernel_rfl)) (fun _ _ _ h => h) (Or.inl ⟨by rfl, ?_⟩) ?_ ?_
    rotate_left
    ·
     intro w'
     go_simp
     with_reducible rfl
    rotate_left
    ·
     simp only [Act.put, XSq.p1, XSq.p2, XSq.p3, i64_w, i32_w]
     rfl
    refine one_ (i := 5) (N := some 11) (XSq.bA 12 959) rfl rfl (one_of HT_.out (by kernel_rfl)) (by decide) (fun K hK => ?_)
    refine goes_ Tryd.func37 (by kernel_rfl) rfl #[.agg #[.string t183, .slice A0_1 l0_1.length c0_1, .int .i64 t184, .int .i64 t185, .int .i64 t186], .int .i64 t184, .int .i64 t185] (by rfl) rfl rfl (by (try simp only [List.map_toArray, List.map_cons, List.map_nil]); first | done | rfl | (simp only [List.length_drop, List.length_take]; rfl)) ?_
    with_reducible refine (spec_enColour.calls k t183 _ _ l0_1 t184 t185 t186 t184 t185 t187 _ ?side1 ?side2 A3.out).mono ?_
    (case side1 => repeat (first | exact (Kd.C_below HR0_1.out HB.out) | (with_reducible refine Kd.C_alloc ?_ _) | (with_reducible refine Kd.C_drewN ?_ _) | (with_reducible refine Kd.C_drew ?_)))
    (case side2 => exact HC0_1.out)
    rintro e w34 ⟨rfl, hb⟩
    refine ⟨_, rfl, ?_⟩
    replace BK181 := XSq.bb BK181 hb; replace BK182 := Aside0.mk (blk_below (g := gb182) (o := .cells #[.string ⟨#[]⟩, .slice none 0 0, .int .i64 0, .int .i64 0, .int .i64 0] 28 (0, 0)) (XSq.bq BK182) hb); replace HB := Aside0.mk (below_step (XSq.bB HB) hb); clear hb
    refine hK.out _ _ ⟨(blk_cell BK181.out 0).trans rfl, (blk_cell BK181.out 1).trans rfl, (blk_cell BK181.out 2).trans rfl, (blk_cell BK181.out 3).trans rfl, (blk_cell BK181.out 4).trans rfl⟩ (fun hHeld => ?_)
    clear hK K
    refine norm_ (a' := ?_) ?_ ?_
    rotate_left
    ·
     show Act.put _ (some 11) _ = _
     simp only [Act.put, XSq.p1, XSq.p2, XSq.p3, i64_w, i32_w]
     rfl
    refine pure_ (i := 6) (N := some 12) (v := ?_) (a' := ?_) (XSq.bA 12 1023) rfl rfl (any_of HT_.out (by kernel_rfl)) (fun _ _ _ h => h) (Or.inl ⟨by rfl, ?_⟩) ?_ ?_
    rotate_left
    ·
     intro w'
     go_simp
     with_reducible rfl
    rotate_left
    ·
     simp only [Act.put, XSq.p1, XSq.p2, XSq.p3, i64_w, i32_w]
     rfl
    refine one_ (i := 10) (N := some 16) (XSq.bA 12 2047) rfl rfl (one_of HT_.out (by kernel_rfl)) (by decide) (fun K hK => ?_)
    refine goes_ Tryd.func36 (by kernel_rfl) rfl #[.int .i64 (wrap64 (t187 - 1)), .int .i64 (t183.size : Int)] (by rfl) rfl rfl (by (try simp only [List.map_toArray, List.map_cons, List.map_nil]); first | done | rfl | (simp only [List.length_drop, List.length_take]; rfl)) ?_
    with_reducible refine (spec_l1Mod.calls (wrap64 (t187 - 1)) (t183.size : Int) t188 _ A4.out).mono ?_
    rintro e w' ⟨rfl, ⟨nd, rfl⟩⟩
    refine ⟨_, rfl, ?_⟩
    refine hK.out _ _ ⟨(blk_cell BK181.out 0).trans rfl, (blk_cell BK181.out 1).trans rfl, (blk_cell BK181.out 2).trans rfl, (blk_cell BK181.out 3).trans rfl, (blk_cell BK181.out 4).trans rfl⟩ (fun hHeld => ?_)
    clear hK K
    refine norm_ (a' := ?_) ?_ ?_
    rotate_left
    ·
     show Act.put _ (some 16) _ = _
     simp only [Act.put, XSq.p1, XSq.p2, XSq.p3, i64_w, i32_w]
     rfl
    refine pure_ (i := 11) (N := some 4) (v := ?_) (a' := ?_) (XSq.bA 12 4095) rfl rfl (any_of HT_.out (by kernel_rfl)) (fun _ _ _ h => h) (Or.inl ⟨by rfl, ?_⟩) ?_ ?_
    rotate_left
    ·
     intro w'
     go_simp
     with_reducible rfl
    rotate_left
    ·
     simp only [Act.put, XSq.p1, XSq.p2, XSq.p3, i64_w, i32_w]
     rfl
    refine done_ (done_of HT_.out (by kernel_rfl)) ?_
    have hnb35 := NB181_182.out; have hnc35 := NB182_181.out; have hcz36_0 := XSq.ck BK181 0; have hcz36_1 := XSq.ck BK181 1; have hcz36_2 := XSq.ck BK181 2; have hcz36_3 := XSq.ck BK181 3; have hcz36_4 := XSq.ck BK181 4; have hfz36_0 := blk_frozen BK181.out 0; have hfz36_1 := blk_frozen BK181.out 1; have hfz36_2 := blk_frozen BK181.out 2; have hfz36_3 := blk_frozen BK181.out 3; have hfz36_4 := blk_frozen BK181.out 4
    try go_wp2_with (first | ((with_reducible refine gate_callee (f := 28) rfl ?_); refine goesL_ (some 24) rfl rfl Tryd.func28 (by kernel_rfl) rfl #[.slice A0_1 l0_1.length c0_1, .int .i64 t184, .int .i64 t185, .int .i64 t188] rfl (by (try simp only [List.map_toArray, List.map_cons, List.map_nil]); first | done | rfl | (simp only [List.length_drop, List.length_take]; rfl)) ?_; (with_reducible refine (spec_enPaint.calls k _ _ l0_1 t184 t185 t188 t189 _ ?side1 ?side2 A5.out).mono ?_); (case side1 => repeat (first | exact (Kd.C_below HR0_1.out (XSq.bB HB)) | (with_reducible refine Kd.C_alloc ?_ _) | (with_reducible refine Kd.C_drewN ?_ _) | (with_reducible refine Kd.C_drew ?_))); (case side2 => exact HC0_1.out); rintro e w37 ⟨v190, rfl, ho0, hb⟩; refine ⟨_, rfl, ?_⟩; have HO191 := Aside0.mk (Kd.R_lower ho0 (below_size (XSq.bB HB))); replace BK181 := XSq.bb BK181 hb; replace BK182 := Aside0.mk (blk_below (g := gb182) (o := .cells #[.string ⟨#[]⟩, .slice none 0 0, .int .i64 0, .int .i64 0, .int .i64 0] 28 (0, 0)) (XSq.bq BK182) hb); replace HB := Aside0.mk (below_step (XSq.bB HB) hb); clear hb; (try clear hb2); (try clear hk); (try clear hi); (try clear ho0); obtain ⟨Ao38, co38, eo38⟩ := Kd.R_slice HO191.out; subst eo38; have hcz39_0 := XSq.ck BK181 0; have hcz39_1 := XSq.ck BK181 1; have hcz39_2 := XSq.ck BK181 2; have hcz39_3 := XSq.ck BK181 3; have hcz39_4 := XSq.ck BK181 4; have hfz39_0 := blk_frozen BK181.out 0; have hfz39_1 := blk_frozen BK181.out 1; have hfz39_2 := blk_frozen BK181.out 2; have hfz39_3 := blk_frozen BK181.out 3; have hfz39_4 := blk_frozen BK181.out 4))
    have n0_ : Aside0 (Kd.R k60 60 (w37.setCell ⟨gb181, 1, none⟩ (.slice Ao38 t189.length co38)) w.heap.size (fun _ => True) (.slice Ao38 t189.length co38) t189) := ⟨by (with_reducible repeat (first | apply Kd.R_alloc | apply Kd.R_drewN | apply Kd.R_drew)); exact Kd.R_mono (Kd.R_far (p := ⟨gb181, 1, none⟩) (Kd.R_types HO191.out BK181.out (by decide)) (fun _ hk => hk.2) (.slice Ao38 t189.length co38)) (fun _ hk => trivial)⟩; have n1_ : Aside0 ((w37.setCell ⟨gb181, 1, none⟩ (.slice Ao38 t189.length co38)).heap[gb181]? = some (.cells #[.string t183, .slice Ao38 t189.length co38, .int .i64 t184, .int .i64 t185, .int .i64 t186] 28 (0, 0))) := ⟨by (with_reducible repeat (first | refine blk_drewN ?_ _ | refine blk_drew ?_ | refine blk_alloc ?_ _)); refine blk_put (cs := #[.string t183, .slice A0_1 l0_1.length c0_1, .int .i64 t184, .int .i64 t185, .int .i64 t186]) ?_ 1 _ rfl; (with_reducible repeat (first | refine blk_drewN ?_ _ | refine blk_drew ?_ | refine blk_alloc ?_ _)); exact BK181.out⟩; have n2_ : Aside0 ((w37.setCell ⟨gb181, 1, none⟩ (.slice Ao38 t189.length co38)).heap[gb182]? = some (.cells #[.string ⟨#[]⟩, .slice none 0 0, .int .i64 0, .int .i64 0, .int .i64 0] 28 (0, 0))) := ⟨by (with_reducible repeat (first | refine blk_drewN ?_ _ | refine blk_drew ?_ | refine blk_alloc ?_ _)); refine blk_far ?_ NB182_181.out _; (with_reducible repeat (first | refine blk_drewN ?_ _ | refine blk_drew ?_ | refine blk_alloc ?_ _)); exact BK182.out⟩; have n3_ : Aside0 (Below w.heap.size w (w37.setCell ⟨gb181, 1, none⟩ (.slice Ao38 t189.length co38))) := ⟨by repeat (first | (with_reducible first | exact HB.out | apply below_alloc | apply pw_below_drewN | apply below_drew1 | refine below_set ?_ GE181.out | refine below_set ?_ GE182.out) | exact HB.out)⟩
    (try clear HO191)
    (try clear BK181)
    (try clear BK182)
    (try clear HB)
    try rw [show ∀ (n_ : Nat) (p_ : Addr) (v_ : Value), (w37.drewN n_).setCell p_ v_ = (w37.setCell p_ v_).drewN n_ from fun _ _ _ => rfl]
    generalize (w37.setCell ⟨gb181, 1, none⟩ (.slice Ao38 t189.length co38)) = w40 at n0_ n1_ n2_ n3_ ⊢
    have HO191 := n0_; have BK181 := n1_; have BK182 := n2_; have HB := n3_; clear n0_ n1_ n2_ n3_; replace HO191 := Aside0.mk (Kd.R_drew HO191.out); replace BK181 := Aside0.mk (blk_drew BK181.out); replace BK182 := Aside0.mk (blk_drew BK182.out); replace HB := Aside0.mk (below_drew1 HB.out); have p8 : 0 ≤ (t188 : Int) := of_decide_eq_true (by first | (with_reducible assumption) | assumption); have q8 : t188 < (t183.size : Int) := of_decide_eq_true (by first | (with_reducible assumption) | assumption); have hx8 := bt_at t183 t188; replace p8 := eq_true p8; replace q8 := eq_true q8
    refine start_ (n := 11) (S := fun w' => w'.cell? ⟨gb181, 0, none⟩ = some (.string t183) ∧ w'.cell? ⟨gb181, 1, none⟩ = some (.slice Ao38 t189.length co38) ∧ w'.cell? ⟨gb181, 2, none⟩ = some (.int .i64 t184) ∧ w'.cell? ⟨gb181, 3, none⟩ = some (.int .i64 t185) ∧ w'.cell? ⟨gb181, 4, none⟩ = some (.int .i64 t186)) (ds := [10]) #[false, false, false, false, false, false, false, false, false, false, false] (by kernel_rfl) rfl rfl ⟨(blk_cell BK181.out 0).trans rfl, (blk_cell BK181.out 1).trans rfl, (blk_cell BK181.out 2).trans rfl, (blk_cell BK181.out 3).trans rfl, (blk_cell BK181.out 4).trans rfl⟩ (fun hHeld => ?_); refine with_tabW spec_enBack.tab4 spec_enBack.bits4 (fun HT_ HW_ => ?_)
    generalize w40.drew = w41 at HO191 BK181 BK182 HB hHeld ⊢
    refine pure_ (i := 0) (N := some 26) (v := ?_) (a' := ?_) (XSq.bA 11 1) rfl rfl (any_of HT_.out (by kernel_rfl)) (fun _ _ _ h => h) (Or.inl ⟨by rfl, ?_⟩) ?_ ?_
    rotate_left
    ·
     intro w'
     go_simp
     with_reducible rfl
    rotate_left
    ·
     simp only [Act.put, XSq.p1, XSq.p2, XSq.p3, i64_w, i32_w]
     rfl
    refine pure_ (i := 2) (N := some 28) (v := ?_) (a' := ?_) (XSq.bA 11 5) rfl rfl (any_of HT_.out (by kernel_rfl)) (fun _ _ _ h => h) (Or.inl ⟨by rfl, ?_⟩) ?_ ?_
    rotate_left
    ·
     intro w'
     go_simp
     with_reducible rfl
    rotate_left
    ·
     simp only [Act.put, XSq.p1, XSq.p2, XSq.p3, i64_w, i32_w]
     rfl
    refine pure_ (i := 4) (N := some 30) (v := ?_) (a' := ?_) (XSq.bA 11 21) rfl rfl (any_of HT_.out (by kernel_rfl)) (fun _ _ _ h => h) (Or.inl ⟨by rfl, ?_⟩) ?_ ?_
    rotate_left
    ·
     intro w'
     go_simp
     with_reducible rfl
    rotate_left
    ·
     simp only [Act.put, XSq.p1, XSq.p2, XSq.p3, i64_w, i32_w]
     rfl
    refine take_ (i := 1) (N := some 27) (v := ?_) (a' := ?_) (XSq.bA 11 23) rfl rfl (take_ofW HT_.out HW_.out (by kernel_rfl)) (fun _ _ _ h => h) (Or.inl ⟨by rfl, ?_⟩) hHeld ?_ ?_
    rotate_left
    ·
     rintro w' ⟨s0, s1, s2, s3, s4⟩
     go_simp
     with_reducible rfl
    rotate_left
    ·
     simp only [Act.put, XSq.p1, XSq.p2, XSq.p3, i64_w, i32_w]
     rfl
    refine take_ (i := 3) (N := some 29) (v := ?_) (a' := ?_) (XSq.bA 11 31) rfl rfl (take_ofW HT_.out HW_.out (by kernel_rfl)) (fun _ _ _ h => h) (Or.inl ⟨by rfl, ?_⟩) hHeld ?_ ?_
    rotate_left
    ·
     rintro w' ⟨s0, s1, s2, s3, s4⟩
     go_simp
     with_reducible rfl
    rotate_left
    ·
     simp only [Act.put, XSq.p1, XSq.p2, XSq.p3, i64_w, i32_w]
     rfl
    refine take_ (i := 5) (N := some 31) (v := ?_) (a' := ?_) (XSq.bA 11 63) rfl rfl (take_ofW HT_.out HW_.out (by kernel_rfl)) (fun _ _ _ h => h) (Or.inl ⟨by rfl, ?_⟩) hHeld ?_ ?_
    rotate_left
    ·
     rintro w' ⟨s0, s1, s2, s3, s4⟩
     go_simp
     with_reducible rfl
    rotate_left
    ·
     simp only [Act.put, XSq.p1, XSq.p2, XSq.p3, i64_w, i32_w]
     rfl
    refine one_ (i := 6) (N := some 32) (XSq.bA 11 127) rfl rfl (one_of HT_.out (by kernel_rfl)) (by decide) (fun K hK => ?_)
    refine goes_ Tryd.func38 (by kernel_rfl) rfl #[.int .u8 (bt t183 t188)] (by rfl) rfl rfl (by (try simp only [List.map_toArray, List.map_cons, List.map_nil]); first | done | rfl | (simp only [List.length_drop, List.length_take]; rfl)) ?_
    with_reducible refine (spec_woTurn.calls (bt t183 t188) t192 _ A9.out).mono ?_
    rintro e w' ⟨rfl, ⟨nd, rfl⟩⟩
    refine ⟨_, rfl, ?_⟩
    refine hK.out _ _ ⟨(blk_cell BK181.out 0).trans rfl, (blk_cell BK181.out 1).trans rfl, (blk_cell BK181.out 2).trans rfl, (blk_cell BK181.out 3).trans rfl, (blk_cell BK181.out 4).trans rfl⟩ (fun hHeld => ?_)
    clear hK K
    refine norm_ (a' := ?_) ?_ ?_
    rotate_left
    ·
     show Act.put _ (some 32) _ = _
     simp only [Act.put, XSq.p1, XSq.p2, XSq.p3, i64_w, i32_w]
     rfl
    refine pure_ (i := 7) (N := some 33) (v := ?_) (a' := ?_) (XSq.bA 11 255) rfl rfl (any_of HT_.out (by kernel_rfl)) (fun _ _ _ h => h) (Or.inl ⟨by rfl, ?_⟩) ?_ ?_
    rotate_left
    ·
     intro w'
     go_simp
     with_reducible rfl
    rotate_left
    ·
     simp only [Act.put, XSq.p1, XSq.p2, XSq.p3, i64_w, i32_w]
     rfl
    refine one_ (i := 8) (N := some 34) (XSq.bA 11 511) rfl rfl (one_of HT_.out (by kernel_rfl)) (by decide) (fun K hK => ?_)
    refine goes_ Tryd.func36 (by kernel_rfl) rfl #[.int .i64 (wrap64 (t186 - t192)), .int .i64 4] (by rfl) rfl rfl (by (try simp only [List.map_toArray, List.map_cons, List.map_nil]); first | done | rfl | (simp only [List.length_drop, List.length_take]; rfl)) ?_
    with_reducible refine (spec_l1Mod.calls (wrap64 (t186 - t192)) 4 t193 _ A10.out).mono ?_
    rintro e w' ⟨rfl, ⟨nd, rfl⟩⟩
    refine ⟨_, rfl, ?_⟩
    refine hK.out _ _ ⟨(blk_cell BK181.out 0).trans rfl, (blk_cell BK181.out 1).trans rfl, (blk_cell BK181.out 2).trans rfl, (blk_cell BK181.out 3).trans rfl, (blk_cell BK181.out 4).trans rfl⟩ (fun hHeld => ?_)
    clear hK K
    refine norm_ (a' := ?_) ?_ ?_
    rotate_left
    ·
     show Act.put _ (some 34) _ = _
     simp only [Act.put, XSq.p1, XSq.p2, XSq.p3, i64_w, i32_w]
     rfl
    refine pure_ (i := 9) (N := some 35) (v := ?_) (a' := ?_) (XSq.bA 11 1023) rfl rfl (any_of HT_.out (by kernel_rfl)) (fun _ _ _ h => h) (Or.inl ⟨by rfl, ?_⟩) ?_ ?_
    rotate_left
    ·
     intro w'
     go_simp
     with_reducible rfl
    rotate_left
    ·
     simp only [Act.put, XSq.p1, XSq.p2, XSq.p3, i64_w, i32_w]
     rfl
    refine last_ (i := 10) (N := none) (XSq.bA 11 2047) rfl rfl (one_of HT_.out (by kernel_rfl)) (by decide) (fun K hK => ?_)
    have hs42 : w41.cell? ⟨gb181, 4, none⟩ = some (.int .i64 t186) := (blk_cell BK181.out 4).trans rfl; have hfs42 := blk_frozen BK181.out 4; have hns42_1 := NB182_181.out; have hms42_1 := NB181_182.out
    refine skip_ (w1 := ?_) (by rfl) rfl ?_ ?_
    rotate_left
    ·
     go_simp
     rfl
    refine hK.out _ _ ?_
    clear hK K
    refine done_ (done_of HT_.out (by kernel_rfl)) ?_
    have hcz43_0 := XSq.ck BK181 0; have hcz43_1 := XSq.ck BK181 1; have hcz43_2 := XSq.ck BK181 2; have hcz43_3 := XSq.ck BK181 3; have hcz43_4 := XSq.ck BK181 4; have hfz43_0 := blk_frozen BK181.out 0; have hfz43_1 := blk_frozen BK181.out 1; have hfz43_2 := blk_frozen BK181.out 2; have hfz43_3 := blk_frozen BK181.out 3; have hfz43_4 := blk_frozen BK181.out 4
    try go_wp2_with (first | ((with_reducible refine gate_callee (f := 29) rfl ?_); refine goesL_ (some 37) rfl rfl Tryd.func29 (by kernel_rfl) rfl #[.agg #[.string t183, .slice Ao38 t189.length co38, .int .i64 t184, .int .i64 t185, .int .i64 t193]] rfl (by (try simp only [List.map_toArray, List.map_cons, List.map_nil]); first | done | rfl | (simp only [List.length_drop, List.length_take]; rfl)) ?_; (with_reducible refine (spec_enGood.calls k t183 _ _ t189 t184 t185 t193 false _ ?side1 ?side2 A11.out).mono ?_); (case side1 => refine (Kd.R_reads' (e := 60) (base := w.heap.size) (ok := fun k_ => True) (n := t189.length) (c := co38) ?_).2.2; exact (by (with_reducible repeat (first | apply Kd.R_alloc | apply Kd.R_drewN | apply Kd.R_drew)); exact (Kd.R_mono (Kd.R_far (p := ⟨gb181, 4, none⟩) (Kd.R_types HO191.out BK181.out (by decide)) (fun _ hk => hk.2) (.int .i64 t193)) (fun _ h_ => h_.1)))); (case side2 => exact (Kd.R_reads' HO191.out).2.1); rintro e w44 ⟨rfl, hb⟩; refine ⟨_, rfl, ?_⟩; have n0_ := Aside0.mk (Kd.R_below (by (with_reducible repeat (first | apply Kd.R_alloc | apply Kd.R_drewN | apply Kd.R_drew)); exact (Kd.R_mono (Kd.R_far (p := ⟨gb181, 4, none⟩) (Kd.R_types HO191.out BK181.out (by decide)) (fun _ hk => hk.2) (.int .i64 t193)) (fun _ h_ => h_.1))) hb); have n1_ := Aside0.mk (blk_below (g := gb181) (o := .cells #[.string t183, .slice Ao38 t189.length co38, .int .i64 t184, .int .i64 t185, .int .i64 t193] 28 (0, 0)) (by (with_reducible repeat (first | refine blk_drewN ?_ _ | refine blk_drew ?_ | refine blk_alloc ?_ _)); refine blk_put (cs := #[.string t183, .slice Ao38 t189.length co38, .int .i64 t184, .int .i64 t185, .int .i64 t186]) ?_ 4 _ rfl; (with_reducible repeat (first | refine blk_drewN ?_ _ | refine blk_drew ?_ | refine blk_alloc ?_ _)); exact BK181.out) hb); have n2_ := Aside0.mk (blk_below (g := gb182) (o := .cells #[.string ⟨#[]⟩, .slice none 0 0, .int .i64 0, .int .i64 0, .int .i64 0] 28 (0, 0)) (by (with_reducible repeat (first | refine blk_drewN ?_ _ | refine blk_drew ?_ | refine blk_alloc ?_ _)); refine blk_far ?_ NB182_181.out _; (with_reducible repeat (first | refine blk_drewN ?_ _ | refine blk_drew ?_ | refine blk_alloc ?_ _)); exact BK182.out) hb); have n3_ := Aside0.mk (below_step (XSq.bB HB) hb); clear HO191; clear BK181; clear BK182; clear HB; have HO191 := n0_; have BK181 := n1_; have BK182 := n2_; have HB := n3_; clear n0_ n1_ n2_ n3_; clear hb; (try clear hb2); (try clear hk); (try clear hi); have hcz45_0 := XSq.ck BK182 0; have hcz45_1 := XSq.ck BK182 1; have hcz45_2 := XSq.ck BK182 2; have hcz45_3 := XSq.ck BK182 3; have hcz45_4 := XSq.ck BK182 4; have hfz45_0 := blk_frozen BK182.out 0; have hfz45_1 := blk_frozen BK182.out 1; have hfz45_2 := blk_frozen BK182.out 2; have hfz45_3 := blk_frozen BK182.out 3; have hfz45_4 := blk_frozen BK182.out 4))
    refine bodyPost_ret (results_ct rfl _ _ gb182 28 #[.string ⟨#[]⟩, .slice none 0 0, .int .i64 0, .int .i64 0, .int .i64 0] (0, 0) _ rfl (by (with_reducible repeat (first | refine blk_drewN ?_ _ | refine blk_drew ?_ | refine blk_alloc ?_ _)); refine blk_put (cs := #[.string ⟨#[]⟩, .slice none 0 0, .int .i64 0, .int .i64 0, .int .i64 0]) ?_ 4 _ rfl; (with_reducible repeat (first | refine blk_drewN ?_ _ | refine blk_drew ?_ | refine blk_alloc ?_ _)); refine blk_put (cs := #[.string ⟨#[]⟩, .slice none 0 0, .int .i64 0, .int .i64 0, .int .i64 0]) ?_ 3 _ rfl; (with_reducible repeat (first | refine blk_drewN ?_ _ | refine blk_drew ?_ | refine blk_alloc ?_ _)); refine blk_put (cs := #[.string ⟨#[]⟩, .slice none 0 0, .int .i64 0, .int .i64 0, .int .i64 0]) ?_ 2 _ rfl; (with_reducible repeat (first | refine blk_drewN ?_ _ | refine blk_drew ?_ | refine blk_alloc ?_ _)); refine blk_put (cs := #[.string ⟨#[]⟩, .slice none 0 0, .int .i64 0, .int .i64 0, .int .i64 0]) ?_ 1 _ rfl; (with_reducible repeat (first | refine blk_drewN ?_ _ | refine blk_drew ?_ | refine blk_alloc ?_ _)); refine blk_put (cs := #[.string ⟨#[]⟩, .slice none 0 0, .int .i64 0, .int .i64 0, .int .i64 0]) ?_ 0 _ rfl; (with_reducible repeat (first | refine blk_drewN ?_ _ | refine blk_drew ?_ | refine blk_alloc ?_ _)); exact BK182.out) Tryd.underlying28 rfl (by kernel_rfl)) rfl ?_
    exact ⟨_, by first | rfl | (simp [errW_none, errW_some] <;> rfl) | (simp [*, errW_none, errW_some] <;> rfl), by first | exact Kd.R_nil _ _ _ _ _ | exact Kd.N_nil _ _ _ _ _ | exact Kd.V_nil _ _ _ _ _ | exact Kd.Q_nil _ _ _ _ _ | exact Kd.S_nil _ _ _ _ _, by repeat (first | (with_reducible first | exact HB.out | apply below_alloc | apply pw_below_drewN | apply below_drew1 | refine below_set ?_ GE181.out | refine below_set ?_ GE182.out) | exact HB.out)⟩
  ·
   rw [if_neg c7] at H
   exact absurd H (by simp)
 ·
  rw [if_neg c6] at H
  exact absurd H (by simp)

end Go.Proofs.YtfhplgiblknfcaaDoor.PFnExactPlainBefore
