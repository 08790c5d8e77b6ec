-- Made by wip/tools/xkit.py (a program of this session's) with the kit's printer.
import Derived.Test.YtdicnggfigedoaaGreatDoorPFnExactTurnMazex0
import Derived.Test.YtdicnggfigedoaaGreatDoorPFnExactTurnMazex2
namespace Go.Proofs.YtdicnggfigedoaaGreatDoor.PFnExactTurnMaze
open Go.RowKit Go.Proofs.YtdicnggfigedoaaGreatDoorW.PrintWords Go.Proofs.YtdicnggfigedoaaGreatDoorW.PrintLast Go.Proofs.YtdicnggfigedoaaGreatDoorW.PrintMore
attribute [local go_sem] max2_int min2_int max_two min_two max_three min_three max_four min_four   -- for this text's walks alone
set_option linter.unusedVariables false
set_option linter.unusedSimpArgs false

/-! ### impl_moved: function 24 -/
def impl_moved.l0 : Nat → ByteArray → Int → Int → Int → List Int → Int → Int → Option (ByteArray)
  | 0, _, _, _, _, _, _, _ => none
  | k + 1, x0, x1, x2, x4, x11, x20, x21 => if x21 < x20 then (if x1 = 0 then (none) else ((impl_TurnMaze_1.f (Int.tmod x21 x1) (wrap64 (Int.tdiv x21 x1)) x4).bind fun bt123 => (if 0 ≤ x21 then (if x21 < (x0.size : Int) then (if 0 ≤ (wrap64 ((wrap64 (bt123.2 * x2)) + bt123.1)) then (if (wrap64 ((wrap64 (bt123.2 * x2)) + bt123.1)) < (x11.length : Int) then (impl_moved.l0 k x0 x1 x2 x4 (x11.set ((wrap64 ((wrap64 (bt123.2 * x2)) + bt123.1)) : Int).toNat (bt x0 x21)) x20 (wrap64 (x21 + 1))) else (none)) else (none)) else (none)) else (none)))) else (some (strOfNums x11))
def impl_moved.f (k : Nat) (a0 : ByteArray) (a1 : Int) (a2 : Int) (a3 : Int) (a4 : Int) : Option (ByteArray) := if 0 ≤ (wrap64 (a2 * a3)) then (if (wrap64 (a2 * a3) : Int).toNat ≤ 281474976710656 then (impl_moved.l0 k a0 a1 a2 a4 (List.replicate (wrap64 (a2 * a3) : Int).toNat 0) (a0.size : Int) 0) else (none)) else (none)
theorem impl_moved.mono_l : ∀ k, (∀ y0 y1 y2 y3 y4 y5 y6, LeO (impl_moved.l0 k y0 y1 y2 y3 y4 y5 y6) (impl_moved.l0 (k + 1) y0 y1 y2 y3 y4 y5 y6))
  | 0 => fun _ _ _ _ _ _ _ r h => by simp [impl_moved.l0] at h
  | k + 1 => by
    have ih0 := impl_moved.mono_l k
    · intro y0 y1 y2 y3 y4 y5 y6
      unfold impl_moved.l0
      repeat' first
      | (with_reducible exact ih0 _ _ _ _ _ _ _)
      | (with_reducible exact LeO.refl _)
      | (with_reducible exact LeO.none _)
      | (with_reducible refine LeO.ite ?_ ?_)
      | (with_reducible refine LeO.bind ?_ (fun _ => ?_))
      | exact ih0 _ _ _ _ _ _ _
      | exact LeO.none _
      | refine LeO.ite ?_ ?_
      | refine LeO.bind ?_ (fun _ => ?_)
theorem impl_moved.mono : ∀ a0 a1 a2 a3 a4 k, LeO (impl_moved.f k a0 a1 a2 a3 a4) (impl_moved.f (k + 1) a0 a1 a2 a3 a4) := by
  intro a0 a1 a2 a3 a4 k
  have ih0 := impl_moved.mono_l k
  unfold impl_moved.f
  repeat' first
      | (with_reducible exact ih0 _ _ _ _ _ _ _)
      | (with_reducible exact LeO.refl _)
      | (with_reducible exact LeO.none _)
      | (with_reducible refine LeO.ite ?_ ?_)
      | (with_reducible refine LeO.bind ?_ (fun _ => ?_))
      | exact ih0 _ _ _ _ _ _ _
      | exact LeO.none _
      | refine LeO.ite ?_ ?_
      | refine LeO.bind ?_ (fun _ => ?_)
def impl_moved.T5 : Bool × List (List Nat × List Nat) := (true, [([], []), ([], []), ([], []), ([1, 2], [1, 2]), ([], []), ([], []), ([4, 5], [4, 5]), ([0, 3, 6], [0, 3, 6]), ([7], [7]), ([8], [8]), ([8], [8]), ([9, 7, 0, 1, 2, 3, 4, 5, 6, 7, 8, 9], [9]), ([10, 11, 0, 1, 2, 3, 4, 5, 6, 7, 8, 9, 10, 11], [10])])
def impl_moved.B5 : List Nat := [0, 0, 0, 6, 0, 0, 48, 127, 255, 511, 511, 1023, 4095]
theorem impl_moved.tab5 : rtab .any (opsOf Tryz.f24 5) = impl_moved.T5 := by kernel_rfl
theorem impl_moved.bits5 : waitsOk impl_moved.T5.2 impl_moved.B5 = true := by kernel_rfl
set_option maxHeartbeats 8000000 in
set_option maxRecDepth 100000 in
theorem impl_moved.calls (k : Nat) (a0 : ByteArray) (a1 : Int) (a2 : Int) (a3 : Int) (a4 : Int) (r : ByteArray) (B_ : Nat) (w : World) (hcap : w.cell? ⟨B_, 0, none⟩ = some (.int .i64 a4)) (h : impl_moved.f k a0 a1 a2 a3 a4 = some r) :
    Calls Tryz.prog 24 #[.string a0, .int .i64 a1, .int .i64 a2, .int .i64 a3, .func (.func 27) #[] #[.pointer (some ⟨B_, 0, none⟩)]] w fun e w' => e = .returned (.string r) ∧ Below w.heap.size w w' := by
  have HCAP := Aside0.mk hcap
  clear hcap
  have HB := Aside0.mk (Below.refl w.heap.size w)
  have H : (if 0 ≤ (wrap64 (a2 * a3)) then (if (wrap64 (a2 * a3) : Int).toNat ≤ 281474976710656 then (impl_moved.l0 k a0 a1 a2 a4 (List.replicate (wrap64 (a2 * a3) : Int).toNat 0) (a0.size : Int) 0) else (none)) else (none)) = some r := h
  clear h
  obtain ⟨ji6, hji6⟩ : ∃ j_ : Int, (wrap64 (a2 * a3)) = j_ := ⟨_, rfl⟩
  replace H : (if 0 ≤ (ji6) then (if (ji6 : Int).toNat ≤ 281474976710656 then (impl_moved.l0 k a0 a1 a2 a4 (List.replicate (ji6 : Int).toNat 0) (a0.size : Int) 0) else (none)) else (none)) = some r := by first | (rw [hji6] at H; exact H) | (simp only [hji6] at H ⊢; exact H)
  have hji6w : (IntKind.i64.wrap (a2 * a3)) = ji6 := (i64_w _).trans hji6
  by_cases c7 : 0 ≤ (ji6)
  · rw [if_pos c7] at H
    have c7b0 := eq_true c7
    have c7b1 : decide (0 ≤ (ji6)) = true := decide_eq_true c7
    clear c7
    by_cases c8 : (ji6 : Int).toNat ≤ 281474976710656
    · rw [if_pos c8] at H
      have c8b0 := eq_true c8
      have c8b1 : decide ((ji6 : Int).toNat ≤ 281474976710656) = true := decide_eq_true c8
      clear c8
      obtain ⟨y120, hy120⟩ : ∃ y_ : List Int, y_ = (List.replicate (ji6 : Int).toNat 0) := ⟨_, rfl⟩
      replace H : (impl_moved.l0 k a0 a1 a2 a4 y120 (a0.size : Int) 0) = some r := by first | (rw [hy120]; with_reducible exact H) | (have H2_ := (Option.bind_some _ _).symm.trans H; rw [hy120]; with_reducible exact H2_) | (have H2_ := (Option.bind_some _ _).symm.trans H; with_reducible exact H2_) | with_reducible exact H | (rw [hy120]; exact H) | exact H
      have Ny120 := Aside0.mk hy120
      clear hy120
      have H' := Aside0.mk H
      clear H
      have eg : ∀ args w, (callFunc 27 args).run Tryz.prog w = .ok (.enter 27 args) w := enters_of Tryz.func27 (by kernel_rfl) rfl
      go_enter Tryz.func24, Tryz.ntmps24
      go_wp2_with (first | ((with_reducible refine gate_dst (N := 18) rfl ?_); refine Kd.R_make (Kd.int .u8) _ 5 rfl (N := 18) rfl 54 _ _ rfl ji6 rfl rfl Tryz.underlying54 (.int .u8 0) 1 info5 rfl (by decide) (by omega) 0 (ok := fun _ => True) (okp := fun _ => True) rfl (fun _ hk => hk) trivial (of_decide_eq_true (by first | (with_reducible assumption) | assumption)) (Nat.le_trans (Nat.mul_le_mul_right _ (of_decide_eq_true (by first | (with_reducible assumption) | assumption) : ji6.toNat ≤ 281474976710656)) (by omega)) (Below.refl _ _) (Nat.le_refl _) ?_; intro v121 w9 ho10 hb hg_ hnew_; clear hg_ hnew_; (first | rw [← Ny120.out] at ho10 | (simp only [Int.reduceToNat] at ho10; rw [← Ny120.out] at ho10)); have n0_ := Aside0.mk (Kd.R_lower ho10 (below_size (XSq.bB HB))); have n1_ := Aside0.mk (below_step (XSq.bB HB) hb); clear HB; have HO122 := n0_; have HB := n1_; clear n0_ n1_; clear hb ho10))
      go_loopg [21] k (fun kq v21 w' => ∃ (x11_1 : List Int) (x21_1 : Int), v21 = .int .i64 x21_1 ∧ Aside0 (impl_moved.l0 kq a0 a1 a2 a4 x11_1 (a0.size : Int) x21_1 = some r) ∧ Aside0 (kq ≤ k) ∧ Aside0 (Kd.R (Kd.int .u8) 5 w' w.heap.size (fun _ => True) v121 x11_1) ∧ Aside0 (Below w.heap.size w w'))
      case atStart => exact ⟨(y120), (0), (by first | rfl | (simp; done) | (simp [*]; done)), H', ⟨Nat.le_refl _⟩, ⟨by (with_reducible repeat (first | apply Kd.R_alloc | apply Kd.R_drewN | apply Kd.R_drew)); exact HO122.out⟩, ⟨by repeat (first | (with_reducible first | exact HB.out | apply below_alloc | apply pw_below_drewN | apply below_drew1) | exact HB.out)⟩⟩
      case round =>
        clear H'
        try clear c2
        try clear p2
        try clear p6
        try clear c7
        try clear c7b0
        try clear c7b1
        try clear c8
        try clear c8b0
        try clear c8b1
        obtain ⟨x11_1, x21_1, rfl, HA, HK1, HO_11, HB⟩ := hrel
        cases gk with
        | zero => exact absurd HA.out (by simp [impl_moved.l0])
        | succ k1 =>
          have H := HA.out
          clear HA
          simp only [impl_moved.l0] at H
          by_cases c11 : x21_1 < (a0.size : Int)
          · rw [if_pos c11] at H
            have c11b0 : decide (x21_1 < (a0.size : Int)) = true := decide_eq_true c11
            clear c11
            by_cases c12 : a1 = 0
            · rw [if_pos c12] at H
              exact absurd H (by simp)
            · rw [if_neg c12] at H
              have c12b0 : (a1 == 0) = false := beq_eq_false_iff_ne.mpr c12
              have c12b1 : (a1 != 0) = true := bne_iff_ne.mpr c12
              replace H := Option.bind_eq_some_iff.mp H
              obtain ⟨⟨t123, t124⟩, A130, H⟩ := H
              replace H : (if 0 ≤ x21_1 then (if x21_1 < (a0.size : Int) then (if 0 ≤ (wrap64 ((wrap64 (t124 * a2)) + t123)) then (if (wrap64 ((wrap64 (t124 * a2)) + t123)) < (x11_1.length : Int) then (impl_moved.l0 k1 a0 a1 a2 a4 (x11_1.set ((wrap64 ((wrap64 (t124 * a2)) + t123)) : Int).toNat (bt a0 x21_1)) (a0.size : Int) (wrap64 (x21_1 + 1))) else (none)) else (none)) else (none)) else (none)) = some r := H
              have A13 := Aside0.mk A130
              clear A130
              by_cases c14 : 0 ≤ x21_1
              · rw [if_pos c14] at H
                have c14b0 : decide (0 ≤ x21_1) = true := decide_eq_true c14
                clear c14
                by_cases c15 : x21_1 < (a0.size : Int)
                · rw [if_pos c15] at H
                  have c15b0 : decide (x21_1 < (a0.size : Int)) = true := decide_eq_true c15
                  clear c15
                  obtain ⟨ji17, hji17⟩ : ∃ j_ : Int, (wrap64 ((wrap64 (t124 * a2)) + t123)) = j_ := ⟨_, rfl⟩
                  replace H : (if 0 ≤ (ji17) then (if (ji17) < (x11_1.length : Int) then (impl_moved.l0 k1 a0 a1 a2 a4 (x11_1.set ((ji17) : Int).toNat (bt a0 x21_1)) (a0.size : Int) (wrap64 (x21_1 + 1))) else (none)) else (none)) = some r := by first | (rw [hji17] at H; exact H) | (simp only [hji17] at H ⊢; exact H)
                  (try rw [hji17] at A13)
                  have hji17w : (IntKind.i64.wrap ((wrap64 (t124 * a2)) + t123)) = ji17 := (i64_w _).trans hji17
                  by_cases c18 : 0 ≤ (ji17)
                  · rw [if_pos c18] at H
                    have c18b0 : decide (0 ≤ (ji17)) = true := decide_eq_true c18
                    clear c18
                    by_cases c19 : (ji17) < (x11_1.length : Int)
                    · rw [if_pos c19] at H
                      have c19b0 : decide ((ji17) < (x11_1.length : Int)) = true := decide_eq_true c19
                      clear c19
                      obtain ⟨y125, hy125⟩ : ∃ y_ : List Int, y_ = (x11_1.set ((ji17) : Int).toNat (bt a0 x21_1)) := ⟨_, rfl⟩
                      replace H : (impl_moved.l0 k1 a0 a1 a2 a4 y125 (a0.size : Int) (wrap64 (x21_1 + 1))) = some r := by first | (rw [hy125]; with_reducible exact H) | (have H2_ := (Option.bind_some _ _).symm.trans H; rw [hy125]; with_reducible exact H2_) | (have H2_ := (Option.bind_some _ _).symm.trans H; with_reducible exact H2_) | with_reducible exact H | (rw [hy125]; exact H) | exact H
                      have Ny125 := Aside0.mk hy125
                      clear hy125
                      have H' := Aside0.mk H
                      clear H
                      try go_wp2
                      have n0_ := Aside0.mk (Kd.R_drew HO_11.out)
                      have n1_ := Aside0.mk (below_drew1 HB.out)
                      clear HO_11
                      clear HB
                      have HO_11 := n0_
                      have HB := n1_
                      clear n0_ n1_
                      refine start_ (n := 13) (S := fun w' => True) (ds := []) #[false, false, false, false, false, false, false, false, false, false, false, false, false] (by kernel_rfl) rfl rfl trivial (fun hHeld => ?_); refine with_tabW impl_moved.tab5 impl_moved.bits5 (fun HT_ HW_ => ?_)
                      generalize wr.drew = w21 at HO_11 HB hHeld ⊢
                      refine pure_ (i := 0) (N := some 25) (v := ?_) (a' := ?_) #[true, false, false, false, false, false, false, false, false, false, false, false, false] rfl rfl (any_of HT_.out (by kernel_rfl)) (fun _ _ _ h => h) (Or.inl ⟨by rfl, ?_⟩) ?_ ?_
                      rotate_left
                      · intro w'
                        go_simp
                        with_reducible rfl
                      rotate_left
                      · simp only [Act.put, List.setIfInBounds_toArray, List.set_cons_zero, List.set_cons_succ, i64_w, i32_w]
                        rfl
                      refine pure_ (i := 1) (N := some 26) (v := ?_) (a' := ?_) #[true, true, false, false, false, false, false, false, false, false, false, false, false] rfl rfl (any_of HT_.out (by kernel_rfl)) (fun _ _ _ h => h) (Or.inl ⟨by rfl, ?_⟩) ?_ ?_
                      rotate_left
                      · intro w'
                        go_simp
                        with_reducible rfl
                      rotate_left
                      · simp only [Act.put, List.setIfInBounds_toArray, List.set_cons_zero, List.set_cons_succ, i64_w, i32_w]
                        rfl
                      refine pure_ (i := 2) (N := some 27) (v := ?_) (a' := ?_) #[true, true, true, false, false, false, false, false, false, false, false, false, false] rfl rfl (any_of HT_.out (by kernel_rfl)) (fun _ _ _ h => h) (Or.inl ⟨by rfl, ?_⟩) ?_ ?_
                      rotate_left
                      · intro w'
                        go_simp
                        with_reducible rfl
                      rotate_left
                      · simp only [Act.put, List.setIfInBounds_toArray, List.set_cons_zero, List.set_cons_succ, i64_w, i32_w]
                        rfl
                      refine pure_ (i := 3) (N := some 28) (v := ?_) (a' := ?_) #[true, true, true, true, false, false, false, false, false, false, false, false, false] rfl rfl (any_of HT_.out (by kernel_rfl)) (fun _ _ _ h => h) (Or.inl ⟨by rfl, ?_⟩) ?_ ?_
                      rotate_left
                      · intro w'
                        go_simp
                        with_reducible rfl
                      rotate_left
                      · simp only [Act.put, List.setIfInBounds_toArray, List.set_cons_zero, List.set_cons_succ, i64_w, i32_w]
                        rfl
                      refine pure_ (i := 4) (N := some 29) (v := ?_) (a' := ?_) #[true, true, true, true, true, false, false, false, false, false, false, false, false] rfl rfl (any_of HT_.out (by kernel_rfl)) (fun _ _ _ h => h) (Or.inl ⟨by rfl, ?_⟩) ?_ ?_
                      rotate_left
                      · intro w'
                        go_simp
                        with_reducible rfl
                      rotate_left
                      · simp only [Act.put, List.setIfInBounds_toArray, List.set_cons_zero, List.set_cons_succ, i64_w, i32_w]
                        rfl
                      refine pure_ (i := 5) (N := some 30) (v := ?_) (a' := ?_) #[true, true, true, true, true, true, false, false, false, false, false, false, false] rfl rfl (any_of HT_.out (by kernel_rfl)) (fun _ _ _ h => h) (Or.inl ⟨by rfl, ?_⟩) ?_ ?_
                      rotate_left
                      · intro w'
                        go_simp
                        with_reducible rfl
                      rotate_left
                      · simp only [Act.put, List.setIfInBounds_toArray, List.set_cons_zero, List.set_cons_succ, i64_w, i32_w]
                        rfl
                      refine pure_ (i := 6) (N := some 31) (v := ?_) (a' := ?_) #[true, true, true, true, true, true, true, false, false, false, false, false, false] rfl rfl (any_of HT_.out (by kernel_rfl)) (fun _ _ _ h => h) (Or.inl ⟨by rfl, ?_⟩) ?_ ?_
                      rotate_left
                      · intro w'
                        go_simp
                        with_reducible rfl
                      rotate_left
                      · simp only [Act.put, List.setIfInBounds_toArray, List.set_cons_zero, List.set_cons_succ, i64_w, i32_w]
                        rfl
                      refine one_ (i := 7) (N := some 32) #[true, true, true, true, true, true, true, true, false, false, false, false, false] rfl rfl (one_of HT_.out (by kernel_rfl)) (by decide) (fun K hK => ?_)
                      refine XRing.goesV_ Tryz.func27 (by kernel_rfl) rfl #[.int .i64 (Int.tmod x21_1 a1), .int .i64 (wrap64 (Int.tdiv x21_1 a1))] (by rfl) rfl rfl rfl (by (try simp only [List.map_toArray, List.map_cons, List.map_nil]); first | done | rfl | (simp only [List.length_drop, List.length_take]; rfl)) ?_
                      show Calls _ _ #[.int .i64 (Int.tmod x21_1 a1), .int .i64 (wrap64 (Int.tdiv x21_1 a1)), .pointer (some ⟨B_, 0, none⟩)] _ _
                      with_reducible refine (impl_TurnMaze_1.calls (Int.tmod x21_1 a1) (wrap64 (Int.tdiv x21_1 a1)) a4 t123 t124 B_ _ (by exact pw_cell_below HB.out HCAP.out) A13.out).mono ?_
                      rintro e w22 ⟨rfl, hb⟩
                      refine ⟨_, rfl, ?_⟩
                      have n0_ := Aside0.mk (Kd.R_below (by (with_reducible repeat (first | apply Kd.R_alloc | apply Kd.R_drewN | apply Kd.R_drew)); exact HO_11.out) hb)
                      have n1_ := Aside0.mk (below_step (XSq.bB HB) hb)
                      clear HO_11
                      clear HB
                      have HO_11 := n0_
                      have HB := n1_
                      clear n0_ n1_
                      (try clear hb)
                      (try clear hb2)
                      (try clear hk)
                      (try clear hi)
                      refine hK.out _ _ trivial (fun hHeld => ?_)
                      clear hK K
                      refine norm_ (a' := ?_) ?_ ?_
                      rotate_left
                      · show Act.put _ (some 32) _ = _
                        simp only [Act.put, List.setIfInBounds_toArray, List.set_cons_zero, List.set_cons_succ, i64_w, i32_w]
                        rfl
                      refine pure_ (i := 8) (N := some 24) (v := ?_) (a' := ?_) #[true, true, true, true, true, true, true, true, true, false, false, false, false] rfl rfl (any_of HT_.out (by kernel_rfl)) (fun _ _ _ h => h) (Or.inl ⟨by rfl, ?_⟩) ?_ ?_
                      rotate_left
                      · intro w'
                        go_simp
                        with_reducible rfl
                      rotate_left
                      · simp only [Act.put, List.setIfInBounds_toArray, List.set_cons_zero, List.set_cons_succ, i64_w, i32_w]
                        rfl
                      refine pure_ (i := 9) (N := some 33) (v := ?_) (a' := ?_) #[true, true, true, true, true, true, true, true, true, true, false, false, false] rfl rfl (any_of HT_.out (by kernel_rfl)) (fun _ _ _ h => h) (Or.inl ⟨by rfl, ?_⟩) ?_ ?_
                      rotate_left
                      · intro w'
                        go_simp
                        with_reducible rfl
                      rotate_left
                      · simp only [Act.put, List.setIfInBounds_toArray, List.set_cons_zero, List.set_cons_succ, i64_w, i32_w]
                        rfl
                      refine pure_ (i := 10) (N := some 34) (v := ?_) (a' := ?_) #[true, true, true, true, true, true, true, true, true, true, true, false, false] rfl rfl (any_of HT_.out (by kernel_rfl)) (fun _ _ _ h => h) (Or.inl ⟨by rfl, ?_⟩) ?_ ?_
                      rotate_left
                      · intro w'
                        go_simp
                        with_reducible rfl
                      rotate_left
                      · simp only [Act.put, List.setIfInBounds_toArray, List.set_cons_zero, List.set_cons_succ, i64_w, i32_w]
                        rfl
                      refine pure_ (i := 11) (N := some 13) (v := ?_) (a' := ?_) #[true, true, true, true, true, true, true, true, true, true, true, true, false] rfl rfl (any_of HT_.out (by kernel_rfl)) (fun _ _ _ h => h) (Or.inl ⟨by rfl, ?_⟩) ?_ ?_
                      rotate_left
                      · intro w'
                        go_simp
                        with_reducible rfl
                      rotate_left
                      · simp only [Act.put, List.setIfInBounds_toArray, List.set_cons_zero, List.set_cons_succ, i64_w, i32_w]
                        rfl
                      refine pure_ (i := 12) (N := some 14) (v := ?_) (a' := ?_) #[true, true, true, true, true, true, true, true, true, true, true, true, true] rfl rfl (any_of HT_.out (by kernel_rfl)) (fun _ _ _ h => h) (Or.inl ⟨by rfl, ?_⟩) ?_ ?_
                      rotate_left
                      · intro w'
                        go_simp
                        with_reducible rfl
                      rotate_left
                      · simp only [Act.put, List.setIfInBounds_toArray, List.set_cons_zero, List.set_cons_succ, i64_w, i32_w]
                        rfl
                      refine done_ (done_of HT_.out (by kernel_rfl)) ?_
                      have p16 : 0 ≤ (x21_1 : Int) := of_decide_eq_true (by first | (with_reducible assumption) | assumption)
                      have q16 : x21_1 < (a0.size : Int) := of_decide_eq_true (by first | (with_reducible assumption) | assumption)
                      have hx16 := bt_at a0 x21_1
                      replace p16 := eq_true p16
                      replace q16 := eq_true q16
                      have p20 : 0 ≤ ((ji17) : Int) := of_decide_eq_true (by first | (with_reducible assumption) | assumption)
                      have q20 : ((ji17) : Int) < ((x11_1.length : Int) : Int) := of_decide_eq_true (by first | (with_reducible assumption) | assumption)
                      obtain ⟨go20, co20, eo20, gb20, gl20, cl20, HG20⟩ := Kd.R_form HO_11.out (by omega)
                      (first | cases eo20 | (injection eo20 with ea_ en_ ec_; (first | subst ea_ | (injection ea_ with ea_; subst ea_)); subst ec_; clear en_))
                      have GB20 := Aside0.mk gb20
                      have GG20 := Aside0.mk HG20
                      clear gb20 gl20 HG20
                      obtain ⟨hx20_0, hf20_0⟩ := Kd.R_celln 0 HO_11.out ((ji17) : Int) p20 q20
                      replace p20 := eq_true p20
                      replace q20 := eq_true q20
                      obtain ⟨hy23_, hz23_⟩ := Kd.R_celln 0 HO_11.out ((ji17) : Int) (of_decide_eq_true (by first | (with_reducible assumption) | assumption)) (of_decide_eq_true (by first | (with_reducible assumption) | assumption))
                      have HP23 := Kd.R_putg HO_11.out ((ji17) : Int) (bt a0 x21_1)
                      try go_wp2_with (first | ((with_reducible refine gate_store (t := 5) (p := 44) rfl ?_); refine store_event (t := 5) (p := 44) (v := ?vo_w24) (w1 := (w22.setCell ⟨go20, ((ji17) : Int).toNat, none⟩ (.int .u8 (bt a0 x21_1)))) ?hg ?ho ?hn ?hr ?_; (case ho => rfl); (case hg => rfl); (case hn => rfl); (case hr => first | (go_simp; done) | (go_simp; rfl)); intro w24 hw; have hg : w22.grownBy w24 (some go20) := (by rw [hw]; exact HP23.2); have hp_ : Kd.R (Kd.int .u8) 5 w24 w.heap.size (fun _ => True) (.slice (some ⟨go20, 0, none⟩) x11_1.length co20) y125 := (by rw [hw, Ny125.out]; exact HP23.1); clear HP23; have n0_ := Aside0.mk (hp_); have n1_ := Aside0.mk ((by rw [hw]; exact below_set (HB.out) GB20.out : Below w.heap.size w w24)); clear HO_11; clear HB; have HO_11 := n0_; have HB := n1_; clear n0_ n1_; clear hg hw hp_))
                      go_roundg k1
                      case measure => have := HK1.out; omega
                      case rel => exact ⟨(y125), (wrap64 (x21_1 + 1)), (by first | rfl | (simp; done) | (simp [*]; done)), H', ⟨by have := HK1.out; omega⟩, ⟨by (with_reducible repeat (first | apply Kd.R_alloc | apply Kd.R_drewN | apply Kd.R_drew)); exact HO_11.out⟩, ⟨by repeat (first | (with_reducible first | exact HB.out | apply below_alloc | apply pw_below_drewN | apply below_drew1) | exact HB.out)⟩⟩
                    · rw [if_neg c19] at H
                      exact absurd H (by simp)
                  · rw [if_neg c18] at H
                    exact absurd H (by simp)
                · rw [if_neg c15] at H
                  exact absurd H (by simp)
              · rw [if_neg c14] at H
                exact absurd H (by simp)
          · rw [if_neg c11] at H
            have c11b0 : decide (x21_1 < (a0.size : Int)) = false := decide_eq_false c11
            clear c11
            obtain rfl := Option.some.inj H
            have hcv25 := own_string (P := Tryz.prog) Tryz.underlying54 Tryz.underlying5 Tryz.underlying9 (Kd.own_of_R HO_11.out)
            go_wp2
            go_ret
            exact ⟨by first | rfl | (simp [errW_none, errW_some] <;> rfl) | (simp only [← hji6]; first | rfl | (simp [errW_none, errW_some] <;> rfl)) | (simp [*, errW_none, errW_some] <;> rfl), by repeat (first | (with_reducible first | exact HB.out | apply below_alloc | apply pw_below_drewN | apply below_drew1) | exact HB.out)⟩
    · rw [if_neg c8] at H
      exact absurd H (by simp)
  · rw [if_neg c7] at H
    exact absurd H (by simp)

/-! ### impl_exchanged: function 26, by hand -/
theorem impl_exchanged_disable (w : World) : (callFunc 92 #[]).run Tryz.prog w = .ok (.value (.tuple #[])) w := run_call_mark0 Tryz.func92 (by kernel_rfl) (by kernel_rfl) (by kernel_rfl) .disable (by kernel_rfl) w
theorem impl_exchanged_enable (w : World) : (callFunc 94 #[]).run Tryz.prog w = .ok (.value (.tuple #[])) w := run_call_mark0 Tryz.func94 (by kernel_rfl) (by kernel_rfl) (by kernel_rfl) .enable (by kernel_rfl) w
theorem impl_exchanged_acquire (a : Addr) (w : World) : (callFunc 95 #[.pointer (some a)]).run Tryz.prog w = .ok (.value (.tuple #[])) w := run_call_marked Tryz.func95 (by kernel_rfl) (by kernel_rfl) (by kernel_rfl) .acquire (by kernel_rfl) a w
theorem impl_exchanged_releaseMerge (a : Addr) (w : World) : (callFunc 97 #[.pointer (some a)]).run Tryz.prog w = .ok (.value (.tuple #[])) w := run_call_marked Tryz.func97 (by kernel_rfl) (by kernel_rfl) (by kernel_rfl) .releaseMerge (by kernel_rfl) a w
/-- The Once's mark, stored as a deferred call. -/
theorem impl_exchanged_store_deferred (a : Addr) (x : Value) (u : FrameMode) (w : World) (hc : w.cell? a = some x) (hz : w.frozen? a = false) :
    CallsD Tryz.prog 78 #[.pointer (some a), .bool true] u w fun e u' w' => u' = u ∧ (e = .returned (.tuple #[]) ∧ w' = w.drew.setCell a (.int .u32 1)) := by
  have hc' : w.drew.cell? a = some x := by go_simp
  have hz' : w.drew.frozen? a = false := by go_simp
  have hst := run_call_store (P := Tryz.prog) Tryz.func87 (by kernel_rfl) (by kernel_rfl) (by kernel_rfl) (by kernel_rfl) (k := .u32) (y := 1) hc' hz'
  go_enter_d Tryz.func78, Tryz.ntmps78
  go_wp2
  go_region_calls
  all_goals (go_end0; exact ⟨rfl, rfl⟩)
set_option maxRecDepth 100000 in
/-- The lock is let go, as a deferred call. -/
theorem impl_exchanged_unlock_deferred (a : Addr) (u : FrameMode) (w : World) (hc : w.cell? a = some (.int .i32 1)) (hz : w.frozen? a = false) :
    CallsD Tryz.prog 77 #[.pointer (some a)] u w fun e u' w' => u' = u ∧ (e = .returned (.tuple #[]) ∧ w' = w.setCell a (.int .i32 0)) := by
  have hd := impl_exchanged_disable
  have he := impl_exchanged_enable
  have hr := impl_exchanged_releaseMerge
  have hadd := run_call_add (P := Tryz.prog) Tryz.func98 (by kernel_rfl) (by kernel_rfl) (by kernel_rfl) .i32 (by kernel_rfl) (y := -1) (s := 0) hc hz (by simp [go_sem]; rfl)
  have hcv := run_convert_to_unsafe (P := Tryz.prog) (src := 139) (dst := 143) Tryz.underlying139 Tryz.underlying143 (by kernel_rfl) hc
  go_enter_d Tryz.func77, Tryz.ntmps77
  go_wp2
  go_end0
  go_wp2
  go_end0
  exact ⟨rfl, rfl⟩
set_option maxRecDepth 100000 in
/-- The lock, free, is taken. -/
theorem impl_exchanged_lock_free (a : Addr) (w : World) (hc : w.cell? a = some (.int .i32 0)) (hz : w.frozen? a = false) :
    Calls Tryz.prog 76 #[.pointer (some a)] w fun e w' => e = .returned (.tuple #[]) ∧ w' = w.setCell a (.int .i32 1) := by
  have hd := impl_exchanged_disable
  have he := impl_exchanged_enable
  have ha := impl_exchanged_acquire
  have hcas := run_call_cas_hit (P := Tryz.prog) Tryz.func93 (by kernel_rfl) (by kernel_rfl) (by kernel_rfl) .i32 (by kernel_rfl) (y := 1) hc hz
  have hc' : (w.setCell a (.int .i32 1)).cell? a = some (.int .i32 1) := World.cell?_setCell_same w a _ hc
  have hcv := run_convert_to_unsafe (P := Tryz.prog) (src := 139) (dst := 143) Tryz.underlying139 Tryz.underlying143 (by kernel_rfl) hc'
  go_enter Tryz.func76, Tryz.ntmps76
  go_wp2
  first | go_end0 | (simp only [Exit.inBlock, Exit.then]; refine bodyPost_ret (results_none rfl _ _ _) rfl ?_) | refine bodyPost_ret (results_none rfl _ _ _) rfl ?_
  go_wp2
  go_end0
  exact ⟨rfl, rfl⟩
set_option maxRecDepth 100000 in
set_option maxHeartbeats 1600000 in
/-- doSlow, not yet done, the lock free: the bound method is called by its contract. -/
theorem impl_exchanged_slow (b : Nat) (R : World → Prop) (w : World)
    (h0 : w.cell? ⟨b, 0, none⟩ = some (.int .u32 0)) (h1 : w.cell? ⟨b, 1, none⟩ = some (.int .i32 0)) (f1 : w.frozen? ⟨b, 1, none⟩ = false)
    (HC : Calls Tryz.prog 63 #[.pointer (some ⟨b, 0, none⟩)] (w.setCell ⟨b, 1, none⟩ (.int .i32 1)) (fun e w' => e = .returned (.tuple #[]) ∧ R w'))
    (HR : ∀ w', R w' → w'.cell? ⟨b, 0, none⟩ = some (.int .u32 0) ∧ w'.cell? ⟨b, 1, none⟩ = some (.int .i32 1) ∧ w'.frozen? ⟨b, 0, none⟩ = false ∧ w'.frozen? ⟨b, 1, none⟩ = false) :
    Calls Tryz.prog 70 #[.pointer (some ⟨b, 0, none⟩), .func (.func 63) #[.pointer (some ⟨b, 0, none⟩)] #[]] w fun e w'' => e = .returned (.tuple #[]) ∧ ∃ w', R w' ∧ w'' = (w'.drew.setCell ⟨b, 0, none⟩ (.int .u32 1)).setCell ⟨b, 1, none⟩ (.int .i32 0) := by
  have hl := run_call_load (P := Tryz.prog) Tryz.func75 (by kernel_rfl) (by kernel_rfl) (by kernel_rfl) .u32 (by kernel_rfl) (w := w.setCell ⟨b, 1, none⟩ (.int .i32 1)) (a := ⟨b, 0, none⟩) (x := 0) ((World.cell?_setCell_other _ ⟨b, 1, none⟩ ⟨b, 0, none⟩ _ (by simp)).trans h0)
  have hnot : ∀ (x : Bool) (w : World), (Op.unary .not (.bool x)).run Tryz.prog w = .ok (.bool (!x)) w := fun _ _ => rfl
  have HC' : Aside (Calls Tryz.prog 63 #[.pointer (some ⟨b, 0, none⟩)] (w.setCell ⟨b, 1, none⟩ (.int .i32 1)) (fun e w' => e = .returned (.tuple #[]) ∧ R w')) := HC
  have HR' : Aside (∀ w', R w' → w'.cell? ⟨b, 0, none⟩ = some (.int .u32 0) ∧ w'.cell? ⟨b, 1, none⟩ = some (.int .i32 1) ∧ w'.frozen? ⟨b, 0, none⟩ = false ∧ w'.frozen? ⟨b, 1, none⟩ = false) := HR
  clear HC HR
  go_enter_defers Tryz.func70, Tryz.ntmps70
  go_wp2_with (first | (go_at_call 76; refine (impl_exchanged_lock_free ⟨b, 1, none⟩ _ (by go_simp) (by go_simp)).mono ?_; rintro e w' ⟨rfl, rfl⟩) | (go_at_call 69; go_in))
  refine (Aside.out HC').mono ?_
  rintro e w' ⟨rfl, hR⟩
  obtain ⟨g0, g1, z0, z1⟩ := Aside.out HR' w' hR
  have HRR : Aside (R w') := hR
  clear hR
  go_wp2
  refine leaves_cons (f := 78) (args := #[.pointer (some ⟨b, 0, none⟩), .bool true]) (by simp) (by simp [go_sem]) ?_
  refine (impl_exchanged_store_deferred ⟨b, 0, none⟩ (.int .u32 0) .returning _ g0 z0).mono ?_
  rintro e u' w'' ⟨rfl, rfl, rfl⟩
  refine leaves_cons (f := 77) (args := #[.pointer (some ⟨b, 1, none⟩)]) (by simp [settle]) (by simp [go_sem]) ?_
  refine (impl_exchanged_unlock_deferred ⟨b, 1, none⟩ _ _ ?_ ?_).mono ?_
  · refine (World.cell?_setCell_other _ ⟨b, 0, none⟩ ⟨b, 1, none⟩ _ (by simp)).trans ?_
    rw [World.cell?_drew]
    exact g1
  · simp [z1]
  rintro e u' w'' ⟨rfl, rfl, rfl⟩
  simp only [Leaves, settle, results, Tryz.results70]
  refine ⟨.tuple #[], by simp, rfl, w', Aside.out HRR, rfl⟩
set_option maxRecDepth 100000 in
set_option maxHeartbeats 1600000 in
/-- Do, not yet done, the lock free. -/
theorem impl_exchanged_once (b : Nat) (R : World → Prop) (w : World)
    (h0 : w.cell? ⟨b, 0, none⟩ = some (.int .u32 0)) (h1 : w.cell? ⟨b, 1, none⟩ = some (.int .i32 0)) (f1 : w.frozen? ⟨b, 1, none⟩ = false)
    (HC : Calls Tryz.prog 63 #[.pointer (some ⟨b, 0, none⟩)] (w.setCell ⟨b, 1, none⟩ (.int .i32 1)) (fun e w' => e = .returned (.tuple #[]) ∧ R w'))
    (HR : ∀ w', R w' → w'.cell? ⟨b, 0, none⟩ = some (.int .u32 0) ∧ w'.cell? ⟨b, 1, none⟩ = some (.int .i32 1) ∧ w'.frozen? ⟨b, 0, none⟩ = false ∧ w'.frozen? ⟨b, 1, none⟩ = false) :
    Calls Tryz.prog 62 #[.pointer (some ⟨b, 0, none⟩), .func (.func 63) #[.pointer (some ⟨b, 0, none⟩)] #[]] w fun e w'' => e = .returned (.tuple #[]) ∧ ∃ w', R w' ∧ w'' = (w'.drew.setCell ⟨b, 0, none⟩ (.int .u32 1)).setCell ⟨b, 1, none⟩ (.int .i32 0) := by
  have hl := run_call_load (P := Tryz.prog) Tryz.func75 (by kernel_rfl) (by kernel_rfl) (by kernel_rfl) .u32 (by kernel_rfl) h0
  have hnot : ∀ (x : Bool) (w : World), (Op.unary .not (.bool x)).run Tryz.prog w = .ok (.bool (!x)) w := fun _ _ => rfl
  have HS : Aside (Calls Tryz.prog 70 #[.pointer (some ⟨b, 0, none⟩), .func (.func 63) #[.pointer (some ⟨b, 0, none⟩)] #[]] w fun e w'' => e = .returned (.tuple #[]) ∧ ∃ w', R w' ∧ w'' = (w'.drew.setCell ⟨b, 0, none⟩ (.int .u32 1)).setCell ⟨b, 1, none⟩ (.int .i32 0)) := impl_exchanged_slow b R w h0 h1 f1 HC HR
  clear HC HR
  go_enter Tryz.func62, Tryz.ntmps62
  go_wp2_with (first | (go_at_call 70; refine (Aside.out HS).mono ?_; rintro e w' ⟨rfl, hR⟩; have HRR : Aside (∃ w'_1, R w'_1 ∧ w' = (w'_1.drew.setCell ⟨b, 0, none⟩ (.int .u32 1)).setCell ⟨b, 1, none⟩ (.int .i32 0)) := hR; clear hR) | (go_at_call 69; go_in))
  go_end0
  exact ⟨rfl, Aside.out HRR⟩
/-- The table in the making: the first i bytes stand for themselves. -/
def impl_exchanged_idTab (i : Nat) : Array Value := (Array.range 256).map fun j => .int .u8 (if j < i then (j : Int) else 0)
theorem impl_exchanged_idTab_size (i : Nat) : (impl_exchanged_idTab i).size = 256 := by simp [impl_exchanged_idTab]
theorem impl_exchanged_idTab_zero : impl_exchanged_idTab 0 = Array.replicate 256 (.int .u8 0) := by
  apply Array.ext
  · simp [impl_exchanged_idTab]
  · intro j h1 h2
    simp [impl_exchanged_idTab]
theorem impl_exchanged_idTab_at (i j : Nat) (h : j < 256) : (impl_exchanged_idTab i)[j]? = some (.int .u8 (if j < i then (j : Int) else 0)) := by
  rw [Array.getElem?_eq_getElem (by rw [impl_exchanged_idTab_size]; exact h)]
  simp [impl_exchanged_idTab]
theorem impl_exchanged_idTab_put (i : Nat) (h : i < 256) : (impl_exchanged_idTab i).setIfInBounds i (.int .u8 (i : Int)) = impl_exchanged_idTab (i + 1) := by
  apply Array.ext
  · simp [impl_exchanged_idTab]
  · intro j h1 h2
    have hj : j < 256 := by rw [impl_exchanged_idTab_size] at h2; exact h2
    rw [Array.getElem_setIfInBounds]
    · by_cases e : i = j
      · subst e
        simp [impl_exchanged_idTab]
      · rw [if_neg e]
        have : (j < i + 1) = (j < i) := by
          apply propext
          omega
        simp [impl_exchanged_idTab, this]
    · rw [impl_exchanged_idTab_size]; exact hj
/-- The whole table: two bytes exchanged. -/
def impl_exchanged_swTab (a b : Nat) : Array Value := ((impl_exchanged_idTab 256).setIfInBounds b (.int .u8 (a : Int))).setIfInBounds a (.int .u8 (b : Int))
def impl_exchanged_sw (a b : Nat) (x : Int) : Int := if x = (a : Int) then (b : Int) else if x = (b : Int) then (a : Int) else x
theorem impl_exchanged_swTab_at (a b j : Nat) (h : j < 256) : (impl_exchanged_swTab a b)[j]? = some (.int .u8 (impl_exchanged_sw a b (j : Int))) := by
  unfold impl_exchanged_swTab impl_exchanged_sw
  by_cases e : j = a
  · subst e
    rw [Array.getElem?_setIfInBounds_self_of_lt (by simp [impl_exchanged_idTab]; exact h), if_pos rfl]
  · rw [Array.getElem?_setIfInBounds_ne (Ne.symm e), if_neg (by omega)]
    by_cases e2 : j = b
    · subst e2
      rw [Array.getElem?_setIfInBounds_self_of_lt (by simp [impl_exchanged_idTab]; exact h), if_pos rfl]
    · rw [Array.getElem?_setIfInBounds_ne (Ne.symm e2), if_neg (by omega), impl_exchanged_idTab_at _ _ h, if_pos h]
theorem impl_exchanged_idTab_one (i : Nat) : (impl_exchanged_idTab i).all (·.oneCell') = true := by
  rw [Array.all_eq_true]
  intro j hj
  have h := impl_exchanged_idTab_at i j (by rw [impl_exchanged_idTab_size] at hj; exact hj)
  rw [Array.getElem?_eq_getElem hj] at h
  rw [Option.some.inj h]
  rfl
theorem impl_exchanged_zero256 : (Tryz.prog.info? 112).map (fun i => (i.zero, i.size)) = some (some (.agg (Array.replicate 256 (.int .u8 0))), 256) := by kernel_rfl
theorem impl_exchanged_setRow (w : World) (cs : Array Value) (t : TypeId) (fz : Nat × Nat) (k : Nat) (v : Value) : (w.alloc (.cells cs t fz)).setCell ⟨w.heap.size, k, none⟩ v = w.alloc (.cells (cs.setIfInBounds k v) t fz) := by
  unfold World.setCell World.alloc
  congr 1
  apply Array.ext
  · simp
  · intro i h1 h2
    rw [Array.getElem_modify]
    simp only [Array.size_modify, Array.size_push] at h1
    by_cases h : w.heap.size = i
    · subst h
      simp
    · rw [if_neg h, Array.getElem_push_lt (by omega), Array.getElem_push_lt (by omega)]
set_option maxHeartbeats 4000000 in
set_option maxRecDepth 1000000 in
/-- impl_exchanged_build: a new table of bytes. -/
theorem impl_exchanged_build (a b : UInt8) (bR : Nat) (A : Addr) (c : Nat) (w : World) (hA : A.spot = none)
    (hO : w.cell? ⟨bR, 4, none⟩ = some (.slice (some A) 4 c))
    (s0 : w.cell? A = some (.string ⟨#[a]⟩)) (s1 : w.cell? ⟨A.block, A.off + 1, none⟩ = some (.string ⟨#[b]⟩)) (s2 : w.cell? ⟨A.block, A.off + 2, none⟩ = some (.string ⟨#[b]⟩)) (s3 : w.cell? ⟨A.block, A.off + 3, none⟩ = some (.string ⟨#[a]⟩)) :
    Calls Tryz.prog 71 #[.pointer (some ⟨bR, 0, none⟩)] w fun e w' => e = .returned (.iface 113 (.pointer (some ⟨w.heap.size, 0, none⟩))) ∧ w' = w.alloc (.cells (impl_exchanged_swTab a.toNat b.toNat) 112 (0, 0)) := by
  obtain ⟨Ab, Ao, Asp⟩ := A
  simp only at hA
  subst hA
  have hz := (zero_of_info impl_exchanged_zero256).1
  have hi := (zero_of_info impl_exchanged_zero256).2
  rw [← impl_exchanged_idTab_zero] at hz
  have hsz := impl_exchanged_idTab_size 0
  have hsc := run_storeCells_new (P := Tryz.prog) w 112 (impl_exchanged_idTab 0) (impl_exchanged_idTab 0) (by rw [hsz]; exact hi) rfl (impl_exchanged_idTab_one 0)
  go_enter Tryz.func71, Tryz.ntmps71
  go_wp2
  go_loopg [4, 5] 2 (fun kq v4 v5 w' => w' = w ∧ v4 = .bool true ∧ ((kq = 2 ∧ v5 = .int .i64 0) ∨ (kq = 1 ∧ v5 = .int .i64 2) ∨ (kq = 0 ∧ v5 = .int .i64 4)))
  case atStart => exact ⟨rfl, rfl, Or.inl ⟨rfl, rfl⟩⟩
  case round =>
    obtain ⟨rfl, rfl, h⟩ := hrel
    rcases h with ⟨rfl, rfl⟩ | ⟨rfl, rfl⟩ | ⟨rfl, rfl⟩
    · go_wp2
      go_roundg 1
      case measure => omega
      case rel => exact ⟨rfl, rfl, Or.inr (Or.inl ⟨rfl, rfl⟩)⟩
    · go_wp2
      go_roundg 0
      case measure => omega
      case rel => exact ⟨rfl, rfl, Or.inr (Or.inr ⟨rfl, rfl⟩)⟩
    · clear hi
      go_wp2
      clear hsc hz
      go_loopg [61] 256 (fun kq v61 w' => ∃ i : Nat, v61 = .int .i64 (i : Int) ∧ kq + i = 256 ∧ w' = wr.alloc (.cells (impl_exchanged_idTab i) 112))
      case atStart => exact ⟨0, rfl, rfl, rfl⟩
      case round =>
        obtain ⟨i, rfl, hki, rfl⟩ := hrel
        cases gk with
        | zero =>
          obtain rfl : i = 256 := by omega
          have hp : ∀ (o : Obj) (j : Nat), (wr.alloc o).cell? ⟨Ab, j, none⟩ = wr.cell? ⟨Ab, j, none⟩ := fun o j => World.cell?_alloc_past _ _ _ (World.block_lt_of_cell? wr _ s0)
          have q0 : ∀ o, (wr.alloc o).cell? ⟨Ab, Ao, none⟩ = some (.string ⟨#[a]⟩) := fun o => (hp o _).trans s0
          have q1 : ∀ o, (wr.alloc o).cell? ⟨Ab, Ao + 1, none⟩ = some (.string ⟨#[b]⟩) := fun o => (hp o _).trans s1
          have q2 : ∀ o, (wr.alloc o).cell? ⟨Ab, Ao + 2, none⟩ = some (.string ⟨#[b]⟩) := fun o => (hp o _).trans s2
          have q3 : ∀ o, (wr.alloc o).cell? ⟨Ab, Ao + 3, none⟩ = some (.string ⟨#[a]⟩) := fun o => (hp o _).trans s3
          clear hp s0 s1 s2 s3 hO hki hsz
          have ha1 := UInt8.toNat_lt a
          have hb1 := UInt8.toNat_lt b
          have hla : (a.toNat : Int) < 256 := by omega
          have hlb : (b.toNat : Int) < 256 := by omega
          have hcb := impl_exchanged_idTab_at 256 b.toNat (by omega)
          obtain ⟨va, hca⟩ : ∃ v, ((impl_exchanged_idTab 256).setIfInBounds b.toNat (.int .u8 (a.toNat : Int)))[a.toNat]? = some v := ⟨_, Array.getElem?_eq_getElem (by rw [Array.size_setIfInBounds, impl_exchanged_idTab_size]; omega)⟩
          have r1 := impl_exchanged_setRow wr (impl_exchanged_idTab 256) 112 (0, 0) b.toNat (.int .u8 (a.toNat : Int))
          have r2 := impl_exchanged_setRow wr ((impl_exchanged_idTab 256).setIfInBounds b.toNat (.int .u8 (a.toNat : Int))) 112 (0, 0) a.toNat (.int .u8 (b.toNat : Int))
          clear ha1 hb1
          have hg0 : ∀ (x : UInt8) (h : 0 < (⟨#[x]⟩ : ByteArray).size), (⟨#[x]⟩ : ByteArray)[0]'h = x := fun _ _ => rfl
          go_wp2
          go_loopg [8] 2 (fun kq v8 w' => (kq = 2 ∧ v8 = .int .i64 2 ∧ w' = wr.alloc (.cells (impl_exchanged_idTab 256) 112)) ∨ (kq = 1 ∧ v8 = .int .i64 0 ∧ w' = wr.alloc (.cells ((impl_exchanged_idTab 256).setIfInBounds b.toNat (.int .u8 (a.toNat : Int))) 112)) ∨ (kq = 0 ∧ v8 = .int .i64 (-2) ∧ w' = wr.alloc (.cells (impl_exchanged_swTab a.toNat b.toNat) 112)))
          case atStart => exact Or.inl ⟨rfl, rfl, rfl⟩
          case round =>
            rcases hrel with ⟨rfl, rfl, rfl⟩ | ⟨rfl, rfl, rfl⟩ | ⟨rfl, rfl, rfl⟩
            · clear r2 hca
              go_wp2
              go_roundg 1
              case measure => omega
              case rel => exact Or.inr (Or.inl ⟨rfl, rfl, rfl⟩)
            · clear r1 hcb
              go_wp2
              go_roundg 0
              case measure => omega
              case rel => exact Or.inr (Or.inr ⟨rfl, rfl, rfl⟩)
            · clear r1 r2 hca hcb
              go_wp2
              go_ret
              exact ⟨rfl, rfl⟩
        | succ k1 =>
          have hlt : (i : Int) < 256 := by omega
          have hw8 : IntKind.u8.wrap (i : Int) = (i : Int) := by simp [IntKind.wrap, IntKind.bits, IntKind.signed]; omega
          have hsr := impl_exchanged_setRow wr (impl_exchanged_idTab i) 112 (0, 0) i (.int .u8 (i : Int))
          rw [impl_exchanged_idTab_put i (by omega)] at hsr
          have hsi := impl_exchanged_idTab_size i
          have hca := impl_exchanged_idTab_at i i (by omega)
          go_wp2
          go_roundg k1
          case measure => omega
          case rel => exact ⟨i + 1, by first | rfl | simp, by omega, rfl⟩
set_option maxHeartbeats 4000000 in
set_option maxRecDepth 1000000 in
/-- impl_exchanged_buildOnce: the state's impl_exchanged_replacer is the new table. -/
theorem impl_exchanged_buildOnce (a b : UInt8) (bR : Nat) (A : Addr) (c : Nat) (w : World) (hA : A.spot = none) (hne : bR < w.heap.size)
    (c3 : w.cell? ⟨bR, 3, none⟩ = some .nilIface) (c4 : w.cell? ⟨bR, 4, none⟩ = some (.slice (some A) 4 c)) (z3 : w.frozen? ⟨bR, 3, none⟩ = false) (z4 : w.frozen? ⟨bR, 4, none⟩ = false)
    (s0 : w.cell? A = some (.string ⟨#[a]⟩)) (s1 : w.cell? ⟨A.block, A.off + 1, none⟩ = some (.string ⟨#[b]⟩)) (s2 : w.cell? ⟨A.block, A.off + 2, none⟩ = some (.string ⟨#[b]⟩)) (s3 : w.cell? ⟨A.block, A.off + 3, none⟩ = some (.string ⟨#[a]⟩)) :
    Calls Tryz.prog 63 #[.pointer (some ⟨bR, 0, none⟩)] w fun e w' => e = .returned (.tuple #[]) ∧ w' = ((w.setCell ⟨bR, 3, none⟩ (.iface 113 (.pointer (some ⟨w.heap.size, 0, none⟩)))).setCell ⟨bR, 4, none⟩ (.slice none 0 0)).alloc (.cells (impl_exchanged_swTab a.toNat b.toNat) 112) := by
  have HC : Aside (Calls Tryz.prog 71 #[.pointer (some ⟨bR, 0, none⟩)] w fun e w' => e = .returned (.iface 113 (.pointer (some ⟨w.heap.size, 0, none⟩))) ∧ w' = w.alloc (.cells (impl_exchanged_swTab a.toNat b.toNat) 112 (0, 0))) := impl_exchanged_build a b bR A c w hA c4 s0 s1 s2 s3
  clear s0 s1 s2 s3
  have p3 : ∀ o, (w.alloc o).cell? ⟨bR, 3, none⟩ = some .nilIface := fun o => (World.cell?_alloc_past _ _ _ hne).trans c3
  have p4 : ∀ o, (w.alloc o).cell? ⟨bR, 4, none⟩ = some (.slice (some A) 4 c) := fun o => (World.cell?_alloc_past _ _ _ hne).trans c4
  have y3 : ∀ o, (w.alloc o).frozen? ⟨bR, 3, none⟩ = false := fun o => (World.frozen?_alloc_past _ _ _ hne).trans z3
  have y4 : ∀ o, (w.alloc o).frozen? ⟨bR, 4, none⟩ = false := fun o => (World.frozen?_alloc_past _ _ _ hne).trans z4
  go_enter Tryz.func63, Tryz.ntmps63
  go_wp2_with (go_at_call 71; refine (Aside.out HC).mono ?_; rintro e w' ⟨rfl, rfl⟩)
  go_end0
  exact ⟨rfl, rfl⟩
/-- The first i bytes exchanged. -/
def impl_exchanged_mix (a b : Nat) (s : ByteArray) (i : Nat) : List Int := ((bytesOf s).take i).map (impl_exchanged_sw a b) ++ (bytesOf s).drop i
theorem impl_exchanged_mix_zero (a b : Nat) (s : ByteArray) : impl_exchanged_mix a b s 0 = bytesOf s := by simp [impl_exchanged_mix]
theorem impl_exchanged_mix_all (a b : Nat) (s : ByteArray) (i : Nat) (h : s.size ≤ i) : impl_exchanged_mix a b s i = (bytesOf s).map (impl_exchanged_sw a b) := by
  unfold impl_exchanged_mix
  rw [List.take_of_length_le (by rw [bytesOf_length]; exact h), List.drop_of_length_le (by rw [bytesOf_length]; exact h), List.append_nil]
theorem impl_exchanged_mix_length (a b : Nat) (s : ByteArray) (i : Nat) : (impl_exchanged_mix a b s i).length = s.size := by
  unfold impl_exchanged_mix
  rw [List.length_append, List.length_map, List.length_take, List.length_drop, bytesOf_length]
  omega
theorem impl_exchanged_bytes_at (s : ByteArray) (i : Nat) (h : i < s.size) : (bytesOf s)[i]? = some ((s[i]'h).toNat : Int) := by
  unfold bytesOf
  rw [List.getElem?_map, Array.getElem?_toList, Array.getElem?_eq_getElem (by exact h)]
  rfl
theorem impl_exchanged_mix_step (a b : Nat) (s : ByteArray) (i : Nat) (h : i < s.size) : (impl_exchanged_mix a b s i).set i (impl_exchanged_sw a b ((s[i]'h).toNat : Int)) = impl_exchanged_mix a b s (i + 1) := by
  have hl : i < (bytesOf s).length := by rw [bytesOf_length]; exact h
  have hx := impl_exchanged_bytes_at s i h
  have hx2 : (bytesOf s)[i] = ((s[i]'h).toNat : Int) := by
    rw [List.getElem?_eq_getElem hl] at hx
    exact Option.some.inj hx
  unfold impl_exchanged_mix
  rw [List.drop_eq_getElem_cons hl, hx2, List.take_succ_eq_append_getElem hl, hx2, List.map_append, List.append_assoc]
  have hlen : (((bytesOf s).take i).map (impl_exchanged_sw a b)).length = i := by rw [List.length_map, List.length_take]; omega
  rw [List.set_append_right _ _ (by omega), hlen, Nat.sub_self, List.set_cons_zero]
  rfl
theorem impl_exchanged_mix_at (a b : Nat) (s : ByteArray) (i : Nat) (h : i < s.size) : (impl_exchanged_mix a b s i)[i]? = some ((s[i]'h).toNat : Int) := by
  have hl : i < (bytesOf s).length := by rw [bytesOf_length]; exact h
  unfold impl_exchanged_mix
  have hlen : (((bytesOf s).take i).map (impl_exchanged_sw a b)).length = i := by rw [List.length_map, List.length_take]; omega
  rw [List.getElem?_append_right (by omega), hlen, Nat.sub_self, List.getElem?_drop, Nat.add_zero]
  exact impl_exchanged_bytes_at s i h
theorem impl_exchanged_mix_same (a b : Nat) (s : ByteArray) (i : Nat) (h : i < s.size) (e : impl_exchanged_sw a b ((s[i]'h).toNat : Int) = ((s[i]'h).toNat : Int)) : impl_exchanged_mix a b s (i + 1) = impl_exchanged_mix a b s i := by
  rw [← impl_exchanged_mix_step a b s i h, e]
  have h1 := impl_exchanged_mix_at a b s i h
  apply List.ext_getElem?
  intro j
  by_cases hj : i = j
  · subst hj
    rw [List.getElem?_set_self (by rw [impl_exchanged_mix_length]; exact h), h1]
  · rw [List.getElem?_set_ne hj]
theorem impl_exchanged_str_bytes (s : ByteArray) : strOfNums (bytesOf s) = s := by
  obtain ⟨⟨l⟩⟩ := s
  unfold strOfNums bytesOf
  simp
  induction l with
  | nil => rfl
  | cons x l ih =>
    simp
    exact ih
set_option maxHeartbeats 4000000 in
set_option maxRecDepth 1000000 in
/-- The table's Replace. -/
theorem impl_exchanged_replace (a b : UInt8) (bT : Nat) (s : ByteArray) (w : World) (hT : w.heap[bT]? = some (.cells (impl_exchanged_swTab a.toNat b.toNat) 112 (0, 0))) (hs : s.size ≤ 9223372036854775807) :
    Calls Tryz.prog 142 #[.pointer (some ⟨bT, 0, none⟩), .string s] w fun e w' => e = .returned (.string (strOfNums ((bytesOf s).map (impl_exchanged_sw a.toNat b.toNat)))) ∧ Below w.heap.size w w' := by
  have hn0 : ∀ W, (binOp .eql 54 (.slice none 0 0) (.slice none 0 0)).run Tryz.prog W = .ok (.bool true) W := fun W => Lib.run_eql_slice_nil W 54 5 none 0 0 0 0 Tryz.underlying54
  have hn1 : ∀ W ad n c, (binOp .eql 54 (.slice (some ad) n c) (.slice none 0 0)).run Tryz.prog W = .ok (.bool false) W := fun W ad n c => Lib.run_eql_slice_nil W 54 5 (some ad) n c 0 0 Tryz.underlying54
  have HT := Aside0.mk hT
  have HS := Aside0.mk hs
  clear hT hs
  go_enter Tryz.func142, Tryz.ntmps142
  go_wp2
  go_loopg [5, 6] (s.size + 1) (fun kq v5 v6 w' => ∃ i : Nat, v6 = .int .i64 (i : Int) ∧ Aside0 (kq + i = s.size + 1 ∧ i ≤ s.size) ∧ ((v5 = .slice none 0 0 ∧ w' = w ∧ Aside0 (impl_exchanged_mix a.toNat b.toNat s i = bytesOf s)) ∨ (∃ g cap, v5 = .slice (some ⟨g, 0, none⟩) s.size cap ∧ Aside0 (XBytes.BRow g (impl_exchanged_mix a.toNat b.toNat s i) w' ∧ w.heap.size ≤ g ∧ Below w.heap.size w w'))))
  case atStart => exact ⟨0, rfl, ⟨rfl, Nat.zero_le _⟩, Or.inl ⟨rfl, rfl, ⟨impl_exchanged_mix_zero _ _ _⟩⟩⟩
  case round =>
    obtain ⟨i, rfl, HK, hor⟩ := hrel
    cases gk with
    | zero => exact absurd HK.out (by omega)
    | succ k1 =>
      have ws : i < s.size → wrap64 ((i : Int) + 1) = ((i + 1 : Nat) : Int) := fun hi => by have := HS.out; unfold wrap64; omega
      have WS := Aside0.mk ws
      clear ws
      by_cases ci : i < s.size
      · have hi : (i : Int) < (s.size : Int) := by omega
        obtain ⟨x, hx⟩ : ∃ x : UInt8, s[i]'ci = x := ⟨_, rfl⟩
        have CI := Aside0.mk ci
        have hx1 := UInt8.toNat_lt x
        have hxb : (x.toNat : Int) < 256 := by omega
        rcases hor with ⟨rfl, rfl, HM⟩ | ⟨g, cap, rfl, HG⟩
        · have hcell : wr.cell? ⟨bT, x.toNat, none⟩ = some (.int .u8 (impl_exchanged_sw a.toNat b.toNat (x.toNat : Int))) := by rw [blk_cell HT.out]; exact impl_exchanged_swTab_at _ _ _ (by omega)
          clear hx1
          by_cases e : impl_exchanged_sw a.toNat b.toNat (x.toNat : Int) = (x.toNat : Int)
          · have E := Aside0.mk e
            have eb : (impl_exchanged_sw a.toNat b.toNat (x.toNat : Int) != (x.toNat : Int)) = false := by simp [e]
            clear e
            go_wp2
            go_roundg k1
            case measure => omega
            case rel => exact ⟨i + 1, by first | rfl | (rw [← WS.out CI.out]; rfl) | simp [WS.out CI.out], ⟨by have := HK.out; have := CI.out; omega⟩, Or.inl ⟨rfl, rfl, ⟨by rw [impl_exchanged_mix_same _ _ _ _ CI.out (by rw [hx]; exact E.out)]; exact HM.out⟩⟩⟩
          · have eb : (impl_exchanged_sw a.toNat b.toNat (x.toNat : Int) != (x.toNat : Int)) = true := by simp [e]
            have kb := fun W => print_bytes (P := Tryz.prog) 9 54 5 Tryz.underlying9 Tryz.underlying54 Tryz.underlying5 s W
            have B0 := XBytes.BRow.made wr 5 s HS.out
            have hbel := bytes_below (Below.refl wr.heap.size wr) (Nat.le_refl _) 5 s
            have hfc := B0.cell i (by rw [bytesOf_length]; omega)
            have hff := B0.free i (by rw [bytesOf_length]; omega)
            have hcell2 : (Lib.bytesWorld wr 5 s).cell? ⟨bT, x.toNat, none⟩ = some (.int .u8 (impl_exchanged_sw a.toNat b.toNat (x.toNat : Int))) := by rw [blk_cell (blk_below HT.out hbel)]; exact impl_exchanged_swTab_at _ _ _ (by omega)
            have HB0 := Aside0.mk B0
            have HBEL := Aside0.mk hbel
            clear e B0 hbel
            go_wp2
            go_roundg k1
            case measure => omega
            case rel => exact ⟨i + 1, by first | rfl | (rw [← WS.out CI.out]; rfl) | simp [WS.out CI.out], ⟨by have := HK.out; have := CI.out; omega⟩, Or.inr ⟨_, _, rfl, ⟨by
              have h1 := HB0.out.put i (impl_exchanged_sw a.toNat b.toNat (x.toNat : Int))
              rw [← HM.out, ← hx, impl_exchanged_mix_step _ _ _ _ CI.out] at h1
              rw [← hx]
              exact ⟨h1, Nat.le_refl _, HBEL.out.setCell (Nat.le_refl _) _⟩⟩⟩⟩
        · have hcell : wr.cell? ⟨bT, x.toNat, none⟩ = some (.int .u8 (impl_exchanged_sw a.toNat b.toNat (x.toNat : Int))) := by rw [blk_cell (blk_below HT.out HG.out.2.2)]; exact impl_exchanged_swTab_at _ _ _ (by omega)
          have hfc := HG.out.1.cell i (by rw [impl_exchanged_mix_length]; omega)
          have hff := HG.out.1.free i (by rw [impl_exchanged_mix_length]; omega)
          clear hx1
          by_cases e : impl_exchanged_sw a.toNat b.toNat (x.toNat : Int) = (x.toNat : Int)
          · have E := Aside0.mk e
            have eb : (impl_exchanged_sw a.toNat b.toNat (x.toNat : Int) != (x.toNat : Int)) = false := by simp [e]
            clear e
            go_wp2
            go_roundg k1
            case measure => omega
            case rel => exact ⟨i + 1, by first | rfl | (rw [← WS.out CI.out]; rfl) | simp [WS.out CI.out], ⟨by have := HK.out; have := CI.out; omega⟩, Or.inr ⟨_, _, rfl, ⟨by rw [impl_exchanged_mix_same _ _ _ _ CI.out (by rw [hx]; exact E.out)]; exact HG.out⟩⟩⟩
          · have eb : (impl_exchanged_sw a.toNat b.toNat (x.toNat : Int) != (x.toNat : Int)) = true := by simp [e]
            clear e
            go_wp2
            go_roundg k1
            case measure => omega
            case rel => exact ⟨i + 1, by first | rfl | (rw [← WS.out CI.out]; rfl) | simp [WS.out CI.out], ⟨by have := HK.out; have := CI.out; omega⟩, Or.inr ⟨_, _, rfl, ⟨by
              have h1 := HG.out.1.put i (impl_exchanged_sw a.toNat b.toNat (x.toNat : Int))
              rw [← hx, impl_exchanged_mix_step _ _ _ _ CI.out] at h1
              rw [← hx]
              exact ⟨h1, HG.out.2.1, HG.out.2.2.setCell HG.out.2.1 _⟩⟩⟩⟩
      · have hi : ¬ ((i : Int) < (s.size : Int)) := by omega
        have CI := Aside0.mk ci
        clear ci
        rcases hor with ⟨rfl, rfl, HM⟩ | ⟨g, cap, rfl, HG⟩
        · go_wp2
          go_ret
          refine ⟨?_, Below.refl _ _⟩
          have h1 := HM.out
          rw [impl_exchanged_mix_all _ _ _ _ (by have := CI.out; omega)] at h1
          rw [h1, impl_exchanged_str_bytes]
          rfl
        · have hr := HG.out.1.reads
          rw [impl_exchanged_mix_all _ _ _ _ (by have := CI.out; omega), List.length_map, bytesOf_length] at hr
          have hst := string_of_reads (P := Tryz.prog) (src := 54) (dst := 9) (c := cap) Tryz.underlying54 Tryz.underlying5 Tryz.underlying9 hr
          clear hr
          go_wp2
          go_ret
          exact ⟨rfl, HG.out.2.2⟩
theorem impl_exchanged_set_size (u : World) (p : Addr) (v : Value) : (u.setCell p v).heap.size = u.heap.size := by simp [World.setCell]
theorem impl_exchanged_after_bel (w : World) (b : Nat) (h : b < w.heap.size) (v1 v2 v3 v4 v5 : Value) (o : Obj) : Below b w ((((((w.setCell ⟨b, 1, none⟩ v1).setCell ⟨b, 3, none⟩ v2).setCell ⟨b, 4, none⟩ v3).alloc o).drew.setCell ⟨b, 0, none⟩ v4).setCell ⟨b, 1, none⟩ v5) := by
  have h1 : Below b w (w.setCell ⟨b, 1, none⟩ v1) := (Below.refl b w).setCell (Nat.le_refl b) v1
  have h2 := h1.setCell (p := ⟨b, 3, none⟩) (Nat.le_refl b) v2
  have h3 := h2.setCell (p := ⟨b, 4, none⟩) (Nat.le_refl b) v3
  have h4 := h3.alloc (by rw [impl_exchanged_set_size, impl_exchanged_set_size, impl_exchanged_set_size]; omega) o
  have h5 := h4.drew.setCell (p := ⟨b, 0, none⟩) (Nat.le_refl b) v4
  exact h5.setCell (p := ⟨b, 1, none⟩) (Nat.le_refl b) v5
theorem impl_exchanged_after_new (w : World) (b : Nat) (h : b < w.heap.size) (v1 v2 v3 v4 v5 : Value) (cs : Array Value) (t : TypeId) : ((((((w.setCell ⟨b, 1, none⟩ v1).setCell ⟨b, 3, none⟩ v2).setCell ⟨b, 4, none⟩ v3).alloc (.cells cs t (0, 0))).drew.setCell ⟨b, 0, none⟩ v4).setCell ⟨b, 1, none⟩ v5).heap[w.heap.size]? = some (.cells cs t (0, 0)) := by
  have hg : w.heap.size ≠ b := by omega
  refine blk_far ?_ hg _
  refine blk_far ?_ hg _
  refine blk_drew ?_
  have := blk_new (((w.setCell ⟨b, 1, none⟩ v1).setCell ⟨b, 3, none⟩ v2).setCell ⟨b, 4, none⟩ v3) (.cells cs t (0, 0))
  rw [impl_exchanged_set_size, impl_exchanged_set_size, impl_exchanged_set_size] at this
  exact this
theorem impl_exchanged_method_replace (n : Nat) (a : Addr) (w : World) : (method (n + 1) 113 (.pointer (some a)) "Replace").run Tryz.prog w = .ok (142, .pointer (some a)) w := by kernel_rfl
theorem impl_exchanged_nil_ahead (n : Nat) (a : Addr) (w : World) : (nilAhead (n + 1) 113 (.pointer (some a)) "Replace").run Tryz.prog w = .ok (some false) w := by kernel_rfl
set_option maxHeartbeats 1000000 in
set_option maxRecDepth 1000000 in
/-- Replace of a impl_exchanged_replacer that is not yet built. -/
theorem impl_exchanged_replacer (a b : UInt8) (bR : Nat) (A : Addr) (c : Nat) (s : ByteArray) (w : World) (hA : A.spot = none)
    (hR : w.heap[bR]? = some (.cells #[.int .u32 0, .int .i32 0, .int .u32 0, .nilIface, .slice (some A) 4 c] 91 (0, 0))) (hne : A.block ≠ bR)
    (s0 : w.cell? A = some (.string ⟨#[a]⟩)) (s1 : w.cell? ⟨A.block, A.off + 1, none⟩ = some (.string ⟨#[b]⟩)) (s2 : w.cell? ⟨A.block, A.off + 2, none⟩ = some (.string ⟨#[b]⟩)) (s3 : w.cell? ⟨A.block, A.off + 3, none⟩ = some (.string ⟨#[a]⟩)) (hs : s.size ≤ 9223372036854775807) :
    Calls Tryz.prog 45 #[.pointer (some ⟨bR, 0, none⟩), .string s] w fun e w' => e = .returned (.string (strOfNums ((bytesOf s).map (impl_exchanged_sw a.toNat b.toNat)))) ∧ Below bR w w' := by
  have hmf : ∀ (fn : Fn) (first cap : Array Value) (w : World), (Instr.makeFunc fn first cap).run Tryz.prog w = .ok (.func fn first cap) w := fun _ _ _ _ => rfl
  have hlt := blk_lt hR
  -- the world in which impl_exchanged_build is called: the lock is taken
  have B1 : (w.setCell ⟨bR, 1, none⟩ (.int .i32 1)).heap[bR]? = some (.cells #[.int .u32 0, .int .i32 1, .int .u32 0, .nilIface, .slice (some A) 4 c] 91 (0, 0)) := blk_put hR 1 _ rfl
  have hc : ∀ j : Nat, (w.setCell ⟨bR, 1, none⟩ (.int .i32 1)).cell? ⟨A.block, j, none⟩ = w.cell? ⟨A.block, j, none⟩ := fun j => World.cell?_setCell_other _ _ _ _ (fun e => hne (congrArg Addr.block e).symm)
  have hA2 : A = ⟨A.block, A.off, none⟩ := by
    obtain ⟨x, y, z⟩ := A
    simp only at hA
    subst hA
    rfl
  have hb := impl_exchanged_buildOnce a b bR A c (w.setCell ⟨bR, 1, none⟩ (.int .i32 1)) hA (blk_lt B1) (blk_cell B1 3) (blk_cell B1 4) (blk_frozen B1 3) (blk_frozen B1 4) (by rw [hA2]; rw [hA2] at s0; exact (hc _).trans s0) ((hc _).trans s1) ((hc _).trans s2) ((hc _).trans s3)
  have hd := impl_exchanged_once bR _ w (blk_cell hR 0) (blk_cell hR 1) (blk_frozen hR 1) hb (fun w' e => by
    have h4 : w'.heap[bR]? = some (.cells #[.int .u32 0, .int .i32 1, .int .u32 0, .iface 113 (.pointer (some ⟨(w.setCell ⟨bR, 1, none⟩ (.int .i32 1)).heap.size, 0, none⟩)), .slice none 0 0] 91 (0, 0)) := by
      rw [e]
      exact blk_alloc (blk_put (cs := #[.int .u32 0, .int .i32 1, .int .u32 0, .iface 113 (.pointer (some ⟨(w.setCell ⟨bR, 1, none⟩ (.int .i32 1)).heap.size, 0, none⟩)), .slice (some A) 4 c]) (blk_put B1 3 _ rfl) 4 _ rfl) _
    exact ⟨blk_cell h4 0, blk_cell h4 1, blk_frozen h4 0, blk_frozen h4 1⟩)
  have hd2 : Calls Tryz.prog 62 #[.pointer (some ⟨bR, 0, none⟩), .func (.func 63) #[.pointer (some ⟨bR, 0, none⟩)] #[]] w fun e w1 => e = .returned (.tuple #[]) ∧ ∃ gT, w1.heap[bR]? = some (.cells #[.int .u32 1, .int .i32 0, .int .u32 0, .iface 113 (.pointer (some ⟨gT, 0, none⟩)), .slice none 0 0] 91 (0, 0)) ∧ w1.heap[gT]? = some (.cells (impl_exchanged_swTab a.toNat b.toNat) 112 (0, 0)) ∧ Below bR w w1 := by
    refine hd.mono ?_
    rintro e w1 ⟨rfl, w0, hw0, hw1⟩
    refine ⟨rfl, (w.setCell ⟨bR, 1, none⟩ (.int .i32 1)).heap.size, ?_, ?_, ?_⟩
    · rw [hw1, hw0]
      refine blk_put (cs := #[.int .u32 1, .int .i32 1, .int .u32 0, .iface 113 (.pointer (some ⟨(w.setCell ⟨bR, 1, none⟩ (.int .i32 1)).heap.size, 0, none⟩)), .slice none 0 0]) ?_ 1 _ rfl
      refine blk_put (cs := #[.int .u32 0, .int .i32 1, .int .u32 0, .iface 113 (.pointer (some ⟨(w.setCell ⟨bR, 1, none⟩ (.int .i32 1)).heap.size, 0, none⟩)), .slice none 0 0]) ?_ 0 _ rfl
      refine blk_drew ?_
      exact blk_alloc (blk_put (cs := #[.int .u32 0, .int .i32 1, .int .u32 0, .iface 113 (.pointer (some ⟨(w.setCell ⟨bR, 1, none⟩ (.int .i32 1)).heap.size, 0, none⟩)), .slice (some A) 4 c]) (blk_put B1 3 _ rfl) 4 _ rfl) _
    · rw [hw1, hw0, impl_exchanged_set_size]
      exact impl_exchanged_after_new w bR hlt _ _ _ _ _ _ _
    · rw [hw1, hw0]
      exact impl_exchanged_after_bel w bR hlt _ _ _ _ _ _
  have HD := Aside0.mk hd2
  have HR := Aside0.mk hR
  clear hd2
  clear s0 s1 s2 s3 hb hd hc B1 hA2 hA hR hlt
  have hm1 := impl_exchanged_method_replace
  have hm2 := impl_exchanged_nil_ahead
  go_enter Tryz.func45, Tryz.ntmps45
  go_wp2_with (first | (go_at_call 62; refine HD.out.mono ?_; rintro e w1 ⟨rfl, gT, hr1, ht1, hbel⟩; have c3 := blk_cell hr1 3; have HRR := Aside0.mk hr1; have HTT := Aside0.mk ht1; have HBE := Aside0.mk hbel; clear hr1 ht1 hbel) | (go_at_call 142; refine (impl_exchanged_replace a b gT s w1 HTT.out hs).mono ?_; rintro e w2 ⟨rfl, hb2⟩; have HB2 := Aside0.mk hb2; clear hb2))
  go_ret
  refine ⟨rfl, HBE.out.trans (HB2.out.mono ?_)⟩
  exact Nat.le_of_lt (blk_lt HRR.out)
def impl_exchanged_lst (a b : UInt8) : List ByteArray := [⟨#[a]⟩, ⟨#[b]⟩, ⟨#[b]⟩, ⟨#[a]⟩]
/-- What NewReplacer leaves. -/
def impl_exchanged_Fresh (a b : UInt8) (w : World) (e : Ending) (w' : World) : Prop := ∃ bR g c, e = .returned (.pointer (some ⟨bR, 0, none⟩)) ∧ w.heap.size ≤ bR ∧ g ≠ bR ∧ w'.heap[bR]? = some (.cells #[.int .u32 0, .int .i32 0, .int .u32 0, .nilIface, .slice (some ⟨g, 0, none⟩) 4 c] 91 (0, 0)) ∧ w'.cell? ⟨g, 0, none⟩ = some (.string ⟨#[a]⟩) ∧ w'.cell? ⟨g, 0 + 1, none⟩ = some (.string ⟨#[b]⟩) ∧ w'.cell? ⟨g, 0 + 2, none⟩ = some (.string ⟨#[b]⟩) ∧ w'.cell? ⟨g, 0 + 3, none⟩ = some (.string ⟨#[a]⟩) ∧ Below w.heap.size w w'
theorem impl_exchanged_fresh_of {a b : UInt8} {w1 : World} {v1 : Value} {base : Nat} {ok : Nat → Prop} (ho : Kd.R Kd.string 9 w1 base ok v1 (impl_exchanged_lst a b)) : ∃ g c, v1 = .slice (some ⟨g, 0, none⟩) 4 c ∧ g < w1.heap.size ∧ w1.cell? ⟨g, 0, none⟩ = some (.string ⟨#[a]⟩) ∧ w1.cell? ⟨g, 0 + 1, none⟩ = some (.string ⟨#[b]⟩) ∧ w1.cell? ⟨g, 0 + 2, none⟩ = some (.string ⟨#[b]⟩) ∧ w1.cell? ⟨g, 0 + 3, none⟩ = some (.string ⟨#[a]⟩) := by
  obtain ⟨g, cap, rfl, _, hl, _⟩ := Kd.R_form ho (show 0 < (impl_exchanged_lst a b).length by simp [impl_exchanged_lst])
  refine ⟨g, cap, rfl, hl, ?_, ?_, ?_, ?_⟩
  · exact (Kd.R_celln ByteArray.empty ho 0 (by omega) (by simp [impl_exchanged_lst])).1
  · exact (Kd.R_celln ByteArray.empty ho 1 (by omega) (by simp [impl_exchanged_lst])).1
  · exact (Kd.R_celln ByteArray.empty ho 2 (by omega) (by simp [impl_exchanged_lst])).1
  · exact (Kd.R_celln ByteArray.empty ho 3 (by omega) (by simp [impl_exchanged_lst])).1
set_option maxHeartbeats 1000000 in
set_option maxRecDepth 1000000 in
theorem impl_exchanged_newReplacer (a b : UInt8) (A0 : Option Addr) (c0 : Nat) (w : World) (hC : Kd.C Kd.string w A0 4 (impl_exchanged_lst a b)) :
    Calls Tryz.prog 44 #[.slice A0 4 c0] w (impl_exchanged_Fresh a b w) := by
  have HC := Aside0.mk hC
  have HB := Aside0.mk (Below.refl w.heap.size w)
  clear hC
  go_enter Tryz.func44, Tryz.ntmps44
  go_wp2_with (first | ((with_reducible refine gate_builtin (b := .append) (xs := #[.const (.slice none 0 0), .tmp 8]) rfl ?_); at_builtin; refine Kd.R_append_row Value.string ByteArray.empty (h1 := fun _ => rfl) (w0 := w) w.heap.size rfl (.const (.slice none 0 0)) (.tmp 8) 75 9 (.string ByteArray.empty) 16 rfl Tryz.underlying75 (by kernel_rfl) rfl (by decide) (.slice none 0 0) [] (impl_exchanged_lst a b) A0 4 c0 (fun _ => True) rfl rfl (fun _ _ => trivial) (Kd.R_nil _ _ _ _ _) HC.out (Below.refl _ _) (Nat.le_refl _) (by decide) ?_; intro v1 w1 ho hb hg hat; rw [List.nil_append] at ho; obtain ⟨g, cap, hv1, hl, q0, q1, q2, q3⟩ := impl_exchanged_fresh_of ho; clear hat hg ho; subst hv1; have HQ := Aside0.mk (And.intro hl (And.intro q0 (And.intro q1 (And.intro q2 q3)))); have n0_ := Aside0.mk hb; clear HB hb hl q0 q1 q2 q3; have HB := n0_; clear n0_) | ((with_reducible refine gate_dst (N := 11) rfl ?_); refine box_event ?hg (N := 11) ?hd (cs := #[.int .u32 0, .int .i32 0, .int .u32 0, .nilIface, .slice (some ⟨g, 0, none⟩) 4 cap]) (t := 91) ?hr ?_; (case hd => rfl); (case hg => rfl); (case hr => first | (go_simp; done) | (go_simp; rfl)); intro bR hg w2 hbox hb; have GE := XSq.gw hg (XSq.bB HB); have n0_ := Aside0.mk (below_step (XSq.bB HB) hb); have BK := Aside0.mk hbox; have LT := Aside0.mk hg; have HB2 := Aside0.mk hb; clear HB; have HB := n0_; clear n0_ hb hbox hg))
  go_ret
  refine ⟨bR, g, cap, rfl, GE.out, ?_, BK.out, ?_, ?_, ?_, ?_, HB.out⟩
  · rw [LT.out]; exact Nat.ne_of_lt HQ.out.1
  · exact (HB2.out.cell (show (⟨g, 0, none⟩ : Addr).block < _ from HQ.out.1)).trans HQ.out.2.1
  · exact (HB2.out.cell (show (⟨g, 0 + 1, none⟩ : Addr).block < _ from HQ.out.1)).trans HQ.out.2.2.1
  · exact (HB2.out.cell (show (⟨g, 0 + 2, none⟩ : Addr).block < _ from HQ.out.1)).trans HQ.out.2.2.2.1
  · exact (HB2.out.cell (show (⟨g, 0 + 3, none⟩ : Addr).block < _ from HQ.out.1)).trans HQ.out.2.2.2.2
def impl_exchanged.f (a0 : ByteArray) : Option ByteArray := if a0.size ≤ 9223372036854775807 then some (strOfNums ((bytesOf a0).map (impl_exchanged_sw 90 83))) else none
set_option maxHeartbeats 1000000 in
set_option maxRecDepth 1000000 in
theorem impl_exchanged.calls (a0 : ByteArray) (r : ByteArray) (w : World) (h : impl_exchanged.f a0 = some r) :
    Calls Tryz.prog 26 #[.string a0] w fun e w' => e = .returned (.string r) ∧ Below w.heap.size w w' := by
  unfold impl_exchanged.f at h
  by_cases c : a0.size ≤ 9223372036854775807
  · rw [if_pos c] at h
    obtain rfl := Option.some.inj h
    clear h
    have HS := Aside0.mk c
    clear c
    have HB := Aside0.mk (Below.refl w.heap.size w)
    go_enter Tryz.func26, Tryz.ntmps26
    go_wp2_with (first | ((with_reducible refine gate_dst (N := 3) rfl ?_); refine Kd.R_lit Kd.string (w0 := w) w.heap.size 9 ?hg (N := 3) ?hd (xs := impl_exchanged_lst 90 83) (inner := [.string ⟨#[90]⟩, .string ⟨#[83]⟩, .string ⟨#[83]⟩, .string ⟨#[90]⟩]) (ok := fun _ => True) (okp := fun _ => True) ?hr ?hp (fun _ hk => hk) trivial (Below.refl _ _) (Nat.le_refl _) (by decide) ?_; (case hd => rfl); (case hg => rfl); (case hr => first | (go_simp; done) | (go_simp; rfl)); (case hp => exact ⟨rfl, fun i p hp => by match i, hp with | 0, hp => cases hp; exact rfl | 1, hp => cases hp; exact rfl | 2, hp => cases hp; exact rfl | 3, hp => cases hp; exact rfl⟩); intro v1 w1 ho hb hg hat; obtain ⟨A1, c1, hv1, hc1, hC1⟩ := Kd.R_reads ho; subst hv1; have HC1 := Aside0.mk hC1; have HL0 := Aside0.mk (below_size hb); have n0_ := Aside0.mk hb; clear HB hb hg hat ho hc1 hC1; have HB := n0_; clear n0_) | (go_at_call 44; refine (impl_exchanged_newReplacer 90 83 A1 c1 w1 HC1.out).mono ?_; rintro e w2 ⟨bR, g, c, rfl, hle, hne, hbk, q0, q1, q2, q3, hb⟩; have HQ := Aside0.mk (And.intro hle (And.intro hne (And.intro hbk (And.intro q0 (And.intro q1 (And.intro q2 q3)))))); have n0_ := Aside0.mk (below_step HB.out hb); clear HB hle hne hbk q0 q1 q2 q3; have HL := Aside0.mk (below_size hb); clear hb; have HB := n0_; clear n0_) | (go_at_call 45; refine (impl_exchanged_replacer 90 83 bR ⟨g, 0, none⟩ c a0 w2 rfl HQ.out.2.2.1 HQ.out.2.1 HQ.out.2.2.2.1 HQ.out.2.2.2.2.1 HQ.out.2.2.2.2.2.1 HQ.out.2.2.2.2.2.2 HS.out).mono ?_; rintro e w3 ⟨rfl, hb⟩; have HB3 := Aside0.mk hb; clear hb))
    go_ret
    exact ⟨rfl, HB.out.trans (HB3.out.mono (Nat.le_trans HL0.out HQ.out.1))⟩
  · rw [if_neg c] at h
    cases h

end Go.Proofs.YtdicnggfigedoaaGreatDoor.PFnExactTurnMaze
