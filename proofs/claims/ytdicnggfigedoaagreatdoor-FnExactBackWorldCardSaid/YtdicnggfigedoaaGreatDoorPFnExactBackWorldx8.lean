-- Made by wip/tools/xkit.py (a program of this session's) with the kit's printer.
import Derived.Test.YtdicnggfigedoaaGreatDoorPFnExactBackWorldx0
import Derived.Test.YtdicnggfigedoaaGreatDoorPFnExactBackWorldx1
import Derived.Test.YtdicnggfigedoaaGreatDoorPFnExactBackWorldx5
import Derived.Test.YtdicnggfigedoaaGreatDoorPFnExactBackWorldx6
import Derived.Test.YtdicnggfigedoaaGreatDoorPFnExactBackWorldx7
namespace Go.Proofs.YtdicnggfigedoaaGreatDoor.PFnExactBackWorld
open Go.RowKit Go.Proofs.YtdicnggfigedoaaGreatDoorW.PrintWords Go.Proofs.YtdicnggfigedoaaGreatDoorW.PrintLast Go.Proofs.YtdicnggfigedoaaGreatDoorW.PrintMore
attribute [local go_sem] max2_int min2_int max_two min_two max_three min_three max_four min_four   -- for this text's walks alone
set_option linter.unusedVariables false
set_option linter.unusedSimpArgs false

/-! ### impl_BackWorld: function 20, by hand -/
set_option maxHeartbeats 8000000 in
set_option maxRecDepth 100000 in
theorem slices_Reverse_byte_byte.callsB (k : Nat) (g cap : Nat) (l0 r : List Int) (w : World) (hB : XBytes.BRow g l0 w) (h : slices_Reverse_byte_byte.f k l0 = some r) :
    Calls Tryz.prog 39 #[.slice (some ⟨g, 0, none⟩) l0.length cap] w fun e w' => e = .returned (.tuple #[]) ∧ XBytes.BRow g r w' ∧ r.length = l0.length ∧ Below g w w' := by
  have HO := Aside0.mk hB
  clear hB
  have H : (slices_Reverse_byte_byte.l0 k l0 0 (wrap64 ((l0.length : Int) - 1))) = some r := h
  clear h
  have H' := Aside0.mk H
  clear H
  have HB := Aside0.mk (Below.refl g w)
  go_enter Tryz.func39, Tryz.ntmps39
  go_wp2
  go_loopg [2, 3] k (fun kq v2 v3 w' => ∃ (x0 : List Int) (x2 x3 : Int), v2 = .int .i64 x2 ∧ v3 = .int .i64 x3 ∧ Aside0 (slices_Reverse_byte_byte.l0 kq x0 x2 x3 = some r) ∧ Aside0 (kq ≤ k) ∧ Aside0 (x0.length = l0.length) ∧ Aside0 (XBytes.BRow g x0 w') ∧ Aside0 (Below g w w'))
  case atStart => exact ⟨l0, 0, wrap64 ((l0.length : Int) - 1), (by first | rfl | (simp; done) | (simp [*]; done)), (by first | rfl | (simp; done) | (simp [*]; done)), H', ⟨Nat.le_refl _⟩, ⟨rfl⟩, ⟨by repeat (first | exact HO.out | apply XBytes.BRow.drewN)⟩, ⟨by repeat (first | exact HB.out | apply pw_below_drewN | apply below_drew1)⟩⟩
  case round =>
    clear H' HO HB
    obtain ⟨x0, x2, x3, rfl, rfl, HA, HK1, HL, HO, HB⟩ := hrel
    cases gk with
    | zero => exact absurd HA.out (by simp [slices_Reverse_byte_byte.l0])
    | succ k1 =>
      have H := HA.out
      clear HA
      simp only [slices_Reverse_byte_byte.l0] at H
      by_cases c3 : x2 < x3
      · rw [if_pos c3] at H
        have c3b0 : decide (x2 < x3) = true := decide_eq_true c3
        by_cases c4 : 0 ≤ x3
        · rw [if_pos c4] at H
          have c4b0 : decide (0 ≤ x3) = true := decide_eq_true c4
          by_cases c5 : x3 < (x0.length : Int)
          · rw [if_pos c5] at H
            by_cases c6 : 0 ≤ x2
            · rw [if_pos c6] at H
              by_cases c7 : x2 < (x0.length : Int)
              · rw [if_pos c7] at H
                obtain ⟨y1, hy1⟩ : ∃ y_ : List Int, y_ = (x0.set (x2 : Int).toNat (rd x0 x3)) := ⟨_, rfl⟩
                obtain ⟨y2, hy2⟩ : ∃ y_ : List Int, y_ = (y1.set (x3 : Int).toNat (rd x0 x2)) := ⟨_, rfl⟩
                rw [← hy1, ← hy2] at H
                have H' := Aside0.mk H
                clear H
                have hx3 : wr.drew.cell? ⟨g, x3.toNat, none⟩ = some (.int .u8 (rd x0 x3)) := by
                  have := (HO.out.drewN 1).cell x3.toNat (by omega)
                  rw [show ((x3.toNat : Nat) : Int) = x3 by omega] at this
                  exact this
                have hx2 : wr.drew.cell? ⟨g, x2.toNat, none⟩ = some (.int .u8 (rd x0 x2)) := by
                  have := (HO.out.drewN 1).cell x2.toNat (by omega)
                  rw [show ((x2.toNat : Nat) : Int) = x2 by omega] at this
                  exact this
                have hf2 : wr.drew.frozen? ⟨g, x2.toNat, none⟩ = false := (HO.out.drewN 1).free x2.toNat (by omega)
                have b1 := XBytes.BRow.put (HO.out.drewN 1) x2.toNat (rd x0 x3)
                rw [← hy1] at b1
                have l1 : y1.length = x0.length := by rw [hy1, List.length_set]
                have hx9 := b1.cell x3.toNat (by omega)
                have hf3 := b1.free x3.toNat (by omega)
                have b2 := XBytes.BRow.put b1 x3.toNat (rd x0 x2)
                rw [← hy2] at b2
                have l2 : y2.length = x0.length := by rw [hy2, List.length_set, l1]
                have HBR := Aside0.mk b2
                have HL2 := Aside0.mk (l2.trans HL.out)
                have p3 : (0 ≤ x3) = True := eq_true c4
                have q3 : (x3 < (l0.length : Int)) = True := eq_true (by rw [← HL.out]; exact c5)
                have p2 : (0 ≤ x2) = True := eq_true c6
                have q2 : (x2 < (l0.length : Int)) = True := eq_true (by rw [← HL.out]; exact c7)
                clear b1 b2 l1 l2 hy1 hy2 c3 c4 c4b0 c5 c6 c7
                try go_wp2
                refine start_ (n := 16) (S := fun w' => w'.cell? ⟨g, (x3).toNat, none⟩ = some (.int .u8 (rd x0 x3)) ∧ w'.cell? ⟨g, (x2).toNat, none⟩ = some (.int .u8 (rd x0 x2))) (ds := [13, 15]) #[false, false, false, false, false, false, false, false, false, false, false, false, false, false, false, false] (by kernel_rfl) rfl rfl ⟨hx3, hx2⟩ (fun hHeld => ?_); refine with_tabW slices_Reverse_byte_byte.tab3 slices_Reverse_byte_byte.bits3 (fun HT_ HW_ => ?_)
                have HB2 := Aside0.mk (((below_drew1 HB.out).setCell (p := ⟨g, x2.toNat, none⟩) (Nat.le_refl g) (.int .u8 (rd x0 x3))).setCell (p := ⟨g, x3.toNat, none⟩) (Nat.le_refl g) (.int .u8 (rd x0 x2)))
                rw [show wr.drewN 1 = wr.drew from rfl] at HBR hx9 hf3
                clear HB HO
                generalize wr.drew = w10 at HBR HB2 hf2 hf3 hx3 hx2 hx9 hHeld ⊢
                refine pure_ (i := 0) (N := some 14) (v := ?_) (a' := ?_) #[true, false, false, false, false, false, false, false, false, false, false, false, false, false, false, false] rfl rfl (any_of HT_.out (by kernel_rfl)) (fun _ _ _ h => h) (Or.inl ⟨by rfl, ?_⟩) ?_ ?_
                rotate_left
                · intro w'
                  go_simp
                  with_reducible rfl
                rotate_left
                · simp only [Act.put, List.setIfInBounds_toArray, List.set_cons_zero, List.set_cons_succ, i64_w, i32_w]
                  rfl
                refine pure_ (i := 1) (N := some 15) (v := ?_) (a' := ?_) #[true, true, false, false, false, false, false, false, false, false, false, false, false, false, false, false] rfl rfl (any_of HT_.out (by kernel_rfl)) (fun _ _ _ h => h) (Or.inl ⟨by rfl, ?_⟩) ?_ ?_
                rotate_left
                · intro w'
                  go_simp
                  with_reducible rfl
                rotate_left
                · simp only [Act.put, List.setIfInBounds_toArray, List.set_cons_zero, List.set_cons_succ, i64_w, i32_w]
                  rfl
                refine pure_ (i := 2) (N := some 16) (v := ?_) (a' := ?_) #[true, true, true, false, false, false, false, false, false, false, false, false, false, false, false, false] rfl rfl (any_of HT_.out (by kernel_rfl)) (fun _ _ _ h => h) (Or.inl ⟨by rfl, ?_⟩) ?_ ?_
                rotate_left
                · intro w'
                  go_simp
                  with_reducible rfl
                rotate_left
                · simp only [Act.put, List.setIfInBounds_toArray, List.set_cons_zero, List.set_cons_succ, i64_w, i32_w]
                  rfl
                refine pure_ (i := 3) (N := some 17) (v := ?_) (a' := ?_) #[true, true, true, true, false, false, false, false, false, false, false, false, false, false, false, false] rfl rfl (any_of HT_.out (by kernel_rfl)) (fun _ _ _ h => h) (Or.inl ⟨by rfl, ?_⟩) ?_ ?_
                rotate_left
                · intro w'
                  go_simp
                  with_reducible rfl
                rotate_left
                · simp only [Act.put, List.setIfInBounds_toArray, List.set_cons_zero, List.set_cons_succ, i64_w, i32_w]
                  rfl
                refine pure_ (i := 4) (N := some 18) (v := ?_) (a' := ?_) #[true, true, true, true, true, false, false, false, false, false, false, false, false, false, false, false] rfl rfl (any_of HT_.out (by kernel_rfl)) (fun _ _ _ h => h) (Or.inl ⟨by rfl, ?_⟩) ?_ ?_
                rotate_left
                · intro w'
                  go_simp
                  with_reducible rfl
                rotate_left
                · simp only [Act.put, List.setIfInBounds_toArray, List.set_cons_zero, List.set_cons_succ, i64_w, i32_w]
                  rfl
                refine pure_ (i := 5) (N := some 19) (v := ?_) (a' := ?_) #[true, true, true, true, true, true, false, false, false, false, false, false, false, false, false, false] rfl rfl (any_of HT_.out (by kernel_rfl)) (fun _ _ _ h => h) (Or.inl ⟨by rfl, ?_⟩) ?_ ?_
                rotate_left
                · intro w'
                  go_simp
                  with_reducible rfl
                rotate_left
                · simp only [Act.put, List.setIfInBounds_toArray, List.set_cons_zero, List.set_cons_succ, i64_w, i32_w]
                  rfl
                refine pure_ (i := 6) (N := some 20) (v := ?_) (a' := ?_) #[true, true, true, true, true, true, true, false, false, false, false, false, false, false, false, false] rfl rfl (any_of HT_.out (by kernel_rfl)) (fun _ _ _ h => h) (Or.inl ⟨by rfl, ?_⟩) ?_ ?_
                rotate_left
                · intro w'
                  go_simp
                  with_reducible rfl
                rotate_left
                · simp only [Act.put, List.setIfInBounds_toArray, List.set_cons_zero, List.set_cons_succ, i64_w, i32_w]
                  rfl
                refine pure_ (i := 8) (N := some 22) (v := ?_) (a' := ?_) #[true, true, true, true, true, true, true, false, true, false, false, false, false, false, false, false] rfl rfl (any_of HT_.out (by kernel_rfl)) (fun _ _ _ h => h) (Or.inl ⟨by rfl, ?_⟩) ?_ ?_
                rotate_left
                · intro w'
                  go_simp
                  with_reducible rfl
                rotate_left
                · simp only [Act.put, List.setIfInBounds_toArray, List.set_cons_zero, List.set_cons_succ, i64_w, i32_w]
                  rfl
                refine pure_ (i := 9) (N := some 23) (v := ?_) (a' := ?_) #[true, true, true, true, true, true, true, false, true, true, false, false, false, false, false, false] rfl rfl (any_of HT_.out (by kernel_rfl)) (fun _ _ _ h => h) (Or.inl ⟨by rfl, ?_⟩) ?_ ?_
                rotate_left
                · intro w'
                  go_simp
                  with_reducible rfl
                rotate_left
                · simp only [Act.put, List.setIfInBounds_toArray, List.set_cons_zero, List.set_cons_succ, i64_w, i32_w]
                  rfl
                refine pure_ (i := 10) (N := some 24) (v := ?_) (a' := ?_) #[true, true, true, true, true, true, true, false, true, true, true, false, false, false, false, false] rfl rfl (any_of HT_.out (by kernel_rfl)) (fun _ _ _ h => h) (Or.inl ⟨by rfl, ?_⟩) ?_ ?_
                rotate_left
                · intro w'
                  go_simp
                  with_reducible rfl
                rotate_left
                · simp only [Act.put, List.setIfInBounds_toArray, List.set_cons_zero, List.set_cons_succ, i64_w, i32_w]
                  rfl
                refine take_ (i := 7) (N := some 21) (v := ?_) (a' := ?_) #[true, true, true, true, true, true, true, true, true, true, true, false, false, false, false, false] rfl rfl (take_ofW HT_.out HW_.out (by kernel_rfl)) (fun _ _ _ h => h) (Or.inl ⟨by rfl, ?_⟩) hHeld ?_ ?_
                rotate_left
                · rintro w' ⟨s0, s1⟩
                  go_simp
                  with_reducible rfl
                rotate_left
                · simp only [Act.put, List.setIfInBounds_toArray, List.set_cons_zero, List.set_cons_succ, i64_w, i32_w]
                  rfl
                refine take_ (i := 11) (N := some 25) (v := ?_) (a' := ?_) #[true, true, true, true, true, true, true, true, true, true, true, true, false, false, false, false] rfl rfl (take_ofW HT_.out HW_.out (by kernel_rfl)) (fun _ _ _ h => h) (Or.inl ⟨by rfl, ?_⟩) hHeld ?_ ?_
                rotate_left
                · rintro w' ⟨s0, s1⟩
                  go_simp
                  with_reducible rfl
                rotate_left
                · simp only [Act.put, List.setIfInBounds_toArray, List.set_cons_zero, List.set_cons_succ, i64_w, i32_w]
                  rfl
                refine pure_ (i := 12) (N := some 26) (v := ?_) (a' := ?_) #[true, true, true, true, true, true, true, true, true, true, true, true, true, false, false, false] rfl rfl (any_of HT_.out (by kernel_rfl)) (fun _ _ _ h => h) (Or.inl ⟨by rfl, ?_⟩) ?_ ?_
                rotate_left
                · intro w'
                  go_simp
                  with_reducible rfl
                rotate_left
                · simp only [Act.put, List.setIfInBounds_toArray, List.set_cons_zero, List.set_cons_succ, i64_w, i32_w]
                  rfl
                refine last_ (i := 13) (N := none) #[true, true, true, true, true, true, true, true, true, true, true, true, true, true, false, false] rfl rfl (one_of HT_.out (by kernel_rfl)) (by decide) (fun K hK => ?_)
                refine skip_ (w1 := ?_) (by rfl) rfl ?_ ?_
                rotate_left
                · go_simp
                  rfl
                refine hK.out _ _ ?_
                clear hK K
                refine pure_ (i := 14) (N := some 27) (v := ?_) (a' := ?_) #[true, true, true, true, true, true, true, true, true, true, true, true, true, true, true, false] rfl rfl (any_of HT_.out (by kernel_rfl)) (fun _ _ _ h => h) (Or.inl ⟨by rfl, ?_⟩) ?_ ?_
                rotate_left
                · intro w'
                  go_simp
                  with_reducible rfl
                rotate_left
                · simp only [Act.put, List.setIfInBounds_toArray, List.set_cons_zero, List.set_cons_succ, i64_w, i32_w]
                  rfl
                refine last_ (i := 15) (N := none) #[true, true, true, true, true, true, true, true, true, true, true, true, true, true, true, true] rfl rfl (one_of HT_.out (by kernel_rfl)) (by decide) (fun K hK => ?_)
                refine skip_ (w1 := ?_) (by rfl) rfl ?_ ?_
                rotate_left
                · go_simp
                  rfl
                refine hK.out _ _ ?_
                clear hK K
                refine done_ (done_of HT_.out (by kernel_rfl)) ?_
                try go_wp2
                go_roundg k1
                case measure => omega
                case rel => exact ⟨y2, wrap64 (x2 + 1), wrap64 (x3 - 1), (by first | rfl | (simp; done) | (simp [*]; done)), (by first | rfl | (simp; done) | (simp [*]; done)), H', ⟨by have := HK1.out; omega⟩, HL2, ⟨by repeat (first | exact HBR.out | apply XBytes.BRow.drewN)⟩, ⟨by repeat (first | exact HB2.out | apply pw_below_drewN | apply below_drew1)⟩⟩
              · rw [if_neg c7] at H
                exact absurd H (by simp)
            · rw [if_neg c6] at H
              exact absurd H (by simp)
          · rw [if_neg c5] at H
            exact absurd H (by simp)
        · rw [if_neg c4] at H
          exact absurd H (by simp)
      · rw [if_neg c3] at H
        have c3b0 : decide (x2 < x3) = false := decide_eq_false c3
        clear c3
        obtain rfl := Option.some.inj H
        clear H
        go_wp2
        first | go_end0 | ((try simp only [Exit.inBlock, Exit.then]); refine bodyPost_ret (results_none rfl _ _ _) rfl ?_)
        exact ⟨by first | rfl | (simp; done), by repeat (first | exact HO.out | apply XBytes.BRow.drewN), HL.out, by repeat (first | exact HB.out | apply pw_below_drewN | apply below_drew1)⟩
def mixF (f : Int → Int) (l : List Int) (i : Nat) : List Int := (l.take i).map f ++ l.drop i
theorem mixF_zero (f : Int → Int) (l : List Int) : mixF f l 0 = l := by simp [mixF]
theorem mixF_length (f : Int → Int) (l : List Int) (i : Nat) : (mixF f l i).length = l.length := by simp [mixF]; omega
theorem mixF_all (f : Int → Int) (l : List Int) (i : Nat) (h : l.length ≤ i) : mixF f l i = l.map f := by simp [mixF, List.take_of_length_le h, List.drop_of_length_le h]
theorem mixF_step (f : Int → Int) (l : List Int) (i : Nat) (h : i < l.length) : (mixF f l i).set i (f (rd l (i : Int))) = mixF f l (i + 1) := by
  have hl : ((l.take i).map f).length = i := by simp; omega
  have hr : rd l (i : Int) = l[i] := by simp [rd, List.getD_eq_getElem?_getD, h]
  unfold mixF
  rw [hr, List.set_append_right _ _ (by omega), hl, Nat.sub_self, List.drop_eq_getElem_cons h, List.set_cons_zero, ← List.take_append_getElem h, List.map_append]
  simp
theorem mixF_rd (f : Int → Int) (l : List Int) (i : Nat) (h : i < l.length) : rd (mixF f l i) (i : Int) = rd l (i : Int) := by
  have hl : ((l.take i).map f).length = i := by simp; omega
  simp only [rd, mixF, List.getD_eq_getElem?_getD, Int.toNat_natCast]
  rw [List.getElem?_append_right (by omega), hl, Nat.sub_self, List.getElem?_drop]
  rfl
structure impl_BackWorld_St (w W : World) (gA gB : Nat) (cs : Array Value) : Prop where
  a : W.heap[gA]? = some (.cells cs 34 (0, 0))
  b : W.heap[gB]? = some (.cells #[.string (⟨#[]⟩ : ByteArray), .int .i64 0, .int .i64 0, .string (⟨#[]⟩ : ByteArray), .int .i64 0, .int .i64 0, .int .i64 0] 34 (0, 0))
  ne : gA ≠ gB
  ga : w.heap.size ≤ gA
  gb : w.heap.size ≤ gB
  bel : Below w.heap.size w W
theorem impl_BackWorld_St.below {w W W' : World} {gA gB : Nat} {cs : Array Value} (h : impl_BackWorld_St w W gA gB cs) (hb : Below W.heap.size W W') : impl_BackWorld_St w W' gA gB cs := ⟨blk_below h.a hb, blk_below h.b hb, h.ne, h.ga, h.gb, below_step h.bel hb⟩
theorem impl_BackWorld_St.below2 {w W W' : World} {gA gB g : Nat} {cs : Array Value} (h : impl_BackWorld_St w W gA gB cs) (hb : Below g W W') (h1 : gA < g) (h2 : gB < g) (hg : w.heap.size ≤ g) : impl_BackWorld_St w W' gA gB cs := ⟨(hb.block gA h1).trans h.a, (hb.block gB h2).trans h.b, h.ne, h.ga, h.gb, h.bel.trans (hb.mono hg)⟩
theorem impl_BackWorld_St.far {w W : World} {gA gB g j : Nat} {cs : Array Value} {v : Value} (h : impl_BackWorld_St w W gA gB cs) (h1 : gA ≠ g) (h2 : gB ≠ g) (hg : w.heap.size ≤ g) : impl_BackWorld_St w (W.setCell ⟨g, j, none⟩ v) gA gB cs := ⟨blk_far h.a h1 _, blk_far h.b h2 _, h.ne, h.ga, h.gb, below_set h.bel hg⟩
theorem impl_BackWorld_St.put {w W : World} {gA gB : Nat} {cs cs' : Array Value} (h : impl_BackWorld_St w W gA gB cs) (j : Nat) (v : Value) (e : cs.setIfInBounds j v = cs') : impl_BackWorld_St w (W.setCell ⟨gA, j, none⟩ v) gA gB cs' := ⟨blk_put h.a j v e, blk_far h.b h.ne.symm _, h.ne, h.ga, h.gb, below_set h.bel h.ga⟩
theorem impl_BackWorld_St.drewN {w W : World} {gA gB : Nat} {cs : Array Value} (h : impl_BackWorld_St w W gA gB cs) (m : Nat) : impl_BackWorld_St w (W.drewN m) gA gB cs := ⟨h.a, h.b, h.ne, h.ga, h.gb, pw_below_drewN h.bel m⟩
theorem impl_BackWorld_St.drew {w W : World} {gA gB : Nat} {cs : Array Value} (h : impl_BackWorld_St w W gA gB cs) : impl_BackWorld_St w W.drew gA gB cs := ⟨h.a, h.b, h.ne, h.ga, h.gb, below_drew1 h.bel⟩
theorem impl_BackWorld_rev (k : Nat) (g cap n : Nat) (l0 r : List Int) (w : World) (hn : n = l0.length) (hB : XBytes.BRow g l0 w) (h : slices_Reverse_byte_byte.f k l0 = some r) :
    Calls Tryz.prog 39 #[.slice (some ⟨g, 0, none⟩) n cap] w fun e w' => e = .returned (.tuple #[]) ∧ XBytes.BRow g r w' ∧ r.length = l0.length ∧ Below g w w' := by
  subst hn
  exact slices_Reverse_byte_byte.callsB k g cap l0 r w hB h
theorem impl_BackWorld_lt {g : Nat} {xs : List Int} {w : World} (h : XBytes.BRow g xs w) : g < w.heap.size := by
  obtain ⟨cs, t, lo, hi, he, _⟩ := h
  exact (Array.getElem?_eq_some_iff.1 he).1
/-- A cell turned back. -/
def impl_BackWorld_bk (n v : Int) : Int := (wrap64 (48 + Int.tmod (wrap64 (n - (v - 48) % 256)) n)) % 256
def impl_BackWorld.f (k : Nat) (a0_0 : ByteArray) (a0_1 : Int) (a0_2 : Int) (a0_3 : ByteArray) (a0_4 : Int) (a0_5 : Int) (a0_6 : Int) : Option (ByteArray × Int × Int × ByteArray × Int × Int × Int × Bool) :=
  (impl_IsWorld.f k a0_0 a0_1 a0_2 a0_3 a0_4 a0_5 a0_6).bind fun t => (if t = true then (if a0_3.size ≤ 9223372036854775807 then ((impl_other.f a0_0).bind fun o => (if o.size = 0 then none else (if o.size ≤ 9223372036854775807 then ((slices_Reverse_byte_byte.f k (bytesOf o)).bind fun R => ((impl_World_gone.f (strOfNums R) a0_1 a0_2 (strOfNums ((bytesOf a0_3).map (impl_BackWorld_bk (o.size : Int)))) a0_4 a0_5 (Int.tmod (wrap64 (a0_6 + 2)) 4) 1).bind fun g => (some (g.1, g.2.1, g.2.2.1, g.2.2.2.1, g.2.2.2.2.1, g.2.2.2.2.2.1, g.2.2.2.2.2.2, true)))) else none))) else none) else (some ((⟨#[]⟩ : ByteArray), 0, 0, (⟨#[]⟩ : ByteArray), 0, 0, 0, false)))
theorem impl_BackWorld.mono : ∀ a0 a1 a2 a3 a4 a5 a6 k, LeO (impl_BackWorld.f k a0 a1 a2 a3 a4 a5 a6) (impl_BackWorld.f (k + 1) a0 a1 a2 a3 a4 a5 a6) := by
  intro a0 a1 a2 a3 a4 a5 a6 k
  unfold impl_BackWorld.f
  repeat' first
      | (with_reducible exact impl_IsWorld.mono _ _ _ _ _ _ _ _)
      | (with_reducible exact slices_Reverse_byte_byte.mono _ _)
      | (with_reducible exact LeO.refl _)
      | (with_reducible exact LeO.none _)
      | (with_reducible refine LeO.ite ?_ ?_)
      | (with_reducible refine LeO.bind ?_ (fun _ => ?_))
def impl_BackWorld.T11 : Bool × List (List Nat × List Nat) := (true, [([], []), ([0], [0]), ([], []), ([2], [2]), ([], []), ([4], [4]), ([5], [5]), ([6], [6]), ([0, 1, 4, 5], []), ([8, 1, 0, 1, 4, 5], [1, 8]), ([0, 1, 2, 3, 4, 5, 8, 9], []), ([10, 3, 9, 0, 1, 2, 3, 4, 5, 8, 9], [3, 10]), ([0, 1, 2, 3, 4, 5, 6, 7, 8, 9, 10, 11], []), ([12, 7, 11, 0, 1, 2, 3, 4, 5, 6, 7, 8, 9, 10, 11], [7, 12])])
def impl_BackWorld.B11 : List Nat := [0, 1, 0, 4, 0, 16, 48, 112, 51, 307, 831, 1855, 4095, 8191]
theorem impl_BackWorld.tab11 : rtab .any (opsOf Tryz.f20 11) = impl_BackWorld.T11 := by kernel_rfl
theorem impl_BackWorld.bits11 : waitsOk impl_BackWorld.T11.2 impl_BackWorld.B11 = true := by kernel_rfl
set_option maxHeartbeats 8000000 in
set_option maxRecDepth 100000 in
theorem impl_BackWorld.calls (k : Nat) (a0_0 : ByteArray) (a0_1 : Int) (a0_2 : Int) (a0_3 : ByteArray) (a0_4 : Int) (a0_5 : Int) (a0_6 : Int) (r1 : ByteArray) (r2 : Int) (r3 : Int) (r4 : ByteArray) (r5 : Int) (r6 : Int) (r7 : Int) (r8 : Bool) (w : World) (h : impl_BackWorld.f k a0_0 a0_1 a0_2 a0_3 a0_4 a0_5 a0_6 = some (r1, r2, r3, r4, r5, r6, r7, r8)) :
    Calls Tryz.prog 20 #[.agg #[.string a0_0, .int .i64 a0_1, .int .i64 a0_2, .string a0_3, .int .i64 a0_4, .int .i64 a0_5, .int .i64 a0_6]] w fun e w' => e = .returned (.tuple #[.agg #[.string r1, .int .i64 r2, .int .i64 r3, .string r4, .int .i64 r5, .int .i64 r6, .int .i64 r7], .bool r8]) ∧ Below w.heap.size w w' := by
  have hu34 := Tryz.underlying34
  have HB := Aside0.mk (Below.refl w.heap.size w)
  unfold impl_BackWorld.f at h
  obtain ⟨t, A10, H⟩ := Option.bind_eq_some_iff.mp h
  clear h
  have A1 := Aside0.mk A10
  clear A10
  by_cases c1 : t = true
  · subst c1
    rw [if_pos rfl] at H
    by_cases c2 : a0_3.size ≤ 9223372036854775807
    · rw [if_pos c2] at H
      have SC := Aside0.mk c2
      clear c2
      obtain ⟨o, A20, H⟩ := Option.bind_eq_some_iff.mp H
      have A2 := Aside0.mk A20
      clear A20
      by_cases c3 : o.size = 0
      · rw [if_pos c3] at H
        cases H
      · rw [if_neg c3] at H
        by_cases c4 : o.size ≤ 9223372036854775807
        · rw [if_pos c4] at H
          have SO := Aside0.mk c4
          clear c4
          obtain ⟨R, A30, H⟩ := Option.bind_eq_some_iff.mp H
          have A3 := Aside0.mk A30
          clear A30
          obtain ⟨⟨q1, q2, q3, q4, q5, q6, q7⟩, A40, H⟩ := Option.bind_eq_some_iff.mp H
          have A4 := Aside0.mk A40
          clear A40
          simp only [Option.some.injEq, Prod.mk.injEq] at H
          obtain ⟨rfl, rfl, rfl, rfl, rfl, rfl, rfl, rfl⟩ := H
          clear H
          have z1 : (o.size : Int) ≠ 0 := by omega
          have z2 : ((o.size : Int) == 0) = false := by simpa using z1
          have Z1 := Aside0.mk z1
          go_enter Tryz.func20, Tryz.ntmps20
          go_wp2_with (first | ((with_reducible refine gate_dst (N := 1) rfl ?_); refine box_event ?hg (N := 1) ?hd (cs := #[.string a0_0, .int .i64 a0_1, .int .i64 a0_2, .string a0_3, .int .i64 a0_4, .int .i64 a0_5, .int .i64 a0_6]) (t := 34) ?hr ?_; (case hd => rfl); (case hg => rfl); (case hr => first | (go_simp; done) | (go_simp; rfl)); intro gA hg w1 hbox hb; have HBK := Aside0.mk hbox; have HBL := Aside0.mk (below_step (XSq.bB HB) hb); have HGA := XSq.gw hg (XSq.bB HB); clear hg hbox hb HB) | ((with_reducible refine gate_dst (N := 2) rfl ?_); refine box_event ?hg (N := 2) ?hd (cs := #[.string (⟨#[]⟩ : ByteArray), .int .i64 0, .int .i64 0, .string (⟨#[]⟩ : ByteArray), .int .i64 0, .int .i64 0, .int .i64 0]) (t := 34) ?hr ?_; (case hd => rfl); (case hg => rfl); (case hr => first | (go_simp; done) | (go_simp; rfl)); intro gB hg w2 hbox hb; have HST := Aside0.mk (impl_BackWorld_St.mk (XSq.bb HBK hb).out hbox (XSq.nl hg (XSq.bq HBK)).out HGA.out (XSq.gw hg (XSq.bB HBL)).out (below_step (XSq.bB HBL) hb)); clear hg hbox hb HBK HBL HGA; have hc2_0 : w2.cell? ⟨gA, 0, none⟩ = some (.string a0_0) := (blk_cell HST.out.a 0).trans rfl; have hc2_1 : w2.cell? ⟨gA, 1, none⟩ = some (.int .i64 a0_1) := (blk_cell HST.out.a 1).trans rfl; have hc2_2 : w2.cell? ⟨gA, 2, none⟩ = some (.int .i64 a0_2) := (blk_cell HST.out.a 2).trans rfl; have hc2_3 : w2.cell? ⟨gA, 3, none⟩ = some (.string a0_3) := (blk_cell HST.out.a 3).trans rfl; have hc2_4 : w2.cell? ⟨gA, 4, none⟩ = some (.int .i64 a0_4) := (blk_cell HST.out.a 4).trans rfl; have hc2_5 : w2.cell? ⟨gA, 5, none⟩ = some (.int .i64 a0_5) := (blk_cell HST.out.a 5).trans rfl; have hc2_6 : w2.cell? ⟨gA, 6, none⟩ = some (.int .i64 a0_6) := (blk_cell HST.out.a 6).trans rfl; have hf2_0 : w2.frozen? ⟨gA, 0, none⟩ = false := blk_frozen HST.out.a 0; have hf2_1 : w2.frozen? ⟨gA, 1, none⟩ = false := blk_frozen HST.out.a 1; have hf2_2 : w2.frozen? ⟨gA, 2, none⟩ = false := blk_frozen HST.out.a 2; have hf2_3 : w2.frozen? ⟨gA, 3, none⟩ = false := blk_frozen HST.out.a 3; have hf2_4 : w2.frozen? ⟨gA, 4, none⟩ = false := blk_frozen HST.out.a 4; have hf2_5 : w2.frozen? ⟨gA, 5, none⟩ = false := blk_frozen HST.out.a 5; have hf2_6 : w2.frozen? ⟨gA, 6, none⟩ = false := blk_frozen HST.out.a 6; have hne2 := HST.out.ne) | (go_at_call 31; refine (impl_IsWorld.calls k a0_0 a0_1 a0_2 a0_3 a0_4 a0_5 a0_6 true _ A1.out).mono ?_; rintro e w3 ⟨rfl, hb⟩; have n0_ := Aside0.mk (impl_BackWorld_St.below (by repeat (first | exact HST.out | apply impl_BackWorld_St.drewN | apply impl_BackWorld_St.drew)) hb); clear HST hb; have HST := n0_; clear n0_; have hc3_0 : w3.cell? ⟨gA, 0, none⟩ = some (.string a0_0) := (blk_cell HST.out.a 0).trans rfl; have hc3_1 : w3.cell? ⟨gA, 1, none⟩ = some (.int .i64 a0_1) := (blk_cell HST.out.a 1).trans rfl; have hc3_2 : w3.cell? ⟨gA, 2, none⟩ = some (.int .i64 a0_2) := (blk_cell HST.out.a 2).trans rfl; have hc3_3 : w3.cell? ⟨gA, 3, none⟩ = some (.string a0_3) := (blk_cell HST.out.a 3).trans rfl; have hc3_4 : w3.cell? ⟨gA, 4, none⟩ = some (.int .i64 a0_4) := (blk_cell HST.out.a 4).trans rfl; have hc3_5 : w3.cell? ⟨gA, 5, none⟩ = some (.int .i64 a0_5) := (blk_cell HST.out.a 5).trans rfl; have hc3_6 : w3.cell? ⟨gA, 6, none⟩ = some (.int .i64 a0_6) := (blk_cell HST.out.a 6).trans rfl; have hf3_0 : w3.frozen? ⟨gA, 0, none⟩ = false := blk_frozen HST.out.a 0; have hf3_1 : w3.frozen? ⟨gA, 1, none⟩ = false := blk_frozen HST.out.a 1; have hf3_2 : w3.frozen? ⟨gA, 2, none⟩ = false := blk_frozen HST.out.a 2; have hf3_3 : w3.frozen? ⟨gA, 3, none⟩ = false := blk_frozen HST.out.a 3; have hf3_4 : w3.frozen? ⟨gA, 4, none⟩ = false := blk_frozen HST.out.a 4; have hf3_5 : w3.frozen? ⟨gA, 5, none⟩ = false := blk_frozen HST.out.a 5; have hf3_6 : w3.frozen? ⟨gA, 6, none⟩ = false := blk_frozen HST.out.a 6) | (go_at_call 33; refine (impl_other.calls a0_0 o _ A2.out).mono ?_; rintro e w4 ⟨rfl, hb⟩; have n0_ := Aside0.mk (impl_BackWorld_St.below (by repeat (first | exact HST.out | apply impl_BackWorld_St.drewN | apply impl_BackWorld_St.drew)) hb); clear HST hb; have HST := n0_; clear n0_) | ((with_reducible refine gate_dst (N := 15) rfl ?_); refine XBytes.conv_event 9 54 5 Tryz.underlying9 Tryz.underlying54 Tryz.underlying5 o SO.out rfl (.tmp 14) rfl ?hx ?_; (case hx => first | rfl | (go_simp; done) | (go_simp; rfl)); intro gR capR w5 hrow hge hb; have n0_ := Aside0.mk (impl_BackWorld_St.below (by repeat (first | exact HST.out | apply impl_BackWorld_St.drewN | apply impl_BackWorld_St.drew)) hb); have hlA := blk_lt (HST.out : impl_BackWorld_St w _ gA gB _).a; have hlB := blk_lt (HST.out : impl_BackWorld_St w _ gA gB _).b; have HAR := Aside0.mk (show gA < gR from Nat.lt_of_lt_of_le hlA hge); have HBR := Aside0.mk (show gB < gR from Nat.lt_of_lt_of_le hlB hge); clear hlA hlB; have HWR := Aside0.mk (show w.heap.size ≤ gR from Nat.le_trans HST.out.bel.size hge); have HR0 := Aside0.mk hrow; clear HST hb hge hrow; have HST := n0_; clear n0_) | (go_at_call 39; refine (impl_BackWorld_rev k gR capR o.size (bytesOf o) R _ (bytesOf_length o).symm (by repeat (first | exact HR0.out | apply XBytes.BRow.drewN)) A3.out).mono ?_; rintro e w6 ⟨rfl, hrow, hlen, hb⟩; have n0_ := Aside0.mk (impl_BackWorld_St.below2 (by repeat (first | exact HST.out | apply impl_BackWorld_St.drewN | apply impl_BackWorld_St.drew)) hb HAR.out HBR.out HWR.out); have HRL := Aside0.mk (hlen.trans (bytesOf_length o)); have HR := Aside0.mk hrow; clear HST hb HR0 hrow hlen; have HST := n0_; clear n0_; have hc6_0 : w6.cell? ⟨gA, 0, none⟩ = some (.string a0_0) := (blk_cell HST.out.a 0).trans rfl; have hc6_1 : w6.cell? ⟨gA, 1, none⟩ = some (.int .i64 a0_1) := (blk_cell HST.out.a 1).trans rfl; have hc6_2 : w6.cell? ⟨gA, 2, none⟩ = some (.int .i64 a0_2) := (blk_cell HST.out.a 2).trans rfl; have hc6_3 : w6.cell? ⟨gA, 3, none⟩ = some (.string a0_3) := (blk_cell HST.out.a 3).trans rfl; have hc6_4 : w6.cell? ⟨gA, 4, none⟩ = some (.int .i64 a0_4) := (blk_cell HST.out.a 4).trans rfl; have hc6_5 : w6.cell? ⟨gA, 5, none⟩ = some (.int .i64 a0_5) := (blk_cell HST.out.a 5).trans rfl; have hc6_6 : w6.cell? ⟨gA, 6, none⟩ = some (.int .i64 a0_6) := (blk_cell HST.out.a 6).trans rfl; have hf6_0 : w6.frozen? ⟨gA, 0, none⟩ = false := blk_frozen HST.out.a 0; have hf6_1 : w6.frozen? ⟨gA, 1, none⟩ = false := blk_frozen HST.out.a 1; have hf6_2 : w6.frozen? ⟨gA, 2, none⟩ = false := blk_frozen HST.out.a 2; have hf6_3 : w6.frozen? ⟨gA, 3, none⟩ = false := blk_frozen HST.out.a 3; have hf6_4 : w6.frozen? ⟨gA, 4, none⟩ = false := blk_frozen HST.out.a 4; have hf6_5 : w6.frozen? ⟨gA, 5, none⟩ = false := blk_frozen HST.out.a 5; have hf6_6 : w6.frozen? ⟨gA, 6, none⟩ = false := blk_frozen HST.out.a 6) | ((with_reducible refine gate_dst (N := 20) rfl ?_); refine XBytes.conv_event 9 54 5 Tryz.underlying9 Tryz.underlying54 Tryz.underlying5 a0_3 SC.out rfl (.tmp 19) rfl ?hx ?_; (case hx => first | rfl | (go_simp; done) | (go_simp; rfl)); intro gC capC w7 hrow hge hb; have n0_ := Aside0.mk (impl_BackWorld_St.below (by repeat (first | exact HST.out | apply impl_BackWorld_St.drewN | apply impl_BackWorld_St.drew)) hb); have HRC := Aside0.mk (show gR < gC from Nat.lt_of_lt_of_le (impl_BackWorld_lt HR.out) hge); have n1_ := Aside0.mk (XBytes.BRow.below ((by repeat (first | exact HR.out | apply XBytes.BRow.drewN))) hb); have HC0 := Aside0.mk hrow; clear HST HR hb hge hrow; have HST := n0_; have HR := n1_; clear n0_ n1_))
          go_loopg [23] (a0_3.size + 1) (fun kq v23 w' => ∃ i : Nat, v23 = .int .i64 (i : Int) ∧ Aside0 (kq + i = a0_3.size + 1 ∧ i ≤ a0_3.size) ∧ Aside0 (XBytes.BRow gC (mixF (impl_BackWorld_bk (o.size : Int)) (bytesOf a0_3) i) w') ∧ Aside0 (XBytes.BRow gR R w') ∧ Aside0 (impl_BackWorld_St w w' gA gB #[.string a0_0, .int .i64 a0_1, .int .i64 a0_2, .string a0_3, .int .i64 a0_4, .int .i64 a0_5, .int .i64 a0_6]))
          case atStart => exact ⟨0, rfl, ⟨rfl, Nat.zero_le _⟩, ⟨by rw [mixF_zero]; repeat (first | exact HC0.out | apply XBytes.BRow.drewN)⟩, ⟨(by repeat (first | exact HR.out | apply XBytes.BRow.drewN))⟩, ⟨(by repeat (first | exact HST.out | apply impl_BackWorld_St.drewN | apply impl_BackWorld_St.drew))⟩⟩
          case round =>
            clear HC0 HR HST
            obtain ⟨i, rfl, HK, HC, HR, HST⟩ := hrel
            cases gk with
            | zero => exact absurd HK.out (by omega)
            | succ k1 =>
              have ws : i < a0_3.size → wrap64 ((i : Int) + 1) = ((i + 1 : Nat) : Int) := fun hi => by have := SC.out; unfold wrap64; omega
              have WS := Aside0.mk ws
              clear ws
              by_cases ci : i < a0_3.size
              · have CI := Aside0.mk ci
                have hi : (i : Int) < (a0_3.size : Int) := by omega
                have hlc : i < (mixF (impl_BackWorld_bk (o.size : Int)) (bytesOf a0_3) i).length := by rw [mixF_length, bytesOf_length]; exact ci
                have hfc := HC.out.cell i hlc
                have hff := HC.out.free i hlc
                clear hlc
                rw [mixF_rd _ _ _ (by rw [bytesOf_length]; exact ci)] at hfc
                have HX := Aside0.mk (mixF_step (impl_BackWorld_bk (o.size : Int)) (bytesOf a0_3) i (by rw [bytesOf_length]; exact ci))
                obtain ⟨x, hx⟩ : ∃ x : Int, rd (bytesOf a0_3) (i : Int) = x := ⟨_, rfl⟩
                rw [hx] at hfc HX
                clear hx
                go_wp2
                go_roundg k1
                case measure => omega
                case rel => exact ⟨i + 1, by first | rfl | (rw [← WS.out CI.out]; rfl) | simp [WS.out CI.out], ⟨by have := HK.out; have := CI.out; omega⟩, ⟨by
                  have h1 := (HC.out.drewN 0).put i (impl_BackWorld_bk (o.size : Int) x)
                  rw [HX.out] at h1
                  exact h1⟩, ⟨XBytes.BRow.far HR.out (Nat.ne_of_lt HRC.out) _⟩, ⟨impl_BackWorld_St.far HST.out (Nat.ne_of_lt (Nat.lt_trans HAR.out HRC.out)) (Nat.ne_of_lt (Nat.lt_trans HBR.out HRC.out)) (Nat.le_trans HWR.out (Nat.le_of_lt HRC.out))⟩⟩
              · have hi : ¬ ((i : Int) < (a0_3.size : Int)) := by omega
                have CI := Aside0.mk ci
                clear ci
                have hm := HC.out
                rw [mixF_all _ _ _ (by rw [bytesOf_length]; have := CI.out; omega)] at hm
                have HC1 := Aside0.mk hm
                clear hm HC
                go_wp2
                refine start_ (n := 14) (S := fun w' => XBytes.BRow gR R w' ∧ XBytes.BRow gC ((bytesOf a0_3).map (impl_BackWorld_bk (o.size : Int))) w' ∧ w'.cell? ⟨gA, 6, none⟩ = some (.int .i64 a0_6)) (ds := [11, 13]) #[false, false, false, false, false, false, false, false, false, false, false, false, false, false] (by kernel_rfl) rfl rfl ⟨HR.out, HC1.out, (blk_cell HST.out.a 6).trans rfl⟩ (fun hHeld => ?_); refine with_tabW impl_BackWorld.tab11 impl_BackWorld.bits11 (fun HT_ HW_ => ?_)
                have HS1 := Aside0.mk HST.out.drew
                generalize wr.drew = w10 at HS1 hHeld ⊢
                have hc10_0 : w10.cell? ⟨gA, 0, none⟩ = some (.string a0_0) := (blk_cell HS1.out.a 0).trans rfl
                have hc10_1 : w10.cell? ⟨gA, 1, none⟩ = some (.int .i64 a0_1) := (blk_cell HS1.out.a 1).trans rfl
                have hc10_2 : w10.cell? ⟨gA, 2, none⟩ = some (.int .i64 a0_2) := (blk_cell HS1.out.a 2).trans rfl
                have hc10_3 : w10.cell? ⟨gA, 3, none⟩ = some (.string a0_3) := (blk_cell HS1.out.a 3).trans rfl
                have hc10_4 : w10.cell? ⟨gA, 4, none⟩ = some (.int .i64 a0_4) := (blk_cell HS1.out.a 4).trans rfl
                have hc10_5 : w10.cell? ⟨gA, 5, none⟩ = some (.int .i64 a0_5) := (blk_cell HS1.out.a 5).trans rfl
                have hc10_6 : w10.cell? ⟨gA, 6, none⟩ = some (.int .i64 a0_6) := (blk_cell HS1.out.a 6).trans rfl
                have hf10_0 : w10.frozen? ⟨gA, 0, none⟩ = false := blk_frozen HS1.out.a 0
                have hf10_1 : w10.frozen? ⟨gA, 1, none⟩ = false := blk_frozen HS1.out.a 1
                have hf10_2 : w10.frozen? ⟨gA, 2, none⟩ = false := blk_frozen HS1.out.a 2
                have hf10_3 : w10.frozen? ⟨gA, 3, none⟩ = false := blk_frozen HS1.out.a 3
                have hf10_4 : w10.frozen? ⟨gA, 4, none⟩ = false := blk_frozen HS1.out.a 4
                have hf10_5 : w10.frozen? ⟨gA, 5, none⟩ = false := blk_frozen HS1.out.a 5
                have hf10_6 : w10.frozen? ⟨gA, 6, none⟩ = false := blk_frozen HS1.out.a 6
                refine pure_ (i := 0) (N := some 43) (v := ?_) (a' := ?_) #[true, false, false, false, false, false, false, false, false, false, false, false, false, false] rfl rfl (any_of HT_.out (by kernel_rfl)) (fun _ _ _ h => h) (Or.inl ⟨by rfl, ?_⟩) ?_ ?_
                rotate_left
                · intro w'
                  go_simp
                  with_reducible rfl
                rotate_left
                · simp only [Act.put, List.setIfInBounds_toArray, List.set_cons_zero, List.set_cons_succ, i64_w, i32_w]
                  rfl
                refine pure_ (i := 2) (N := some 45) (v := ?_) (a' := ?_) #[true, false, true, false, false, false, false, false, false, false, false, false, false, false] rfl rfl (any_of HT_.out (by kernel_rfl)) (fun _ _ _ h => h) (Or.inl ⟨by rfl, ?_⟩) ?_ ?_
                rotate_left
                · intro w'
                  go_simp
                  with_reducible rfl
                rotate_left
                · simp only [Act.put, List.setIfInBounds_toArray, List.set_cons_zero, List.set_cons_succ, i64_w, i32_w]
                  rfl
                refine pure_ (i := 4) (N := some 47) (v := ?_) (a' := ?_) #[true, false, true, false, true, false, false, false, false, false, false, false, false, false] rfl rfl (any_of HT_.out (by kernel_rfl)) (fun _ _ _ h => h) (Or.inl ⟨by rfl, ?_⟩) ?_ ?_
                rotate_left
                · intro w'
                  go_simp
                  with_reducible rfl
                rotate_left
                · simp only [Act.put, List.setIfInBounds_toArray, List.set_cons_zero, List.set_cons_succ, i64_w, i32_w]
                  rfl
                refine take_ (i := 1) (N := some 44) (v := ?_) (a' := ?_) #[true, true, true, false, true, false, false, false, false, false, false, false, false, false] rfl rfl (take_ofW HT_.out HW_.out (by kernel_rfl)) (fun _ _ _ h => h) (Or.inl ⟨by rfl, ?_⟩) hHeld ?_ ?_
                rotate_left
                · rintro w' ⟨s0, s1, s2⟩
                  have hr := s0.reads
                  rw [HRL.out] at hr
                  have hst := string_of_reads (P := Tryz.prog) (src := 54) (dst := 9) (c := capR) Tryz.underlying54 Tryz.underlying5 Tryz.underlying9 hr
                  clear hr
                  go_simp
                  with_reducible rfl
                rotate_left
                · simp only [Act.put, List.setIfInBounds_toArray, List.set_cons_zero, List.set_cons_succ, i64_w, i32_w]
                  rfl
                refine take_ (i := 3) (N := some 46) (v := ?_) (a' := ?_) #[true, true, true, true, true, false, false, false, false, false, false, false, false, false] rfl rfl (take_ofW HT_.out HW_.out (by kernel_rfl)) (fun _ _ _ h => h) (Or.inl ⟨by rfl, ?_⟩) hHeld ?_ ?_
                rotate_left
                · rintro w' ⟨s0, s1, s2⟩
                  have hr := s1.reads
                  rw [List.length_map, bytesOf_length] at hr
                  have hst := string_of_reads (P := Tryz.prog) (src := 54) (dst := 9) (c := capC) Tryz.underlying54 Tryz.underlying5 Tryz.underlying9 hr
                  clear hr
                  go_simp
                  with_reducible rfl
                rotate_left
                · simp only [Act.put, List.setIfInBounds_toArray, List.set_cons_zero, List.set_cons_succ, i64_w, i32_w]
                  rfl
                refine take_ (i := 5) (N := some 48) (v := ?_) (a' := ?_) #[true, true, true, true, true, true, false, false, false, false, false, false, false, false] rfl rfl (take_ofW HT_.out HW_.out (by kernel_rfl)) (fun _ _ _ h => h) (Or.inl ⟨by rfl, ?_⟩) hHeld ?_ ?_
                rotate_left
                · rintro w' ⟨s0, s1, s2⟩
                  go_simp
                  with_reducible rfl
                rotate_left
                · simp only [Act.put, List.setIfInBounds_toArray, List.set_cons_zero, List.set_cons_succ, i64_w, i32_w]
                  rfl
                refine pure_ (i := 6) (N := some 49) (v := ?_) (a' := ?_) #[true, true, true, true, true, true, true, false, false, false, false, false, false, false] rfl rfl (any_of HT_.out (by kernel_rfl)) (fun _ _ _ h => h) (Or.inl ⟨by rfl, ?_⟩) ?_ ?_
                rotate_left
                · intro w'
                  go_simp
                  with_reducible rfl
                rotate_left
                · simp only [Act.put, List.setIfInBounds_toArray, List.set_cons_zero, List.set_cons_succ, i64_w, i32_w]
                  rfl
                refine pure_ (i := 7) (N := some 50) (v := ?_) (a' := ?_) #[true, true, true, true, true, true, true, true, false, false, false, false, false, false] rfl rfl (any_of HT_.out (by kernel_rfl)) (fun _ _ _ h => h) (Or.inl ⟨by rfl, ?_⟩) ?_ ?_
                rotate_left
                · intro w'
                  go_simp
                  with_reducible rfl
                rotate_left
                · simp only [Act.put, List.setIfInBounds_toArray, List.set_cons_zero, List.set_cons_succ, i64_w, i32_w]
                  rfl
                refine pure_ (i := 8) (N := some 51) (v := ?_) (a' := ?_) #[true, true, true, true, true, true, true, true, true, false, false, false, false, false] rfl rfl (any_of HT_.out (by kernel_rfl)) (fun _ _ _ h => h) (Or.inl ⟨by rfl, ?_⟩) ?_ ?_
                rotate_left
                · intro w'
                  go_simp
                  with_reducible rfl
                rotate_left
                · simp only [Act.put, List.setIfInBounds_toArray, List.set_cons_zero, List.set_cons_succ, i64_w, i32_w]
                  rfl
                refine one_ (i := 9) (N := none) #[true, true, true, true, true, true, true, true, true, true, false, false, false, false] rfl rfl (one_of HT_.out (by kernel_rfl)) (by decide) (fun K hK => ?_)
                refine skip_ (w1 := ?_) (by rfl) rfl ?_ ?_
                rotate_left
                · go_simp
                  rfl
                refine hK.out _ _ ⟨XBytes.BRow.far hHeld.1 (p := ⟨gA, 0, none⟩) (Nat.ne_of_gt HAR.out) (.string (strOfNums R)), XBytes.BRow.far hHeld.2.1 (p := ⟨gA, 0, none⟩) (Nat.ne_of_gt (Nat.lt_trans HAR.out HRC.out)) (.string (strOfNums R)), (by go_simp)⟩ (fun hHeld2 => ?_)
                clear hK K
                refine pure_ (i := 10) (N := some 52) (v := ?_) (a' := ?_) #[true, true, true, true, true, true, true, true, true, true, true, false, false, false] rfl rfl (any_of HT_.out (by kernel_rfl)) (fun _ _ _ h => h) (Or.inl ⟨by rfl, ?_⟩) ?_ ?_
                rotate_left
                · intro w'
                  go_simp
                  with_reducible rfl
                rotate_left
                · simp only [Act.put, List.setIfInBounds_toArray, List.set_cons_zero, List.set_cons_succ, i64_w, i32_w]
                  rfl
                refine last_ (i := 11) (N := none) #[true, true, true, true, true, true, true, true, true, true, true, true, false, false] rfl rfl (one_of HT_.out (by kernel_rfl)) (by decide) (fun K hK => ?_)
                refine skip_ (w1 := ?_) (by rfl) rfl ?_ ?_
                rotate_left
                · go_simp
                  rfl
                refine hK.out _ _ ?_
                clear hK K
                refine pure_ (i := 12) (N := some 53) (v := ?_) (a' := ?_) #[true, true, true, true, true, true, true, true, true, true, true, true, true, false] rfl rfl (any_of HT_.out (by kernel_rfl)) (fun _ _ _ h => h) (Or.inl ⟨by rfl, ?_⟩) ?_ ?_
                rotate_left
                · intro w'
                  go_simp
                  with_reducible rfl
                rotate_left
                · simp only [Act.put, List.setIfInBounds_toArray, List.set_cons_zero, List.set_cons_succ, i64_w, i32_w]
                  rfl
                refine last_ (i := 13) (N := none) #[true, true, true, true, true, true, true, true, true, true, true, true, true, true] rfl rfl (one_of HT_.out (by kernel_rfl)) (by decide) (fun K hK => ?_)
                refine skip_ (w1 := ?_) (by rfl) rfl ?_ ?_
                rotate_left
                · go_simp
                  rfl
                refine hK.out _ _ ?_
                clear hK K
                refine done_ (done_of HT_.out (by kernel_rfl)) ?_
                have HS2 := Aside0.mk (impl_BackWorld_St.put (cs' := #[.string (strOfNums R), .int .i64 a0_1, .int .i64 a0_2, .string (strOfNums ((bytesOf a0_3).map (impl_BackWorld_bk (o.size : Int)))), .int .i64 a0_4, .int .i64 a0_5, .int .i64 (Int.tmod (wrap64 (a0_6 + 2)) 4)]) (impl_BackWorld_St.put (cs' := #[.string (strOfNums R), .int .i64 a0_1, .int .i64 a0_2, .string (strOfNums ((bytesOf a0_3).map (impl_BackWorld_bk (o.size : Int)))), .int .i64 a0_4, .int .i64 a0_5, .int .i64 a0_6]) (impl_BackWorld_St.put (cs' := #[.string (strOfNums R), .int .i64 a0_1, .int .i64 a0_2, .string a0_3, .int .i64 a0_4, .int .i64 a0_5, .int .i64 a0_6]) HS1.out 0 (.string (strOfNums R)) rfl) 3 (.string (strOfNums ((bytesOf a0_3).map (impl_BackWorld_bk (o.size : Int))))) rfl) 6 (.int .i64 (Int.tmod (wrap64 (a0_6 + 2)) 4)) rfl)
                go_wp2_with (first | (go_at_call 40; refine (impl_World_gone.calls (strOfNums R) a0_1 a0_2 (strOfNums ((bytesOf a0_3).map (impl_BackWorld_bk (o.size : Int)))) a0_4 a0_5 (Int.tmod (wrap64 (a0_6 + 2)) 4) 1 q1 q2 q3 q4 q5 q6 q7 _ A4.out).mono ?_; rintro e w11 ⟨rfl, hb⟩; have HS3 := Aside0.mk (impl_BackWorld_St.below (by repeat (first | exact HS2.out | apply impl_BackWorld_St.drewN | apply impl_BackWorld_St.drew)) hb); clear hb; have hc11_0 : w11.cell? ⟨gB, 0, none⟩ = some (.string (⟨#[]⟩ : ByteArray)) := (blk_cell HS3.out.b 0).trans rfl; have hc11_1 : w11.cell? ⟨gB, 1, none⟩ = some (.int .i64 0) := (blk_cell HS3.out.b 1).trans rfl; have hc11_2 : w11.cell? ⟨gB, 2, none⟩ = some (.int .i64 0) := (blk_cell HS3.out.b 2).trans rfl; have hc11_3 : w11.cell? ⟨gB, 3, none⟩ = some (.string (⟨#[]⟩ : ByteArray)) := (blk_cell HS3.out.b 3).trans rfl; have hc11_4 : w11.cell? ⟨gB, 4, none⟩ = some (.int .i64 0) := (blk_cell HS3.out.b 4).trans rfl; have hc11_5 : w11.cell? ⟨gB, 5, none⟩ = some (.int .i64 0) := (blk_cell HS3.out.b 5).trans rfl; have hc11_6 : w11.cell? ⟨gB, 6, none⟩ = some (.int .i64 0) := (blk_cell HS3.out.b 6).trans rfl; have hf11_0 : w11.frozen? ⟨gB, 0, none⟩ = false := blk_frozen HS3.out.b 0; have hf11_1 : w11.frozen? ⟨gB, 1, none⟩ = false := blk_frozen HS3.out.b 1; have hf11_2 : w11.frozen? ⟨gB, 2, none⟩ = false := blk_frozen HS3.out.b 2; have hf11_3 : w11.frozen? ⟨gB, 3, none⟩ = false := blk_frozen HS3.out.b 3; have hf11_4 : w11.frozen? ⟨gB, 4, none⟩ = false := blk_frozen HS3.out.b 4; have hf11_5 : w11.frozen? ⟨gB, 5, none⟩ = false := blk_frozen HS3.out.b 5; have hf11_6 : w11.frozen? ⟨gB, 6, none⟩ = false := blk_frozen HS3.out.b 6))
                refine bodyPost_ret (results_ct rfl _ _ gB 34 #[.string q1, .int .i64 q2, .int .i64 q3, .string q4, .int .i64 q5, .int .i64 q6, .int .i64 q7] (0, 0) _ rfl (by (with_reducible repeat (first | refine blk_drewN ?_ _ | refine blk_drew ?_ | refine blk_alloc ?_ _)); refine blk_put (cs := #[.string q1, .int .i64 q2, .int .i64 q3, .string q4, .int .i64 q5, .int .i64 q6, .int .i64 0]) ?_ 6 _ rfl; (with_reducible repeat (first | refine blk_drewN ?_ _ | refine blk_drew ?_ | refine blk_alloc ?_ _)); refine blk_put (cs := #[.string q1, .int .i64 q2, .int .i64 q3, .string q4, .int .i64 q5, .int .i64 0, .int .i64 0]) ?_ 5 _ rfl; (with_reducible repeat (first | refine blk_drewN ?_ _ | refine blk_drew ?_ | refine blk_alloc ?_ _)); refine blk_put (cs := #[.string q1, .int .i64 q2, .int .i64 q3, .string q4, .int .i64 0, .int .i64 0, .int .i64 0]) ?_ 4 _ rfl; (with_reducible repeat (first | refine blk_drewN ?_ _ | refine blk_drew ?_ | refine blk_alloc ?_ _)); refine blk_put (cs := #[.string q1, .int .i64 q2, .int .i64 q3, .string (⟨#[]⟩ : ByteArray), .int .i64 0, .int .i64 0, .int .i64 0]) ?_ 3 _ rfl; (with_reducible repeat (first | refine blk_drewN ?_ _ | refine blk_drew ?_ | refine blk_alloc ?_ _)); refine blk_put (cs := #[.string q1, .int .i64 q2, .int .i64 0, .string (⟨#[]⟩ : ByteArray), .int .i64 0, .int .i64 0, .int .i64 0]) ?_ 2 _ rfl; (with_reducible repeat (first | refine blk_drewN ?_ _ | refine blk_drew ?_ | refine blk_alloc ?_ _)); refine blk_put (cs := #[.string q1, .int .i64 0, .int .i64 0, .string (⟨#[]⟩ : ByteArray), .int .i64 0, .int .i64 0, .int .i64 0]) ?_ 1 _ rfl; (with_reducible repeat (first | refine blk_drewN ?_ _ | refine blk_drew ?_ | refine blk_alloc ?_ _)); refine blk_put (cs := #[.string (⟨#[]⟩ : ByteArray), .int .i64 0, .int .i64 0, .string (⟨#[]⟩ : ByteArray), .int .i64 0, .int .i64 0, .int .i64 0]) ?_ 0 _ rfl; (with_reducible repeat (first | refine blk_drewN ?_ _ | refine blk_drew ?_ | refine blk_alloc ?_ _)); exact HS3.out.b) Tryz.underlying34 rfl (by kernel_rfl)) rfl ?_
                exact ⟨by first | rfl | (simp; done), by repeat (first | (with_reducible first | exact HS3.out.bel | apply below_alloc | apply pw_below_drewN | apply below_drew1 | refine below_set ?_ HS3.out.gb) | exact HS3.out.bel)⟩
        · rw [if_neg c4] at H
          cases H
    · rw [if_neg c2] at H
      cases H
  · replace c1 := Bool.eq_false_iff.mpr c1
    subst c1
    rw [if_neg (by decide)] at H
    simp only [Option.some.injEq, Prod.mk.injEq] at H
    obtain ⟨rfl, rfl, rfl, rfl, rfl, rfl, rfl, rfl⟩ := H
    go_enter Tryz.func20, Tryz.ntmps20
    go_wp2_with (first | ((with_reducible refine gate_dst (N := 1) rfl ?_); refine box_event ?hg (N := 1) ?hd (cs := #[.string a0_0, .int .i64 a0_1, .int .i64 a0_2, .string a0_3, .int .i64 a0_4, .int .i64 a0_5, .int .i64 a0_6]) (t := 34) ?hr ?_; (case hd => rfl); (case hg => rfl); (case hr => first | (go_simp; done) | (go_simp; rfl)); intro gA hg w1 hbox hb; have HBK := Aside0.mk hbox; have HBL := Aside0.mk (below_step (XSq.bB HB) hb); have HGA := XSq.gw hg (XSq.bB HB); clear hg hbox hb HB) | ((with_reducible refine gate_dst (N := 2) rfl ?_); refine box_event ?hg (N := 2) ?hd (cs := #[.string (⟨#[]⟩ : ByteArray), .int .i64 0, .int .i64 0, .string (⟨#[]⟩ : ByteArray), .int .i64 0, .int .i64 0, .int .i64 0]) (t := 34) ?hr ?_; (case hd => rfl); (case hg => rfl); (case hr => first | (go_simp; done) | (go_simp; rfl)); intro gB hg w2 hbox hb; have HST := Aside0.mk (impl_BackWorld_St.mk (XSq.bb HBK hb).out hbox (XSq.nl hg (XSq.bq HBK)).out HGA.out (XSq.gw hg (XSq.bB HBL)).out (below_step (XSq.bB HBL) hb)); clear hg hbox hb HBK HBL HGA; have hc2_0 : w2.cell? ⟨gA, 0, none⟩ = some (.string a0_0) := (blk_cell HST.out.a 0).trans rfl; have hc2_1 : w2.cell? ⟨gA, 1, none⟩ = some (.int .i64 a0_1) := (blk_cell HST.out.a 1).trans rfl; have hc2_2 : w2.cell? ⟨gA, 2, none⟩ = some (.int .i64 a0_2) := (blk_cell HST.out.a 2).trans rfl; have hc2_3 : w2.cell? ⟨gA, 3, none⟩ = some (.string a0_3) := (blk_cell HST.out.a 3).trans rfl; have hc2_4 : w2.cell? ⟨gA, 4, none⟩ = some (.int .i64 a0_4) := (blk_cell HST.out.a 4).trans rfl; have hc2_5 : w2.cell? ⟨gA, 5, none⟩ = some (.int .i64 a0_5) := (blk_cell HST.out.a 5).trans rfl; have hc2_6 : w2.cell? ⟨gA, 6, none⟩ = some (.int .i64 a0_6) := (blk_cell HST.out.a 6).trans rfl; have hf2_0 : w2.frozen? ⟨gA, 0, none⟩ = false := blk_frozen HST.out.a 0; have hf2_1 : w2.frozen? ⟨gA, 1, none⟩ = false := blk_frozen HST.out.a 1; have hf2_2 : w2.frozen? ⟨gA, 2, none⟩ = false := blk_frozen HST.out.a 2; have hf2_3 : w2.frozen? ⟨gA, 3, none⟩ = false := blk_frozen HST.out.a 3; have hf2_4 : w2.frozen? ⟨gA, 4, none⟩ = false := blk_frozen HST.out.a 4; have hf2_5 : w2.frozen? ⟨gA, 5, none⟩ = false := blk_frozen HST.out.a 5; have hf2_6 : w2.frozen? ⟨gA, 6, none⟩ = false := blk_frozen HST.out.a 6; have hne2 := HST.out.ne) | (go_at_call 31; refine (impl_IsWorld.calls k a0_0 a0_1 a0_2 a0_3 a0_4 a0_5 a0_6 false _ A1.out).mono ?_; rintro e w3 ⟨rfl, hb⟩; have n0_ := Aside0.mk (impl_BackWorld_St.below (by repeat (first | exact HST.out | apply impl_BackWorld_St.drewN | apply impl_BackWorld_St.drew)) hb); clear HST hb; have HST := n0_; clear n0_; have hc3_0 : w3.cell? ⟨gB, 0, none⟩ = some (.string (⟨#[]⟩ : ByteArray)) := (blk_cell HST.out.b 0).trans rfl; have hc3_1 : w3.cell? ⟨gB, 1, none⟩ = some (.int .i64 0) := (blk_cell HST.out.b 1).trans rfl; have hc3_2 : w3.cell? ⟨gB, 2, none⟩ = some (.int .i64 0) := (blk_cell HST.out.b 2).trans rfl; have hc3_3 : w3.cell? ⟨gB, 3, none⟩ = some (.string (⟨#[]⟩ : ByteArray)) := (blk_cell HST.out.b 3).trans rfl; have hc3_4 : w3.cell? ⟨gB, 4, none⟩ = some (.int .i64 0) := (blk_cell HST.out.b 4).trans rfl; have hc3_5 : w3.cell? ⟨gB, 5, none⟩ = some (.int .i64 0) := (blk_cell HST.out.b 5).trans rfl; have hc3_6 : w3.cell? ⟨gB, 6, none⟩ = some (.int .i64 0) := (blk_cell HST.out.b 6).trans rfl; have hf3_0 : w3.frozen? ⟨gB, 0, none⟩ = false := blk_frozen HST.out.b 0; have hf3_1 : w3.frozen? ⟨gB, 1, none⟩ = false := blk_frozen HST.out.b 1; have hf3_2 : w3.frozen? ⟨gB, 2, none⟩ = false := blk_frozen HST.out.b 2; have hf3_3 : w3.frozen? ⟨gB, 3, none⟩ = false := blk_frozen HST.out.b 3; have hf3_4 : w3.frozen? ⟨gB, 4, none⟩ = false := blk_frozen HST.out.b 4; have hf3_5 : w3.frozen? ⟨gB, 5, none⟩ = false := blk_frozen HST.out.b 5; have hf3_6 : w3.frozen? ⟨gB, 6, none⟩ = false := blk_frozen HST.out.b 6))
    refine bodyPost_ret (results_ct rfl _ _ gB 34 #[.string (⟨#[]⟩ : ByteArray), .int .i64 0, .int .i64 0, .string (⟨#[]⟩ : ByteArray), .int .i64 0, .int .i64 0, .int .i64 0] (0, 0) _ rfl (by (with_reducible repeat (first | refine blk_drewN ?_ _ | refine blk_drew ?_ | refine blk_alloc ?_ _)); refine blk_put (cs := #[.string (⟨#[]⟩ : ByteArray), .int .i64 0, .int .i64 0, .string (⟨#[]⟩ : ByteArray), .int .i64 0, .int .i64 0, .int .i64 0]) ?_ 6 _ rfl; (with_reducible repeat (first | refine blk_drewN ?_ _ | refine blk_drew ?_ | refine blk_alloc ?_ _)); refine blk_put (cs := #[.string (⟨#[]⟩ : ByteArray), .int .i64 0, .int .i64 0, .string (⟨#[]⟩ : ByteArray), .int .i64 0, .int .i64 0, .int .i64 0]) ?_ 5 _ rfl; (with_reducible repeat (first | refine blk_drewN ?_ _ | refine blk_drew ?_ | refine blk_alloc ?_ _)); refine blk_put (cs := #[.string (⟨#[]⟩ : ByteArray), .int .i64 0, .int .i64 0, .string (⟨#[]⟩ : ByteArray), .int .i64 0, .int .i64 0, .int .i64 0]) ?_ 4 _ rfl; (with_reducible repeat (first | refine blk_drewN ?_ _ | refine blk_drew ?_ | refine blk_alloc ?_ _)); refine blk_put (cs := #[.string (⟨#[]⟩ : ByteArray), .int .i64 0, .int .i64 0, .string (⟨#[]⟩ : ByteArray), .int .i64 0, .int .i64 0, .int .i64 0]) ?_ 3 _ rfl; (with_reducible repeat (first | refine blk_drewN ?_ _ | refine blk_drew ?_ | refine blk_alloc ?_ _)); refine blk_put (cs := #[.string (⟨#[]⟩ : ByteArray), .int .i64 0, .int .i64 0, .string (⟨#[]⟩ : ByteArray), .int .i64 0, .int .i64 0, .int .i64 0]) ?_ 2 _ rfl; (with_reducible repeat (first | refine blk_drewN ?_ _ | refine blk_drew ?_ | refine blk_alloc ?_ _)); refine blk_put (cs := #[.string (⟨#[]⟩ : ByteArray), .int .i64 0, .int .i64 0, .string (⟨#[]⟩ : ByteArray), .int .i64 0, .int .i64 0, .int .i64 0]) ?_ 1 _ rfl; (with_reducible repeat (first | refine blk_drewN ?_ _ | refine blk_drew ?_ | refine blk_alloc ?_ _)); refine blk_put (cs := #[.string (⟨#[]⟩ : ByteArray), .int .i64 0, .int .i64 0, .string (⟨#[]⟩ : ByteArray), .int .i64 0, .int .i64 0, .int .i64 0]) ?_ 0 _ rfl; (with_reducible repeat (first | refine blk_drewN ?_ _ | refine blk_drew ?_ | refine blk_alloc ?_ _)); exact HST.out.b) Tryz.underlying34 rfl (by kernel_rfl)) rfl ?_
    exact ⟨by first | rfl | (simp; done), by repeat (first | (with_reducible first | exact HST.out.bel | apply below_alloc | apply pw_below_drewN | apply below_drew1 | refine below_set ?_ HST.out.gb) | exact HST.out.bel)⟩

/-! ### laws_FnExactBackWorld: function 6 -/
def laws_FnExactBackWorld.f (k : Nat) (a0_0 : ByteArray) (a0_1 : Int) (a0_2 : Int) (a0_3 : ByteArray) (a0_4 : Int) (a0_5 : Int) (a0_6 : Int) : Option (Bool) := (laws_szWorld.f a0_0 a0_1 a0_2 a0_3 a0_4 a0_5 a0_6 1048576).bind fun t173 => (if t173 < 0 then (some true) else ((laws_toWorld.f a0_0 a0_1 a0_2 a0_3 a0_4 a0_5 a0_6).bind fun bt174 => ((spec_BackWorld.f k bt174.1 bt174.2.1 bt174.2.2.1 bt174.2.2.2.1 bt174.2.2.2.2.1 bt174.2.2.2.2.2.1 bt174.2.2.2.2.2.2).bind fun bt181 => ((laws_toWorld.f a0_0 a0_1 a0_2 a0_3 a0_4 a0_5 a0_6).bind fun bt190 => ((impl_BackWorld.f k bt190.1 bt190.2.1 bt190.2.2.1 bt190.2.2.2.1 bt190.2.2.2.2.1 bt190.2.2.2.2.2.1 bt190.2.2.2.2.2.2).bind fun bt197 => ((laws_eqWorld.f bt197.1 bt197.2.1 bt197.2.2.1 bt197.2.2.2.1 bt197.2.2.2.2.1 bt197.2.2.2.2.2.1 bt197.2.2.2.2.2.2.1 bt181.1 bt181.2.1 bt181.2.2.1 bt181.2.2.2.1 bt181.2.2.2.2.1 bt181.2.2.2.2.2.1 bt181.2.2.2.2.2.2.1).bind fun t206 => (if t206 = true then (if (bt197.2.2.2.2.2.2.2 != bt181.2.2.2.2.2.2.2) = true then (none) else (some true)) else (none))))))))
theorem laws_FnExactBackWorld.mono : ∀ a0 a1 a2 a3 a4 a5 a6 k, LeO (laws_FnExactBackWorld.f k a0 a1 a2 a3 a4 a5 a6) (laws_FnExactBackWorld.f (k + 1) a0 a1 a2 a3 a4 a5 a6) := by
  intro a0 a1 a2 a3 a4 a5 a6 k
  unfold laws_FnExactBackWorld.f
  repeat' first
      | (with_reducible exact impl_BackWorld.mono _ _ _ _ _ _ _ _)
      | (with_reducible exact spec_BackWorld.mono _ _ _ _ _ _ _ _)
      | (with_reducible exact LeO.refl _)
      | (with_reducible exact LeO.none _)
      | (with_reducible refine LeO.ite ?_ ?_)
      | (with_reducible refine LeO.bind ?_ (fun _ => ?_))
      | exact impl_BackWorld.mono _ _ _ _ _ _ _ _
      | exact spec_BackWorld.mono _ _ _ _ _ _ _ _
      | exact LeO.none _
      | refine LeO.ite ?_ ?_
      | refine LeO.bind ?_ (fun _ => ?_)
set_option maxHeartbeats 8000000 in
set_option maxRecDepth 100000 in
theorem laws_FnExactBackWorld.calls (k : Nat) (a0_0 : ByteArray) (a0_1 : Int) (a0_2 : Int) (a0_3 : ByteArray) (a0_4 : Int) (a0_5 : Int) (a0_6 : Int) (r : Bool) (w : World) (h : laws_FnExactBackWorld.f k a0_0 a0_1 a0_2 a0_3 a0_4 a0_5 a0_6 = some r) :
    Calls Tryz.prog 6 #[.agg #[.string a0_0, .int .i64 a0_1, .int .i64 a0_2, .string a0_3, .int .i64 a0_4, .int .i64 a0_5, .int .i64 a0_6]] w fun e w' => e = .returned (.bool r) ∧ Below w.heap.size w w' := by
  have hu32 := Tryz.underlying32
  have hu34 := Tryz.underlying34
  have HB := Aside0.mk (Below.refl w.heap.size w)
  have H : ((laws_szWorld.f a0_0 a0_1 a0_2 a0_3 a0_4 a0_5 a0_6 1048576).bind fun t173 => (if t173 < 0 then (some true) else ((laws_toWorld.f a0_0 a0_1 a0_2 a0_3 a0_4 a0_5 a0_6).bind fun bt174 => ((spec_BackWorld.f k bt174.1 bt174.2.1 bt174.2.2.1 bt174.2.2.2.1 bt174.2.2.2.2.1 bt174.2.2.2.2.2.1 bt174.2.2.2.2.2.2).bind fun bt181 => ((laws_toWorld.f a0_0 a0_1 a0_2 a0_3 a0_4 a0_5 a0_6).bind fun bt190 => ((impl_BackWorld.f k bt190.1 bt190.2.1 bt190.2.2.1 bt190.2.2.2.1 bt190.2.2.2.2.1 bt190.2.2.2.2.2.1 bt190.2.2.2.2.2.2).bind fun bt197 => ((laws_eqWorld.f bt197.1 bt197.2.1 bt197.2.2.1 bt197.2.2.2.1 bt197.2.2.2.2.1 bt197.2.2.2.2.2.1 bt197.2.2.2.2.2.2.1 bt181.1 bt181.2.1 bt181.2.2.1 bt181.2.2.2.1 bt181.2.2.2.2.1 bt181.2.2.2.2.2.1 bt181.2.2.2.2.2.2.1).bind fun t206 => (if t206 = true then (if (bt197.2.2.2.2.2.2.2 != bt181.2.2.2.2.2.2.2) = true then (none) else (some true)) else (none))))))))) = some r := h
  clear h
  replace H := Option.bind_eq_some_iff.mp H
  obtain ⟨t173, A20, H⟩ := H
  replace H : (if t173 < 0 then (some true) else ((laws_toWorld.f a0_0 a0_1 a0_2 a0_3 a0_4 a0_5 a0_6).bind fun bt174 => ((spec_BackWorld.f k bt174.1 bt174.2.1 bt174.2.2.1 bt174.2.2.2.1 bt174.2.2.2.2.1 bt174.2.2.2.2.2.1 bt174.2.2.2.2.2.2).bind fun bt181 => ((laws_toWorld.f a0_0 a0_1 a0_2 a0_3 a0_4 a0_5 a0_6).bind fun bt190 => ((impl_BackWorld.f k bt190.1 bt190.2.1 bt190.2.2.1 bt190.2.2.2.1 bt190.2.2.2.2.1 bt190.2.2.2.2.2.1 bt190.2.2.2.2.2.2).bind fun bt197 => ((laws_eqWorld.f bt197.1 bt197.2.1 bt197.2.2.1 bt197.2.2.2.1 bt197.2.2.2.2.1 bt197.2.2.2.2.2.1 bt197.2.2.2.2.2.2.1 bt181.1 bt181.2.1 bt181.2.2.1 bt181.2.2.2.1 bt181.2.2.2.2.1 bt181.2.2.2.2.2.1 bt181.2.2.2.2.2.2.1).bind fun t206 => (if t206 = true then (if (bt197.2.2.2.2.2.2.2 != bt181.2.2.2.2.2.2.2) = true then (none) else (some true)) else (none)))))))) = some r := H
  have A2 := Aside0.mk A20
  clear A20
  by_cases c3 : t173 < 0
  · rw [if_pos c3] at H
    have c3b0 : decide (t173 < 0) = true := decide_eq_true c3
    clear c3
    obtain rfl := Option.some.inj H
    go_enter Tryz.func6, Tryz.ntmps6
    go_wp2_with (first | ((with_reducible refine gate_dst (N := 1) rfl ?_); refine box_event ?hg (N := 1) ?hd (cs := #[.string a0_0, .int .i64 a0_1, .int .i64 a0_2, .string a0_3, .int .i64 a0_4, .int .i64 a0_5, .int .i64 a0_6]) (t := 32) ?hr ?_; (case hd => rfl); (case hg => rfl); (case hr => first | (go_simp; done) | (go_simp; rfl)); intro gb172 hg w4 hbox hb; have n0_ := Aside0.mk (below_step (XSq.bB HB) hb); have n1_ := Aside0.mk (hbox); have n2_ := Aside0.mk ((by rw [hg]; exact (below_size (XSq.bB HB)) : w.heap.size ≤ gb172)); have n3_ := Aside0.mk ((by rw [hg]; exact (below_size (XSq.bB HB)) : w.heap.size ≤ gb172)); clear HB; have HB := n0_; have BK172 := n1_; have GW172 := n2_; have GE172 := n3_; clear n0_ n1_ n2_ n3_; clear hb hbox hg; have hcz5_0 : w4.cell? ⟨gb172, 0, none⟩ = some (.string a0_0) := (blk_cell BK172.out 0).trans rfl; have hcz5_1 : w4.cell? ⟨gb172, 1, none⟩ = some (.int .i64 a0_1) := (blk_cell BK172.out 1).trans rfl; have hcz5_2 : w4.cell? ⟨gb172, 2, none⟩ = some (.int .i64 a0_2) := (blk_cell BK172.out 2).trans rfl; have hcz5_3 : w4.cell? ⟨gb172, 3, none⟩ = some (.string a0_3) := (blk_cell BK172.out 3).trans rfl; have hcz5_4 : w4.cell? ⟨gb172, 4, none⟩ = some (.int .i64 a0_4) := (blk_cell BK172.out 4).trans rfl; have hcz5_5 : w4.cell? ⟨gb172, 5, none⟩ = some (.int .i64 a0_5) := (blk_cell BK172.out 5).trans rfl; have hcz5_6 : w4.cell? ⟨gb172, 6, none⟩ = some (.int .i64 a0_6) := (blk_cell BK172.out 6).trans rfl; have hfz5_0 := blk_frozen BK172.out 0; have hfz5_1 := blk_frozen BK172.out 1; have hfz5_2 := blk_frozen BK172.out 2; have hfz5_3 := blk_frozen BK172.out 3; have hfz5_4 := blk_frozen BK172.out 4; have hfz5_5 := blk_frozen BK172.out 5; have hfz5_6 := blk_frozen BK172.out 6) | ((with_reducible refine gate_callee (f := 14) rfl ?_); refine goesL_ (some 10) rfl rfl Tryz.func14 (by kernel_rfl) rfl #[.agg #[.string a0_0, .int .i64 a0_1, .int .i64 a0_2, .string a0_3, .int .i64 a0_4, .int .i64 a0_5, .int .i64 a0_6], .int .i64 1048576] rfl (by (try simp only [List.map_toArray, List.map_cons, List.map_nil]); first | done | rfl | (simp only [List.length_drop, List.length_take]; rfl)) ?_; (with_reducible refine (laws_szWorld.calls a0_0 a0_1 a0_2 a0_3 a0_4 a0_5 a0_6 1048576 t173 _ A2.out).mono ?_); rintro e w6 ⟨rfl, hb⟩; refine ⟨_, rfl, ?_⟩; have n0_ := Aside0.mk (blk_below (g := gb172) (o := .cells #[.string a0_0, .int .i64 a0_1, .int .i64 a0_2, .string a0_3, .int .i64 a0_4, .int .i64 a0_5, .int .i64 a0_6] 32 (0, 0)) (XSq.bq BK172) hb); have n1_ := Aside0.mk (below_step (XSq.bB HB) hb); clear BK172; clear HB; have BK172 := n0_; have HB := n1_; clear n0_ n1_; (try clear hb); (try clear hb2); (try clear hk); (try clear hi)))
    go_ret
    exact ⟨by first | rfl | (simp [errW_none, errW_some] <;> rfl) | (simp [*, errW_none, errW_some] <;> rfl), by repeat (first | (with_reducible first | exact HB.out | apply below_alloc | apply pw_below_drewN | apply below_drew1 | refine below_set ?_ GE172.out) | exact HB.out)⟩
  · rw [if_neg c3] at H
    have c3b0 : decide (t173 < 0) = false := decide_eq_false c3
    clear c3
    replace H := Option.bind_eq_some_iff.mp H
    obtain ⟨⟨t174, t175, t176, t177, t178, t179, t180⟩, A70, H⟩ := H
    replace H : ((spec_BackWorld.f k t174 t175 t176 t177 t178 t179 t180).bind fun bt181 => ((laws_toWorld.f a0_0 a0_1 a0_2 a0_3 a0_4 a0_5 a0_6).bind fun bt190 => ((impl_BackWorld.f k bt190.1 bt190.2.1 bt190.2.2.1 bt190.2.2.2.1 bt190.2.2.2.2.1 bt190.2.2.2.2.2.1 bt190.2.2.2.2.2.2).bind fun bt197 => ((laws_eqWorld.f bt197.1 bt197.2.1 bt197.2.2.1 bt197.2.2.2.1 bt197.2.2.2.2.1 bt197.2.2.2.2.2.1 bt197.2.2.2.2.2.2.1 bt181.1 bt181.2.1 bt181.2.2.1 bt181.2.2.2.1 bt181.2.2.2.2.1 bt181.2.2.2.2.2.1 bt181.2.2.2.2.2.2.1).bind fun t206 => (if t206 = true then (if (bt197.2.2.2.2.2.2.2 != bt181.2.2.2.2.2.2.2) = true then (none) else (some true)) else (none)))))) = some r := H
    have A7 := Aside0.mk A70
    clear A70
    replace H := Option.bind_eq_some_iff.mp H
    obtain ⟨⟨t181, t182, t183, t184, t185, t186, t187, t188⟩, A80, H⟩ := H
    replace H : ((laws_toWorld.f a0_0 a0_1 a0_2 a0_3 a0_4 a0_5 a0_6).bind fun bt190 => ((impl_BackWorld.f k bt190.1 bt190.2.1 bt190.2.2.1 bt190.2.2.2.1 bt190.2.2.2.2.1 bt190.2.2.2.2.2.1 bt190.2.2.2.2.2.2).bind fun bt197 => ((laws_eqWorld.f bt197.1 bt197.2.1 bt197.2.2.1 bt197.2.2.2.1 bt197.2.2.2.2.1 bt197.2.2.2.2.2.1 bt197.2.2.2.2.2.2.1 t181 t182 t183 t184 t185 t186 t187).bind fun t206 => (if t206 = true then (if (bt197.2.2.2.2.2.2.2 != t188) = true then (none) else (some true)) else (none))))) = some r := H
    have A8 := Aside0.mk A80
    clear A80
    replace H := Option.bind_eq_some_iff.mp H
    obtain ⟨⟨t190, t191, t192, t193, t194, t195, t196⟩, A90, H⟩ := H
    replace H : ((impl_BackWorld.f k t190 t191 t192 t193 t194 t195 t196).bind fun bt197 => ((laws_eqWorld.f bt197.1 bt197.2.1 bt197.2.2.1 bt197.2.2.2.1 bt197.2.2.2.2.1 bt197.2.2.2.2.2.1 bt197.2.2.2.2.2.2.1 t181 t182 t183 t184 t185 t186 t187).bind fun t206 => (if t206 = true then (if (bt197.2.2.2.2.2.2.2 != t188) = true then (none) else (some true)) else (none)))) = some r := H
    have A9 := Aside0.mk A90
    clear A90
    replace H := Option.bind_eq_some_iff.mp H
    obtain ⟨⟨t197, t198, t199, t200, t201, t202, t203, t204⟩, A100, H⟩ := H
    replace H : ((laws_eqWorld.f t197 t198 t199 t200 t201 t202 t203 t181 t182 t183 t184 t185 t186 t187).bind fun t206 => (if t206 = true then (if (t204 != t188) = true then (none) else (some true)) else (none))) = some r := H
    have A10 := Aside0.mk A100
    clear A100
    replace H := Option.bind_eq_some_iff.mp H
    obtain ⟨t206, A110, H⟩ := H
    replace H : (if t206 = true then (if (t204 != t188) = true then (none) else (some true)) else (none)) = some r := H
    have A11 := Aside0.mk A110
    clear A110
    by_cases c12 : t206 = true
    · subst c12
      have H1 : (if (t204 != t188) = true then (none) else (some true)) = some r := by rw [if_pos rfl] at H; exact H
      clear H
      have H := H1
      clear H1
      by_cases c13 : (t204 != t188) = true
      · rw [if_pos c13] at H
        exact absurd H (by simp)
      · rw [if_neg c13] at H
        have c13b0 : (t204 != t188) = false := by simpa using c13
        (try (have c13b1 : decide (t204 = t188) = true := by simpa using c13))
        (try (have c13b2 : (t204 == t188) = true := by simpa using c13))
        clear c13
        obtain rfl := Option.some.inj H
        go_enter Tryz.func6, Tryz.ntmps6
        go_wp2_with (first | ((with_reducible refine gate_dst (N := 1) rfl ?_); refine box_event ?hg (N := 1) ?hd (cs := #[.string a0_0, .int .i64 a0_1, .int .i64 a0_2, .string a0_3, .int .i64 a0_4, .int .i64 a0_5, .int .i64 a0_6]) (t := 32) ?hr ?_; (case hd => rfl); (case hg => rfl); (case hr => first | (go_simp; done) | (go_simp; rfl)); intro gb172 hg w14 hbox hb; have n0_ := Aside0.mk (below_step (XSq.bB HB) hb); have n1_ := Aside0.mk (hbox); have n2_ := Aside0.mk ((by rw [hg]; exact (below_size (XSq.bB HB)) : w.heap.size ≤ gb172)); have n3_ := Aside0.mk ((by rw [hg]; exact (below_size (XSq.bB HB)) : w.heap.size ≤ gb172)); clear HB; have HB := n0_; have BK172 := n1_; have GW172 := n2_; have GE172 := n3_; clear n0_ n1_ n2_ n3_; clear hb hbox hg; have hcz15_0 : w14.cell? ⟨gb172, 0, none⟩ = some (.string a0_0) := (blk_cell BK172.out 0).trans rfl; have hcz15_1 : w14.cell? ⟨gb172, 1, none⟩ = some (.int .i64 a0_1) := (blk_cell BK172.out 1).trans rfl; have hcz15_2 : w14.cell? ⟨gb172, 2, none⟩ = some (.int .i64 a0_2) := (blk_cell BK172.out 2).trans rfl; have hcz15_3 : w14.cell? ⟨gb172, 3, none⟩ = some (.string a0_3) := (blk_cell BK172.out 3).trans rfl; have hcz15_4 : w14.cell? ⟨gb172, 4, none⟩ = some (.int .i64 a0_4) := (blk_cell BK172.out 4).trans rfl; have hcz15_5 : w14.cell? ⟨gb172, 5, none⟩ = some (.int .i64 a0_5) := (blk_cell BK172.out 5).trans rfl; have hcz15_6 : w14.cell? ⟨gb172, 6, none⟩ = some (.int .i64 a0_6) := (blk_cell BK172.out 6).trans rfl; have hfz15_0 := blk_frozen BK172.out 0; have hfz15_1 := blk_frozen BK172.out 1; have hfz15_2 := blk_frozen BK172.out 2; have hfz15_3 := blk_frozen BK172.out 3; have hfz15_4 := blk_frozen BK172.out 4; have hfz15_5 := blk_frozen BK172.out 5; have hfz15_6 := blk_frozen BK172.out 6) | ((with_reducible refine gate_callee (f := 14) rfl ?_); refine goesL_ (some 10) rfl rfl Tryz.func14 (by kernel_rfl) rfl #[.agg #[.string a0_0, .int .i64 a0_1, .int .i64 a0_2, .string a0_3, .int .i64 a0_4, .int .i64 a0_5, .int .i64 a0_6], .int .i64 1048576] rfl (by (try simp only [List.map_toArray, List.map_cons, List.map_nil]); first | done | rfl | (simp only [List.length_drop, List.length_take]; rfl)) ?_; (with_reducible refine (laws_szWorld.calls a0_0 a0_1 a0_2 a0_3 a0_4 a0_5 a0_6 1048576 t173 _ A2.out).mono ?_); rintro e w16 ⟨rfl, hb⟩; refine ⟨_, rfl, ?_⟩; have n0_ := Aside0.mk (blk_below (g := gb172) (o := .cells #[.string a0_0, .int .i64 a0_1, .int .i64 a0_2, .string a0_3, .int .i64 a0_4, .int .i64 a0_5, .int .i64 a0_6] 32 (0, 0)) (XSq.bq BK172) hb); have n1_ := Aside0.mk (below_step (XSq.bB HB) hb); clear BK172; clear HB; have BK172 := n0_; have HB := n1_; clear n0_ n1_; (try clear hb); (try clear hb2); (try clear hk); (try clear hi); have hcz17_0 : w16.cell? ⟨gb172, 0, none⟩ = some (.string a0_0) := (blk_cell BK172.out 0).trans rfl; have hcz17_1 : w16.cell? ⟨gb172, 1, none⟩ = some (.int .i64 a0_1) := (blk_cell BK172.out 1).trans rfl; have hcz17_2 : w16.cell? ⟨gb172, 2, none⟩ = some (.int .i64 a0_2) := (blk_cell BK172.out 2).trans rfl; have hcz17_3 : w16.cell? ⟨gb172, 3, none⟩ = some (.string a0_3) := (blk_cell BK172.out 3).trans rfl; have hcz17_4 : w16.cell? ⟨gb172, 4, none⟩ = some (.int .i64 a0_4) := (blk_cell BK172.out 4).trans rfl; have hcz17_5 : w16.cell? ⟨gb172, 5, none⟩ = some (.int .i64 a0_5) := (blk_cell BK172.out 5).trans rfl; have hcz17_6 : w16.cell? ⟨gb172, 6, none⟩ = some (.int .i64 a0_6) := (blk_cell BK172.out 6).trans rfl; have hfz17_0 := blk_frozen BK172.out 0; have hfz17_1 := blk_frozen BK172.out 1; have hfz17_2 := blk_frozen BK172.out 2; have hfz17_3 := blk_frozen BK172.out 3; have hfz17_4 := blk_frozen BK172.out 4; have hfz17_5 := blk_frozen BK172.out 5; have hfz17_6 := blk_frozen BK172.out 6) | ((with_reducible refine gate_callee (f := 16) rfl ?_); refine goesL_ (some 15) rfl rfl Tryz.func16 (by kernel_rfl) rfl #[.agg #[.string a0_0, .int .i64 a0_1, .int .i64 a0_2, .string a0_3, .int .i64 a0_4, .int .i64 a0_5, .int .i64 a0_6]] rfl (by (try simp only [List.map_toArray, List.map_cons, List.map_nil]); first | done | rfl | (simp only [List.length_drop, List.length_take]; rfl)) ?_; (with_reducible refine (laws_toWorld.calls a0_0 a0_1 a0_2 a0_3 a0_4 a0_5 a0_6 t174 t175 t176 t177 t178 t179 t180 _ A7.out).mono ?_); rintro e w18 ⟨rfl, hb⟩; refine ⟨_, rfl, ?_⟩; have n0_ := Aside0.mk (blk_below (g := gb172) (o := .cells #[.string a0_0, .int .i64 a0_1, .int .i64 a0_2, .string a0_3, .int .i64 a0_4, .int .i64 a0_5, .int .i64 a0_6] 32 (0, 0)) (XSq.bq BK172) hb); have n1_ := Aside0.mk (below_step (XSq.bB HB) hb); clear BK172; clear HB; have BK172 := n0_; have HB := n1_; clear n0_ n1_; (try clear hb); (try clear hb2); (try clear hk); (try clear hi)) | ((with_reducible refine gate_callee (f := 19) rfl ?_); refine goesL_ (some 16) rfl rfl Tryz.func19 (by kernel_rfl) rfl #[.agg #[.string t174, .int .i64 t175, .int .i64 t176, .string t177, .int .i64 t178, .int .i64 t179, .int .i64 t180]] rfl (by (try simp only [List.map_toArray, List.map_cons, List.map_nil]); first | done | rfl | (simp only [List.length_drop, List.length_take]; rfl)) ?_; (with_reducible refine (spec_BackWorld.calls k t174 t175 t176 t177 t178 t179 t180 t181 t182 t183 t184 t185 t186 t187 t188 _ A8.out).mono ?_); rintro e w19 ⟨rfl, hb⟩; refine ⟨_, rfl, ?_⟩; have n0_ := Aside0.mk (blk_below (g := gb172) (o := .cells #[.string a0_0, .int .i64 a0_1, .int .i64 a0_2, .string a0_3, .int .i64 a0_4, .int .i64 a0_5, .int .i64 a0_6] 32 (0, 0)) (XSq.bq BK172) hb); have n1_ := Aside0.mk (below_step (XSq.bB HB) hb); clear BK172; clear HB; have BK172 := n0_; have HB := n1_; clear n0_ n1_; (try clear hb); (try clear hb2); (try clear hk); (try clear hi)) | ((with_reducible refine gate_dst (N := 4) rfl ?_); refine box_event ?hg (N := 4) ?hd (cs := #[.string (⟨#[]⟩ : ByteArray), .int .i64 0, .int .i64 0, .string (⟨#[]⟩ : ByteArray), .int .i64 0, .int .i64 0, .int .i64 0]) (t := 34) ?hr ?_; (case hd => rfl); (case hg => rfl); (case hr => first | (go_simp; done) | (go_simp; rfl)); intro gb189 hg w20 hbox hb; have n0_ := Aside0.mk (blk_below (g := gb172) (o := .cells #[.string a0_0, .int .i64 a0_1, .int .i64 a0_2, .string a0_3, .int .i64 a0_4, .int .i64 a0_5, .int .i64 a0_6] 32 (0, 0)) (XSq.bq BK172) hb); have n1_ := Aside0.mk (below_step (XSq.bB HB) hb); have n2_ := Aside0.mk (hbox); have n3_ := Aside0.mk ((by rw [hg]; exact (below_size (XSq.bB HB)) : w.heap.size ≤ gb189)); have n4_ := Aside0.mk ((by rw [hg]; exact (below_size (XSq.bB HB)) : w.heap.size ≤ gb189)); have n5_ := Aside0.mk ((by rw [hg]; exact Nat.ne_of_lt (blk_lt (g := gb172) (o := .cells #[.string a0_0, .int .i64 a0_1, .int .i64 a0_2, .string a0_3, .int .i64 a0_4, .int .i64 a0_5, .int .i64 a0_6] 32 (0, 0)) (XSq.bq BK172)) : gb172 ≠ gb189)); have n6_ := Aside0.mk ((by rw [hg]; exact Nat.ne_of_gt (blk_lt (g := gb172) (o := .cells #[.string a0_0, .int .i64 a0_1, .int .i64 a0_2, .string a0_3, .int .i64 a0_4, .int .i64 a0_5, .int .i64 a0_6] 32 (0, 0)) (XSq.bq BK172)) : gb189 ≠ gb172)); clear BK172; clear HB; have BK172 := n0_; have HB := n1_; have BK189 := n2_; have GW189 := n3_; have GE189 := n4_; have NB172_189 := n5_; have NB189_172 := n6_; clear n0_ n1_ n2_ n3_ n4_ n5_ n6_; clear hb hbox hg; have hnb21 := NB189_172.out; have hnc21 := NB172_189.out; have hcz22_0 : w20.cell? ⟨gb189, 0, none⟩ = some (.string (⟨#[]⟩ : ByteArray)) := (blk_cell BK189.out 0).trans rfl; have hcz22_1 : w20.cell? ⟨gb189, 1, none⟩ = some (.int .i64 0) := (blk_cell BK189.out 1).trans rfl; have hcz22_2 : w20.cell? ⟨gb189, 2, none⟩ = some (.int .i64 0) := (blk_cell BK189.out 2).trans rfl; have hcz22_3 : w20.cell? ⟨gb189, 3, none⟩ = some (.string (⟨#[]⟩ : ByteArray)) := (blk_cell BK189.out 3).trans rfl; have hcz22_4 : w20.cell? ⟨gb189, 4, none⟩ = some (.int .i64 0) := (blk_cell BK189.out 4).trans rfl; have hcz22_5 : w20.cell? ⟨gb189, 5, none⟩ = some (.int .i64 0) := (blk_cell BK189.out 5).trans rfl; have hcz22_6 : w20.cell? ⟨gb189, 6, none⟩ = some (.int .i64 0) := (blk_cell BK189.out 6).trans rfl; have hfz22_0 := blk_frozen BK189.out 0; have hfz22_1 := blk_frozen BK189.out 1; have hfz22_2 := blk_frozen BK189.out 2; have hfz22_3 := blk_frozen BK189.out 3; have hfz22_4 := blk_frozen BK189.out 4; have hfz22_5 := blk_frozen BK189.out 5; have hfz22_6 := blk_frozen BK189.out 6; have hcz23_0 : w20.cell? ⟨gb172, 0, none⟩ = some (.string a0_0) := (blk_cell BK172.out 0).trans rfl; have hcz23_1 : w20.cell? ⟨gb172, 1, none⟩ = some (.int .i64 a0_1) := (blk_cell BK172.out 1).trans rfl; have hcz23_2 : w20.cell? ⟨gb172, 2, none⟩ = some (.int .i64 a0_2) := (blk_cell BK172.out 2).trans rfl; have hcz23_3 : w20.cell? ⟨gb172, 3, none⟩ = some (.string a0_3) := (blk_cell BK172.out 3).trans rfl; have hcz23_4 : w20.cell? ⟨gb172, 4, none⟩ = some (.int .i64 a0_4) := (blk_cell BK172.out 4).trans rfl; have hcz23_5 : w20.cell? ⟨gb172, 5, none⟩ = some (.int .i64 a0_5) := (blk_cell BK172.out 5).trans rfl; have hcz23_6 : w20.cell? ⟨gb172, 6, none⟩ = some (.int .i64 a0_6) := (blk_cell BK172.out 6).trans rfl; have hfz23_0 := blk_frozen BK172.out 0; have hfz23_1 := blk_frozen BK172.out 1; have hfz23_2 := blk_frozen BK172.out 2; have hfz23_3 := blk_frozen BK172.out 3; have hfz23_4 := blk_frozen BK172.out 4; have hfz23_5 := blk_frozen BK172.out 5; have hfz23_6 := blk_frozen BK172.out 6) | ((with_reducible refine gate_callee (f := 16) rfl ?_); refine goesL_ (some 21) rfl rfl Tryz.func16 (by kernel_rfl) rfl #[.agg #[.string a0_0, .int .i64 a0_1, .int .i64 a0_2, .string a0_3, .int .i64 a0_4, .int .i64 a0_5, .int .i64 a0_6]] rfl (by (try simp only [List.map_toArray, List.map_cons, List.map_nil]); first | done | rfl | (simp only [List.length_drop, List.length_take]; rfl)) ?_; (with_reducible refine (laws_toWorld.calls a0_0 a0_1 a0_2 a0_3 a0_4 a0_5 a0_6 t190 t191 t192 t193 t194 t195 t196 _ A9.out).mono ?_); rintro e w24 ⟨rfl, hb⟩; refine ⟨_, rfl, ?_⟩; have n0_ := Aside0.mk (blk_below (g := gb172) (o := .cells #[.string a0_0, .int .i64 a0_1, .int .i64 a0_2, .string a0_3, .int .i64 a0_4, .int .i64 a0_5, .int .i64 a0_6] 32 (0, 0)) (by (with_reducible repeat (first | refine blk_drewN ?_ _ | refine blk_drew ?_ | refine blk_alloc ?_ _)); refine blk_far ?_ NB172_189.out _; (with_reducible repeat (first | refine blk_drewN ?_ _ | refine blk_drew ?_ | refine blk_alloc ?_ _)); refine blk_far ?_ NB172_189.out _; (with_reducible repeat (first | refine blk_drewN ?_ _ | refine blk_drew ?_ | refine blk_alloc ?_ _)); refine blk_far ?_ NB172_189.out _; (with_reducible repeat (first | refine blk_drewN ?_ _ | refine blk_drew ?_ | refine blk_alloc ?_ _)); refine blk_far ?_ NB172_189.out _; (with_reducible repeat (first | refine blk_drewN ?_ _ | refine blk_drew ?_ | refine blk_alloc ?_ _)); refine blk_far ?_ NB172_189.out _; (with_reducible repeat (first | refine blk_drewN ?_ _ | refine blk_drew ?_ | refine blk_alloc ?_ _)); refine blk_far ?_ NB172_189.out _; (with_reducible repeat (first | refine blk_drewN ?_ _ | refine blk_drew ?_ | refine blk_alloc ?_ _)); refine blk_far ?_ NB172_189.out _; (with_reducible repeat (first | refine blk_drewN ?_ _ | refine blk_drew ?_ | refine blk_alloc ?_ _)); exact BK172.out) hb); have n1_ := Aside0.mk (blk_below (g := gb189) (o := .cells #[.string t181, .int .i64 t182, .int .i64 t183, .string t184, .int .i64 t185, .int .i64 t186, .int .i64 t187] 34 (0, 0)) (by (with_reducible repeat (first | refine blk_drewN ?_ _ | refine blk_drew ?_ | refine blk_alloc ?_ _)); refine blk_put (cs := #[.string t181, .int .i64 t182, .int .i64 t183, .string t184, .int .i64 t185, .int .i64 t186, .int .i64 0]) ?_ 6 _ rfl; (with_reducible repeat (first | refine blk_drewN ?_ _ | refine blk_drew ?_ | refine blk_alloc ?_ _)); refine blk_put (cs := #[.string t181, .int .i64 t182, .int .i64 t183, .string t184, .int .i64 t185, .int .i64 0, .int .i64 0]) ?_ 5 _ rfl; (with_reducible repeat (first | refine blk_drewN ?_ _ | refine blk_drew ?_ | refine blk_alloc ?_ _)); refine blk_put (cs := #[.string t181, .int .i64 t182, .int .i64 t183, .string t184, .int .i64 0, .int .i64 0, .int .i64 0]) ?_ 4 _ rfl; (with_reducible repeat (first | refine blk_drewN ?_ _ | refine blk_drew ?_ | refine blk_alloc ?_ _)); refine blk_put (cs := #[.string t181, .int .i64 t182, .int .i64 t183, .string (⟨#[]⟩ : ByteArray), .int .i64 0, .int .i64 0, .int .i64 0]) ?_ 3 _ rfl; (with_reducible repeat (first | refine blk_drewN ?_ _ | refine blk_drew ?_ | refine blk_alloc ?_ _)); refine blk_put (cs := #[.string t181, .int .i64 t182, .int .i64 0, .string (⟨#[]⟩ : ByteArray), .int .i64 0, .int .i64 0, .int .i64 0]) ?_ 2 _ rfl; (with_reducible repeat (first | refine blk_drewN ?_ _ | refine blk_drew ?_ | refine blk_alloc ?_ _)); refine blk_put (cs := #[.string t181, .int .i64 0, .int .i64 0, .string (⟨#[]⟩ : ByteArray), .int .i64 0, .int .i64 0, .int .i64 0]) ?_ 1 _ rfl; (with_reducible repeat (first | refine blk_drewN ?_ _ | refine blk_drew ?_ | refine blk_alloc ?_ _)); refine blk_put (cs := #[.string (⟨#[]⟩ : ByteArray), .int .i64 0, .int .i64 0, .string (⟨#[]⟩ : ByteArray), .int .i64 0, .int .i64 0, .int .i64 0]) ?_ 0 _ rfl; (with_reducible repeat (first | refine blk_drewN ?_ _ | refine blk_drew ?_ | refine blk_alloc ?_ _)); exact BK189.out) hb); have n2_ := Aside0.mk (below_step (XSq.bB HB) hb); clear BK172; clear BK189; clear HB; have BK172 := n0_; have BK189 := n1_; have HB := n2_; clear n0_ n1_ n2_; (try clear hb); (try clear hb2); (try clear hk); (try clear hi)) | ((with_reducible refine gate_callee (f := 20) rfl ?_); refine goesL_ (some 22) rfl rfl Tryz.func20 (by kernel_rfl) rfl #[.agg #[.string t190, .int .i64 t191, .int .i64 t192, .string t193, .int .i64 t194, .int .i64 t195, .int .i64 t196]] rfl (by (try simp only [List.map_toArray, List.map_cons, List.map_nil]); first | done | rfl | (simp only [List.length_drop, List.length_take]; rfl)) ?_; (with_reducible refine (impl_BackWorld.calls k t190 t191 t192 t193 t194 t195 t196 t197 t198 t199 t200 t201 t202 t203 t204 _ A10.out).mono ?_); rintro e w25 ⟨rfl, hb⟩; refine ⟨_, rfl, ?_⟩; have n0_ := Aside0.mk (blk_below (g := gb172) (o := .cells #[.string a0_0, .int .i64 a0_1, .int .i64 a0_2, .string a0_3, .int .i64 a0_4, .int .i64 a0_5, .int .i64 a0_6] 32 (0, 0)) (XSq.bq BK172) hb); have n1_ := Aside0.mk (blk_below (g := gb189) (o := .cells #[.string t181, .int .i64 t182, .int .i64 t183, .string t184, .int .i64 t185, .int .i64 t186, .int .i64 t187] 34 (0, 0)) (XSq.bq BK189) hb); have n2_ := Aside0.mk (below_step (XSq.bB HB) hb); clear BK172; clear BK189; clear HB; have BK172 := n0_; have BK189 := n1_; have HB := n2_; clear n0_ n1_ n2_; (try clear hb); (try clear hb2); (try clear hk); (try clear hi)) | ((with_reducible refine gate_dst (N := 6) rfl ?_); refine box_event ?hg (N := 6) ?hd (cs := #[.string (⟨#[]⟩ : ByteArray), .int .i64 0, .int .i64 0, .string (⟨#[]⟩ : ByteArray), .int .i64 0, .int .i64 0, .int .i64 0]) (t := 34) ?hr ?_; (case hd => rfl); (case hg => rfl); (case hr => first | (go_simp; done) | (go_simp; rfl)); intro gb205 hg w26 hbox hb; have n0_ := Aside0.mk (blk_below (g := gb172) (o := .cells #[.string a0_0, .int .i64 a0_1, .int .i64 a0_2, .string a0_3, .int .i64 a0_4, .int .i64 a0_5, .int .i64 a0_6] 32 (0, 0)) (XSq.bq BK172) hb); have n1_ := Aside0.mk (blk_below (g := gb189) (o := .cells #[.string t181, .int .i64 t182, .int .i64 t183, .string t184, .int .i64 t185, .int .i64 t186, .int .i64 t187] 34 (0, 0)) (XSq.bq BK189) hb); have n2_ := Aside0.mk (below_step (XSq.bB HB) hb); have n3_ := Aside0.mk (hbox); have n4_ := Aside0.mk ((by rw [hg]; exact (below_size (XSq.bB HB)) : w.heap.size ≤ gb205)); have n5_ := Aside0.mk ((by rw [hg]; exact (below_size (XSq.bB HB)) : w.heap.size ≤ gb205)); have n6_ := Aside0.mk ((by rw [hg]; exact Nat.ne_of_lt (blk_lt (g := gb172) (o := .cells #[.string a0_0, .int .i64 a0_1, .int .i64 a0_2, .string a0_3, .int .i64 a0_4, .int .i64 a0_5, .int .i64 a0_6] 32 (0, 0)) (XSq.bq BK172)) : gb172 ≠ gb205)); have n7_ := Aside0.mk ((by rw [hg]; exact Nat.ne_of_gt (blk_lt (g := gb172) (o := .cells #[.string a0_0, .int .i64 a0_1, .int .i64 a0_2, .string a0_3, .int .i64 a0_4, .int .i64 a0_5, .int .i64 a0_6] 32 (0, 0)) (XSq.bq BK172)) : gb205 ≠ gb172)); have n8_ := Aside0.mk ((by rw [hg]; exact Nat.ne_of_lt (blk_lt (g := gb189) (o := .cells #[.string t181, .int .i64 t182, .int .i64 t183, .string t184, .int .i64 t185, .int .i64 t186, .int .i64 t187] 34 (0, 0)) (XSq.bq BK189)) : gb189 ≠ gb205)); have n9_ := Aside0.mk ((by rw [hg]; exact Nat.ne_of_gt (blk_lt (g := gb189) (o := .cells #[.string t181, .int .i64 t182, .int .i64 t183, .string t184, .int .i64 t185, .int .i64 t186, .int .i64 t187] 34 (0, 0)) (XSq.bq BK189)) : gb205 ≠ gb189)); clear BK172; clear BK189; clear HB; have BK172 := n0_; have BK189 := n1_; have HB := n2_; have BK205 := n3_; have GW205 := n4_; have GE205 := n5_; have NB172_205 := n6_; have NB205_172 := n7_; have NB189_205 := n8_; have NB205_189 := n9_; clear n0_ n1_ n2_ n3_ n4_ n5_ n6_ n7_ n8_ n9_; clear hb hbox hg; have hnb27 := NB205_172.out; have hnc27 := NB172_205.out; have hnb28 := NB205_189.out; have hnc28 := NB189_205.out; have hcz29_0 : w26.cell? ⟨gb205, 0, none⟩ = some (.string (⟨#[]⟩ : ByteArray)) := (blk_cell BK205.out 0).trans rfl; have hcz29_1 : w26.cell? ⟨gb205, 1, none⟩ = some (.int .i64 0) := (blk_cell BK205.out 1).trans rfl; have hcz29_2 : w26.cell? ⟨gb205, 2, none⟩ = some (.int .i64 0) := (blk_cell BK205.out 2).trans rfl; have hcz29_3 : w26.cell? ⟨gb205, 3, none⟩ = some (.string (⟨#[]⟩ : ByteArray)) := (blk_cell BK205.out 3).trans rfl; have hcz29_4 : w26.cell? ⟨gb205, 4, none⟩ = some (.int .i64 0) := (blk_cell BK205.out 4).trans rfl; have hcz29_5 : w26.cell? ⟨gb205, 5, none⟩ = some (.int .i64 0) := (blk_cell BK205.out 5).trans rfl; have hcz29_6 : w26.cell? ⟨gb205, 6, none⟩ = some (.int .i64 0) := (blk_cell BK205.out 6).trans rfl; have hfz29_0 := blk_frozen BK205.out 0; have hfz29_1 := blk_frozen BK205.out 1; have hfz29_2 := blk_frozen BK205.out 2; have hfz29_3 := blk_frozen BK205.out 3; have hfz29_4 := blk_frozen BK205.out 4; have hfz29_5 := blk_frozen BK205.out 5; have hfz29_6 := blk_frozen BK205.out 6; have hcz30_0 : w26.cell? ⟨gb189, 0, none⟩ = some (.string t181) := (blk_cell BK189.out 0).trans rfl; have hcz30_1 : w26.cell? ⟨gb189, 1, none⟩ = some (.int .i64 t182) := (blk_cell BK189.out 1).trans rfl; have hcz30_2 : w26.cell? ⟨gb189, 2, none⟩ = some (.int .i64 t183) := (blk_cell BK189.out 2).trans rfl; have hcz30_3 : w26.cell? ⟨gb189, 3, none⟩ = some (.string t184) := (blk_cell BK189.out 3).trans rfl; have hcz30_4 : w26.cell? ⟨gb189, 4, none⟩ = some (.int .i64 t185) := (blk_cell BK189.out 4).trans rfl; have hcz30_5 : w26.cell? ⟨gb189, 5, none⟩ = some (.int .i64 t186) := (blk_cell BK189.out 5).trans rfl; have hcz30_6 : w26.cell? ⟨gb189, 6, none⟩ = some (.int .i64 t187) := (blk_cell BK189.out 6).trans rfl; have hfz30_0 := blk_frozen BK189.out 0; have hfz30_1 := blk_frozen BK189.out 1; have hfz30_2 := blk_frozen BK189.out 2; have hfz30_3 := blk_frozen BK189.out 3; have hfz30_4 := blk_frozen BK189.out 4; have hfz30_5 := blk_frozen BK189.out 5; have hfz30_6 := blk_frozen BK189.out 6) | ((with_reducible refine gate_callee (f := 18) rfl ?_); refine goesL_ (some 27) rfl rfl Tryz.func18 (by kernel_rfl) rfl #[.agg #[.string t197, .int .i64 t198, .int .i64 t199, .string t200, .int .i64 t201, .int .i64 t202, .int .i64 t203], .agg #[.string t181, .int .i64 t182, .int .i64 t183, .string t184, .int .i64 t185, .int .i64 t186, .int .i64 t187]] rfl (by (try simp only [List.map_toArray, List.map_cons, List.map_nil]); first | done | rfl | (simp only [List.length_drop, List.length_take]; rfl)) ?_; (with_reducible refine (laws_eqWorld.calls t197 t198 t199 t200 t201 t202 t203 t181 t182 t183 t184 t185 t186 t187 true _ A11.out).mono ?_); rintro e w31 ⟨rfl, hb⟩; refine ⟨_, rfl, ?_⟩; have n0_ := Aside0.mk (blk_below (g := gb172) (o := .cells #[.string a0_0, .int .i64 a0_1, .int .i64 a0_2, .string a0_3, .int .i64 a0_4, .int .i64 a0_5, .int .i64 a0_6] 32 (0, 0)) (by (with_reducible repeat (first | refine blk_drewN ?_ _ | refine blk_drew ?_ | refine blk_alloc ?_ _)); refine blk_far ?_ NB172_205.out _; (with_reducible repeat (first | refine blk_drewN ?_ _ | refine blk_drew ?_ | refine blk_alloc ?_ _)); refine blk_far ?_ NB172_205.out _; (with_reducible repeat (first | refine blk_drewN ?_ _ | refine blk_drew ?_ | refine blk_alloc ?_ _)); refine blk_far ?_ NB172_205.out _; (with_reducible repeat (first | refine blk_drewN ?_ _ | refine blk_drew ?_ | refine blk_alloc ?_ _)); refine blk_far ?_ NB172_205.out _; (with_reducible repeat (first | refine blk_drewN ?_ _ | refine blk_drew ?_ | refine blk_alloc ?_ _)); refine blk_far ?_ NB172_205.out _; (with_reducible repeat (first | refine blk_drewN ?_ _ | refine blk_drew ?_ | refine blk_alloc ?_ _)); refine blk_far ?_ NB172_205.out _; (with_reducible repeat (first | refine blk_drewN ?_ _ | refine blk_drew ?_ | refine blk_alloc ?_ _)); refine blk_far ?_ NB172_205.out _; (with_reducible repeat (first | refine blk_drewN ?_ _ | refine blk_drew ?_ | refine blk_alloc ?_ _)); exact BK172.out) hb); have n1_ := Aside0.mk (blk_below (g := gb189) (o := .cells #[.string t181, .int .i64 t182, .int .i64 t183, .string t184, .int .i64 t185, .int .i64 t186, .int .i64 t187] 34 (0, 0)) (by (with_reducible repeat (first | refine blk_drewN ?_ _ | refine blk_drew ?_ | refine blk_alloc ?_ _)); refine blk_far ?_ NB189_205.out _; (with_reducible repeat (first | refine blk_drewN ?_ _ | refine blk_drew ?_ | refine blk_alloc ?_ _)); refine blk_far ?_ NB189_205.out _; (with_reducible repeat (first | refine blk_drewN ?_ _ | refine blk_drew ?_ | refine blk_alloc ?_ _)); refine blk_far ?_ NB189_205.out _; (with_reducible repeat (first | refine blk_drewN ?_ _ | refine blk_drew ?_ | refine blk_alloc ?_ _)); refine blk_far ?_ NB189_205.out _; (with_reducible repeat (first | refine blk_drewN ?_ _ | refine blk_drew ?_ | refine blk_alloc ?_ _)); refine blk_far ?_ NB189_205.out _; (with_reducible repeat (first | refine blk_drewN ?_ _ | refine blk_drew ?_ | refine blk_alloc ?_ _)); refine blk_far ?_ NB189_205.out _; (with_reducible repeat (first | refine blk_drewN ?_ _ | refine blk_drew ?_ | refine blk_alloc ?_ _)); refine blk_far ?_ NB189_205.out _; (with_reducible repeat (first | refine blk_drewN ?_ _ | refine blk_drew ?_ | refine blk_alloc ?_ _)); exact BK189.out) hb); have n2_ := Aside0.mk (blk_below (g := gb205) (o := .cells #[.string t197, .int .i64 t198, .int .i64 t199, .string t200, .int .i64 t201, .int .i64 t202, .int .i64 t203] 34 (0, 0)) (by (with_reducible repeat (first | refine blk_drewN ?_ _ | refine blk_drew ?_ | refine blk_alloc ?_ _)); refine blk_put (cs := #[.string t197, .int .i64 t198, .int .i64 t199, .string t200, .int .i64 t201, .int .i64 t202, .int .i64 0]) ?_ 6 _ rfl; (with_reducible repeat (first | refine blk_drewN ?_ _ | refine blk_drew ?_ | refine blk_alloc ?_ _)); refine blk_put (cs := #[.string t197, .int .i64 t198, .int .i64 t199, .string t200, .int .i64 t201, .int .i64 0, .int .i64 0]) ?_ 5 _ rfl; (with_reducible repeat (first | refine blk_drewN ?_ _ | refine blk_drew ?_ | refine blk_alloc ?_ _)); refine blk_put (cs := #[.string t197, .int .i64 t198, .int .i64 t199, .string t200, .int .i64 0, .int .i64 0, .int .i64 0]) ?_ 4 _ rfl; (with_reducible repeat (first | refine blk_drewN ?_ _ | refine blk_drew ?_ | refine blk_alloc ?_ _)); refine blk_put (cs := #[.string t197, .int .i64 t198, .int .i64 t199, .string (⟨#[]⟩ : ByteArray), .int .i64 0, .int .i64 0, .int .i64 0]) ?_ 3 _ rfl; (with_reducible repeat (first | refine blk_drewN ?_ _ | refine blk_drew ?_ | refine blk_alloc ?_ _)); refine blk_put (cs := #[.string t197, .int .i64 t198, .int .i64 0, .string (⟨#[]⟩ : ByteArray), .int .i64 0, .int .i64 0, .int .i64 0]) ?_ 2 _ rfl; (with_reducible repeat (first | refine blk_drewN ?_ _ | refine blk_drew ?_ | refine blk_alloc ?_ _)); refine blk_put (cs := #[.string t197, .int .i64 0, .int .i64 0, .string (⟨#[]⟩ : ByteArray), .int .i64 0, .int .i64 0, .int .i64 0]) ?_ 1 _ rfl; (with_reducible repeat (first | refine blk_drewN ?_ _ | refine blk_drew ?_ | refine blk_alloc ?_ _)); refine blk_put (cs := #[.string (⟨#[]⟩ : ByteArray), .int .i64 0, .int .i64 0, .string (⟨#[]⟩ : ByteArray), .int .i64 0, .int .i64 0, .int .i64 0]) ?_ 0 _ rfl; (with_reducible repeat (first | refine blk_drewN ?_ _ | refine blk_drew ?_ | refine blk_alloc ?_ _)); exact BK205.out) hb); have n3_ := Aside0.mk (below_step (XSq.bB HB) hb); clear BK172; clear BK189; clear BK205; clear HB; have BK172 := n0_; have BK189 := n1_; have BK205 := n2_; have HB := n3_; clear n0_ n1_ n2_ n3_; (try clear hb); (try clear hb2); (try clear hk); (try clear hi)))
        go_ret
        exact ⟨by first | rfl | (simp [errW_none, errW_some] <;> rfl) | (simp [*, errW_none, errW_some] <;> rfl), by repeat (first | (with_reducible first | exact HB.out | apply below_alloc | apply pw_below_drewN | apply below_drew1 | refine below_set ?_ GE172.out | refine below_set ?_ GE189.out | refine below_set ?_ GE205.out) | exact HB.out)⟩
    · replace c12 := Bool.eq_false_iff.mpr c12
      subst c12
      have H1 : (none) = some r := by rw [if_neg (show ¬ (false = true) by decide)] at H; exact H
      clear H
      have H := H1
      clear H1
      exact absurd H (by simp)

end Go.Proofs.YtdicnggfigedoaaGreatDoor.PFnExactBackWorld
