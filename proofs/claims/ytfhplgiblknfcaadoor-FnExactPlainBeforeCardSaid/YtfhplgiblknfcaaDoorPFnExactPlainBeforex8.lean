-- Made by wip/tools/xkit.py (a program of this session's) with the kit's printer.
import Derived.Test.YtfhplgiblknfcaaDoorPFnExactPlainBeforex0
import Derived.Test.YtfhplgiblknfcaaDoorPFnExactPlainBeforex5
import Derived.Test.YtfhplgiblknfcaaDoorPFnExactPlainBeforex7
namespace Go.Proofs.YtfhplgiblknfcaaDoor.PFnExactPlainBefore
open Go.RowKit Go.Proofs.YtfhplgiblknfcaaDoorW.PrintWords Go.Proofs.YtfhplgiblknfcaaDoorW.PrintLast Go.Proofs.YtfhplgiblknfcaaDoorW.PrintMore
attribute [local go_sem] max2_int min2_int max_two min_two max_three min_three max_four min_four   -- for this text's walks alone
set_option linter.unusedVariables false
set_option linter.unusedSimpArgs false

/-! ### impl_PlainBefore: function 8, by hand -/
def gL.ok (s : S60) : Bool := decide (XMapP.In64 s.f0) && (decide (XMapP.In64 s.f1) && decide (XMapP.In64 s.f2))
theorem gL.ok_iff {s : S60} : gL.ok s = true ↔ XMapP.In64 s.f0 ∧ XMapP.In64 s.f1 ∧ XMapP.In64 s.f2 := by
  unfold gL.ok
  simp only [Bool.and_eq_true, decide_eq_true_eq]
def gL.tr (s : S60) : XMapL.Sp := (s.f0, s.f1, s.f2)
def gL.F (l : List (S60)) : List XMapL.Sp := l.map gL.tr
def gL.okB (l : List (S60)) : Bool := l.all gL.ok && decide ((gL.F l).Pairwise fun s t => ¬ (s.1 = t.1 ∧ s.2.1 = t.2.1))
def gL.f (l0_1 : List (S60)) : Option (List XMapL.Sp) := if gL.okB l0_1 = true then some (gL.F l0_1) else none
theorem gL.lawP : Go.Maps.Keyed Tryd.prog 67 := Go.Maps.Keyed.of_law (deep_law_laid (by kernel_rfl) (m := 2) (by omega) (of_decide_eq_true (by kernel_rfl)) (by kernel_rfl) (by rw [Tryd.underlying67]))
theorem gL.keyP : XMapP.PairKey Tryd.prog 67 3 := ⟨⟨_, _, Tryd.underlying67, rfl, rfl, by decide, rfl, rfl, by decide⟩, Tryd.underlying3, by kernel_rfl, by kernel_rfl, by kernel_rfl, ⟨_, rfl⟩⟩
theorem gL.zb (w : World) : (zeroValue 3).run Tryd.prog w = .ok (.int .i64 0) w := by kernel_rfl
abbrev gL.IM (w : World) (b n : Nat) (F : List XMapL.Sp) : Prop := XMapL.IsMapL Tryd.prog 67 3 w b n F
theorem gL.rd_at (l : List (S60)) (i : Nat) (h : i < l.length) : rd_T60 l (i : Int) = l[i] := by
  unfold rd_T60
  rw [Int.toNat_natCast, List.getD_eq_getElem?_getD, List.getElem?_eq_getElem h, Option.getD_some]
theorem gL.F_take (l : List (S60)) (i : Nat) (h : i < l.length) : gL.F (l.take (i + 1)) = gL.F (l.take i) ++ [((rd_T60 l (i : Int)).f0, (rd_T60 l (i : Int)).f1, (rd_T60 l (i : Int)).f2)] := by
  rw [gL.rd_at l i h, List.take_succ_eq_append_getElem h]
  unfold gL.F
  rw [List.map_append]
  rfl
theorem gL.ok_at {l : List (S60)} (hok : gL.okB l = true) (i : Nat) (h : i < l.length) : XMapP.In64 (rd_T60 l (i : Int)).f0 ∧ XMapP.In64 (rd_T60 l (i : Int)).f1 ∧ XMapP.In64 (rd_T60 l (i : Int)).f2 := by
  rw [gL.rd_at l i h]
  unfold gL.okB at hok
  exact gL.ok_iff.1 (List.all_eq_true.1 (Bool.and_eq_true_iff.1 hok).1 _ (List.getElem_mem h))
theorem gL.new_at {l : List (S60)} (hok : gL.okB l = true) (i : Nat) (h : i < l.length) : ∀ s ∈ gL.F (l.take i), XMapL.at_ (rd_T60 l (i : Int)).f0 (rd_T60 l (i : Int)).f1 s = false := by
  intro s hs
  rw [gL.rd_at l i h]
  unfold gL.okB at hok
  have hp := of_decide_eq_true (Bool.and_eq_true_iff.1 hok).2
  have e : gL.F l = gL.F (l.take i) ++ gL.tr l[i] :: gL.F (l.drop (i + 1)) := by
    conv => lhs; rw [← List.take_append_drop i l, List.drop_eq_getElem_cons h]
    unfold gL.F
    rw [List.map_append, List.map_cons]
  rw [e] at hp
  have := (List.pairwise_append.1 hp).2.2 s hs (gL.tr l[i]) (by simp)
  cases ha : XMapL.at_ (l[i]).f0 (l[i]).f1 s with
  | false => rfl
  | true => exact absurd (XMapL.at_iff.1 ha) this
def gL.T5 : Bool × List (List Nat × List Nat) := (true, [([], []), ([0], [0]), ([1], [1]), ([2], [2]), ([], []), ([4], [4]), ([], []), ([6], [6]), ([5, 7], [5, 7]), ([], []), ([9], [9]), ([3, 8, 10, 0, 1, 2, 3, 4, 5, 6, 7, 8, 9, 10], [3, 8, 10])])
def gL.B5 : List Nat := [0, 1, 3, 7, 0, 16, 0, 64, 240, 0, 512, 2047]
theorem gL.tab5 : rtab .any (opsOf Tryd.f20 5) = gL.T5 := by kernel_rfl
theorem gL.bits5 : waitsOk gL.T5.2 gL.B5 = true := by kernel_rfl
/-- What a call of going leaves: a state of its own, its map of its own. -/
def gL.Post (a0_0 : ByteArray) (F : List XMapL.Sp) (n : Nat) (x y d : Int) (w : World) (e : Ending) (w' : World) : Prop :=
  ∃ g b, e = .returned (.pointer (some ⟨g, 0, none⟩)) ∧ w'.heap[g]? = some (.cells #[.string a0_0, .map (some b), .int .i64 x, .int .i64 y, .int .i64 d] 65 (0, 0)) ∧ XMapL.IsMapL Tryd.prog 67 3 w' b n F ∧ Below w.heap.size w w' ∧ w.heap.size ≤ g ∧ w.heap.size ≤ b ∧ g ≠ b
set_option maxHeartbeats 8000000 in
set_option maxRecDepth 100000 in
theorem gL.calls (a0_0 : ByteArray) (A0_1 : Option Addr) (c0_1 : Nat) (l0_1 : List (S60)) (a0_2 : Int) (a0_3 : Int) (a0_4 : Int) (r : List XMapL.Sp) (w : World) (hr0_1 : Kd.C k60 w A0_1 l0_1.length l0_1) (hc0_1 : l0_1.length ≤ c0_1) (h : gL.f l0_1 = some r) :
    Calls Tryd.prog 20 #[.agg #[.string a0_0, .slice A0_1 l0_1.length c0_1, .int .i64 a0_2, .int .i64 a0_3, .int .i64 a0_4]] w (gL.Post a0_0 r l0_1.length a0_2 a0_3 a0_4 w) := by
  have hu1 := Tryd.underlying28
  have hu2 := Tryd.underlying60
  have hu3 := Tryd.underlying65
  have hu4 := Tryd.underlying67
  have hl := hr0_1.2.1
  have HL : Aside0 (l0_1.length ≤ 9223372036854775807) := ⟨hl⟩
  clear hl
  have HR0_1 := Aside0.mk hr0_1
  have HC0_1 := Aside0.mk hc0_1
  clear hr0_1 hc0_1
  unfold gL.f at h
  by_cases hok : gL.okB l0_1 = true
  · rw [if_pos hok] at h
    have HOK := Aside0.mk hok
    clear hok
    obtain rfl := Option.some.inj h
    clear h
    have HB := Aside0.mk (Below.refl w.heap.size w)
    go_enter Tryd.func20, Tryd.ntmps20
    go_wp2_with (first | ((with_reducible refine gate_dst (N := 1) rfl ?_); refine box_event ?hg (N := 1) ?hd (cs := #[.string a0_0, .slice A0_1 l0_1.length c0_1, .int .i64 a0_2, .int .i64 a0_3, .int .i64 a0_4]) (t := 28) ?hr ?_; (case hd => rfl); (case hg => rfl); (case hr => first | (go_simp; done) | (go_simp; rfl)); intro gp hg w2 hbox hb; have n0_ := Aside0.mk (below_step (XSq.bB HB) hb); have BKP := Aside0.mk hbox; have GEP := Aside0.mk ((by rw [hg]; exact (below_size (XSq.bB HB)) : w.heap.size ≤ gp)); clear HB; have HB := n0_; clear n0_; clear hb hbox hg; have hcz_0 : w2.cell? ⟨gp, 0, none⟩ = some (.string a0_0) := (blk_cell BKP.out 0).trans rfl) | ((with_reducible refine gate_dst (N := 8) rfl ?_); refine XMapL.made_event 67 3 rfl rfl ?_; intro bm hg w3 hm_ hb; have NPM := Aside0.mk ((by rw [hg]; exact Nat.ne_of_lt (blk_lt BKP.out)) : gp ≠ bm); have GEM := Aside0.mk ((by rw [hg]; exact (below_size (XSq.bB HB)) : w.heap.size ≤ bm)); have n0_ := Aside0.mk (below_step (XSq.bB HB) hb); have n1_ := XSq.bb BKP hb; have HM := Aside0.mk hm_; clear hcz_0 BKP HB; have HB := n0_; have BKP := n1_; clear n0_ n1_ hm_ hb hg; have hcz_1 : w3.cell? ⟨gp, 1, none⟩ = some (.slice A0_1 l0_1.length c0_1) := (blk_cell BKP.out 1).trans rfl; have hcz_2 : w3.cell? ⟨gp, 2, none⟩ = some (.int .i64 a0_2) := (blk_cell BKP.out 2).trans rfl; have hcz_3 : w3.cell? ⟨gp, 3, none⟩ = some (.int .i64 a0_3) := (blk_cell BKP.out 3).trans rfl; have hcz_4 : w3.cell? ⟨gp, 4, none⟩ = some (.int .i64 a0_4) := (blk_cell BKP.out 4).trans rfl) | ((with_reducible refine gate_dst (N := 16) rfl ?_); refine box_event ?hg (N := 16) ?hd (cs := #[.string a0_0, .map (some bm), .int .i64 a0_2, .int .i64 a0_3, .int .i64 a0_4]) (t := 65) ?hr ?_; (case hd => rfl); (case hg => rfl); (case hr => first | (go_simp; done) | (go_simp; rfl)); intro gg hg w4 hbox hb; have NPG := Aside0.mk ((by rw [hg]; exact Nat.ne_of_lt (blk_lt BKP.out)) : gp ≠ gg); have NGM := Aside0.mk ((by rw [hg]; exact (Nat.ne_of_lt HM.out.lt).symm) : gg ≠ bm); have GEG := Aside0.mk ((by rw [hg]; exact (below_size (XSq.bB HB)) : w.heap.size ≤ gg)); have n0_ := Aside0.mk (below_step (XSq.bB HB) hb); have n1_ := XSq.bb BKP hb; have n2_ := Aside0.mk (HM.out.below hb); have BKG := Aside0.mk hbox; clear hcz_1 hcz_2 hcz_3 hcz_4 BKP HB HM; have HB := n0_; have BKP := n1_; have HM := n2_; clear n0_ n1_ n2_ hbox hb hg; have hcz_1 : w4.cell? ⟨gp, 1, none⟩ = some (.slice A0_1 l0_1.length c0_1) := (blk_cell BKP.out 1).trans rfl))
    go_loopg [20] (l0_1.length + 1) (fun kq v20 w' => ∃ i : Nat, v20 = .int .i64 (i : Int) ∧ Aside0 (kq + i = l0_1.length + 1 ∧ i ≤ l0_1.length) ∧ Aside0 (w'.heap[gp]? = some (.cells #[.string a0_0, .slice A0_1 l0_1.length c0_1, .int .i64 a0_2, .int .i64 a0_3, .int .i64 a0_4] 28 (0, 0))) ∧ Aside0 (w'.heap[gg]? = some (.cells #[.string a0_0, .map (some bm), .int .i64 a0_2, .int .i64 a0_3, .int .i64 a0_4] 65 (0, 0))) ∧ Aside0 (gL.IM w' bm i (gL.F (l0_1.take i))) ∧ Aside0 (Below w.heap.size w w'))
    case atStart => exact ⟨0, rfl, ⟨rfl, Nat.zero_le _⟩, ⟨by (with_reducible repeat (first | refine blk_drewN ?_ _ | refine blk_drew ?_ | refine blk_alloc ?_ _)); exact BKP.out⟩, ⟨by (with_reducible repeat (first | refine blk_drewN ?_ _ | refine blk_drew ?_ | refine blk_alloc ?_ _)); exact BKG.out⟩, ⟨by repeat (first | exact HM.out | apply XMapL.IsMapL.drewN | apply XMapL.IsMapL.drew)⟩, ⟨by repeat (first | (with_reducible first | exact HB.out | apply below_alloc | apply pw_below_drewN | apply below_drew1) | exact HB.out)⟩⟩
    case round =>
      clear BKP BKG HM HB hcz_1
      obtain ⟨i, rfl, HK1, BKP, BKG, HM, HB⟩ := hrel
      cases gk with
      | zero => exact absurd HK1.out (by omega)
      | succ k1 =>
        by_cases c4 : i < l0_1.length
        · have c4b0 : decide ((i : Int) < (l0_1.length : Int)) = true := decide_eq_true (Int.ofNat_lt.2 c4)
          have HI := Aside0.mk c4
          clear c4
          have p160 : 0 ≤ (i : Int) := Int.natCast_nonneg _
          have q160 : (i : Int) < (l0_1.length : Int) := Int.ofNat_lt.2 HI.out
          obtain ⟨ad160, e160, hx160_0, hx160_1, hx160_2⟩ := at_T60 HR0_1.out (i : Int) p160 q160
          cases e160
          replace hx160_0 := (HB.out.cell (World.block_lt_of_cell? w _ hx160_0)).trans hx160_0
          replace hx160_1 := (HB.out.cell (World.block_lt_of_cell? w _ hx160_1)).trans hx160_1
          replace hx160_2 := (HB.out.cell (World.block_lt_of_cell? w _ hx160_2)).trans hx160_2
          simp only [Int.toNat_natCast] at hx160_0 hx160_1 hx160_2
          replace p160 := eq_true p160
          replace q160 := eq_true q160
          have HOI := Aside0.mk (gL.ok_at HOK.out i HI.out)
          obtain ⟨x0, hx0⟩ : ∃ z, z = (rd_T60 l0_1 (i : Int)).f0 := ⟨_, rfl⟩
          obtain ⟨x1, hx1⟩ : ∃ z, z = (rd_T60 l0_1 (i : Int)).f1 := ⟨_, rfl⟩
          obtain ⟨x2, hx2⟩ : ∃ z, z = (rd_T60 l0_1 (i : Int)).f2 := ⟨_, rfl⟩
          have HX := Aside0.mk (And.intro hx0 (And.intro hx1 hx2))
          rw [← hx0] at hx160_0
          rw [← hx1] at hx160_1
          rw [← hx2] at hx160_2
          clear hx0 hx1 hx2
          try go_wp2_with (first | ((with_reducible refine gate_dst (N := 5) rfl ?_); refine box_event ?hg (N := 5) ?hd (cs := #[.int .i64 0, .int .i64 0, .int .i64 0]) (t := 60) ?hr ?_; (case hd => rfl); (case hg => rfl); (case hr => first | (go_simp; done) | (go_simp; rfl)); intro gs hg w8 hbox hb; have NPS := XSq.nl hg (XSq.bq BKP); have NGS := XSq.nl hg (XSq.bq BKG); have NSM := Aside0.mk ((by rw [hg]; exact Nat.ne_of_lt HM.out.lt) : bm ≠ gs); have GES := Aside0.mk ((by rw [hg]; exact (below_size (XSq.bB HB)) : w.heap.size ≤ gs)); have n0_ := XSq.bb BKP hb; have n1_ := XSq.bb BKG hb; have n2_ := Aside0.mk (HM.out.below hb); have n3_ := Aside0.mk (below_step (XSq.bB HB) hb); have BKS := Aside0.mk hbox; clear BKP BKG HM HB; have BKP := n0_; have BKG := n1_; have HM := n2_; have HB := n3_; clear n0_ n1_ n2_ n3_ hb hbox hg; have hcz_0 : w8.cell? ⟨gs, 0, none⟩ = some (.int .i64 0) := (blk_cell BKS.out 0).trans rfl; have hcz_1 : w8.cell? ⟨gs, 1, none⟩ = some (.int .i64 0) := (blk_cell BKS.out 1).trans rfl; have hcz_2 : w8.cell? ⟨gs, 2, none⟩ = some (.int .i64 0) := (blk_cell BKS.out 2).trans rfl; have hfz_0 := blk_frozen BKS.out 0; have hfz_1 := blk_frozen BKS.out 1; have hfz_2 := blk_frozen BKS.out 2))
          have n0_ : Aside0 ((((w8.setCell ⟨gs, 0, none⟩ (.int .i64 x0)).setCell ⟨gs, 1, none⟩ (.int .i64 x1)).setCell ⟨gs, 2, none⟩ (.int .i64 x2)).heap[gp]? = some (.cells #[.string a0_0, .slice (some ad160) l0_1.length c0_1, .int .i64 a0_2, .int .i64 a0_3, .int .i64 a0_4] 28 (0, 0))) := ⟨by refine blk_far ?_ NPS.out _; refine blk_far ?_ NPS.out _; refine blk_far ?_ NPS.out _; exact BKP.out⟩
          have n1_ : Aside0 ((((w8.setCell ⟨gs, 0, none⟩ (.int .i64 x0)).setCell ⟨gs, 1, none⟩ (.int .i64 x1)).setCell ⟨gs, 2, none⟩ (.int .i64 x2)).heap[gg]? = some (.cells #[.string a0_0, .map (some bm), .int .i64 a0_2, .int .i64 a0_3, .int .i64 a0_4] 65 (0, 0))) := ⟨by refine blk_far ?_ NGS.out _; refine blk_far ?_ NGS.out _; refine blk_far ?_ NGS.out _; exact BKG.out⟩
          have n2_ : Aside0 ((((w8.setCell ⟨gs, 0, none⟩ (.int .i64 x0)).setCell ⟨gs, 1, none⟩ (.int .i64 x1)).setCell ⟨gs, 2, none⟩ (.int .i64 x2)).heap[gs]? = some (.cells #[.int .i64 x0, .int .i64 x1, .int .i64 x2] 60 (0, 0))) := ⟨by refine blk_put (cs := #[.int .i64 x0, .int .i64 x1, .int .i64 0]) ?_ 2 _ rfl; refine blk_put (cs := #[.int .i64 x0, .int .i64 0, .int .i64 0]) ?_ 1 _ rfl; refine blk_put (cs := #[.int .i64 0, .int .i64 0, .int .i64 0]) ?_ 0 _ rfl; exact BKS.out⟩
          have n3_ : Aside0 (gL.IM (((w8.setCell ⟨gs, 0, none⟩ (.int .i64 x0)).setCell ⟨gs, 1, none⟩ (.int .i64 x1)).setCell ⟨gs, 2, none⟩ (.int .i64 x2)) bm i (gL.F (l0_1.take i))) := ⟨((HM.out.set NSM.out _).set NSM.out _).set NSM.out _⟩
          have n4_ : Aside0 (Below w.heap.size w (((w8.setCell ⟨gs, 0, none⟩ (.int .i64 x0)).setCell ⟨gs, 1, none⟩ (.int .i64 x1)).setCell ⟨gs, 2, none⟩ (.int .i64 x2))) := ⟨by refine below_set ?_ GES.out; refine below_set ?_ GES.out; refine below_set ?_ GES.out; exact HB.out⟩
          clear BKP BKG BKS HM HB
          generalize (((w8.setCell ⟨gs, 0, none⟩ (.int .i64 x0)).setCell ⟨gs, 1, none⟩ (.int .i64 x1)).setCell ⟨gs, 2, none⟩ (.int .i64 x2)) = w11 at n0_ n1_ n2_ n3_ n4_ ⊢
          have BKP := Aside0.mk (blk_drew n0_.out)
          have BKG := Aside0.mk (blk_drew n1_.out)
          have BKS := Aside0.mk (blk_drew n2_.out)
          have HM := Aside0.mk (n3_.out.drew)
          have HB := Aside0.mk (below_drew1 n4_.out)
          clear n0_ n1_ n2_ n3_ n4_
          refine start_ (n := 12) (S := fun w' => w'.cell? ⟨gg, 1, none⟩ = some (.map (some bm)) ∧ w'.cell? ⟨gs, 0, none⟩ = some (.int .i64 x0) ∧ w'.cell? ⟨gs, 1, none⟩ = some (.int .i64 x1) ∧ w'.cell? ⟨gs, 2, none⟩ = some (.int .i64 x2)) (ds := []) #[false, false, false, false, false, false, false, false, false, false, false, false] (by kernel_rfl) rfl rfl ⟨(blk_cell BKG.out 1).trans rfl, (blk_cell BKS.out 0).trans rfl, (blk_cell BKS.out 1).trans rfl, (blk_cell BKS.out 2).trans rfl⟩ (fun hHeld => ?_); refine with_tabW gL.tab5 gL.bits5 (fun HT_ HW_ => ?_)
          generalize w11.drew = w12 at BKP BKG BKS HM HB hHeld ⊢
          refine pure_ (i := 0) (N := some 24) (v := ?_) (a' := ?_) (XSq.bA 12 1) rfl rfl (any_of HT_.out (by kernel_rfl)) (fun _ _ _ h => h) (Or.inl ⟨by rfl, ?_⟩) ?_ ?_
          rotate_left
          · intro w'
            go_simp
            with_reducible rfl
          rotate_left
          · simp only [Act.put, XSq.p1, XSq.p2, XSq.p3, i64_w, i32_w]
            rfl
          refine pure_ (i := 1) (N := some 25) (v := ?_) (a' := ?_) (XSq.bA 12 3) rfl rfl (any_of HT_.out (by kernel_rfl)) (fun _ _ _ h => h) (Or.inl ⟨by rfl, ?_⟩) ?_ ?_
          rotate_left
          · intro w'
            go_simp
            with_reducible rfl
          rotate_left
          · simp only [Act.put, XSq.p1, XSq.p2, XSq.p3, i64_w, i32_w]
            rfl
          refine pure_ (i := 2) (N := some 26) (v := ?_) (a' := ?_) (XSq.bA 12 7) rfl rfl (any_of HT_.out (by kernel_rfl)) (fun _ _ _ h => h) (Or.inl ⟨by rfl, ?_⟩) ?_ ?_
          rotate_left
          · intro w'
            go_simp
            with_reducible rfl
          rotate_left
          · simp only [Act.put, XSq.p1, XSq.p2, XSq.p3, i64_w, i32_w]
            rfl
          refine pure_ (i := 4) (N := some 28) (v := ?_) (a' := ?_) (XSq.bA 12 23) rfl rfl (any_of HT_.out (by kernel_rfl)) (fun _ _ _ h => h) (Or.inl ⟨by rfl, ?_⟩) ?_ ?_
          rotate_left
          · intro w'
            go_simp
            with_reducible rfl
          rotate_left
          · simp only [Act.put, XSq.p1, XSq.p2, XSq.p3, i64_w, i32_w]
            rfl
          refine pure_ (i := 6) (N := some 30) (v := ?_) (a' := ?_) (XSq.bA 12 87) rfl rfl (any_of HT_.out (by kernel_rfl)) (fun _ _ _ h => h) (Or.inl ⟨by rfl, ?_⟩) ?_ ?_
          rotate_left
          · intro w'
            go_simp
            with_reducible rfl
          rotate_left
          · simp only [Act.put, XSq.p1, XSq.p2, XSq.p3, i64_w, i32_w]
            rfl
          refine pure_ (i := 9) (N := some 33) (v := ?_) (a' := ?_) (XSq.bA 12 599) rfl rfl (any_of HT_.out (by kernel_rfl)) (fun _ _ _ h => h) (Or.inl ⟨by rfl, ?_⟩) ?_ ?_
          rotate_left
          · intro w'
            go_simp
            with_reducible rfl
          rotate_left
          · simp only [Act.put, XSq.p1, XSq.p2, XSq.p3, i64_w, i32_w]
            rfl
          refine take_ (i := 3) (N := some 27) (v := ?_) (a' := ?_) (XSq.bA 12 607) rfl rfl (take_ofW HT_.out HW_.out (by kernel_rfl)) (fun _ _ _ h => h) (Or.inl ⟨by rfl, ?_⟩) hHeld ?_ ?_
          rotate_left
          · rintro w' ⟨s0, s1, s2, s3⟩
            go_simp
            with_reducible rfl
          rotate_left
          · simp only [Act.put, XSq.p1, XSq.p2, XSq.p3, i64_w, i32_w]
            rfl
          refine take_ (i := 5) (N := some 29) (v := ?_) (a' := ?_) (XSq.bA 12 639) rfl rfl (take_ofW HT_.out HW_.out (by kernel_rfl)) (fun _ _ _ h => h) (Or.inl ⟨by rfl, ?_⟩) hHeld ?_ ?_
          rotate_left
          · rintro w' ⟨s0, s1, s2, s3⟩
            go_simp
            with_reducible rfl
          rotate_left
          · simp only [Act.put, XSq.p1, XSq.p2, XSq.p3, i64_w, i32_w]
            rfl
          refine take_ (i := 7) (N := some 31) (v := ?_) (a' := ?_) (XSq.bA 12 767) rfl rfl (take_ofW HT_.out HW_.out (by kernel_rfl)) (fun _ _ _ h => h) (Or.inl ⟨by rfl, ?_⟩) hHeld ?_ ?_
          rotate_left
          · rintro w' ⟨s0, s1, s2, s3⟩
            go_simp
            with_reducible rfl
          rotate_left
          · simp only [Act.put, XSq.p1, XSq.p2, XSq.p3, i64_w, i32_w]
            rfl
          refine pure_ (i := 8) (N := some 32) (v := ?_) (a' := ?_) (XSq.bA 12 1023) rfl rfl (any_of HT_.out (by kernel_rfl)) (fun _ _ _ h => h) (Or.inl ⟨by rfl, ?_⟩) ?_ ?_
          rotate_left
          · intro w'
            go_simp
            with_reducible rfl
          rotate_left
          · simp only [Act.put, XSq.p1, XSq.p2, XSq.p3, i64_w, i32_w]
            rfl
          refine take_ (i := 10) (N := some 34) (v := ?_) (a' := ?_) (XSq.bA 12 2047) rfl rfl (take_ofW HT_.out HW_.out (by kernel_rfl)) (fun _ _ _ h => h) (Or.inl ⟨by rfl, ?_⟩) hHeld ?_ ?_
          rotate_left
          · rintro w' ⟨s0, s1, s2, s3⟩
            go_simp
            with_reducible rfl
          rotate_left
          · simp only [Act.put, XSq.p1, XSq.p2, XSq.p3, i64_w, i32_w]
            rfl
          refine one_ (i := 11) (N := none) (XSq.bA 12 4095) rfl rfl (one_of HT_.out (by kernel_rfl)) (by decide) (fun K hK => ?_)
          refine XMapL.put_step HM.out HOI.out.1 HOI.out.2.1 HOI.out.2.2 (gL.new_at HOK.out i HI.out) (by have := HI.out; have := HL.out; omega) gL.keyP gL.lawP Tryd.underlying63 (by rfl) rfl _ _ _ rfl rfl (by rw [← HX.out.1, ← HX.out.2.1]; rfl) (by rw [← HX.out.2.2]; rfl) ?_
          intro w13 hm_ hg
          have n0_ := Aside0.mk (blk_grown BKP.out hg (fun e => NPM.out (Option.some.inj e)))
          have n1_ := Aside0.mk (blk_grown BKG.out hg (fun e => NGM.out (Option.some.inj e)))
          have n2_ := Aside0.mk (blk_grown BKS.out hg (fun e => NSM.out (Option.some.inj e).symm))
          have n3_ := Aside0.mk (HB.out.grown hg (below_size HB.out) (fun j hj => by cases hj; exact GEM.out))
          rw [← gL.F_take l0_1 i HI.out] at hm_
          have n4_ := Aside0.mk hm_
          clear BKP BKG BKS HM HB hm_ hg
          have BKP := n0_
          have BKG := n1_
          have BKS := n2_
          have HB := n3_
          have HM := n4_
          clear n0_ n1_ n2_ n3_ n4_
          refine hK.out _ _ ⟨(blk_cell BKG.out 1).trans rfl, (blk_cell BKS.out 0).trans rfl, (blk_cell BKS.out 1).trans rfl, (blk_cell BKS.out 2).trans rfl⟩ (fun hHeld => ?_)
          clear hK K
          have ws : wrap64 ((i : Int) + 1) = ((i + 1 : Nat) : Int) := by have := HI.out; have := HL.out; unfold wrap64; omega
          refine done_ (done_of HT_.out (by kernel_rfl)) ?_
          try go_wp2
          go_roundg k1
          case measure => omega
          case rel => exact ⟨i + 1, by first | rfl | (rw [← ws]; rfl) | simp [ws], ⟨by have := HK1.out; have := HI.out; omega⟩, ⟨by (with_reducible repeat (first | refine blk_drewN ?_ _ | refine blk_drew ?_ | refine blk_alloc ?_ _)); exact BKP.out⟩, ⟨by (with_reducible repeat (first | refine blk_drewN ?_ _ | refine blk_drew ?_ | refine blk_alloc ?_ _)); exact BKG.out⟩, ⟨by repeat (first | exact HM.out | apply XMapL.IsMapL.drewN | apply XMapL.IsMapL.drew)⟩, ⟨by repeat (first | (with_reducible first | exact HB.out | apply below_alloc | apply pw_below_drewN | apply below_drew1) | exact HB.out)⟩⟩
        · have c4b0 : decide ((i : Int) < (l0_1.length : Int)) = false := decide_eq_false (fun e => c4 (Int.ofNat_lt.1 e))
          have c4b1 : decide (i < l0_1.length) = false := decide_eq_false c4
          have c4b2 := eq_false c4
          have HI := Aside0.mk c4
          clear c4
          go_wp2
          go_ret
          have hi_ : l0_1.length ≤ i := by have := HI.out; omega
          have hm_ := HM.out
          rw [List.take_of_length_le hi_] at hm_
          exact ⟨gg, bm, rfl, by (with_reducible repeat (first | refine blk_drewN ?_ _ | refine blk_drew ?_)); exact BKG.out, by repeat (first | exact hm_.mono HK1.out.2 | apply XMapL.IsMapL.drewN | apply XMapL.IsMapL.drew), by repeat (first | (with_reducible first | exact HB.out | apply below_alloc | apply pw_below_drewN | apply below_drew1) | exact HB.out), GEG.out, GEM.out, NGM.out⟩
  · rw [if_neg hok] at h
    cases h
def paintS (L : List XMapL.Sp) (x y c : Int) : List XMapL.Sp := (L.filter fun s => !XMapL.at_ x y s) ++ (if 0 < c then [(x, y, c)] else [])
theorem not_at_filter (L : List XMapL.Sp) (x y : Int) : ∀ s ∈ L.filter (fun s => !XMapL.at_ x y s), XMapL.at_ x y s = false := by
  intro s hs
  have := (List.mem_filter.1 hs).2
  simpa using this
set_option maxHeartbeats 2000000 in
set_option maxRecDepth 100000 in
theorem paint_calls (g b n : Nat) (L : List XMapL.Sp) (x y c : Int) (cs : Array Value) (w : World) (hG : w.heap[g]? = some (.cells cs 65 (0, 0))) (h1 : cs[1]? = some (.map (some b))) (hM : gL.IM w b n L) (hgb : g ≠ b) (hx : XMapP.In64 x) (hy : XMapP.In64 y) (hc : XMapP.In64 c) (hn : n < 9223372036854775807) :
    Calls Tryd.prog 33 #[.pointer (some ⟨g, 0, none⟩), .int .i64 x, .int .i64 y, .int .i64 c] w fun e w' => e = .returned (.tuple #[]) ∧ gL.IM w' b (n + 1) (paintS L x y c) ∧ w.grownBy w' (some b) := by
  have hu3 := Tryd.underlying65
  have hu4 := Tryd.underlying67
  have HG := Aside0.mk hG
  have HM := Aside0.mk hM
  have HC1 := Aside0.mk h1
  have hcell : w.cell? ⟨g, 1, none⟩ = some (.map (some b)) := (blk_cell hG 1).trans h1
  have HN := Aside0.mk (And.intro hx (And.intro hy (And.intro hc hn)))
  clear hM hn h1 hG
  by_cases cc : 0 < c
  · have cb : decide (0 < c) = true := decide_eq_true cc
    have cb2 : decide (c > 0) = true := decide_eq_true cc
    go_enter Tryd.func33, Tryd.ntmps33
    go_wp2_with (first | (at_delete; refine XMapL.del_event HM.out HN.out.1 HN.out.2.1 gL.keyP gL.lawP Tryd.underlying63 rfl (.tmp 11) (.tmp 14) rfl ?hm ?hx ?_; (case hm => first | rfl | (go_simp; done) | (go_simp; rfl)); (case hx => first | rfl | (go_simp; done) | (go_simp; rfl)); intro w1 hm_ ht; have HM1 := Aside0.mk hm_; have HT := Aside0.mk ht.grown; have hcell1 : w1.cell? ⟨g, 1, none⟩ = some (.map (some b)) := (blk_cell (blk_grown HG.out ht.grown (fun e => hgb (Option.some.inj e))) 1).trans HC1.out; clear hm_ ht) | (at_mapUpdate; refine XMapL.put_event HM1.out HN.out.1 HN.out.2.1 HN.out.2.2.1 (not_at_filter L x y) HN.out.2.2.2 gL.keyP gL.lawP Tryd.underlying63 rfl (.tmp 20) (.tmp 23) (.tmp 24) rfl ?hm ?hx ?hu ?_; (case hm => first | rfl | (go_simp; done) | (go_simp; rfl)); (case hx => first | rfl | (go_simp; done) | (go_simp; rfl)); (case hu => first | rfl | (go_simp; done) | (go_simp; rfl)); intro w2 hm_ ht; have HM2 := Aside0.mk hm_; have HT2 := Aside0.mk ht.grown; clear hm_ ht))
    first | go_end0 | ((try simp only [Exit.inBlock, Exit.then]); refine bodyPost_ret (results_none rfl _ _ _) rfl ?_)
    exact ⟨rfl, by unfold paintS; rw [if_pos cc]; exact HM2.out, HT.out.andThen HT2.out (fun j hj => .inr hj)⟩
  · have cb : decide (0 < c) = false := decide_eq_false cc
    have cb2 : decide (c > 0) = false := decide_eq_false cc
    go_enter Tryd.func33, Tryd.ntmps33
    go_wp2_with (first | (at_delete; refine XMapL.del_event HM.out HN.out.1 HN.out.2.1 gL.keyP gL.lawP Tryd.underlying63 rfl (.tmp 11) (.tmp 14) rfl ?hm ?hx ?_; (case hm => first | rfl | (go_simp; done) | (go_simp; rfl)); (case hx => first | rfl | (go_simp; done) | (go_simp; rfl)); intro w1 hm_ ht; have HM1 := Aside0.mk hm_; have HT := Aside0.mk ht.grown; clear hm_ ht))
    first | go_end0 | ((try simp only [Exit.inBlock, Exit.then]); refine bodyPost_ret (results_none rfl _ _ _) rfl ?_)
    exact ⟨rfl, by unfold paintS; rw [if_neg (by omega : ¬ 0 < c), List.append_nil]; exact HM1.out.mono (Nat.le_succ n), HT.out⟩
/-- Near enough for the differences of two. -/
def near (s : XMapL.Sp) : Prop := (-1152921504606846976 ≤ s.1 ∧ s.1 ≤ 1152921504606846976) ∧ -1152921504606846976 ≤ s.2.1 ∧ s.2.1 ≤ 1152921504606846976
/-- By y, then by x. -/
def ltS (s t : S60) : Bool := decide (s.f1 < t.f1 ∨ s.f1 = t.f1 ∧ s.f0 < t.f0)
def strictS (l : List (S60)) : Bool := decide (l.Pairwise fun s t => ltS s t = true)
theorem lenX {P : Program} {K E : TypeId} {w : World} {b r n cnt : Nat} {L done todo : List XMapL.Sp} {xs : List (S60)} (h : XMapL.RangeL P K E w b r n L done todo cnt) (e : gL.F xs = done) (hl : L.length ≤ 1000) : xs.length ≤ 1000 := by
  obtain ⟨_, _, _, _, _, hp⟩ := h
  have h1 := hp.length_eq
  have h2 := congrArg List.length e
  unfold gL.F at h2
  rw [List.length_append] at h1
  rw [List.length_map] at h2
  omega
theorem newOk {b rb gp gR : Nat} {w6 W : World} (h1 : b < w6.heap.size) (h2 : rb < w6.heap.size) (h3 : gp < w6.heap.size) (h4 : gR < w6.heap.size) (hs : w6.heap.size ≤ W.heap.size) : ∀ k, W.heap.size ≤ k → k ≠ b ∧ k ≠ rb ∧ k ≠ gp ∧ k ≠ gR := fun k hk => ⟨by omega, by omega, by omega, by omega⟩
theorem permX {P : Program} {K E : TypeId} {w : World} {b r n cnt : Nat} {L done : List XMapL.Sp} {xs S : List (S60)} (h : XMapL.RangeL P K E w b r n L done [] cnt) (e : gL.F xs = done) (hp : (gL.F S).Perm L) : (gL.F S).Perm (gL.F xs) ∧ (gL.F xs).Perm L := by
  obtain ⟨_, _, _, _, _, h5⟩ := h
  rw [List.append_nil, ← e] at h5
  exact ⟨hp.trans h5.symm, h5⟩
theorem nearX {L : List XMapL.Sp} {xs : List (S60)} (h : (gL.F xs).Perm L) (hn : ∀ s ∈ L, near s) : ∀ s ∈ xs, near (gL.tr s) := fun s hs => hn _ (h.mem_iff.1 (List.mem_map.2 ⟨s, hs, rfl⟩))
abbrev NS := { s : S60 // near (gL.tr s) }
instance : Inhabited NS := ⟨⟨⟨0, 0, 0⟩, ⟨by decide, by decide⟩, by decide, by decide⟩⟩
def encF (s : S60) : List Value := [.int .i64 s.f0, .int .i64 s.f1, .int .i64 s.f2]
def encS (s : NS) : List Value := encF s.1
def cfS (s t : NS) : Int := if s.1.f1 = t.1.f1 then s.1.f0 - t.1.f0 else s.1.f1 - t.1.f1
theorem cfS_lt (s t : NS) : ltOf cfS s t = ltS s.1 t.1 := by
  unfold ltOf cfS ltS
  by_cases h : s.1.f1 = t.1.f1
  · rw [if_pos h]
    exact decide_eq_decide.2 ⟨fun h' => .inr ⟨h, by omega⟩, fun h' => by rcases h' with h' | h' <;> omega⟩
  · rw [if_neg h]
    exact decide_eq_decide.2 ⟨fun h' => .inl (by omega), fun h' => by rcases h' with h' | h' <;> omega⟩
theorem swoS : Go.Sort.SWO (ltOf cfS) where
  irrefl s := by rw [cfS_lt]; simp [ltS]
  trans s t u h1 h2 := by rw [cfS_lt] at *; simp only [ltS, decide_eq_true_eq] at *; omega
  ntrans s t u h1 h2 := by rw [cfS_lt] at *; simp only [ltS, decide_eq_false_iff_not] at *; omega
set_option maxHeartbeats 4000000 in
set_option maxRecDepth 100000 in
theorem cmp_calls0 (a b c a' b' c' r : Int) (hr : r = if b = b' then a - a' else b - b') (hb : ((-1152921504606846976 ≤ a ∧ a ≤ 1152921504606846976) ∧ -1152921504606846976 ≤ b ∧ b ≤ 1152921504606846976) ∧ (-1152921504606846976 ≤ a' ∧ a' ≤ 1152921504606846976) ∧ -1152921504606846976 ≤ b' ∧ b' ≤ 1152921504606846976) (W : World) :
    Calls Tryd.prog 44 #[.agg #[.int .i64 a, .int .i64 b, .int .i64 c], .agg #[.int .i64 a', .int .i64 b', .int .i64 c']] W fun e w' => e = .returned (.int .i64 r) ∧ ∃ q os', w' = Go.Sort.grow (W.drewN q) os' := by
  have w1 : wrap64 (a - a') = a - a' := by unfold wrap64; omega
  have w2 : wrap64 (b - b') = b - b' := by unfold wrap64; omega
  have W1 := Aside0.mk (And.intro w1 w2)
  clear w1 w2 hb
  by_cases h : b = b'
  · rw [if_pos h, ← W1.out.1] at hr
    have e1 : (b == b') = true := beq_iff_eq.mpr h
    have e2 : (b != b') = false := bne_eq_false_iff_eq.mpr h
    have H := Aside0.mk hr
    clear h hr
    go_enter Tryd.func44, Tryd.ntmps44
    go_wp2
    go_ret
    refine ⟨?_, ?_⟩
    · rw [H.out]
      rfl
    · first | exact ⟨0, _, by rw [Go.Sort.alloc_eq_grow, Go.Sort.alloc_eq_grow, Go.Sort.grow_grow]; rfl⟩ | exact ⟨1, _, by rw [Go.Sort.alloc_eq_grow, Go.Sort.alloc_eq_grow, Go.Sort.grow_grow]; rfl⟩
  · rw [if_neg h, ← W1.out.2] at hr
    have e1 : (b == b') = false := beq_eq_false_iff_ne.mpr h
    have e2 : (b != b') = true := bne_iff_ne.mpr h
    have H := Aside0.mk hr
    clear h hr
    go_enter Tryd.func44, Tryd.ntmps44
    go_wp2
    go_ret
    refine ⟨?_, ?_⟩
    · rw [H.out]
      rfl
    · first | exact ⟨0, _, by rw [Go.Sort.alloc_eq_grow, Go.Sort.alloc_eq_grow, Go.Sort.grow_grow]; rfl⟩ | exact ⟨1, _, by rw [Go.Sort.alloc_eq_grow, Go.Sort.alloc_eq_grow, Go.Sort.grow_grow]; rfl⟩
theorem cmp_calls (s t : NS) (W : World) : Calls Tryd.prog 44 #[.agg (encS s).toArray, .agg (encS t).toArray] W fun e w' => e = .returned (.int .i64 (cfS s t)) ∧ ∃ q os', w' = Go.Sort.grow (W.drewN q) os' :=
  cmp_calls0 s.1.f0 s.1.f1 s.1.f2 t.1.f0 t.1.f1 t.1.f2 _ rfl ⟨s.2, t.2⟩ W
def flatS (xs : List (S60)) : List Value := (xs.map encF).flatten
theorem flatS_length : ∀ xs, (flatS xs).length = xs.length * 3
  | [] => rfl
  | s :: r => by
    have := flatS_length r
    unfold flatS at this ⊢
    rw [List.map_cons, List.flatten_cons, List.length_append, this, List.length_cons]
    simp [encF]
    omega
theorem flatS_cons (s) (r : List (S60)) : flatS (s :: r) = encF s ++ flatS r := by simp [flatS]
theorem reps_flat {R : S60 → List Value → Prop} (hR : ∀ s c, R s c → c = encF s) : ∀ (xs : List (S60)) (inner : List Value), Reps R 3 xs inner → inner = flatS xs
  | [], inner, h => by
    have := h.1
    simp at this
    rw [this]
    rfl
  | s :: r, inner, h => by
    obtain ⟨hl, hj⟩ := h
    rw [List.length_cons] at hl
    have h0 := hR _ _ (hj 0 s rfl)
    rw [Nat.zero_mul, List.drop_zero] at h0
    have ih := reps_flat hR r (inner.drop 3) ⟨by rw [List.length_drop]; omega, fun j p hp => by
      have := hj (j + 1) p (by simpa using hp)
      rw [List.drop_drop]
      rw [show 3 + j * 3 = (j + 1) * 3 by omega]
      exact this⟩
    rw [flatS_cons, ← h0, ← ih, List.take_append_drop]
theorem flat_reps {R : S60 → List Value → Prop} (hR : ∀ s, R s (encF s)) : ∀ (xs : List (S60)), Reps R 3 xs (flatS xs)
  | [] => Reps.none _ _
  | s :: r => by
    have ih := flat_reps hR r
    refine ⟨flatS_length _, fun j p hp => ?_⟩
    rw [flatS_cons]
    cases j with
    | zero =>
      simp only [List.getElem?_cons_zero, Option.some.injEq] at hp
      subst hp
      have : (encF s ++ flatS r).take 3 = encF s := by simp [encF]
      rw [Nat.zero_mul, List.drop_zero, this]
      exact hR s
    | succ j =>
      have := ih.2 j p (by simpa using hp)
      have e : (encF s ++ flatS r).drop ((j + 1) * 3) = (flatS r).drop (j * 3) := by
        rw [show (j + 1) * 3 = (encF s).length + j * 3 by simp [encF]; omega, List.drop_append]
        simp
      rw [e]
      exact this
theorem flat_get : ∀ (xs : List (S60)) (t : Nat), t < xs.length * 3 → (flatS xs)[t]? = some ((encF (xs.getD (t / 3) ⟨0, 0, 0⟩))[t % 3]!)
  | [], t, h => by simp at h
  | s :: r, t, h => by
    rw [flatS_cons]
    by_cases h3 : t < 3
    · have e : t = 0 ∨ t = 1 ∨ t = 2 := by omega
      rcases e with rfl | rfl | rfl <;> rfl
    · rw [List.length_cons] at h
      have ih := flat_get r (t - 3) (by omega)
      have hl : (encF s).length = 3 := rfl
      rw [List.getElem?_append_right (by omega), hl, ih]
      have e1 : t / 3 = (t - 3) / 3 + 1 := by omega
      have e2 : t % 3 = (t - 3) % 3 := by omega
      rw [e1, e2, List.getD_cons_succ]
theorem flatK_eq (d : Array NS) : (Go.Sort.flatK encS 3 d).toList = flatS (d.toList.map (·.1)) := by
  apply List.ext_getElem?
  intro t
  by_cases h : t < d.size * 3
  · rw [flat_get _ t (by simpa using h)]
    have h3 : t / 3 < d.size := by omega
    simp [Go.Sort.flatK, h, encS, h3, List.getD_eq_getElem?_getD]
  · rw [List.getElem?_eq_none (by simp [Go.Sort.flatK]; omega), List.getElem?_eq_none (by rw [flatS_length]; simp; omega)]
theorem heap_sortedK {w : World} {g n : Nat} {os : Array Obj} {cur : Array Value} {e : TypeId} {fr : Nat × Nat} (F : Array Value) (hb : w.heap[g]? = some (.cells cur e fr)) :
    (Go.Sort.grow (Go.Sort.putRow id (Go.Sort.ahead w n) g 0 F) os).heap[g]? = some (.cells (Go.Sort.putCells id 0 F cur) e fr) := by
  have hg : g < w.heap.size := (Array.getElem?_eq_some_iff.1 hb).1
  rw [Go.Sort.heap_grow_old _ _ (by simpa using hg)]
  simp [Go.Sort.putRow, Go.Sort.mapBlock, Go.Sort.ahead, Array.getElem?_modify, hb, Go.Sort.onCells]
theorem grownBy_sortedK {w : World} {g n : Nat} {os : Array Obj} (F : Array Value) : w.grownBy (Go.Sort.grow (Go.Sort.putRow id (Go.Sort.ahead w n) g 0 F) os) (some g) := by
  refine ⟨rfl, rfl, rfl, by simp, fun k hk hne => ?_⟩
  rw [Go.Sort.heap_grow_old _ _ (by simpa using hk)]
  have : g ≠ k := fun e => hne (by rw [e])
  simp [Go.Sort.putRow, Go.Sort.mapBlock, Go.Sort.ahead, Array.getElem?_modify, this]
theorem take_putCellsK (cur : Array Value) (ts : Array Value) (h : ts.size ≤ cur.size) : (Go.Sort.putCells id 0 ts cur).toList.take ts.size = ts.toList := by
  apply List.ext_getElem?
  intro j
  by_cases hj : j < ts.size
  · rw [List.getElem?_take_of_lt hj, Array.getElem?_toList]
    simp [Go.Sort.putCells, hj, show j < cur.size by omega]
  · rw [List.getElem?_take_eq_none (by omega), List.getElem?_eq_none (by simp; omega)]
theorem uniq : ∀ (l' l : List (S60)), l.Perm l' → (l.Pairwise fun s t => ltS t s = false) → (l'.Pairwise fun s t => ltS s t = true) → l = l'
  | [], l, hp, _, _ => hp.eq_nil
  | b :: r', l, hp, h1, h2 => by
    cases l with
    | nil => exact absurd hp.symm.eq_nil (by simp)
    | cons a r =>
      obtain ⟨p1, p2⟩ := List.pairwise_cons.1 h1
      obtain ⟨q1, q2⟩ := List.pairwise_cons.1 h2
      have hab : a = b := by
        rcases List.mem_cons.1 (hp.mem_iff.2 (List.mem_cons_self : b ∈ b :: r')) with e | hb
        · exact e.symm
        · rcases List.mem_cons.1 (hp.mem_iff.1 (List.mem_cons_self : a ∈ a :: r)) with e | ha
          · exact e
          · have x1 := p1 b hb
            rw [q1 a ha] at x1
            cases x1
      subst hab
      rw [uniq r' r ((List.perm_cons a).1 hp) p2 q2]
theorem strict_iff {l : List (S60)} : strictS l = true ↔ l.Pairwise fun s t => ltS s t = true := by unfold strictS; exact decide_eq_true_iff
theorem perm_of_F {S xs : List (S60)} (h : (gL.F S).Perm (gL.F xs)) : S.Perm xs := by
  have e : ∀ l, (gL.F l).map (fun s : XMapL.Sp => (⟨s.1, s.2.1, s.2.2⟩ : S60)) = l := fun l => by
    unfold gL.F
    rw [List.map_map]
    conv => rhs; rw [← List.map_id l]
    rfl
  have := h.map (fun s : XMapL.Sp => (⟨s.1, s.2.1, s.2.2⟩ : S60))
  rwa [e, e] at this
set_option maxHeartbeats 2000000 in
theorem sort_calls (v : Value) (xs S : List (S60)) (w : World) (base : Nat) (ok : Nat → Prop) (h : Kd.R k60 60 w base ok v xs) (hn : ∀ s ∈ xs, near (gL.tr s)) (hS : strictS S = true) (hp : (gL.F S).Perm (gL.F xs)) (hl : xs.length ≤ 1000) :
    Calls Tryd.prog 43 #[v, .func (.func 44) #[] #[]] w fun e w' => e = .returned (.tuple #[]) ∧ Kd.R k60 60 w' base ok v S ∧ w.grownBy w' v.ownBlock := by
  have hperm := perm_of_F hp
  cases hx : xs with
  | nil =>
    subst hx
    obtain rfl := hperm.eq_nil
    obtain ⟨A, c, rfl, _⟩ := Kd.R_reads h
    refine (AnyF.slices_SortFunc_none Tryd.laysSort A c (.func (.func 44) #[] #[]) w).mono ?_
    rintro e w' ⟨rfl, rfl⟩
    exact ⟨rfl, h, ⟨rfl, rfl, rfl, Nat.le_refl _, fun _ _ _ => rfl⟩⟩
  | cons s0 r0 =>
    obtain ⟨hok, inner, ⟨hil, hor⟩, hrep⟩ := h
    have hlen : 0 < xs.length := by rw [hx]; simp
    rcases hor with ⟨_, h0⟩ | ⟨g, cap, cur, rfl, hbase, hblk, hcap, hmax, hcur, htake⟩
    · omega
    · have hin : inner = flatS xs := reps_flat (fun s c hc => k60_openM hc) xs inner hrep
      obtain ⟨d, hd⟩ : ∃ d : Array NS, d.toList.map (·.1) = xs := ⟨(xs.pmap Subtype.mk hn).toArray, by simp [List.map_pmap]⟩
      have hds : d.size = xs.length := by rw [← hd]; simp
      have hH : Go.Sort.HoldsK encS 3 w g 0 d := by
        intro j hj
        rw [Go.Sort.size_flatK] at hj
        refine ⟨?_, by simp [World.frozen?, hblk]⟩
        have h1 : (cur.toList.take (xs.length * 3))[j]? = (flatS xs)[j]? := by rw [← hin, ← htake]; rfl
        rw [List.getElem?_take_of_lt (by omega), Array.getElem?_toList] at h1
        simp only [World.cell?, hblk, Nat.zero_add]
        simp only [Option.isSome_none, Bool.false_eq_true, if_false]
        rw [h1, ← hd, ← flatK_eq, Array.getElem?_toList]
        simp [hj]
      have eg : ∀ args w, (callFunc 44 args).run Tryd.prog w = .ok (.enter 44 args) w := enters_of Tryd.func44 (by kernel_rfl) rfl
      have hcon := AnyQ.slices_SortFunc Tryd.laysSort 3 Tryd.isAgg60 Tryd.sizeOf60 encS (fun _ => rfl) (fun s v hv => by simp [encS, encF] at hv; rcases hv with rfl | rfl | rfl <;> rfl) cfS swoS 44 #[] g 0 cap d w eg (fun _ _ _ _ s t => cmp_calls s t _) hH (Array.getElem?_eq_some_iff.1 hblk).1 (by omega)
      rw [hds] at hcon
      refine Calls.mono hcon ?_
      rintro e w' ⟨rfl, d', n, os, ⟨hs', _, hpm⟩, hsd, rfl⟩
      have hsz : d'.size = xs.length := by omega
      have hpl : (d'.toList.map (·.1)).Perm xs := by
        rw [← hd]
        refine List.Perm.map _ ?_
        have e1 : d'.extract 0 xs.length = d' := by rw [← hsz]; simp
        have e2 : d.extract 0 xs.length = d := by rw [← hds]; simp
        rw [e1, e2] at hpm
        exact hpm
      have hpw : (d'.toList.map (·.1)).Pairwise fun s t => ltS t s = false := by
        rw [List.pairwise_map, List.pairwise_iff_getElem]
        intro i j hi hj hij
        have := hsd i j (Nat.zero_le _) hij (by simp at hj; omega)
        rw [cfS_lt] at this
        simp only [Array.length_toList] at hi hj
        rw [getElem!_pos _ i (by omega), getElem!_pos _ j (by omega)] at this
        simpa using this
      have he : d'.toList.map (·.1) = S := uniq S _ (hpl.trans hperm.symm) hpw (strict_iff.1 hS)
      have hSl : S.length = xs.length := hperm.length_eq
      refine ⟨rfl, ⟨hok, flatS S, ⟨flatS_length S, .inr ⟨g, cap, _, by rw [hSl], hbase, heap_sortedK _ hblk, by rw [hSl]; exact hcap, hmax, by simp [Go.Sort.putCells, hcur], ?_⟩⟩, flat_reps (fun s => k60_mkM _ _ _ s) S⟩, ?_⟩
      · have h1 := take_putCellsK cur (Go.Sort.flatK encS 3 d') (by rw [Go.Sort.size_flatK, hsz, hcur]; exact Nat.mul_le_mul_right 3 hcap)
        rw [flatK_eq, he, Go.Sort.size_flatK, hsz, ← hSl] at h1
        exact h1
      · exact grownBy_sortedK _
structure PS (w W : World) (g gR gp : Nat) (GS csP : Array Value) : Prop where
  G : W.heap[g]? = some (.cells GS 65 (0, 0))
  R : W.heap[gR]? = some (.cells #[.string (⟨#[]⟩ : ByteArray), .slice none 0 0, .int .i64 0, .int .i64 0, .int .i64 0] 28 (0, 0))
  p : W.heap[gp]? = some (.cells csP 28 (0, 0))
  nG : g ≠ gp
  nR : gR ≠ gp
  bR : w.heap.size ≤ gR
  bp : w.heap.size ≤ gp
  bel : Below w.heap.size w W
theorem PS.below {w W W' : World} {g gR gp : Nat} {GS csP : Array Value} (h : PS w W g gR gp GS csP) (hb : Below W.heap.size W W') : PS w W' g gR gp GS csP := ⟨blk_below h.G hb, blk_below h.R hb, blk_below h.p hb, h.nG, h.nR, h.bR, h.bp, below_step h.bel hb⟩
theorem PS.drewN {w W : World} {g gR gp : Nat} {GS csP : Array Value} (h : PS w W g gR gp GS csP) (m : Nat) : PS w (W.drewN m) g gR gp GS csP := ⟨h.G, h.R, h.p, h.nG, h.nR, h.bR, h.bp, pw_below_drewN h.bel m⟩
theorem PS.drew {w W : World} {g gR gp : Nat} {GS csP : Array Value} (h : PS w W g gR gp GS csP) : PS w W.drew g gR gp GS csP := ⟨h.G, h.R, h.p, h.nG, h.nR, h.bR, h.bp, below_drew1 h.bel⟩
theorem PS.put {w W : World} {g gR gp : Nat} {GS csP csP' : Array Value} (h : PS w W g gR gp GS csP) (j : Nat) (v : Value) (e : csP.setIfInBounds j v = csP') : PS w (W.setCell ⟨gp, j, none⟩ v) g gR gp GS csP' := ⟨blk_far h.G h.nG _, blk_far h.R h.nR _, blk_put h.p j v e, h.nG, h.nR, h.bR, h.bp, below_set h.bel h.bp⟩
theorem PS.grown {w W W' : World} {g gR gp : Nat} {GS csP : Array Value} (h : PS w W g gR gp GS csP) {row : Option Nat} (hg : W.grownBy W' row) (h1 : some g ≠ row) (h2 : some gR ≠ row) (h3 : some gp ≠ row) (hb : Below w.heap.size w W') : PS w W' g gR gp GS csP := ⟨blk_grown h.G hg h1, blk_grown h.R hg h2, blk_grown h.p hg h3, h.nG, h.nR, h.bR, h.bp, hb⟩
def plainT1 : Bool × List (List Nat × List Nat) := (true, [([], []), ([0], [0]), ([1], [1]), ([2], [2]), ([], []), ([4], [4]), ([5], [5]), ([6], [6]), ([], []), ([8], [8]), ([9], [9]), ([10], [10]), ([], []), ([12], [12]), ([13], [13]), ([14], [14]), ([3, 7, 11, 15], [3, 7, 11, 15]), ([], []), ([17, 16, 0, 1, 2, 3, 4, 5, 6, 7, 8, 9, 10, 11, 12, 13, 14, 15, 16, 17], [16, 17])])
def plainB1 : List Nat := [0, 1, 3, 7, 0, 16, 48, 112, 0, 256, 768, 1792, 0, 4096, 12288, 28672, 65535, 0, 262143]
theorem plain_tab1 : rtab .any (opsOf Tryd.f22 1) = plainT1 := by kernel_rfl
theorem plain_bits1 : waitsOk plainT1.2 plainB1 = true := by kernel_rfl
set_option maxHeartbeats 8000000 in
set_option maxRecDepth 100000 in
theorem plain_calls (g b n : Nat) (L : List XMapL.Sp) (rule : ByteArray) (x y d : Int) (S : List (S60)) (w : World) (hG : w.heap[g]? = some (.cells #[.string rule, .map (some b), .int .i64 x, .int .i64 y, .int .i64 d] 65 (0, 0))) (hM : gL.IM w b n L) (hlen : L.length ≤ 1000) (hnr : ∀ s ∈ L, near s) (hS : strictS S = true) (hp : (gL.F S).Perm L) :
    Calls Tryd.prog 22 #[.pointer (some ⟨g, 0, none⟩)] w fun e w' => ∃ v1_ : Value, e = .returned (.agg #[.string rule, v1_, .int .i64 x, .int .i64 y, .int .i64 d]) ∧ Kd.R k60 60 w' w.heap.size (fun _ => True) v1_ S ∧ Below w.heap.size w w' := by
  have hu1 := Tryd.underlying28
  have hu2 := Tryd.underlying60
  have hu3 := Tryd.underlying65
  have hu4 := Tryd.underlying67
  have HM0 := Aside0.mk hM
  have HG0 := Aside0.mk hG
  have HGL := Aside0.mk (blk_lt hG)
  have HLEN := Aside0.mk hlen
  have HNR := Aside0.mk hnr
  have HS := Aside0.mk hS
  have HP := Aside0.mk hp
  clear hM hG hlen hnr hS hp
  have HB := Aside0.mk (Below.refl w.heap.size w)
  go_enter Tryd.func22, Tryd.ntmps22
  go_wp2_with (first | ((with_reducible refine gate_dst (N := 2) rfl ?_); refine box_event ?hg (N := 2) ?hd (cs := #[.string (⟨#[]⟩ : ByteArray), .slice none 0 0, .int .i64 0, .int .i64 0, .int .i64 0]) (t := 28) ?hr ?_; (case hd => rfl); (case hg => rfl); (case hr => first | (go_simp; done) | (go_simp; rfl)); intro gR hg w1 hbox hb; have HBR := Aside0.mk hbox; have GER := XSq.gw hg (XSq.bB HB); have n0_ := Aside0.mk (below_step (XSq.bB HB) hb); have HG1 := XSq.bb HG0 hb; have NGR := XSq.nl hg (XSq.bq HG0); have HM1 := Aside0.mk (HM0.out.below hb); clear HB hb hbox hg; have HB := n0_; clear n0_))
  refine start_ (n := 19) (S := fun w' => w'.cell? ⟨g, 0, none⟩ = some (.string rule) ∧ w'.cell? ⟨g, 2, none⟩ = some (.int .i64 x) ∧ w'.cell? ⟨g, 3, none⟩ = some (.int .i64 y) ∧ w'.cell? ⟨g, 4, none⟩ = some (.int .i64 d)) (ds := [18]) #[false, false, false, false, false, false, false, false, false, false, false, false, false, false, false, false, false, false, false] (by kernel_rfl) rfl rfl ⟨(blk_cell HG1.out 0).trans rfl, (blk_cell HG1.out 2).trans rfl, (blk_cell HG1.out 3).trans rfl, (blk_cell HG1.out 4).trans rfl⟩ (fun hHeld => ?_); refine with_tabW plain_tab1 plain_bits1 (fun HT_ HW_ => ?_)
  have n0_ := Aside0.mk (blk_drew HG1.out); have n1_ := Aside0.mk (blk_drew HBR.out); have n2_ := Aside0.mk (below_drew1 HB.out); have n3_ := Aside0.mk (XMapL.IsMapL.drew HM1.out); clear HG1 HBR HB HM1; have HG1 := n0_; have HBR := n1_; have HB := n2_; have HM1 := n3_; clear n0_ n1_ n2_ n3_
  generalize w1.drew = w2 at HG1 HBR HB HM1 hHeld ⊢
  refine pure_ (i := 0) (N := some 6) (v := ?_) (a' := ?_) (XSq.bA 19 1) rfl rfl (any_of HT_.out (by kernel_rfl)) (fun _ _ _ h => h) (Or.inl ⟨by rfl, ?_⟩) ?_ ?_
  rotate_left
  · intro w'
    go_simp
    with_reducible rfl
  rotate_left
  · simp only [Act.put, XSq.p1, XSq.p2, XSq.p3, i64_w, i32_w]
    rfl
  refine pure_ (i := 1) (N := some 7) (v := ?_) (a' := ?_) (XSq.bA 19 3) rfl rfl (any_of HT_.out (by kernel_rfl)) (fun _ _ _ h => h) (Or.inl ⟨by rfl, ?_⟩) ?_ ?_
  rotate_left
  · intro w'
    go_simp
    with_reducible rfl
  rotate_left
  · simp only [Act.put, XSq.p1, XSq.p2, XSq.p3, i64_w, i32_w]
    rfl
  refine pure_ (i := 2) (N := some 8) (v := ?_) (a' := ?_) (XSq.bA 19 7) rfl rfl (any_of HT_.out (by kernel_rfl)) (fun _ _ _ h => h) (Or.inl ⟨by rfl, ?_⟩) ?_ ?_
  rotate_left
  · intro w'
    go_simp
    with_reducible rfl
  rotate_left
  · simp only [Act.put, XSq.p1, XSq.p2, XSq.p3, i64_w, i32_w]
    rfl
  refine pure_ (i := 4) (N := some 10) (v := ?_) (a' := ?_) (XSq.bA 19 23) rfl rfl (any_of HT_.out (by kernel_rfl)) (fun _ _ _ h => h) (Or.inl ⟨by rfl, ?_⟩) ?_ ?_
  rotate_left
  · intro w'
    go_simp
    with_reducible rfl
  rotate_left
  · simp only [Act.put, XSq.p1, XSq.p2, XSq.p3, i64_w, i32_w]
    rfl
  refine pure_ (i := 5) (N := some 11) (v := ?_) (a' := ?_) (XSq.bA 19 55) rfl rfl (any_of HT_.out (by kernel_rfl)) (fun _ _ _ h => h) (Or.inl ⟨by rfl, ?_⟩) ?_ ?_
  rotate_left
  · intro w'
    go_simp
    with_reducible rfl
  rotate_left
  · simp only [Act.put, XSq.p1, XSq.p2, XSq.p3, i64_w, i32_w]
    rfl
  refine pure_ (i := 6) (N := some 12) (v := ?_) (a' := ?_) (XSq.bA 19 119) rfl rfl (any_of HT_.out (by kernel_rfl)) (fun _ _ _ h => h) (Or.inl ⟨by rfl, ?_⟩) ?_ ?_
  rotate_left
  · intro w'
    go_simp
    with_reducible rfl
  rotate_left
  · simp only [Act.put, XSq.p1, XSq.p2, XSq.p3, i64_w, i32_w]
    rfl
  refine pure_ (i := 8) (N := some 14) (v := ?_) (a' := ?_) (XSq.bA 19 375) rfl rfl (any_of HT_.out (by kernel_rfl)) (fun _ _ _ h => h) (Or.inl ⟨by rfl, ?_⟩) ?_ ?_
  rotate_left
  · intro w'
    go_simp
    with_reducible rfl
  rotate_left
  · simp only [Act.put, XSq.p1, XSq.p2, XSq.p3, i64_w, i32_w]
    rfl
  refine pure_ (i := 9) (N := some 15) (v := ?_) (a' := ?_) (XSq.bA 19 887) rfl rfl (any_of HT_.out (by kernel_rfl)) (fun _ _ _ h => h) (Or.inl ⟨by rfl, ?_⟩) ?_ ?_
  rotate_left
  · intro w'
    go_simp
    with_reducible rfl
  rotate_left
  · simp only [Act.put, XSq.p1, XSq.p2, XSq.p3, i64_w, i32_w]
    rfl
  refine pure_ (i := 10) (N := some 16) (v := ?_) (a' := ?_) (XSq.bA 19 1911) rfl rfl (any_of HT_.out (by kernel_rfl)) (fun _ _ _ h => h) (Or.inl ⟨by rfl, ?_⟩) ?_ ?_
  rotate_left
  · intro w'
    go_simp
    with_reducible rfl
  rotate_left
  · simp only [Act.put, XSq.p1, XSq.p2, XSq.p3, i64_w, i32_w]
    rfl
  refine pure_ (i := 12) (N := some 18) (v := ?_) (a' := ?_) (XSq.bA 19 6007) rfl rfl (any_of HT_.out (by kernel_rfl)) (fun _ _ _ h => h) (Or.inl ⟨by rfl, ?_⟩) ?_ ?_
  rotate_left
  · intro w'
    go_simp
    with_reducible rfl
  rotate_left
  · simp only [Act.put, XSq.p1, XSq.p2, XSq.p3, i64_w, i32_w]
    rfl
  refine pure_ (i := 13) (N := some 19) (v := ?_) (a' := ?_) (XSq.bA 19 14199) rfl rfl (any_of HT_.out (by kernel_rfl)) (fun _ _ _ h => h) (Or.inl ⟨by rfl, ?_⟩) ?_ ?_
  rotate_left
  · intro w'
    go_simp
    with_reducible rfl
  rotate_left
  · simp only [Act.put, XSq.p1, XSq.p2, XSq.p3, i64_w, i32_w]
    rfl
  refine pure_ (i := 14) (N := some 20) (v := ?_) (a' := ?_) (XSq.bA 19 30583) rfl rfl (any_of HT_.out (by kernel_rfl)) (fun _ _ _ h => h) (Or.inl ⟨by rfl, ?_⟩) ?_ ?_
  rotate_left
  · intro w'
    go_simp
    with_reducible rfl
  rotate_left
  · simp only [Act.put, XSq.p1, XSq.p2, XSq.p3, i64_w, i32_w]
    rfl
  refine take_ (i := 3) (N := some 9) (v := ?_) (a' := ?_) (XSq.bA 19 30591) rfl rfl (take_ofW HT_.out HW_.out (by kernel_rfl)) (fun _ _ _ h => h) (Or.inl ⟨by rfl, ?_⟩) hHeld ?_ ?_
  rotate_left
  · rintro w' ⟨s0, s1, s2, s3⟩
    go_simp
    with_reducible rfl
  rotate_left
  · simp only [Act.put, XSq.p1, XSq.p2, XSq.p3, i64_w, i32_w]
    rfl
  refine take_ (i := 7) (N := some 13) (v := ?_) (a' := ?_) (XSq.bA 19 30719) rfl rfl (take_ofW HT_.out HW_.out (by kernel_rfl)) (fun _ _ _ h => h) (Or.inl ⟨by rfl, ?_⟩) hHeld ?_ ?_
  rotate_left
  · rintro w' ⟨s0, s1, s2, s3⟩
    go_simp
    with_reducible rfl
  rotate_left
  · simp only [Act.put, XSq.p1, XSq.p2, XSq.p3, i64_w, i32_w]
    rfl
  refine take_ (i := 11) (N := some 17) (v := ?_) (a' := ?_) (XSq.bA 19 32767) rfl rfl (take_ofW HT_.out HW_.out (by kernel_rfl)) (fun _ _ _ h => h) (Or.inl ⟨by rfl, ?_⟩) hHeld ?_ ?_
  rotate_left
  · rintro w' ⟨s0, s1, s2, s3⟩
    go_simp
    with_reducible rfl
  rotate_left
  · simp only [Act.put, XSq.p1, XSq.p2, XSq.p3, i64_w, i32_w]
    rfl
  refine take_ (i := 15) (N := some 21) (v := ?_) (a' := ?_) (XSq.bA 19 65535) rfl rfl (take_ofW HT_.out HW_.out (by kernel_rfl)) (fun _ _ _ h => h) (Or.inl ⟨by rfl, ?_⟩) hHeld ?_ ?_
  rotate_left
  · rintro w' ⟨s0, s1, s2, s3⟩
    go_simp
    with_reducible rfl
  rotate_left
  · simp only [Act.put, XSq.p1, XSq.p2, XSq.p3, i64_w, i32_w]
    rfl
  refine pure_ (i := 16) (N := some 22) (v := ?_) (a' := ?_) (XSq.bA 19 131071) rfl rfl (any_of HT_.out (by kernel_rfl)) (fun _ _ _ h => h) (Or.inl ⟨by rfl, ?_⟩) ?_ ?_
  rotate_left
  · intro w'
    go_simp
    with_reducible rfl
  rotate_left
  · simp only [Act.put, XSq.p1, XSq.p2, XSq.p3, i64_w, i32_w]
    rfl
  refine one_ (i := 17) (N := some 3) (XSq.bA 19 262143) rfl rfl (one_of HT_.out (by kernel_rfl)) (by decide) (fun K hK => ?_)
  refine box_step ?hg (N := 3) ?hd (cs := #[.string (⟨#[]⟩ : ByteArray), .slice none 0 0, .int .i64 0, .int .i64 0, .int .i64 0]) (t := 28) ?hr ?_
  (case hd => rfl)
  (case hg => rfl)
  (case hr => first | (go_simp; done) | (go_simp; rfl))
  intro gp hg w3 hbox hb
  have HPS := Aside0.mk (PS.mk (XSq.bb HG1 hb).out (XSq.bb HBR hb).out hbox (XSq.nl hg HG1.out).out (XSq.nl hg HBR.out).out GER.out (XSq.gw hg HB.out).out (below_step HB.out hb))
  have HM3 := Aside0.mk (HM1.out.below hb)
  have NBP := Aside0.mk (show b ≠ gp from by rw [hg]; exact Nat.ne_of_lt HM1.out.lt)
  clear HG1 HBR HB HM1 hbox hb hg
  refine hK.out _ _ ⟨(blk_cell HPS.out.G 0).trans rfl, (blk_cell HPS.out.G 2).trans rfl, (blk_cell HPS.out.G 3).trans rfl, (blk_cell HPS.out.G 4).trans rfl⟩ (fun hHeld => ?_)
  clear hK K
  refine norm_ (a' := ?_) ?_ ?_
  rotate_left
  · show Act.put _ (some 3) _ = _
    simp only [Act.put, XSq.p1, XSq.p2, XSq.p3, i64_w, i32_w]
    rfl
  have hc3_0 : w3.cell? ⟨gp, 0, none⟩ = some (.string (⟨#[]⟩ : ByteArray)) := (blk_cell HPS.out.p 0).trans rfl
  have hc3_1 : w3.cell? ⟨gp, 1, none⟩ = some (.slice none 0 0) := (blk_cell HPS.out.p 1).trans rfl
  have hc3_2 : w3.cell? ⟨gp, 2, none⟩ = some (.int .i64 0) := (blk_cell HPS.out.p 2).trans rfl
  have hc3_3 : w3.cell? ⟨gp, 3, none⟩ = some (.int .i64 0) := (blk_cell HPS.out.p 3).trans rfl
  have hc3_4 : w3.cell? ⟨gp, 4, none⟩ = some (.int .i64 0) := (blk_cell HPS.out.p 4).trans rfl
  have hf3_0 : w3.frozen? ⟨gp, 0, none⟩ = false := blk_frozen HPS.out.p 0
  have hf3_1 : w3.frozen? ⟨gp, 1, none⟩ = false := blk_frozen HPS.out.p 1
  have hf3_2 : w3.frozen? ⟨gp, 2, none⟩ = false := blk_frozen HPS.out.p 2
  have hf3_3 : w3.frozen? ⟨gp, 3, none⟩ = false := blk_frozen HPS.out.p 3
  have hf3_4 : w3.frozen? ⟨gp, 4, none⟩ = false := blk_frozen HPS.out.p 4
  refine last_ (i := 18) (N := none) (XSq.bA 19 524287) rfl rfl (one_of HT_.out (by kernel_rfl)) (by decide) (fun K hK => ?_)
  refine skip_ (w1 := ?_) (by rfl) rfl ?_ ?_
  rotate_left
  · go_simp
    rfl
  refine hK.out _ _ ?_
  clear hK K
  refine done_ (done_of HT_.out (by kernel_rfl)) ?_
  clear HT_ HW_
  have n0_ : Aside0 (PS w (((((w3.setCell ⟨gp, 0, none⟩ (.string rule)).setCell ⟨gp, 1, none⟩ (.slice none 0 0)).setCell ⟨gp, 2, none⟩ (.int .i64 x)).setCell ⟨gp, 3, none⟩ (.int .i64 y)).setCell ⟨gp, 4, none⟩ (.int .i64 d)) g gR gp #[.string rule, .map (some b), .int .i64 x, .int .i64 y, .int .i64 d] #[.string rule, .slice none 0 0, .int .i64 x, .int .i64 y, .int .i64 d]) := ⟨(PS.put (csP' := #[.string rule, .slice none 0 0, .int .i64 x, .int .i64 y, .int .i64 d]) (PS.put (csP' := #[.string rule, .slice none 0 0, .int .i64 x, .int .i64 y, .int .i64 0]) (PS.put (csP' := #[.string rule, .slice none 0 0, .int .i64 x, .int .i64 0, .int .i64 0]) (PS.put (csP' := #[.string rule, .slice none 0 0, .int .i64 0, .int .i64 0, .int .i64 0]) (PS.put (csP' := #[.string rule, .slice none 0 0, .int .i64 0, .int .i64 0, .int .i64 0]) HPS.out 0 (.string rule) rfl) 1 (.slice none 0 0) rfl) 2 (.int .i64 x) rfl) 3 (.int .i64 y) rfl) 4 (.int .i64 d) rfl)⟩
  have n1_ : Aside0 (gL.IM (((((w3.setCell ⟨gp, 0, none⟩ (.string rule)).setCell ⟨gp, 1, none⟩ (.slice none 0 0)).setCell ⟨gp, 2, none⟩ (.int .i64 x)).setCell ⟨gp, 3, none⟩ (.int .i64 y)).setCell ⟨gp, 4, none⟩ (.int .i64 d)) b n L) := ⟨(XMapL.IsMapL.set (XMapL.IsMapL.set (XMapL.IsMapL.set (XMapL.IsMapL.set (XMapL.IsMapL.set HM3.out (p := ⟨gp, 0, none⟩) NBP.out (.string rule)) (p := ⟨gp, 1, none⟩) NBP.out (.slice none 0 0)) (p := ⟨gp, 2, none⟩) NBP.out (.int .i64 x)) (p := ⟨gp, 3, none⟩) NBP.out (.int .i64 y)) (p := ⟨gp, 4, none⟩) NBP.out (.int .i64 d))⟩
  clear HPS HM3 hc3_0 hf3_0 hc3_1 hf3_1 hc3_2 hf3_2 hc3_3 hf3_3 hc3_4 hf3_4 hHeld
  generalize ((((w3.setCell ⟨gp, 0, none⟩ (.string rule)).setCell ⟨gp, 1, none⟩ (.slice none 0 0)).setCell ⟨gp, 2, none⟩ (.int .i64 x)).setCell ⟨gp, 3, none⟩ (.int .i64 y)).setCell ⟨gp, 4, none⟩ (.int .i64 d) = w4 at n0_ n1_ ⊢
  have HPS := n0_
  have HM4 := n1_
  clear n0_ n1_
  have hc4_1 : w4.cell? ⟨g, 1, none⟩ = some (.map (some b)) := (blk_cell HPS.out.G 1).trans rfl
  have hf4_1 : w4.frozen? ⟨g, 1, none⟩ = false := blk_frozen HPS.out.G 1
  go_wp2_with (first | (at_range; refine XMapL.range_event HM4.out gL.lawP Tryd.underlying63 rfl (.tmp 26) rfl ?hm ?_; (case hm => first | rfl | (go_simp; done) | (go_simp; rfl)); intro rb w5 cnt hg hrg hcnt hb; have n0_ := Aside0.mk (HPS.out.below hb); have GEI := XSq.gw hg HPS.out.bel; have NRI := XSq.nl hg HPS.out.R; have NPI := XSq.nl hg HPS.out.p; have HRG := Aside0.mk hrg; have HCNT := Aside0.mk hcnt; clear HPS hrg hcnt hb hg; have HPS := n0_; clear n0_))
  go_frame
  go_loopg [28] (cnt + 1) (fun kq v28 w' => ∃ (done todo : List XMapL.Sp) (cnt : Nat) (u : Value) (xs : List (S60)), Aside0 (XMapL.RangeL Tryd.prog 67 3 w' b rb n L done todo cnt) ∧ Aside0 (cnt + 1 ≤ kq) ∧ Aside0 (gL.F xs = done) ∧ Aside0 (Kd.R k60 60 w' w.heap.size (fun k => k ≠ b ∧ k ≠ rb ∧ k ≠ gp ∧ k ≠ gR) u xs) ∧ Aside0 (PS w w' g gR gp #[.string rule, .map (some b), .int .i64 x, .int .i64 y, .int .i64 d] #[.string rule, u, .int .i64 x, .int .i64 y, .int .i64 d]))
  case atStart => exact ⟨[], L, cnt, .slice none 0 0, [], ⟨by repeat (first | exact HRG.out | apply XMapL.RangeL.drewN | apply XMapL.RangeL.drew)⟩, ⟨Nat.le_refl _⟩, ⟨rfl⟩, ⟨Kd.R_nil _ _ _ _ _⟩, ⟨by repeat (first | exact HPS.out | apply PS.drewN | apply PS.drew)⟩⟩
  case round =>
    clear HRG HPS HCNT hc4_1 hf4_1
    obtain ⟨done, todo, cnt, u, xs, HRG, HK, HXS, HO, HPS⟩ := hrel
    obtain ⟨Au, cu, hu_⟩ := Kd.R_slice HO.out
    subst hu_
    cases gk with
    | zero => exact absurd HK.out (by omega)
    | succ k1 =>
      cases todo with
      | nil =>
        have hc8_1 : wr.cell? ⟨gp, 1, none⟩ = some (.slice Au xs.length cu) := (blk_cell HPS.out.p 1).trans rfl
        have hf8_1 : wr.frozen? ⟨gp, 1, none⟩ = false := blk_frozen HPS.out.p 1
        have HLX := Aside0.mk (lenX HRG.out HXS.out HLEN.out)
        have HPX := Aside0.mk (permX HRG.out HXS.out HP.out)
        go_wp2_with (first | (at_next; refine XMapL.next_event HRG.out gL.keyP gL.lawP rfl (.tmp 27) rfl ?hi (fun _ => ?_) (fun _ _ _ _ _ hm => absurd hm (by simp)); (case hi => first | rfl | (go_simp; done) | (go_simp; rfl))) | (go_at_call 43; refine (sort_calls (.slice Au xs.length cu) xs S _ w.heap.size (fun k => k ≠ b ∧ k ≠ rb ∧ k ≠ gp ∧ k ≠ gR) (by (with_reducible repeat (first | apply Kd.R_alloc | apply Kd.R_drewN | apply Kd.R_drew)); exact HO.out) (nearX HPX.out.2 HNR.out) HS.out HPX.out.1 HLX.out).mono ?_; rintro e w8 ⟨rfl, ho, hg⟩; have n1_ := Aside0.mk ho; have n0_ := Aside0.mk (PS.grown (by repeat (first | exact HPS.out | apply PS.drewN | apply PS.drew)) hg (Kd.R_ne HO.out HPS.out.G (by decide)) (Kd.R_ne HO.out HPS.out.R (by decide)) (Kd.R_ne HO.out HPS.out.p (by decide)) (Below.grown (by repeat (first | exact HPS.out.bel | apply pw_below_drewN | apply below_drew1)) hg (below_size HPS.out.bel) (Kd.R_base HO.out))); clear HPS HO HRG ho hg; have HPS := n0_; have HO := n1_; clear n0_ n1_; have hc9_0 : w8.cell? ⟨gp, 0, none⟩ = some (.string rule) := (blk_cell HPS.out.p 0).trans rfl; have hc9_1 : w8.cell? ⟨gp, 1, none⟩ = some (.slice Au xs.length cu) := (blk_cell HPS.out.p 1).trans rfl; have hc9_2 : w8.cell? ⟨gp, 2, none⟩ = some (.int .i64 x) := (blk_cell HPS.out.p 2).trans rfl; have hc9_3 : w8.cell? ⟨gp, 3, none⟩ = some (.int .i64 y) := (blk_cell HPS.out.p 3).trans rfl; have hc9_4 : w8.cell? ⟨gp, 4, none⟩ = some (.int .i64 d) := (blk_cell HPS.out.p 4).trans rfl; have hf9_0 : w8.frozen? ⟨gp, 0, none⟩ = false := blk_frozen HPS.out.p 0; have hf9_1 : w8.frozen? ⟨gp, 1, none⟩ = false := blk_frozen HPS.out.p 1; have hf9_2 : w8.frozen? ⟨gp, 2, none⟩ = false := blk_frozen HPS.out.p 2; have hf9_3 : w8.frozen? ⟨gp, 3, none⟩ = false := blk_frozen HPS.out.p 3; have hf9_4 : w8.frozen? ⟨gp, 4, none⟩ = false := blk_frozen HPS.out.p 4; have hcR_0 : w8.cell? ⟨gR, 0, none⟩ = some (.string (⟨#[]⟩ : ByteArray)) := (blk_cell HPS.out.R 0).trans rfl; have hcR_1 : w8.cell? ⟨gR, 1, none⟩ = some (.slice none 0 0) := (blk_cell HPS.out.R 1).trans rfl; have hcR_2 : w8.cell? ⟨gR, 2, none⟩ = some (.int .i64 0) := (blk_cell HPS.out.R 2).trans rfl; have hcR_3 : w8.cell? ⟨gR, 3, none⟩ = some (.int .i64 0) := (blk_cell HPS.out.R 3).trans rfl; have hcR_4 : w8.cell? ⟨gR, 4, none⟩ = some (.int .i64 0) := (blk_cell HPS.out.R 4).trans rfl; have hfR_0 : w8.frozen? ⟨gR, 0, none⟩ = false := blk_frozen HPS.out.R 0; have hfR_1 : w8.frozen? ⟨gR, 1, none⟩ = false := blk_frozen HPS.out.R 1; have hfR_2 : w8.frozen? ⟨gR, 2, none⟩ = false := blk_frozen HPS.out.R 2; have hfR_3 : w8.frozen? ⟨gR, 3, none⟩ = false := blk_frozen HPS.out.R 3; have hfR_4 : w8.frozen? ⟨gR, 4, none⟩ = false := blk_frozen HPS.out.R 4))
        refine bodyPost_ret (results_cell_row rfl _ _ gR 28 #[.string rule, .slice Au xs.length cu, .int .i64 x, .int .i64 y, .int .i64 d] (0, 0) _ rfl (by (with_reducible repeat (first | refine blk_drewN ?_ _ | refine blk_drew ?_ | refine blk_alloc ?_ _)); refine blk_put (cs := #[.string rule, .slice Au xs.length cu, .int .i64 x, .int .i64 y, .int .i64 0]) ?_ 4 _ rfl; (with_reducible repeat (first | refine blk_drewN ?_ _ | refine blk_drew ?_ | refine blk_alloc ?_ _)); refine blk_put (cs := #[.string rule, .slice Au xs.length cu, .int .i64 x, .int .i64 0, .int .i64 0]) ?_ 3 _ rfl; (with_reducible repeat (first | refine blk_drewN ?_ _ | refine blk_drew ?_ | refine blk_alloc ?_ _)); refine blk_put (cs := #[.string rule, .slice Au xs.length cu, .int .i64 0, .int .i64 0, .int .i64 0]) ?_ 2 _ rfl; (with_reducible repeat (first | refine blk_drewN ?_ _ | refine blk_drew ?_ | refine blk_alloc ?_ _)); refine blk_put (cs := #[.string rule, .slice none 0 0, .int .i64 0, .int .i64 0, .int .i64 0]) ?_ 1 _ rfl; (with_reducible repeat (first | refine blk_drewN ?_ _ | refine blk_drew ?_ | refine blk_alloc ?_ _)); refine blk_put (cs := #[.string (⟨#[]⟩ : ByteArray), .slice none 0 0, .int .i64 0, .int .i64 0, .int .i64 0]) ?_ 0 _ rfl; (with_reducible repeat (first | refine blk_drewN ?_ _ | refine blk_drew ?_ | refine blk_alloc ?_ _)); exact HPS.out.R) Tryd.underlying28 rfl (by kernel_rfl)) rfl ?_
        exact ⟨.slice Au xs.length cu, rfl, by refine Kd.R_mono (ok := fun k => k ≠ b ∧ k ≠ rb ∧ k ≠ gp ∧ k ≠ gR) ?_ (fun _ _ => trivial); (with_reducible repeat (first | apply Kd.R_alloc | apply Kd.R_drewN | apply Kd.R_drew)); repeat (first | exact HO.out | refine Kd.R_far (p := ⟨gR, _, none⟩) ?_ (fun k hk => hk.2.2.2) _), by repeat (first | (with_reducible first | exact HPS.out.bel | apply below_alloc | apply pw_below_drewN | apply below_drew1 | refine below_set ?_ HPS.out.bR) | exact HPS.out.bel)⟩
      | cons s0 t0 =>
        have HLX := Aside0.mk (lenX HRG.out HXS.out HLEN.out)
        go_wp2_with (first | (at_next; refine XMapL.next_event HRG.out gL.keyP gL.lawP rfl (.tmp 27) rfl ?hi (fun e => absurd e (by simp)) ?_; (case hi => first | rfl | (go_simp; done) | (go_simp; rfl)); intro x1 y1 c1 w6 cnt6 hm hx hy hc hrg hlt hbl hsz hset hen; have n0_ := Aside0.mk (PS.mk ((hset g (Nat.ne_of_lt (Nat.lt_of_lt_of_le HGL.out GEI.out))).trans HPS.out.G) ((hset gR NRI.out).trans HPS.out.R) ((hset gp NPI.out).trans HPS.out.p) HPS.out.nG HPS.out.nR HPS.out.bR HPS.out.bp (HPS.out.bel.trans (hbl.mono GEI.out))); have n1_ := Aside0.mk (Kd.R_step HO.out (w1 := w6) (fun k hk _ => hset k hk.2.1)); have HRG6 := Aside0.mk hrg; have HLT := Aside0.mk hlt; have B6 := Aside0.mk (Below.refl w6.heap.size w6); clear hm hx hy hc hrg hlt hbl hsz hset HRG HPS HO; have HPS := n0_; have HO := n1_; clear n0_ n1_) | ((with_reducible refine gate_dst (N := 4) rfl ?_); refine box_event ?hg (N := 4) ?hd (cs := #[.int .i64 0, .int .i64 0]) (t := 67) ?hr ?_; (case hd => rfl); (case hg => rfl); (case hr => first | (go_simp; done) | (go_simp; rfl)); intro gq hg w7 hbox hb; have B67 := Aside0.mk (below_step (XSq.bB B6) hb); have GQ6 := XSq.gw hg (XSq.bB B6); have HB7 := Aside0.mk (below_step (XSq.bB (Aside0.mk HPS.out.bel)) hb); have GQ0 := XSq.gw hg (XSq.bB (Aside0.mk HPS.out.bel)); have hnq := (XSq.nl hg (XSq.bq (Aside0.mk HPS.out.p))).out; have hnq2 := Ne.symm hnq; have hcq0 : w7.cell? ⟨gq, 0, none⟩ = some (.int .i64 0) := (blk_cell hbox 0).trans rfl; have hcq1 : w7.cell? ⟨gq, 1, none⟩ = some (.int .i64 0) := (blk_cell hbox 1).trans rfl; have hfq0 : w7.frozen? ⟨gq, 0, none⟩ = false := blk_frozen hbox 0; have hfq1 : w7.frozen? ⟨gq, 1, none⟩ = false := blk_frozen hbox 1; have BKQ := Aside0.mk hbox; have hcp1 : w7.cell? ⟨gp, 1, none⟩ = some (.slice Au xs.length cu) := (blk_cell (HPS.out.below B67.out).p 1).trans rfl; clear hbox hb hg) | ((with_reducible refine gate_dst (N := 33) rfl ?_); have B68_ := Aside0.mk (below_set (j := 1) (v := .int .i64 y1) (below_set (j := 0) (v := .int .i64 x1) B67.out GQ6.out) GQ6.out); have HB8_ := Aside0.mk (below_set (j := 1) (v := .int .i64 y1) (below_set (j := 0) (v := .int .i64 x1) HB7.out GQ0.out) GQ0.out); have BQ_ := Aside0.mk (blk_put (cs' := #[.int .i64 x1, .int .i64 y1]) (blk_put (cs' := #[.int .i64 x1, .int .i64 0]) BKQ.out 0 (.int .i64 x1) rfl) 1 (.int .i64 y1) rfl); clear B67 HB7 BKQ hcq0 hcq1 hfq0 hfq1 hcp1; generalize (w7.setCell ⟨gq, 0, none⟩ (.int .i64 x1)).setCell ⟨gq, 1, none⟩ (.int .i64 y1) = w8 at B68_ HB8_ BQ_ ⊢; have B68 := B68_; have HB8 := HB8_; clear B68_ HB8_; have hcq0 : w8.cell? ⟨gq, 0, none⟩ = some (.int .i64 x1) := (blk_cell BQ_.out 0).trans rfl; have hcq1 : w8.cell? ⟨gq, 1, none⟩ = some (.int .i64 y1) := (blk_cell BQ_.out 1).trans rfl; have hcp1 : w8.cell? ⟨gp, 1, none⟩ = some (.slice Au xs.length cu) := (blk_cell (HPS.out.below B68.out).p 1).trans rfl) | ((with_reducible refine gate_builtin (b := .append) (xs := #[.tmp 34, .tmp 41]) rfl ?_); at_builtin; refine Kd.R_append k60 (w0 := w) w.heap.size rfl (.tmp 34) (.tmp 41) 26 60 (.agg #[(.int .i64 0), (.int .i64 0), (.int .i64 0)]) 24 rfl Tryd.underlying26 info60 rfl (by decide) (by omega) (.slice Au xs.length cu) xs (⟨x1, y1, c1⟩ : S60) [.int .i64 x1, .int .i64 y1, .int .i64 c1] (fun k => k ≠ b ∧ k ≠ rb ∧ k ≠ gp ∧ k ≠ gR) (fun _ => False) rfl rfl ?aP (fun _ hk => hk.elim) ?aF ?aO ?aB ?aS ?aL ?_; (case aP => exact k60_mkM _ _ _ (⟨x1, y1, c1⟩ : S60)); (case aB => exact (XSq.bB HB8)); (case aO => exact Kd.R_below HO.out (XSq.bB B68)); (case aF => exact newOk (HRG6.out.lt.1) (HRG6.out.lt.2) (blk_lt HPS.out.p) (blk_lt HPS.out.R) (Below.size (XSq.bB B68))); (case aS => exact Below.size (XSq.bB HB8)); (case aL => have := HLX.out; omega); intro v1 w9 ho hb hg hat; obtain ⟨A1, cc1, hv1⟩ := Kd.R_slice ho; rw [List.length_append, List.length_singleton] at hv1; subst hv1; have hb6 := Aside0.mk (HPS.out.below (XSq.bB B68)); have n0_ := Aside0.mk (hb6.out.grown hg (Kd.R_ne (Kd.R_below HO.out (XSq.bB B68)) hb6.out.G (by decide)) (Kd.R_ne (Kd.R_below HO.out (XSq.bB B68)) hb6.out.R (by decide)) (Kd.R_ne (Kd.R_below HO.out (XSq.bB B68)) hb6.out.p (by decide)) hb); have n2_ := Aside0.mk (XMapL.RangeL.below HRG6.out (XSq.bB B68)); have n1_ := Aside0.mk (n2_.out.blocks (hg.block b n2_.out.lt.1 (fun e => (HO.out.1 b e.symm).1 rfl)) (hg.block rb n2_.out.lt.2 (fun e => (HO.out.1 rb e.symm).2.1 rfl))); have HO9 := Aside0.mk ho; clear HPS HO HRG6 hb6 n2_ ho hb hg hat; have HPS := n0_; have HRG := n1_; clear n0_ n1_; have hc9 : w9.cell? ⟨gp, 1, none⟩ = some (.slice Au xs.length cu) := (blk_cell HPS.out.p 1).trans rfl; have hf9 : w9.frozen? ⟨gp, 1, none⟩ = false := blk_frozen HPS.out.p 1))
        go_roundg k1
        case measure => omega
        case rel => exact ⟨done ++ [(x1, y1, c1)], (s0 :: t0).erase (x1, y1, c1), cnt6, .slice A1 (xs.length + 1) cc1, xs ++ [⟨x1, y1, c1⟩], ⟨by repeat (first | exact HRG.out.set NBP.out (p := ⟨gp, 1, none⟩) (Ne.symm NPI.out) (.slice A1 (xs.length + 1) cc1) | apply XMapL.RangeL.drewN | apply XMapL.RangeL.drew)⟩, ⟨by have := HLT.out; have := HK.out; omega⟩, ⟨by rw [← HXS.out]; simp [gL.F, gL.tr]⟩, ⟨by (with_reducible repeat (first | apply Kd.R_alloc | apply Kd.R_drewN | apply Kd.R_drew)); exact Kd.R_far HO9.out (p := ⟨gp, 1, none⟩) (fun k hk => hk.2.2.1) (.slice A1 (xs.length + 1) cc1)⟩, ⟨by repeat (first | exact HPS.out.put 1 (.slice A1 (xs.length + 1) cc1) rfl | apply PS.drewN | apply PS.drew)⟩⟩
theorem len_run {P : Program} {K E : TypeId} {w : World} {b n : Nat} {L : List XMapL.Sp} (hM : XMapL.IsMapL P K E w b n L) {T : TypeId} (ht : P.underlying T = some (.map K E)) (ty : TypeId) : (Builtin.len_ #[T] ty #[.map (some b)]).run P w = .ok (.int .i64 (L.length : Int)) w := by
  obtain ⟨D, hown, hD⟩ := hM
  rw [hown.len ht ty, hD.sz]
structure BS (w0 w W : World) (g b n : Nat) (rule : ByteArray) (x y d : Int) (M : List XMapL.Sp) : Prop where
  G : W.heap[g]? = some (.cells #[.string rule, .map (some b), .int .i64 x, .int .i64 y, .int .i64 d] 65 (0, 0))
  I : gL.IM W b n M
  ne : g ≠ b
  k : Kept w W (fun k_ => k_ = g ∨ k_ = b)
  bw : Below w0.heap.size w0 W
  s0 : w0.heap.size ≤ g
  s1 : w0.heap.size ≤ b
section
variable {w0 w W W' : World} {g b n n' : Nat} {rule : ByteArray} {x y d v : Int} {M M' : List XMapL.Sp}
theorem BS.below (h : BS w0 w W g b n rule x y d M) (hb : Below W.heap.size W W') : BS w0 w W' g b n rule x y d M := ⟨blk_below h.G hb, h.I.below hb, h.ne, h.k.below hb, below_step h.bw hb, h.s0, h.s1⟩
theorem BS.drewN (h : BS w0 w W g b n rule x y d M) (m : Nat) : BS w0 w (W.drewN m) g b n rule x y d M := ⟨h.G, h.I, h.ne, h.k.drewN m, pw_below_drewN h.bw m, h.s0, h.s1⟩
theorem BS.drew (h : BS w0 w W g b n rule x y d M) : BS w0 w W.drew g b n rule x y d M := ⟨h.G, h.I, h.ne, h.k.drew, below_drew1 h.bw, h.s0, h.s1⟩
theorem BS.grown (h : BS w0 w W g b n rule x y d M) (hg : W.grownBy W' (some b)) (hi : gL.IM W' b n' M') : BS w0 w W' g b n' rule x y d M' := ⟨blk_grown h.G hg (fun e => h.ne (Option.some.inj e)), hi, h.ne, Kept.of_grown hg h.k (fun k_ e => .inl (.inr (Option.some.inj e).symm)), h.bw.grown hg (below_size h.bw) (fun j hj => by cases hj; exact h.s1), h.s0, h.s1⟩
theorem BS.putX (h : BS w0 w W g b n rule x y d M) (v : Int) : BS w0 w (W.setCell ⟨g, 2, none⟩ (.int .i64 v)) g b n rule v y d M := ⟨by refine blk_put (cs := #[.string rule, .map (some b), .int .i64 x, .int .i64 y, .int .i64 d]) ?_ 2 _ rfl; exact h.G, h.I.set (p := ⟨g, 2, none⟩) (Ne.symm h.ne) _, h.ne, h.k.setCell (.inl (.inl rfl)) _, below_set h.bw h.s0, h.s0, h.s1⟩
theorem BS.putY (h : BS w0 w W g b n rule x y d M) (v : Int) : BS w0 w (W.setCell ⟨g, 3, none⟩ (.int .i64 v)) g b n rule x v d M := ⟨by refine blk_put (cs := #[.string rule, .map (some b), .int .i64 x, .int .i64 y, .int .i64 d]) ?_ 3 _ rfl; exact h.G, h.I.set (p := ⟨g, 3, none⟩) (Ne.symm h.ne) _, h.ne, h.k.setCell (.inl (.inl rfl)) _, below_set h.bw h.s0, h.s0, h.s1⟩
theorem BS.putD (h : BS w0 w W g b n rule x y d M) (v : Int) : BS w0 w (W.setCell ⟨g, 4, none⟩ (.int .i64 v)) g b n rule x y v M := ⟨by refine blk_put (cs := #[.string rule, .map (some b), .int .i64 x, .int .i64 y, .int .i64 d]) ?_ 4 _ rfl; exact h.G, h.I.set (p := ⟨g, 4, none⟩) (Ne.symm h.ne) _, h.ne, h.k.setCell (.inl (.inl rfl)) _, below_set h.bw h.s0, h.s0, h.s1⟩
end
structure IS (w W : World) (g b n : Nat) (rule : ByteArray) (x y d : Int) (M : List XMapL.Sp) : Prop where
  G : W.heap[g]? = some (.cells #[.string rule, .map (some b), .int .i64 x, .int .i64 y, .int .i64 d] 65 (0, 0))
  I : gL.IM W b n M
  ne : g ≠ b
  bel : Below w.heap.size w W
section
variable {w W W' : World} {g b n : Nat} {rule : ByteArray} {x y d : Int} {M : List XMapL.Sp}
theorem IS.below (h : IS w W g b n rule x y d M) (hb : Below W.heap.size W W') : IS w W' g b n rule x y d M := ⟨blk_below h.G hb, h.I.below hb, h.ne, below_step h.bel hb⟩
theorem IS.drew (h : IS w W g b n rule x y d M) : IS w W.drew g b n rule x y d M := ⟨h.G, h.I, h.ne, below_drew1 h.bel⟩
end
def isp.T1 : Bool × List (List Nat × List Nat) := (true, [([], []), ([0], [0]), ([1], [1]), ([2], [2]), ([], []), ([4], [4]), ([5], [5]), ([6], [6]), ([3, 7], [3, 7]), ([8], [8]), ([9, 9], [9]), ([10], [10]), ([11, 10], [10, 11]), ([12, 10], [10, 12]), ([13, 10], [10, 13]), ([14, 10, 10], [10, 14]), ([15, 10], [10, 15]), ([10, 16], [10, 16]), ([17, 15, 0, 1, 2, 3, 4, 5, 6, 7, 8, 9, 10, 11, 12, 13, 14, 15, 16, 17], [17])])
def isp.B1 : List Nat := [0, 1, 3, 7, 0, 16, 48, 112, 255, 511, 1023, 2047, 4095, 8191, 16383, 32767, 65535, 131071, 262143]
theorem isp.tab1 : rtab .any (opsOf Tryd.f42 1) = isp.T1 := by kernel_rfl
theorem isp.bits1 : waitsOk isp.T1.2 isp.B1 = true := by kernel_rfl
set_option maxHeartbeats 8000000 in
set_option maxRecDepth 100000 in
theorem isPlain_calls (g b n : Nat) (M : List XMapL.Sp) (rule : ByteArray) (x y d : Int) (t : Bool) (w : World) (hG : w.heap[g]? = some (.cells #[.string rule, .map (some b), .int .i64 x, .int .i64 y, .int .i64 d] 65 (0, 0))) (hM : gL.IM w b n M) (hne : g ≠ b) (ht : impl_isNear.f [x, y] = some t) :
    Calls Tryd.prog 42 #[.pointer (some ⟨g, 0, none⟩)] w fun e w' => e = .returned (.bool (t && decide ((M.length : Int) ≤ 300))) ∧ Below w.heap.size w w' := by
  have hu3 := Tryd.underlying65
  have HA := Aside0.mk ht
  have HG := Aside0.mk hG
  have HM := Aside0.mk hM
  clear ht hG hM
  have HS := Aside0.mk (IS.mk HG.out HM.out hne (Below.refl w.heap.size w))
  cases t with
  | true =>
    go_enter Tryd.func42, Tryd.ntmps42
    try go_wp2
    have n0_ := Aside0.mk (IS.drew HS.out)
    clear HS
    have HS := n0_
    clear n0_
    refine start_ (n := 19) (S := fun w' => w'.cell? ⟨g, 0, none⟩ = some (.string rule) ∧ w'.cell? ⟨g, 1, none⟩ = some (.map (some b)) ∧ w'.cell? ⟨g, 2, none⟩ = some (.int .i64 x) ∧ w'.cell? ⟨g, 3, none⟩ = some (.int .i64 y) ∧ w'.cell? ⟨g, 4, none⟩ = some (.int .i64 d) ∧ gL.IM w' b n M) (ds := []) #[false, false, false, false, false, false, false, false, false, false, false, false, false, false, false, false, false, false, false] (by kernel_rfl) rfl rfl ⟨(blk_cell HS.out.G 0).trans rfl, (blk_cell HS.out.G 1).trans rfl, (blk_cell HS.out.G 2).trans rfl, (blk_cell HS.out.G 3).trans rfl, (blk_cell HS.out.G 4).trans rfl, HS.out.I⟩ (fun hHeld => ?_); refine with_tabW isp.tab1 isp.bits1 (fun HT_ HW_ => ?_)
    generalize World.drew _ = w1 at HS hHeld ⊢
    refine pure_ (i := 0) (N := some 3) (v := ?_) (a' := ?_) (XSq.bA 19 1) rfl rfl (any_of HT_.out (by kernel_rfl)) (fun _ _ _ h => h) (Or.inl ⟨by rfl, ?_⟩) ?_ ?_
    rotate_left
    · intro w'
      go_simp
      with_reducible rfl
    rotate_left
    · simp only [Act.put, XSq.p1, XSq.p2, XSq.p3, i64_w, i32_w]
      rfl
    refine pure_ (i := 1) (N := some 4) (v := ?_) (a' := ?_) (XSq.bA 19 3) rfl rfl (any_of HT_.out (by kernel_rfl)) (fun _ _ _ h => h) (Or.inl ⟨by rfl, ?_⟩) ?_ ?_
    rotate_left
    · intro w'
      go_simp
      with_reducible rfl
    rotate_left
    · simp only [Act.put, XSq.p1, XSq.p2, XSq.p3, i64_w, i32_w]
      rfl
    refine pure_ (i := 2) (N := some 5) (v := ?_) (a' := ?_) (XSq.bA 19 7) rfl rfl (any_of HT_.out (by kernel_rfl)) (fun _ _ _ h => h) (Or.inl ⟨by rfl, ?_⟩) ?_ ?_
    rotate_left
    · intro w'
      go_simp
      with_reducible rfl
    rotate_left
    · simp only [Act.put, XSq.p1, XSq.p2, XSq.p3, i64_w, i32_w]
      rfl
    refine pure_ (i := 4) (N := some 7) (v := ?_) (a' := ?_) (XSq.bA 19 23) rfl rfl (any_of HT_.out (by kernel_rfl)) (fun _ _ _ h => h) (Or.inl ⟨by rfl, ?_⟩) ?_ ?_
    rotate_left
    · intro w'
      go_simp
      with_reducible rfl
    rotate_left
    · simp only [Act.put, XSq.p1, XSq.p2, XSq.p3, i64_w, i32_w]
      rfl
    refine pure_ (i := 5) (N := some 8) (v := ?_) (a' := ?_) (XSq.bA 19 55) rfl rfl (any_of HT_.out (by kernel_rfl)) (fun _ _ _ h => h) (Or.inl ⟨by rfl, ?_⟩) ?_ ?_
    rotate_left
    · intro w'
      go_simp
      with_reducible rfl
    rotate_left
    · simp only [Act.put, XSq.p1, XSq.p2, XSq.p3, i64_w, i32_w]
      rfl
    refine pure_ (i := 6) (N := some 9) (v := ?_) (a' := ?_) (XSq.bA 19 119) rfl rfl (any_of HT_.out (by kernel_rfl)) (fun _ _ _ h => h) (Or.inl ⟨by rfl, ?_⟩) ?_ ?_
    rotate_left
    · intro w'
      go_simp
      with_reducible rfl
    rotate_left
    · simp only [Act.put, XSq.p1, XSq.p2, XSq.p3, i64_w, i32_w]
      rfl
    refine take_ (i := 3) (N := some 6) (v := ?_) (a' := ?_) (XSq.bA 19 127) rfl rfl (take_ofW HT_.out HW_.out (by kernel_rfl)) (fun _ _ _ h => h) (Or.inl ⟨by rfl, ?_⟩) hHeld ?_ ?_
    rotate_left
    · rintro w' ⟨s0, s1, s2, s3, s4, sM⟩
      go_simp
      with_reducible rfl
    rotate_left
    · simp only [Act.put, XSq.p1, XSq.p2, XSq.p3, i64_w, i32_w]
      rfl
    refine take_ (i := 7) (N := some 10) (v := ?_) (a' := ?_) (XSq.bA 19 255) rfl rfl (take_ofW HT_.out HW_.out (by kernel_rfl)) (fun _ _ _ h => h) (Or.inl ⟨by rfl, ?_⟩) hHeld ?_ ?_
    rotate_left
    · rintro w' ⟨s0, s1, s2, s3, s4, sM⟩
      go_simp
      with_reducible rfl
    rotate_left
    · simp only [Act.put, XSq.p1, XSq.p2, XSq.p3, i64_w, i32_w]
      rfl
    refine one_ (i := 8) (N := some 11) (XSq.bA 19 511) rfl rfl (one_of HT_.out (by kernel_rfl)) (by decide) (fun K hK => ?_)
    refine Kd.R_lit_step (Kd.int .i64) _ 3 ?hg (N := 11) ?hd (xs := ([x, y] : List Int)) (inner := [.int .i64 x, .int .i64 y]) (ok := fun _ => True) (okp := fun _ => True) ?hr ?hp (fun _ hk => hk) trivial (Below.refl _ _) (Nat.le_refl _) (by simp) ?_
    (case hd => rfl)
    (case hg => rfl)
    (case hr => first | (go_simp; done) | (go_simp; rfl))
    (case hp => exact (Reps.one (show Kd.M (Kd.int .i64) _ _ _ x [.int .i64 x] from rfl) (Reps.one (show Kd.M (Kd.int .i64) _ _ _ y [.int .i64 y] from rfl) (Reps.none _ _))))
    intro v4 w4 ho hb hg_ hnew_
    obtain ⟨A4, cc4, hv4, hl4, hC4⟩ := Kd.R_reads ho
    subst hv4
    have HC4 := Aside0.mk hC4
    have HL4 := Aside0.mk hl4
    clear ho hg_ hnew_ hl4 hC4
    have n0_ := Aside0.mk (IS.below HS.out hb)
    clear HS hb
    have HS := n0_
    clear n0_
    refine hK.out _ _ ⟨(blk_cell HS.out.G 0).trans rfl, (blk_cell HS.out.G 1).trans rfl, (blk_cell HS.out.G 2).trans rfl, (blk_cell HS.out.G 3).trans rfl, (blk_cell HS.out.G 4).trans rfl, HS.out.I⟩ (fun hHeld => ?_)
    clear hK K
    refine norm_ (a' := ?_) ?_ ?_
    rotate_left
    · show Act.put _ (some 11) _ = _
      simp only [Act.put, XSq.p1, XSq.p2, XSq.p3, i64_w, i32_w]
      rfl
    refine one_ (i := 9) (N := some 12) (XSq.bA 19 1023) rfl rfl (one_of HT_.out (by kernel_rfl)) (by decide) (fun K hK => ?_)
    refine goes_ Tryd.func31 (by kernel_rfl) rfl #[.slice A4 [x, y].length cc4] (by rfl) rfl rfl (by (try simp only [List.map_toArray, List.map_cons, List.map_nil]); first | done | rfl | (go_simp; done) | (go_simp; rfl)) ?_
    refine (impl_isNear.calls A4 cc4 [x, y] _ _ HC4.out HL4.out HA.out).mono ?_
    rintro e w5 ⟨rfl, hb⟩
    refine ⟨_, rfl, ?_⟩
    have n0_ := Aside0.mk (IS.below HS.out hb)
    clear HS hb
    have HS := n0_
    clear n0_
    refine hK.out _ _ ⟨(blk_cell HS.out.G 0).trans rfl, (blk_cell HS.out.G 1).trans rfl, (blk_cell HS.out.G 2).trans rfl, (blk_cell HS.out.G 3).trans rfl, (blk_cell HS.out.G 4).trans rfl, HS.out.I⟩ (fun hHeld => ?_)
    clear hK K
    refine norm_ (a' := ?_) ?_ ?_
    rotate_left
    · show Act.put _ (some 12) _ = _
      simp only [Act.put, XSq.p1, XSq.p2, XSq.p3, i64_w, i32_w]
      rfl
    refine pure_ (i := 10) (N := some 13) (v := ?_) (a' := ?_) (XSq.bA 19 2047) rfl rfl (any_of HT_.out (by kernel_rfl)) (fun _ _ _ h => h) (Or.inl ⟨by rfl, ?_⟩) ?_ ?_
    rotate_left
    · intro w'
      go_simp
      with_reducible rfl
    rotate_left
    · simp only [Act.put, XSq.p1, XSq.p2, XSq.p3, i64_w, i32_w]
      rfl
    refine pure_ (i := 11) (N := some 14) (v := ?_) (a' := ?_) (XSq.bA 19 4095) rfl rfl (any_of HT_.out (by kernel_rfl)) (fun _ _ _ h => h) (Or.inl ⟨by rfl, ?_⟩) ?_ ?_
    rotate_left
    · intro w'
      go_simp
      with_reducible rfl
    rotate_left
    · simp only [Act.put, XSq.p1, XSq.p2, XSq.p3, i64_w, i32_w]
      rfl
    refine pure_ (i := 12) (N := some 15) (v := ?_) (a' := ?_) (XSq.bA 19 8191) rfl rfl (any_of HT_.out (by kernel_rfl)) (fun _ _ _ h => h) (Or.inl ⟨by rfl, ?_⟩) ?_ ?_
    rotate_left
    · intro w'
      go_simp
      with_reducible rfl
    rotate_left
    · simp only [Act.put, XSq.p1, XSq.p2, XSq.p3, i64_w, i32_w]
      rfl
    refine pure_ (i := 13) (N := some 16) (v := ?_) (a' := ?_) (XSq.bA 19 16383) rfl rfl (any_of HT_.out (by kernel_rfl)) (fun _ _ _ h => h) (Or.inl ⟨by rfl, ?_⟩) ?_ ?_
    rotate_left
    · intro w'
      go_simp
      with_reducible rfl
    rotate_left
    · simp only [Act.put, XSq.p1, XSq.p2, XSq.p3, i64_w, i32_w]
      rfl
    refine take_ (i := 14) (N := some 17) (v := ?_) (a' := ?_) (XSq.bA 19 32767) rfl rfl (take_ofW HT_.out HW_.out (by kernel_rfl)) (fun _ _ _ h => h) (Or.inl ⟨by rfl, ?_⟩) hHeld ?_ ?_
    rotate_left
    · rintro w' ⟨s0, s1, s2, s3, s4, sM⟩
      go_simp
      with_reducible rfl
    rotate_left
    · simp only [Act.put, XSq.p1, XSq.p2, XSq.p3, i64_w, i32_w]
      rfl
    refine take_ (i := 15) (N := some 18) (v := ?_) (a' := ?_) (XSq.bA 19 65535) rfl rfl (take_ofW HT_.out HW_.out (by kernel_rfl)) (fun _ _ _ h => h) (Or.inl ⟨by rfl, ?_⟩) hHeld ?_ ?_
    rotate_left
    · rintro w' ⟨s0, s1, s2, s3, s4, sM⟩
      have hl_ := len_run sM Tryd.underlying63 3
      go_simp
      with_reducible rfl
    rotate_left
    · simp only [Act.put, XSq.p1, XSq.p2, XSq.p3, i64_w, i32_w]
      rfl
    refine pure_ (i := 16) (N := some 19) (v := ?_) (a' := ?_) (XSq.bA 19 131071) rfl rfl (any_of HT_.out (by kernel_rfl)) (fun _ _ _ h => h) (Or.inl ⟨by rfl, ?_⟩) ?_ ?_
    rotate_left
    · intro w'
      go_simp
      with_reducible rfl
    rotate_left
    · simp only [Act.put, XSq.p1, XSq.p2, XSq.p3, i64_w, i32_w]
      rfl
    refine pure_ (i := 17) (N := some 20) (v := ?_) (a' := ?_) (XSq.bA 19 262143) rfl rfl (any_of HT_.out (by kernel_rfl)) (fun _ _ _ h => h) (Or.inl ⟨by rfl, ?_⟩) ?_ ?_
    rotate_left
    · intro w'
      go_simp
      with_reducible rfl
    rotate_left
    · simp only [Act.put, XSq.p1, XSq.p2, XSq.p3, i64_w, i32_w]
      rfl
    refine pure_ (i := 18) (N := some 2) (v := ?_) (a' := ?_) (XSq.bA 19 524287) rfl rfl (any_of HT_.out (by kernel_rfl)) (fun _ _ _ h => h) (Or.inl ⟨by rfl, ?_⟩) ?_ ?_
    rotate_left
    · intro w'
      go_simp
      with_reducible rfl
    rotate_left
    · simp only [Act.put, XSq.p1, XSq.p2, XSq.p3, i64_w, i32_w]
      rfl
    refine done_ (done_of HT_.out (by kernel_rfl)) ?_
    clear HT_ HW_
    try go_wp2
    go_ret
    exact ⟨by first | rfl | simp, (by repeat (first | exact HS.out.bel | apply pw_below_drewN | apply below_drew1))⟩
  | false =>
    go_enter Tryd.func42, Tryd.ntmps42
    try go_wp2
    have n0_ := Aside0.mk (IS.drew HS.out)
    clear HS
    have HS := n0_
    clear n0_
    refine start_ (n := 19) (S := fun w' => w'.cell? ⟨g, 0, none⟩ = some (.string rule) ∧ w'.cell? ⟨g, 1, none⟩ = some (.map (some b)) ∧ w'.cell? ⟨g, 2, none⟩ = some (.int .i64 x) ∧ w'.cell? ⟨g, 3, none⟩ = some (.int .i64 y) ∧ w'.cell? ⟨g, 4, none⟩ = some (.int .i64 d) ∧ gL.IM w' b n M) (ds := []) #[false, false, false, false, false, false, false, false, false, false, false, false, false, false, false, false, false, false, false] (by kernel_rfl) rfl rfl ⟨(blk_cell HS.out.G 0).trans rfl, (blk_cell HS.out.G 1).trans rfl, (blk_cell HS.out.G 2).trans rfl, (blk_cell HS.out.G 3).trans rfl, (blk_cell HS.out.G 4).trans rfl, HS.out.I⟩ (fun hHeld => ?_); refine with_tabW isp.tab1 isp.bits1 (fun HT_ HW_ => ?_)
    generalize World.drew _ = w1 at HS hHeld ⊢
    refine pure_ (i := 0) (N := some 3) (v := ?_) (a' := ?_) (XSq.bA 19 1) rfl rfl (any_of HT_.out (by kernel_rfl)) (fun _ _ _ h => h) (Or.inl ⟨by rfl, ?_⟩) ?_ ?_
    rotate_left
    · intro w'
      go_simp
      with_reducible rfl
    rotate_left
    · simp only [Act.put, XSq.p1, XSq.p2, XSq.p3, i64_w, i32_w]
      rfl
    refine pure_ (i := 1) (N := some 4) (v := ?_) (a' := ?_) (XSq.bA 19 3) rfl rfl (any_of HT_.out (by kernel_rfl)) (fun _ _ _ h => h) (Or.inl ⟨by rfl, ?_⟩) ?_ ?_
    rotate_left
    · intro w'
      go_simp
      with_reducible rfl
    rotate_left
    · simp only [Act.put, XSq.p1, XSq.p2, XSq.p3, i64_w, i32_w]
      rfl
    refine pure_ (i := 2) (N := some 5) (v := ?_) (a' := ?_) (XSq.bA 19 7) rfl rfl (any_of HT_.out (by kernel_rfl)) (fun _ _ _ h => h) (Or.inl ⟨by rfl, ?_⟩) ?_ ?_
    rotate_left
    · intro w'
      go_simp
      with_reducible rfl
    rotate_left
    · simp only [Act.put, XSq.p1, XSq.p2, XSq.p3, i64_w, i32_w]
      rfl
    refine pure_ (i := 4) (N := some 7) (v := ?_) (a' := ?_) (XSq.bA 19 23) rfl rfl (any_of HT_.out (by kernel_rfl)) (fun _ _ _ h => h) (Or.inl ⟨by rfl, ?_⟩) ?_ ?_
    rotate_left
    · intro w'
      go_simp
      with_reducible rfl
    rotate_left
    · simp only [Act.put, XSq.p1, XSq.p2, XSq.p3, i64_w, i32_w]
      rfl
    refine pure_ (i := 5) (N := some 8) (v := ?_) (a' := ?_) (XSq.bA 19 55) rfl rfl (any_of HT_.out (by kernel_rfl)) (fun _ _ _ h => h) (Or.inl ⟨by rfl, ?_⟩) ?_ ?_
    rotate_left
    · intro w'
      go_simp
      with_reducible rfl
    rotate_left
    · simp only [Act.put, XSq.p1, XSq.p2, XSq.p3, i64_w, i32_w]
      rfl
    refine pure_ (i := 6) (N := some 9) (v := ?_) (a' := ?_) (XSq.bA 19 119) rfl rfl (any_of HT_.out (by kernel_rfl)) (fun _ _ _ h => h) (Or.inl ⟨by rfl, ?_⟩) ?_ ?_
    rotate_left
    · intro w'
      go_simp
      with_reducible rfl
    rotate_left
    · simp only [Act.put, XSq.p1, XSq.p2, XSq.p3, i64_w, i32_w]
      rfl
    refine take_ (i := 3) (N := some 6) (v := ?_) (a' := ?_) (XSq.bA 19 127) rfl rfl (take_ofW HT_.out HW_.out (by kernel_rfl)) (fun _ _ _ h => h) (Or.inl ⟨by rfl, ?_⟩) hHeld ?_ ?_
    rotate_left
    · rintro w' ⟨s0, s1, s2, s3, s4, sM⟩
      go_simp
      with_reducible rfl
    rotate_left
    · simp only [Act.put, XSq.p1, XSq.p2, XSq.p3, i64_w, i32_w]
      rfl
    refine take_ (i := 7) (N := some 10) (v := ?_) (a' := ?_) (XSq.bA 19 255) rfl rfl (take_ofW HT_.out HW_.out (by kernel_rfl)) (fun _ _ _ h => h) (Or.inl ⟨by rfl, ?_⟩) hHeld ?_ ?_
    rotate_left
    · rintro w' ⟨s0, s1, s2, s3, s4, sM⟩
      go_simp
      with_reducible rfl
    rotate_left
    · simp only [Act.put, XSq.p1, XSq.p2, XSq.p3, i64_w, i32_w]
      rfl
    refine one_ (i := 8) (N := some 11) (XSq.bA 19 511) rfl rfl (one_of HT_.out (by kernel_rfl)) (by decide) (fun K hK => ?_)
    refine Kd.R_lit_step (Kd.int .i64) _ 3 ?hg (N := 11) ?hd (xs := ([x, y] : List Int)) (inner := [.int .i64 x, .int .i64 y]) (ok := fun _ => True) (okp := fun _ => True) ?hr ?hp (fun _ hk => hk) trivial (Below.refl _ _) (Nat.le_refl _) (by simp) ?_
    (case hd => rfl)
    (case hg => rfl)
    (case hr => first | (go_simp; done) | (go_simp; rfl))
    (case hp => exact (Reps.one (show Kd.M (Kd.int .i64) _ _ _ x [.int .i64 x] from rfl) (Reps.one (show Kd.M (Kd.int .i64) _ _ _ y [.int .i64 y] from rfl) (Reps.none _ _))))
    intro v4 w4 ho hb hg_ hnew_
    obtain ⟨A4, cc4, hv4, hl4, hC4⟩ := Kd.R_reads ho
    subst hv4
    have HC4 := Aside0.mk hC4
    have HL4 := Aside0.mk hl4
    clear ho hg_ hnew_ hl4 hC4
    have n0_ := Aside0.mk (IS.below HS.out hb)
    clear HS hb
    have HS := n0_
    clear n0_
    refine hK.out _ _ ⟨(blk_cell HS.out.G 0).trans rfl, (blk_cell HS.out.G 1).trans rfl, (blk_cell HS.out.G 2).trans rfl, (blk_cell HS.out.G 3).trans rfl, (blk_cell HS.out.G 4).trans rfl, HS.out.I⟩ (fun hHeld => ?_)
    clear hK K
    refine norm_ (a' := ?_) ?_ ?_
    rotate_left
    · show Act.put _ (some 11) _ = _
      simp only [Act.put, XSq.p1, XSq.p2, XSq.p3, i64_w, i32_w]
      rfl
    refine one_ (i := 9) (N := some 12) (XSq.bA 19 1023) rfl rfl (one_of HT_.out (by kernel_rfl)) (by decide) (fun K hK => ?_)
    refine goes_ Tryd.func31 (by kernel_rfl) rfl #[.slice A4 [x, y].length cc4] (by rfl) rfl rfl (by (try simp only [List.map_toArray, List.map_cons, List.map_nil]); first | done | rfl | (go_simp; done) | (go_simp; rfl)) ?_
    refine (impl_isNear.calls A4 cc4 [x, y] _ _ HC4.out HL4.out HA.out).mono ?_
    rintro e w5 ⟨rfl, hb⟩
    refine ⟨_, rfl, ?_⟩
    have n0_ := Aside0.mk (IS.below HS.out hb)
    clear HS hb
    have HS := n0_
    clear n0_
    refine hK.out _ _ ⟨(blk_cell HS.out.G 0).trans rfl, (blk_cell HS.out.G 1).trans rfl, (blk_cell HS.out.G 2).trans rfl, (blk_cell HS.out.G 3).trans rfl, (blk_cell HS.out.G 4).trans rfl, HS.out.I⟩ (fun hHeld => ?_)
    clear hK K
    refine norm_ (a' := ?_) ?_ ?_
    rotate_left
    · show Act.put _ (some 12) _ = _
      simp only [Act.put, XSq.p1, XSq.p2, XSq.p3, i64_w, i32_w]
      rfl
    refine pure_ (i := 10) (N := some 13) (v := ?_) (a' := ?_) (XSq.bA 19 2047) rfl rfl (any_of HT_.out (by kernel_rfl)) (fun _ _ _ h => h) (Or.inl ⟨by rfl, ?_⟩) ?_ ?_
    rotate_left
    · intro w'
      go_simp
      with_reducible rfl
    rotate_left
    · simp only [Act.put, XSq.p1, XSq.p2, XSq.p3, i64_w, i32_w]
      rfl
    refine pure_ (i := 11) (N := some 14) (v := undef) (a' := ?_) (XSq.bA 19 4095) rfl rfl (any_of HT_.out (by kernel_rfl)) (fun _ _ _ h => h) (Or.inr ⟨by rfl, rfl⟩) ?_ ?_
    rotate_left
    · simp only [Act.put, XSq.p1, XSq.p2, XSq.p3, i64_w, i32_w]
      rfl
    refine pure_ (i := 12) (N := some 15) (v := undef) (a' := ?_) (XSq.bA 19 8191) rfl rfl (any_of HT_.out (by kernel_rfl)) (fun _ _ _ h => h) (Or.inr ⟨by rfl, rfl⟩) ?_ ?_
    rotate_left
    · simp only [Act.put, XSq.p1, XSq.p2, XSq.p3, i64_w, i32_w]
      rfl
    refine pure_ (i := 13) (N := some 16) (v := undef) (a' := ?_) (XSq.bA 19 16383) rfl rfl (any_of HT_.out (by kernel_rfl)) (fun _ _ _ h => h) (Or.inr ⟨by rfl, rfl⟩) ?_ ?_
    rotate_left
    · simp only [Act.put, XSq.p1, XSq.p2, XSq.p3, i64_w, i32_w]
      rfl
    refine pure_ (i := 14) (N := some 17) (v := undef) (a' := ?_) (XSq.bA 19 32767) rfl rfl (any_of HT_.out (by kernel_rfl)) (fun _ _ _ h => h) (Or.inr ⟨by rfl, rfl⟩) ?_ ?_
    rotate_left
    · simp only [Act.put, XSq.p1, XSq.p2, XSq.p3, i64_w, i32_w]
      rfl
    refine pure_ (i := 15) (N := some 18) (v := undef) (a' := ?_) (XSq.bA 19 65535) rfl rfl (any_of HT_.out (by kernel_rfl)) (fun _ _ _ h => h) (Or.inr ⟨by rfl, rfl⟩) ?_ ?_
    rotate_left
    · simp only [Act.put, XSq.p1, XSq.p2, XSq.p3, i64_w, i32_w]
      rfl
    refine pure_ (i := 16) (N := some 19) (v := undef) (a' := ?_) (XSq.bA 19 131071) rfl rfl (any_of HT_.out (by kernel_rfl)) (fun _ _ _ h => h) (Or.inr ⟨by rfl, rfl⟩) ?_ ?_
    rotate_left
    · simp only [Act.put, XSq.p1, XSq.p2, XSq.p3, i64_w, i32_w]
      rfl
    refine pure_ (i := 17) (N := some 20) (v := ?_) (a' := ?_) (XSq.bA 19 262143) rfl rfl (any_of HT_.out (by kernel_rfl)) (fun _ _ _ h => h) (Or.inl ⟨by rfl, ?_⟩) ?_ ?_
    rotate_left
    · intro w'
      go_simp
      with_reducible rfl
    rotate_left
    · simp only [Act.put, XSq.p1, XSq.p2, XSq.p3, i64_w, i32_w]
      rfl
    refine pure_ (i := 18) (N := some 2) (v := ?_) (a' := ?_) (XSq.bA 19 524287) rfl rfl (any_of HT_.out (by kernel_rfl)) (fun _ _ _ h => h) (Or.inl ⟨by rfl, ?_⟩) ?_ ?_
    rotate_left
    · intro w'
      go_simp
      with_reducible rfl
    rotate_left
    · simp only [Act.put, XSq.p1, XSq.p2, XSq.p3, i64_w, i32_w]
      rfl
    refine done_ (done_of HT_.out (by kernel_rfl)) ?_
    clear HT_ HW_
    try go_wp2
    go_ret
    exact ⟨by first | rfl | simp, (by repeat (first | exact HS.out.bel | apply pw_below_drewN | apply below_drew1))⟩
def bk.T2 : Bool × List (List Nat × List Nat) := (true, [([], []), ([], []), ([], []), ([2], [2]), ([3], [3]), ([4], [4]), ([], []), ([5, 6], [5, 6]), ([], []), ([8], [8]), ([9], [9]), ([10], [10]), ([], []), ([11, 12], [11, 12]), ([0, 0, 2, 3, 4, 5, 6, 7, 11], [0]), ([14, 0, 2, 3, 4, 5, 6, 7, 11], [14]), ([15, 7, 0, 2, 3, 4, 5, 6, 7, 11], [7, 15]), ([1, 0, 1, 2, 3, 4, 5, 6, 7, 8, 9, 10, 11, 12, 13, 14, 15, 16], [1]), ([17, 0, 1, 2, 3, 4, 5, 6, 7, 8, 9, 10, 11, 12, 13, 14, 15, 16], [17]), ([18, 13, 16, 0, 1, 2, 3, 4, 5, 6, 7, 8, 9, 10, 11, 12, 13, 14, 15, 16], [13, 18])])
def bk.B2 : List Nat := [0, 0, 0, 4, 12, 28, 0, 124, 0, 256, 768, 1792, 0, 7936, 4093, 20477, 53245, 131071, 262143, 524287]
theorem bk.tab2 : rtab .any (opsOf Tryd.f21 2) = bk.T2 := by kernel_rfl
theorem bk.bits2 : waitsOk bk.T2.2 bk.B2 = true := by kernel_rfl
def bk.T3 : Bool × List (List Nat × List Nat) := (true, [([], []), ([0], [0]), ([1], [1]), ([2], [2]), ([], []), ([4], [4]), ([5], [5]), ([6], [6]), ([], []), ([8], [8]), ([9], [9]), ([10], [10]), ([7, 11], [7, 11]), ([3, 12], [3, 12]), ([], []), ([14], [14]), ([15], [15]), ([16], [16]), ([17], [17]), ([13, 18], [13, 18]), ([19], [19]), ([], []), ([21], [21]), ([22], [22]), ([23], [23]), ([24], [24]), ([20, 25], [20, 25]), ([26, 0, 1, 2, 3, 4, 5, 6, 7, 8, 9, 10, 11, 12, 13, 14, 15, 16, 17, 18, 19, 20, 21, 22, 23, 24, 25, 26], [26])])
def bk.B3 : List Nat := [0, 1, 3, 7, 0, 16, 48, 112, 0, 256, 768, 1792, 4080, 8191, 0, 16384, 49152, 114688, 245760, 524287, 1048575, 0, 2097152, 6291456, 14680064, 31457280, 67108863, 134217727]
theorem bk.tab3 : rtab .any (opsOf Tryd.f21 3) = bk.T3 := by kernel_rfl
theorem bk.bits3 : waitsOk bk.T3.2 bk.B3 = true := by kernel_rfl
def bk.T4 : Bool × List (List Nat × List Nat) := (true, [([], []), ([], []), ([1], [1]), ([2], [2]), ([3], [3]), ([4], [4]), ([], []), ([6], [6]), ([7], [7]), ([8], [8]), ([], []), ([9, 10], [9, 10]), ([11], [11]), ([5, 12], [5, 12]), ([13], [13]), ([0, 0, 1, 2, 3, 4, 5, 6, 7, 8, 9, 10, 11, 12, 13, 14], [0]), ([15, 0, 1, 2, 3, 4, 5, 6, 7, 8, 9, 10, 11, 12, 13, 14], [15]), ([16, 14, 12, 0, 1, 2, 3, 4, 5, 6, 7, 8, 9, 10, 11, 12, 13, 14], [14, 16])])
def bk.B4 : List Nat := [0, 0, 2, 6, 14, 30, 0, 64, 192, 448, 0, 1984, 4032, 8190, 16382, 32767, 65535, 131071]
theorem bk.tab4 : rtab .any (opsOf Tryd.f21 4) = bk.T4 := by kernel_rfl
theorem bk.bits4 : waitsOk bk.T4.2 bk.B4 = true := by kernel_rfl
def bk.T5 : Bool × List (List Nat × List Nat) := (true, [([], []), ([], []), ([1], [1]), ([2], [2]), ([3], [3]), ([], []), ([5], [5]), ([6], [6]), ([7], [7]), ([], []), ([0, 4, 8, 9], [0, 4, 8, 9])])
def bk.B5 : List Nat := [0, 0, 2, 6, 14, 0, 32, 96, 224, 0, 1023]
theorem bk.tab5 : rtab .any (opsOf Tryd.f21 5) = bk.T5 := by kernel_rfl
theorem bk.bits5 : waitsOk bk.T5.2 bk.B5 = true := by kernel_rfl
/-- A step back, told on the map's entries. -/
def bk.f (rule : ByteArray) (M : List XMapL.Sp) (x y d : Int) : Option (List XMapL.Sp × Int × Int × Int × Bool) :=
  (impl_ahead.f d).bind fun p => (if rule.size = 0 ∨ 1000 < rule.size then none else (if 0 ≤ Int.tmod (wrap64 (wrap64 (XMapL.look M (wrap64 (x - p.1)) (wrap64 (y - p.2)) + (rule.size : Int)) - 1)) (rule.size : Int) then ((impl_quarters.f (bt rule (Int.tmod (wrap64 (wrap64 (XMapL.look M (wrap64 (x - p.1)) (wrap64 (y - p.2)) + (rule.size : Int)) - 1)) (rule.size : Int)))).bind fun q => ((impl_isNear.f [wrap64 (x - p.1), wrap64 (y - p.2)]).bind fun t => some (paintS M (wrap64 (x - p.1)) (wrap64 (y - p.2)) (Int.tmod (wrap64 (wrap64 (XMapL.look M (wrap64 (x - p.1)) (wrap64 (y - p.2)) + (rule.size : Int)) - 1)) (rule.size : Int)), wrap64 (x - p.1), wrap64 (y - p.2), Int.tmod (wrap64 (wrap64 (d + 4) - q)) 4, t && decide (((paintS M (wrap64 (x - p.1)) (wrap64 (y - p.2)) (Int.tmod (wrap64 (wrap64 (XMapL.look M (wrap64 (x - p.1)) (wrap64 (y - p.2)) + (rule.size : Int)) - 1)) (rule.size : Int))).length : Int) ≤ 300)))) else none))
theorem in64w (z : Int) : XMapP.In64 (wrap64 z) := by unfold XMapP.In64 wrap64; omega
set_option maxHeartbeats 8000000 in
set_option maxRecDepth 100000 in
theorem back_calls (g b n : Nat) (M M1 : List XMapL.Sp) (rule : ByteArray) (x y d x1 y1 d1 : Int) (r : Bool) (w0 w : World) (hG : w.heap[g]? = some (.cells #[.string rule, .map (some b), .int .i64 x, .int .i64 y, .int .i64 d] 65 (0, 0))) (hM : gL.IM w b n M) (hne : g ≠ b) (hB : Below w0.heap.size w0 w) (h0 : w0.heap.size ≤ g) (h1 : w0.heap.size ≤ b) (hn : n < 9223372036854775807) (h : bk.f rule M x y d = some (M1, x1, y1, d1, r)) :
    Calls Tryd.prog 21 #[.pointer (some ⟨g, 0, none⟩)] w fun e w' => e = .returned (.bool r) ∧ BS w0 w w' g b (n + 1) rule x1 y1 d1 M1 := by
  have hu3 := Tryd.underlying65
  have hu4 := Tryd.underlying67
  unfold bk.f at h
  obtain ⟨⟨ax, ay⟩, AA0, H⟩ := Option.bind_eq_some_iff.mp h
  have AA := Aside0.mk AA0
  clear h AA0
  dsimp only at H
  by_cases c1_ : rule.size = 0 ∨ 1000 < rule.size
  · rw [if_pos c1_] at H
    cases H
  · rw [if_neg c1_] at H
    obtain ⟨c1, hc1⟩ : ∃ z, Int.tmod (wrap64 (wrap64 (XMapL.look M (wrap64 (x - ax)) (wrap64 (y - ay)) + (rule.size : Int)) - 1)) (rule.size : Int) = z := ⟨_, rfl⟩
    rw [hc1] at H
    by_cases c2_ : 0 ≤ c1
    · rw [if_pos c2_] at H
      obtain ⟨q, AQ0, H⟩ := Option.bind_eq_some_iff.mp H
      obtain ⟨t, AN0, H⟩ := Option.bind_eq_some_iff.mp H
      simp only [Option.some.injEq, Prod.mk.injEq] at H
      obtain ⟨e5, e1, e2, e3, e4⟩ := H
      rw [e1, e2] at hc1 e5 e4 AN0
      obtain ⟨cl, hcl⟩ : ∃ z, XMapL.look M x1 y1 = z := ⟨_, rfl⟩
      rw [hcl] at hc1
      have hlt : c1 < (rule.size : Int) := by
        rw [← hc1]
        exact Int.tmod_lt_of_pos _ (by omega)
      have HI := Aside0.mk (show XMapP.In64 x1 ∧ XMapP.In64 y1 ∧ XMapP.In64 c1 from ⟨by rw [← e1]; exact in64w _, by rw [← e2]; exact in64w _, ⟨by omega, by omega⟩⟩)
      have HE := Aside0.mk (And.intro e1 (And.intro e2 (And.intro hcl (And.intro hc1 (And.intro e3 e5)))))
      have HR := Aside0.mk e4
      have AN := Aside0.mk AN0
      have AQ := Aside0.mk AQ0
      have HNE := Aside0.mk hne
      have HN := Aside0.mk hn
      have hz0 : (rule.size : Int) ≠ 0 := by omega
      have HZ := Aside0.mk (And.intro c2_ hlt)
      have HS := Aside0.mk (BS.mk hG hM hne (Kept.refl w (fun k_ => k_ = g ∨ k_ = b)) hB h0 h1)
      rw [e5] at e4
      subst e4
      clear AN0 AQ0 hne hn hG hM hB h0 h1 e1 e2 e3 e5 hcl hc1 c1_ c2_ hlt
      have hc0_0 : w.cell? ⟨g, 0, none⟩ = some (.string rule) := (blk_cell HS.out.G 0).trans rfl
      have hc0_1 : w.cell? ⟨g, 1, none⟩ = some (.map (some b)) := (blk_cell HS.out.G 1).trans rfl
      have hc0_2 : w.cell? ⟨g, 2, none⟩ = some (.int .i64 x) := (blk_cell HS.out.G 2).trans rfl
      have hc0_3 : w.cell? ⟨g, 3, none⟩ = some (.int .i64 y) := (blk_cell HS.out.G 3).trans rfl
      have hc0_4 : w.cell? ⟨g, 4, none⟩ = some (.int .i64 d) := (blk_cell HS.out.G 4).trans rfl
      have hf0_0 : w.frozen? ⟨g, 0, none⟩ = false := blk_frozen HS.out.G 0
      have hf0_1 : w.frozen? ⟨g, 1, none⟩ = false := blk_frozen HS.out.G 1
      have hf0_2 : w.frozen? ⟨g, 2, none⟩ = false := blk_frozen HS.out.G 2
      have hf0_3 : w.frozen? ⟨g, 3, none⟩ = false := blk_frozen HS.out.G 3
      have hf0_4 : w.frozen? ⟨g, 4, none⟩ = false := blk_frozen HS.out.G 4
      go_enter Tryd.func21, Tryd.ntmps21
      go_wp2_with (first | (go_at_call 40; refine (impl_ahead.calls d ax ay _ AA.out).mono ?_; rintro e w1 ⟨rfl, hb⟩; have n0_ := Aside0.mk (BS.below (by repeat (first | exact HS.out | apply BS.drewN | apply BS.drew)) hb); clear HS hb; have HS := n0_; clear n0_))
      clear hc0_0 hf0_0 hc0_1 hf0_1 hc0_2 hf0_2 hc0_3 hf0_3 hc0_4 hf0_4
      have hze_ : ¬ rule = ByteArray.empty := fun e => by
        have hz_ := HZ.out
        rw [e] at hz_
        have h0_ : (ByteArray.empty.size : Int) = 0 := rfl
        omega
      have n0_ := Aside0.mk (BS.drew HS.out)
      clear HS
      have HS := n0_
      clear n0_
      refine start_ (n := 20) (S := fun w' => w'.cell? ⟨g, 0, none⟩ = some (.string rule) ∧ w'.cell? ⟨g, 1, none⟩ = some (.map (some b)) ∧ w'.cell? ⟨g, 2, none⟩ = some (.int .i64 x) ∧ w'.cell? ⟨g, 3, none⟩ = some (.int .i64 y) ∧ w'.cell? ⟨g, 4, none⟩ = some (.int .i64 d) ∧ gL.IM w' b n M) (ds := [16, 19]) #[false, false, false, false, false, false, false, false, false, false, false, false, false, false, false, false, false, false, false, false] (by kernel_rfl) rfl rfl ⟨(blk_cell HS.out.G 0).trans rfl, (blk_cell HS.out.G 1).trans rfl, (blk_cell HS.out.G 2).trans rfl, (blk_cell HS.out.G 3).trans rfl, (blk_cell HS.out.G 4).trans rfl, HS.out.I⟩ (fun hHeld => ?_); refine with_tabW bk.tab2 bk.bits2 (fun HT_ HW_ => ?_)
      generalize World.drew _ = w2 at HS hHeld ⊢
      refine pure_ (i := 0) (N := some 14) (v := ?_) (a' := ?_) (XSq.bA 20 1) rfl rfl (any_of HT_.out (by kernel_rfl)) (fun _ _ _ h => h) (Or.inl ⟨by rfl, ?_⟩) ?_ ?_
      rotate_left
      · intro w'
        go_simp
        with_reducible rfl
      rotate_left
      · simp only [Act.put, XSq.p1, XSq.p2, XSq.p3, i64_w, i32_w]
        rfl
      refine pure_ (i := 1) (N := some 15) (v := ?_) (a' := ?_) (XSq.bA 20 3) rfl rfl (any_of HT_.out (by kernel_rfl)) (fun _ _ _ h => h) (Or.inl ⟨by rfl, ?_⟩) ?_ ?_
      rotate_left
      · intro w'
        go_simp
        with_reducible rfl
      rotate_left
      · simp only [Act.put, XSq.p1, XSq.p2, XSq.p3, i64_w, i32_w]
        rfl
      refine pure_ (i := 2) (N := some 16) (v := ?_) (a' := ?_) (XSq.bA 20 7) rfl rfl (any_of HT_.out (by kernel_rfl)) (fun _ _ _ h => h) (Or.inl ⟨by rfl, ?_⟩) ?_ ?_
      rotate_left
      · intro w'
        go_simp
        with_reducible rfl
      rotate_left
      · simp only [Act.put, XSq.p1, XSq.p2, XSq.p3, i64_w, i32_w]
        rfl
      refine pure_ (i := 3) (N := some 17) (v := ?_) (a' := ?_) (XSq.bA 20 15) rfl rfl (any_of HT_.out (by kernel_rfl)) (fun _ _ _ h => h) (Or.inl ⟨by rfl, ?_⟩) ?_ ?_
      rotate_left
      · intro w'
        go_simp
        with_reducible rfl
      rotate_left
      · simp only [Act.put, XSq.p1, XSq.p2, XSq.p3, i64_w, i32_w]
        rfl
      refine pure_ (i := 4) (N := some 18) (v := ?_) (a' := ?_) (XSq.bA 20 31) rfl rfl (any_of HT_.out (by kernel_rfl)) (fun _ _ _ h => h) (Or.inl ⟨by rfl, ?_⟩) ?_ ?_
      rotate_left
      · intro w'
        go_simp
        with_reducible rfl
      rotate_left
      · simp only [Act.put, XSq.p1, XSq.p2, XSq.p3, i64_w, i32_w]
        rfl
      refine pure_ (i := 6) (N := some 20) (v := ?_) (a' := ?_) (XSq.bA 20 95) rfl rfl (any_of HT_.out (by kernel_rfl)) (fun _ _ _ h => h) (Or.inl ⟨by rfl, ?_⟩) ?_ ?_
      rotate_left
      · intro w'
        go_simp
        with_reducible rfl
      rotate_left
      · simp only [Act.put, XSq.p1, XSq.p2, XSq.p3, i64_w, i32_w]
        rfl
      refine pure_ (i := 8) (N := some 22) (v := ?_) (a' := ?_) (XSq.bA 20 351) rfl rfl (any_of HT_.out (by kernel_rfl)) (fun _ _ _ h => h) (Or.inl ⟨by rfl, ?_⟩) ?_ ?_
      rotate_left
      · intro w'
        go_simp
        with_reducible rfl
      rotate_left
      · simp only [Act.put, XSq.p1, XSq.p2, XSq.p3, i64_w, i32_w]
        rfl
      refine pure_ (i := 9) (N := some 23) (v := ?_) (a' := ?_) (XSq.bA 20 863) rfl rfl (any_of HT_.out (by kernel_rfl)) (fun _ _ _ h => h) (Or.inl ⟨by rfl, ?_⟩) ?_ ?_
      rotate_left
      · intro w'
        go_simp
        with_reducible rfl
      rotate_left
      · simp only [Act.put, XSq.p1, XSq.p2, XSq.p3, i64_w, i32_w]
        rfl
      refine pure_ (i := 10) (N := some 24) (v := ?_) (a' := ?_) (XSq.bA 20 1887) rfl rfl (any_of HT_.out (by kernel_rfl)) (fun _ _ _ h => h) (Or.inl ⟨by rfl, ?_⟩) ?_ ?_
      rotate_left
      · intro w'
        go_simp
        with_reducible rfl
      rotate_left
      · simp only [Act.put, XSq.p1, XSq.p2, XSq.p3, i64_w, i32_w]
        rfl
      refine pure_ (i := 12) (N := some 26) (v := ?_) (a' := ?_) (XSq.bA 20 5983) rfl rfl (any_of HT_.out (by kernel_rfl)) (fun _ _ _ h => h) (Or.inl ⟨by rfl, ?_⟩) ?_ ?_
      rotate_left
      · intro w'
        go_simp
        with_reducible rfl
      rotate_left
      · simp only [Act.put, XSq.p1, XSq.p2, XSq.p3, i64_w, i32_w]
        rfl
      refine take_ (i := 5) (N := some 19) (v := ?_) (a' := ?_) (XSq.bA 20 6015) rfl rfl (take_ofW HT_.out HW_.out (by kernel_rfl)) (fun _ _ _ h => h) (Or.inl ⟨by rfl, ?_⟩) hHeld ?_ ?_
      rotate_left
      · rintro w' ⟨s0, s1, s2, s3, s4, sM⟩
        go_simp
        with_reducible rfl
      rotate_left
      · simp only [Act.put, XSq.p1, XSq.p2, XSq.p3, i64_w, i32_w]
        rfl
      refine pure_ (i := 7) (N := some 21) (v := ?_) (a' := ?_) (XSq.bA 20 6143) rfl rfl (any_of HT_.out (by kernel_rfl)) (fun _ _ _ h => h) (Or.inl ⟨by rfl, ?_⟩) ?_ ?_
      rotate_left
      · intro w'
        go_simp
        with_reducible rfl
      rotate_left
      · simp only [Act.put, XSq.p1, XSq.p2, XSq.p3, i64_w, i32_w]
        rfl
      refine take_ (i := 11) (N := some 25) (v := ?_) (a' := ?_) (XSq.bA 20 8191) rfl rfl (take_ofW HT_.out HW_.out (by kernel_rfl)) (fun _ _ _ h => h) (Or.inl ⟨by rfl, ?_⟩) hHeld ?_ ?_
      rotate_left
      · rintro w' ⟨s0, s1, s2, s3, s4, sM⟩
        go_simp
        with_reducible rfl
      rotate_left
      · simp only [Act.put, XSq.p1, XSq.p2, XSq.p3, i64_w, i32_w]
        rfl
      refine pure_ (i := 13) (N := some 27) (v := ?_) (a' := ?_) (XSq.bA 20 16383) rfl rfl (any_of HT_.out (by kernel_rfl)) (fun _ _ _ h => h) (Or.inl ⟨by rfl, ?_⟩) ?_ ?_
      rotate_left
      · intro w'
        go_simp
        with_reducible rfl
      rotate_left
      · simp only [Act.put, XSq.p1, XSq.p2, XSq.p3, i64_w, i32_w]
        rfl
      refine pure_ (i := 14) (N := some 28) (v := ?_) (a' := ?_) (XSq.bA 20 32767) rfl rfl (any_of HT_.out (by kernel_rfl)) (fun _ _ _ h => h) (Or.inl ⟨by rfl, ?_⟩) ?_ ?_
      rotate_left
      · intro w'
        go_simp
        with_reducible rfl
      rotate_left
      · simp only [Act.put, XSq.p1, XSq.p2, XSq.p3, i64_w, i32_w]
        rfl
      refine pure_ (i := 15) (N := some 29) (v := ?_) (a' := ?_) (XSq.bA 20 65535) rfl rfl (any_of HT_.out (by kernel_rfl)) (fun _ _ _ h => h) (Or.inl ⟨by rfl, ?_⟩) ?_ ?_
      rotate_left
      · intro w'
        go_simp
        with_reducible rfl
      rotate_left
      · simp only [Act.put, XSq.p1, XSq.p2, XSq.p3, i64_w, i32_w]
        rfl
      have hc2_0 : w2.cell? ⟨g, 0, none⟩ = some (.string rule) := (blk_cell HS.out.G 0).trans rfl
      have hc2_1 : w2.cell? ⟨g, 1, none⟩ = some (.map (some b)) := (blk_cell HS.out.G 1).trans rfl
      have hc2_2 : w2.cell? ⟨g, 2, none⟩ = some (.int .i64 x) := (blk_cell HS.out.G 2).trans rfl
      have hc2_3 : w2.cell? ⟨g, 3, none⟩ = some (.int .i64 y) := (blk_cell HS.out.G 3).trans rfl
      have hc2_4 : w2.cell? ⟨g, 4, none⟩ = some (.int .i64 d) := (blk_cell HS.out.G 4).trans rfl
      have hf2_0 : w2.frozen? ⟨g, 0, none⟩ = false := blk_frozen HS.out.G 0
      have hf2_1 : w2.frozen? ⟨g, 1, none⟩ = false := blk_frozen HS.out.G 1
      have hf2_2 : w2.frozen? ⟨g, 2, none⟩ = false := blk_frozen HS.out.G 2
      have hf2_3 : w2.frozen? ⟨g, 3, none⟩ = false := blk_frozen HS.out.G 3
      have hf2_4 : w2.frozen? ⟨g, 4, none⟩ = false := blk_frozen HS.out.G 4
      refine last_ (i := 16) (N := none) (XSq.bA 20 131071) rfl rfl (one_of HT_.out (by kernel_rfl)) (by decide) (fun K hK => ?_)
      refine skip_ (w1 := ?_) (by rfl) rfl ?_ ?_
      rotate_left
      · go_simp
        rfl
      refine hK.out _ _ ?_
      clear hK K
      have n0_ := Aside0.mk (BS.putX HS.out x1)
      clear HS hHeld hc2_0 hf2_0 hc2_1 hf2_1 hc2_2 hf2_2 hc2_3 hf2_3 hc2_4 hf2_4
      have HS := n0_
      clear n0_
      rw [HE.out.1]
      try rw [show ∀ (n_ : Nat) (p_ : Addr) (v_ : Value), (w2.drewN n_).setCell p_ v_ = (w2.setCell p_ v_).drewN n_ from fun _ _ _ => rfl]
      generalize (w2.setCell ⟨g, 2, none⟩ (.int .i64 x1)) = w3 at HS ⊢
      refine pure_ (i := 17) (N := some 30) (v := ?_) (a' := ?_) (XSq.bA 20 262143) rfl rfl (any_of HT_.out (by kernel_rfl)) (fun _ _ _ h => h) (Or.inl ⟨by rfl, ?_⟩) ?_ ?_
      rotate_left
      · intro w'
        go_simp
        with_reducible rfl
      rotate_left
      · simp only [Act.put, XSq.p1, XSq.p2, XSq.p3, i64_w, i32_w]
        rfl
      refine pure_ (i := 18) (N := some 31) (v := ?_) (a' := ?_) (XSq.bA 20 524287) rfl rfl (any_of HT_.out (by kernel_rfl)) (fun _ _ _ h => h) (Or.inl ⟨by rfl, ?_⟩) ?_ ?_
      rotate_left
      · intro w'
        go_simp
        with_reducible rfl
      rotate_left
      · simp only [Act.put, XSq.p1, XSq.p2, XSq.p3, i64_w, i32_w]
        rfl
      have hc3_0 : w3.cell? ⟨g, 0, none⟩ = some (.string rule) := (blk_cell HS.out.G 0).trans rfl
      have hc3_1 : w3.cell? ⟨g, 1, none⟩ = some (.map (some b)) := (blk_cell HS.out.G 1).trans rfl
      have hc3_2 : w3.cell? ⟨g, 2, none⟩ = some (.int .i64 x1) := (blk_cell HS.out.G 2).trans rfl
      have hc3_3 : w3.cell? ⟨g, 3, none⟩ = some (.int .i64 y) := (blk_cell HS.out.G 3).trans rfl
      have hc3_4 : w3.cell? ⟨g, 4, none⟩ = some (.int .i64 d) := (blk_cell HS.out.G 4).trans rfl
      have hf3_0 : w3.frozen? ⟨g, 0, none⟩ = false := blk_frozen HS.out.G 0
      have hf3_1 : w3.frozen? ⟨g, 1, none⟩ = false := blk_frozen HS.out.G 1
      have hf3_2 : w3.frozen? ⟨g, 2, none⟩ = false := blk_frozen HS.out.G 2
      have hf3_3 : w3.frozen? ⟨g, 3, none⟩ = false := blk_frozen HS.out.G 3
      have hf3_4 : w3.frozen? ⟨g, 4, none⟩ = false := blk_frozen HS.out.G 4
      refine last_ (i := 19) (N := none) (XSq.bA 20 1048575) rfl rfl (one_of HT_.out (by kernel_rfl)) (by decide) (fun K hK => ?_)
      refine skip_ (w1 := ?_) (by rfl) rfl ?_ ?_
      rotate_left
      · go_simp
        rfl
      refine hK.out _ _ ?_
      clear hK K
      have n0_ := Aside0.mk (BS.putY HS.out y1)
      clear HS hc3_0 hf3_0 hc3_1 hf3_1 hc3_2 hf3_2 hc3_3 hf3_3 hc3_4 hf3_4
      have HS := n0_
      clear n0_
      rw [HE.out.2.1]
      try rw [show ∀ (n_ : Nat) (p_ : Addr) (v_ : Value), (w3.drewN n_).setCell p_ v_ = (w3.setCell p_ v_).drewN n_ from fun _ _ _ => rfl]
      generalize (w3.setCell ⟨g, 3, none⟩ (.int .i64 y1)) = w4 at HS ⊢
      refine done_ (done_of HT_.out (by kernel_rfl)) ?_
      clear HT_ HW_
      try go_wp2
      have n0_ := Aside0.mk (BS.drew HS.out)
      clear HS
      have HS := n0_
      clear n0_
      refine start_ (n := 28) (S := fun w' => w'.cell? ⟨g, 0, none⟩ = some (.string rule) ∧ w'.cell? ⟨g, 1, none⟩ = some (.map (some b)) ∧ w'.cell? ⟨g, 2, none⟩ = some (.int .i64 x1) ∧ w'.cell? ⟨g, 3, none⟩ = some (.int .i64 y1) ∧ w'.cell? ⟨g, 4, none⟩ = some (.int .i64 d) ∧ gL.IM w' b n M) (ds := []) #[false, false, false, false, false, false, false, false, false, false, false, false, false, false, false, false, false, false, false, false, false, false, false, false, false, false, false, false] (by kernel_rfl) rfl rfl ⟨(blk_cell HS.out.G 0).trans rfl, (blk_cell HS.out.G 1).trans rfl, (blk_cell HS.out.G 2).trans rfl, (blk_cell HS.out.G 3).trans rfl, (blk_cell HS.out.G 4).trans rfl, HS.out.I⟩ (fun hHeld => ?_); refine with_tabW bk.tab3 bk.bits3 (fun HT_ HW_ => ?_)
      generalize World.drew _ = w5 at HS hHeld ⊢
      refine pure_ (i := 0) (N := some 32) (v := ?_) (a' := ?_) (XSq.bA 28 1) rfl rfl (any_of HT_.out (by kernel_rfl)) (fun _ _ _ h => h) (Or.inl ⟨by rfl, ?_⟩) ?_ ?_
      rotate_left
      · intro w'
        go_simp
        with_reducible rfl
      rotate_left
      · simp only [Act.put, XSq.p1, XSq.p2, XSq.p3, i64_w, i32_w]
        rfl
      refine pure_ (i := 1) (N := some 33) (v := ?_) (a' := ?_) (XSq.bA 28 3) rfl rfl (any_of HT_.out (by kernel_rfl)) (fun _ _ _ h => h) (Or.inl ⟨by rfl, ?_⟩) ?_ ?_
      rotate_left
      · intro w'
        go_simp
        with_reducible rfl
      rotate_left
      · simp only [Act.put, XSq.p1, XSq.p2, XSq.p3, i64_w, i32_w]
        rfl
      refine pure_ (i := 2) (N := some 34) (v := ?_) (a' := ?_) (XSq.bA 28 7) rfl rfl (any_of HT_.out (by kernel_rfl)) (fun _ _ _ h => h) (Or.inl ⟨by rfl, ?_⟩) ?_ ?_
      rotate_left
      · intro w'
        go_simp
        with_reducible rfl
      rotate_left
      · simp only [Act.put, XSq.p1, XSq.p2, XSq.p3, i64_w, i32_w]
        rfl
      refine pure_ (i := 4) (N := some 36) (v := ?_) (a' := ?_) (XSq.bA 28 23) rfl rfl (any_of HT_.out (by kernel_rfl)) (fun _ _ _ h => h) (Or.inl ⟨by rfl, ?_⟩) ?_ ?_
      rotate_left
      · intro w'
        go_simp
        with_reducible rfl
      rotate_left
      · simp only [Act.put, XSq.p1, XSq.p2, XSq.p3, i64_w, i32_w]
        rfl
      refine pure_ (i := 5) (N := some 37) (v := ?_) (a' := ?_) (XSq.bA 28 55) rfl rfl (any_of HT_.out (by kernel_rfl)) (fun _ _ _ h => h) (Or.inl ⟨by rfl, ?_⟩) ?_ ?_
      rotate_left
      · intro w'
        go_simp
        with_reducible rfl
      rotate_left
      · simp only [Act.put, XSq.p1, XSq.p2, XSq.p3, i64_w, i32_w]
        rfl
      refine pure_ (i := 6) (N := some 38) (v := ?_) (a' := ?_) (XSq.bA 28 119) rfl rfl (any_of HT_.out (by kernel_rfl)) (fun _ _ _ h => h) (Or.inl ⟨by rfl, ?_⟩) ?_ ?_
      rotate_left
      · intro w'
        go_simp
        with_reducible rfl
      rotate_left
      · simp only [Act.put, XSq.p1, XSq.p2, XSq.p3, i64_w, i32_w]
        rfl
      refine pure_ (i := 8) (N := some 40) (v := ?_) (a' := ?_) (XSq.bA 28 375) rfl rfl (any_of HT_.out (by kernel_rfl)) (fun _ _ _ h => h) (Or.inl ⟨by rfl, ?_⟩) ?_ ?_
      rotate_left
      · intro w'
        go_simp
        with_reducible rfl
      rotate_left
      · simp only [Act.put, XSq.p1, XSq.p2, XSq.p3, i64_w, i32_w]
        rfl
      refine pure_ (i := 9) (N := some 41) (v := ?_) (a' := ?_) (XSq.bA 28 887) rfl rfl (any_of HT_.out (by kernel_rfl)) (fun _ _ _ h => h) (Or.inl ⟨by rfl, ?_⟩) ?_ ?_
      rotate_left
      · intro w'
        go_simp
        with_reducible rfl
      rotate_left
      · simp only [Act.put, XSq.p1, XSq.p2, XSq.p3, i64_w, i32_w]
        rfl
      refine pure_ (i := 10) (N := some 42) (v := ?_) (a' := ?_) (XSq.bA 28 1911) rfl rfl (any_of HT_.out (by kernel_rfl)) (fun _ _ _ h => h) (Or.inl ⟨by rfl, ?_⟩) ?_ ?_
      rotate_left
      · intro w'
        go_simp
        with_reducible rfl
      rotate_left
      · simp only [Act.put, XSq.p1, XSq.p2, XSq.p3, i64_w, i32_w]
        rfl
      refine pure_ (i := 14) (N := some 46) (v := ?_) (a' := ?_) (XSq.bA 28 18295) rfl rfl (any_of HT_.out (by kernel_rfl)) (fun _ _ _ h => h) (Or.inl ⟨by rfl, ?_⟩) ?_ ?_
      rotate_left
      · intro w'
        go_simp
        with_reducible rfl
      rotate_left
      · simp only [Act.put, XSq.p1, XSq.p2, XSq.p3, i64_w, i32_w]
        rfl
      refine pure_ (i := 15) (N := some 47) (v := ?_) (a' := ?_) (XSq.bA 28 51063) rfl rfl (any_of HT_.out (by kernel_rfl)) (fun _ _ _ h => h) (Or.inl ⟨by rfl, ?_⟩) ?_ ?_
      rotate_left
      · intro w'
        go_simp
        with_reducible rfl
      rotate_left
      · simp only [Act.put, XSq.p1, XSq.p2, XSq.p3, i64_w, i32_w]
        rfl
      refine pure_ (i := 16) (N := some 48) (v := ?_) (a' := ?_) (XSq.bA 28 116599) rfl rfl (any_of HT_.out (by kernel_rfl)) (fun _ _ _ h => h) (Or.inl ⟨by rfl, ?_⟩) ?_ ?_
      rotate_left
      · intro w'
        go_simp
        with_reducible rfl
      rotate_left
      · simp only [Act.put, XSq.p1, XSq.p2, XSq.p3, i64_w, i32_w]
        rfl
      refine pure_ (i := 21) (N := some 53) (v := ?_) (a' := ?_) (XSq.bA 28 2213751) rfl rfl (any_of HT_.out (by kernel_rfl)) (fun _ _ _ h => h) (Or.inl ⟨by rfl, ?_⟩) ?_ ?_
      rotate_left
      · intro w'
        go_simp
        with_reducible rfl
      rotate_left
      · simp only [Act.put, XSq.p1, XSq.p2, XSq.p3, i64_w, i32_w]
        rfl
      refine pure_ (i := 22) (N := some 54) (v := ?_) (a' := ?_) (XSq.bA 28 6408055) rfl rfl (any_of HT_.out (by kernel_rfl)) (fun _ _ _ h => h) (Or.inl ⟨by rfl, ?_⟩) ?_ ?_
      rotate_left
      · intro w'
        go_simp
        with_reducible rfl
      rotate_left
      · simp only [Act.put, XSq.p1, XSq.p2, XSq.p3, i64_w, i32_w]
        rfl
      refine pure_ (i := 23) (N := some 55) (v := ?_) (a' := ?_) (XSq.bA 28 14796663) rfl rfl (any_of HT_.out (by kernel_rfl)) (fun _ _ _ h => h) (Or.inl ⟨by rfl, ?_⟩) ?_ ?_
      rotate_left
      · intro w'
        go_simp
        with_reducible rfl
      rotate_left
      · simp only [Act.put, XSq.p1, XSq.p2, XSq.p3, i64_w, i32_w]
        rfl
      refine take_ (i := 3) (N := some 35) (v := ?_) (a' := ?_) (XSq.bA 28 14796671) rfl rfl (take_ofW HT_.out HW_.out (by kernel_rfl)) (fun _ _ _ h => h) (Or.inl ⟨by rfl, ?_⟩) hHeld ?_ ?_
      rotate_left
      · rintro w' ⟨s0, s1, s2, s3, s4, sM⟩
        go_simp
        with_reducible rfl
      rotate_left
      · simp only [Act.put, XSq.p1, XSq.p2, XSq.p3, i64_w, i32_w]
        rfl
      refine take_ (i := 7) (N := some 39) (v := ?_) (a' := ?_) (XSq.bA 28 14796799) rfl rfl (take_ofW HT_.out HW_.out (by kernel_rfl)) (fun _ _ _ h => h) (Or.inl ⟨by rfl, ?_⟩) hHeld ?_ ?_
      rotate_left
      · rintro w' ⟨s0, s1, s2, s3, s4, sM⟩
        go_simp
        with_reducible rfl
      rotate_left
      · simp only [Act.put, XSq.p1, XSq.p2, XSq.p3, i64_w, i32_w]
        rfl
      refine take_ (i := 11) (N := some 43) (v := ?_) (a' := ?_) (XSq.bA 28 14798847) rfl rfl (take_ofW HT_.out HW_.out (by kernel_rfl)) (fun _ _ _ h => h) (Or.inl ⟨by rfl, ?_⟩) hHeld ?_ ?_
      rotate_left
      · rintro w' ⟨s0, s1, s2, s3, s4, sM⟩
        go_simp
        with_reducible rfl
      rotate_left
      · simp only [Act.put, XSq.p1, XSq.p2, XSq.p3, i64_w, i32_w]
        rfl
      refine pure_ (i := 12) (N := some 44) (v := ?_) (a' := ?_) (XSq.bA 28 14802943) rfl rfl (any_of HT_.out (by kernel_rfl)) (fun _ _ _ h => h) (Or.inl ⟨by rfl, ?_⟩) ?_ ?_
      rotate_left
      · intro w'
        go_simp
        with_reducible rfl
      rotate_left
      · simp only [Act.put, XSq.p1, XSq.p2, XSq.p3, i64_w, i32_w]
        rfl
      refine take_ (i := 13) (N := some 45) (v := ?_) (a' := ?_) (XSq.bA 28 14811135) rfl rfl (take_ofW HT_.out HW_.out (by kernel_rfl)) (fun _ _ _ h => h) (Or.inl ⟨by rfl, ?_⟩) hHeld ?_ ?_
      rotate_left
      · rintro w' ⟨s0, s1, s2, s3, s4, sM⟩
        have hl_ := XMapL.look_run sM HI.out.1 HI.out.2.1 gL.keyP gL.lawP Tryd.underlying63 (gL.zb _)
        rw [HE.out.2.2.1] at hl_
        go_simp
        with_reducible rfl
      rotate_left
      · simp only [Act.put, XSq.p1, XSq.p2, XSq.p3, i64_w, i32_w]
        rfl
      refine take_ (i := 17) (N := some 49) (v := ?_) (a' := ?_) (XSq.bA 28 14942207) rfl rfl (take_ofW HT_.out HW_.out (by kernel_rfl)) (fun _ _ _ h => h) (Or.inl ⟨by rfl, ?_⟩) hHeld ?_ ?_
      rotate_left
      · rintro w' ⟨s0, s1, s2, s3, s4, sM⟩
        go_simp
        with_reducible rfl
      rotate_left
      · simp only [Act.put, XSq.p1, XSq.p2, XSq.p3, i64_w, i32_w]
        rfl
      refine pure_ (i := 18) (N := some 50) (v := ?_) (a' := ?_) (XSq.bA 28 15204351) rfl rfl (any_of HT_.out (by kernel_rfl)) (fun _ _ _ h => h) (Or.inl ⟨by rfl, ?_⟩) ?_ ?_
      rotate_left
      · intro w'
        go_simp
        with_reducible rfl
      rotate_left
      · simp only [Act.put, XSq.p1, XSq.p2, XSq.p3, i64_w, i32_w]
        rfl
      refine pure_ (i := 19) (N := some 51) (v := ?_) (a' := ?_) (XSq.bA 28 15728639) rfl rfl (any_of HT_.out (by kernel_rfl)) (fun _ _ _ h => h) (Or.inl ⟨by rfl, ?_⟩) ?_ ?_
      rotate_left
      · intro w'
        go_simp
        with_reducible rfl
      rotate_left
      · simp only [Act.put, XSq.p1, XSq.p2, XSq.p3, i64_w, i32_w]
        rfl
      refine pure_ (i := 20) (N := some 52) (v := ?_) (a' := ?_) (XSq.bA 28 16777215) rfl rfl (any_of HT_.out (by kernel_rfl)) (fun _ _ _ h => h) (Or.inl ⟨by rfl, ?_⟩) ?_ ?_
      rotate_left
      · intro w'
        go_simp
        with_reducible rfl
      rotate_left
      · simp only [Act.put, XSq.p1, XSq.p2, XSq.p3, i64_w, i32_w]
        rfl
      refine take_ (i := 24) (N := some 56) (v := ?_) (a' := ?_) (XSq.bA 28 33554431) rfl rfl (take_ofW HT_.out HW_.out (by kernel_rfl)) (fun _ _ _ h => h) (Or.inl ⟨by rfl, ?_⟩) hHeld ?_ ?_
      rotate_left
      · rintro w' ⟨s0, s1, s2, s3, s4, sM⟩
        go_simp
        with_reducible rfl
      rotate_left
      · simp only [Act.put, XSq.p1, XSq.p2, XSq.p3, i64_w, i32_w]
        rfl
      refine pure_ (i := 25) (N := some 57) (v := ?_) (a' := ?_) (XSq.bA 28 67108863) rfl rfl (any_of HT_.out (by kernel_rfl)) (fun _ _ _ h => h) (Or.inl ⟨by rfl, ?_⟩) ?_ ?_
      rotate_left
      · intro w'
        go_simp
        with_reducible rfl
      rotate_left
      · simp only [Act.put, XSq.p1, XSq.p2, XSq.p3, i64_w, i32_w]
        rfl
      refine pure_ (i := 26) (N := some 58) (v := ?_) (a' := ?_) (XSq.bA 28 134217727) rfl rfl (any_of HT_.out (by kernel_rfl)) (fun _ _ _ h => h) (Or.inl ⟨by rfl, ?_⟩) ?_ ?_
      rotate_left
      · intro w'
        go_simp
        rw [HE.out.2.2.2.1]
      rotate_left
      · simp only [Act.put, XSq.p1, XSq.p2, XSq.p3, i64_w, i32_w]
        rfl
      refine pure_ (i := 27) (N := some 5) (v := ?_) (a' := ?_) (XSq.bA 28 268435455) rfl rfl (any_of HT_.out (by kernel_rfl)) (fun _ _ _ h => h) (Or.inl ⟨by rfl, ?_⟩) ?_ ?_
      rotate_left
      · intro w'
        go_simp
        with_reducible rfl
      rotate_left
      · simp only [Act.put, XSq.p1, XSq.p2, XSq.p3, i64_w, i32_w]
        rfl
      refine done_ (done_of HT_.out (by kernel_rfl)) ?_
      clear HT_ HW_
      try go_wp2
      have p1_ : 0 ≤ c1 := HZ.out.1
      have q1_ : c1 < (rule.size : Int) := HZ.out.2
      have p2_ : decide (0 ≤ c1) = true := decide_eq_true p1_
      have q2_ : decide (c1 < (rule.size : Int)) = true := decide_eq_true q1_
      have hx_ := bt_at rule c1
      replace p1_ := eq_true p1_
      replace q1_ := eq_true q1_
      have n0_ := Aside0.mk (BS.drew HS.out)
      clear HS
      have HS := n0_
      clear n0_
      refine start_ (n := 18) (S := fun w' => w'.cell? ⟨g, 0, none⟩ = some (.string rule) ∧ w'.cell? ⟨g, 1, none⟩ = some (.map (some b)) ∧ w'.cell? ⟨g, 2, none⟩ = some (.int .i64 x1) ∧ w'.cell? ⟨g, 3, none⟩ = some (.int .i64 y1) ∧ w'.cell? ⟨g, 4, none⟩ = some (.int .i64 d) ∧ gL.IM w' b n M) (ds := [17]) #[false, false, false, false, false, false, false, false, false, false, false, false, false, false, false, false, false, false] (by kernel_rfl) rfl rfl ⟨(blk_cell HS.out.G 0).trans rfl, (blk_cell HS.out.G 1).trans rfl, (blk_cell HS.out.G 2).trans rfl, (blk_cell HS.out.G 3).trans rfl, (blk_cell HS.out.G 4).trans rfl, HS.out.I⟩ (fun hHeld => ?_); refine with_tabW bk.tab4 bk.bits4 (fun HT_ HW_ => ?_)
      generalize World.drew _ = w6 at HS hHeld ⊢
      refine pure_ (i := 0) (N := some 59) (v := ?_) (a' := ?_) (XSq.bA 18 1) rfl rfl (any_of HT_.out (by kernel_rfl)) (fun _ _ _ h => h) (Or.inl ⟨by rfl, ?_⟩) ?_ ?_
      rotate_left
      · intro w'
        go_simp
        with_reducible rfl
      rotate_left
      · simp only [Act.put, XSq.p1, XSq.p2, XSq.p3, i64_w, i32_w]
        rfl
      refine pure_ (i := 1) (N := some 60) (v := ?_) (a' := ?_) (XSq.bA 18 3) rfl rfl (any_of HT_.out (by kernel_rfl)) (fun _ _ _ h => h) (Or.inl ⟨by rfl, ?_⟩) ?_ ?_
      rotate_left
      · intro w'
        go_simp
        with_reducible rfl
      rotate_left
      · simp only [Act.put, XSq.p1, XSq.p2, XSq.p3, i64_w, i32_w]
        rfl
      refine pure_ (i := 2) (N := some 61) (v := ?_) (a' := ?_) (XSq.bA 18 7) rfl rfl (any_of HT_.out (by kernel_rfl)) (fun _ _ _ h => h) (Or.inl ⟨by rfl, ?_⟩) ?_ ?_
      rotate_left
      · intro w'
        go_simp
        with_reducible rfl
      rotate_left
      · simp only [Act.put, XSq.p1, XSq.p2, XSq.p3, i64_w, i32_w]
        rfl
      refine pure_ (i := 3) (N := some 62) (v := ?_) (a' := ?_) (XSq.bA 18 15) rfl rfl (any_of HT_.out (by kernel_rfl)) (fun _ _ _ h => h) (Or.inl ⟨by rfl, ?_⟩) ?_ ?_
      rotate_left
      · intro w'
        go_simp
        with_reducible rfl
      rotate_left
      · simp only [Act.put, XSq.p1, XSq.p2, XSq.p3, i64_w, i32_w]
        rfl
      refine pure_ (i := 6) (N := some 65) (v := ?_) (a' := ?_) (XSq.bA 18 79) rfl rfl (any_of HT_.out (by kernel_rfl)) (fun _ _ _ h => h) (Or.inl ⟨by rfl, ?_⟩) ?_ ?_
      rotate_left
      · intro w'
        go_simp
        with_reducible rfl
      rotate_left
      · simp only [Act.put, XSq.p1, XSq.p2, XSq.p3, i64_w, i32_w]
        rfl
      refine pure_ (i := 7) (N := some 66) (v := ?_) (a' := ?_) (XSq.bA 18 207) rfl rfl (any_of HT_.out (by kernel_rfl)) (fun _ _ _ h => h) (Or.inl ⟨by rfl, ?_⟩) ?_ ?_
      rotate_left
      · intro w'
        go_simp
        with_reducible rfl
      rotate_left
      · simp only [Act.put, XSq.p1, XSq.p2, XSq.p3, i64_w, i32_w]
        rfl
      refine pure_ (i := 8) (N := some 67) (v := ?_) (a' := ?_) (XSq.bA 18 463) rfl rfl (any_of HT_.out (by kernel_rfl)) (fun _ _ _ h => h) (Or.inl ⟨by rfl, ?_⟩) ?_ ?_
      rotate_left
      · intro w'
        go_simp
        with_reducible rfl
      rotate_left
      · simp only [Act.put, XSq.p1, XSq.p2, XSq.p3, i64_w, i32_w]
        rfl
      refine pure_ (i := 10) (N := some 69) (v := ?_) (a' := ?_) (XSq.bA 18 1487) rfl rfl (any_of HT_.out (by kernel_rfl)) (fun _ _ _ h => h) (Or.inl ⟨by rfl, ?_⟩) ?_ ?_
      rotate_left
      · intro w'
        go_simp
        with_reducible rfl
      rotate_left
      · simp only [Act.put, XSq.p1, XSq.p2, XSq.p3, i64_w, i32_w]
        rfl
      refine take_ (i := 4) (N := some 63) (v := ?_) (a' := ?_) (XSq.bA 18 1503) rfl rfl (take_ofW HT_.out HW_.out (by kernel_rfl)) (fun _ _ _ h => h) (Or.inl ⟨by rfl, ?_⟩) hHeld ?_ ?_
      rotate_left
      · rintro w' ⟨s0, s1, s2, s3, s4, sM⟩
        go_simp
        with_reducible rfl
      rotate_left
      · simp only [Act.put, XSq.p1, XSq.p2, XSq.p3, i64_w, i32_w]
        rfl
      refine pure_ (i := 5) (N := some 64) (v := ?_) (a' := ?_) (XSq.bA 18 1535) rfl rfl (any_of HT_.out (by kernel_rfl)) (fun _ _ _ h => h) (Or.inl ⟨by rfl, ?_⟩) ?_ ?_
      rotate_left
      · intro w'
        go_simp
        with_reducible rfl
      rotate_left
      · simp only [Act.put, XSq.p1, XSq.p2, XSq.p3, i64_w, i32_w]
        rfl
      refine take_ (i := 9) (N := some 68) (v := ?_) (a' := ?_) (XSq.bA 18 2047) rfl rfl (take_ofW HT_.out HW_.out (by kernel_rfl)) (fun _ _ _ h => h) (Or.inl ⟨by rfl, ?_⟩) hHeld ?_ ?_
      rotate_left
      · rintro w' ⟨s0, s1, s2, s3, s4, sM⟩
        go_simp
        with_reducible rfl
      rotate_left
      · simp only [Act.put, XSq.p1, XSq.p2, XSq.p3, i64_w, i32_w]
        rfl
      refine pure_ (i := 11) (N := some 70) (v := ?_) (a' := ?_) (XSq.bA 18 4095) rfl rfl (any_of HT_.out (by kernel_rfl)) (fun _ _ _ h => h) (Or.inl ⟨by rfl, ?_⟩) ?_ ?_
      rotate_left
      · intro w'
        go_simp
        with_reducible rfl
      rotate_left
      · simp only [Act.put, XSq.p1, XSq.p2, XSq.p3, i64_w, i32_w]
        rfl
      refine one_ (i := 12) (N := some 71) (XSq.bA 18 8191) rfl rfl (one_of HT_.out (by kernel_rfl)) (by decide) (fun K hK => ?_)
      refine goes_ Tryd.func41 (by kernel_rfl) rfl #[.int .u8 (bt rule c1)] (by rfl) rfl rfl (by (try simp only [List.map_toArray, List.map_cons, List.map_nil]); first | done | rfl | (go_simp; done) | (go_simp; rfl)) ?_
      refine (impl_quarters.calls (bt rule c1) q _ AQ.out).mono ?_
      rintro e w7 ⟨rfl, ⟨nd, rfl⟩⟩
      refine ⟨_, rfl, ?_⟩
      have n0_ := Aside0.mk (BS.drewN HS.out nd)
      clear HS
      have HS := n0_
      clear n0_
      refine hK.out _ _ ⟨(blk_cell HS.out.G 0).trans rfl, (blk_cell HS.out.G 1).trans rfl, (blk_cell HS.out.G 2).trans rfl, (blk_cell HS.out.G 3).trans rfl, (blk_cell HS.out.G 4).trans rfl, HS.out.I⟩ (fun hHeld => ?_)
      clear hK K
      refine norm_ (a' := ?_) ?_ ?_
      rotate_left
      · show Act.put _ (some 71) _ = _
        simp only [Act.put, XSq.p1, XSq.p2, XSq.p3, i64_w, i32_w]
        rfl
      refine pure_ (i := 13) (N := some 72) (v := ?_) (a' := ?_) (XSq.bA 18 16383) rfl rfl (any_of HT_.out (by kernel_rfl)) (fun _ _ _ h => h) (Or.inl ⟨by rfl, ?_⟩) ?_ ?_
      rotate_left
      · intro w'
        go_simp
        with_reducible rfl
      rotate_left
      · simp only [Act.put, XSq.p1, XSq.p2, XSq.p3, i64_w, i32_w]
        rfl
      refine pure_ (i := 14) (N := some 73) (v := ?_) (a' := ?_) (XSq.bA 18 32767) rfl rfl (any_of HT_.out (by kernel_rfl)) (fun _ _ _ h => h) (Or.inl ⟨by rfl, ?_⟩) ?_ ?_
      rotate_left
      · intro w'
        go_simp
        with_reducible rfl
      rotate_left
      · simp only [Act.put, XSq.p1, XSq.p2, XSq.p3, i64_w, i32_w]
        rfl
      refine pure_ (i := 15) (N := some 74) (v := ?_) (a' := ?_) (XSq.bA 18 65535) rfl rfl (any_of HT_.out (by kernel_rfl)) (fun _ _ _ h => h) (Or.inl ⟨by rfl, ?_⟩) ?_ ?_
      rotate_left
      · intro w'
        go_simp
        with_reducible rfl
      rotate_left
      · simp only [Act.put, XSq.p1, XSq.p2, XSq.p3, i64_w, i32_w]
        rfl
      refine pure_ (i := 16) (N := some 75) (v := ?_) (a' := ?_) (XSq.bA 18 131071) rfl rfl (any_of HT_.out (by kernel_rfl)) (fun _ _ _ h => h) (Or.inl ⟨by rfl, ?_⟩) ?_ ?_
      rotate_left
      · intro w'
        go_simp
        with_reducible rfl
      rotate_left
      · simp only [Act.put, XSq.p1, XSq.p2, XSq.p3, i64_w, i32_w]
        rfl
      generalize World.drewN _ nd = w7 at HS hHeld ⊢
      have hc7_0 : w7.cell? ⟨g, 0, none⟩ = some (.string rule) := (blk_cell HS.out.G 0).trans rfl
      have hc7_1 : w7.cell? ⟨g, 1, none⟩ = some (.map (some b)) := (blk_cell HS.out.G 1).trans rfl
      have hc7_2 : w7.cell? ⟨g, 2, none⟩ = some (.int .i64 x1) := (blk_cell HS.out.G 2).trans rfl
      have hc7_3 : w7.cell? ⟨g, 3, none⟩ = some (.int .i64 y1) := (blk_cell HS.out.G 3).trans rfl
      have hc7_4 : w7.cell? ⟨g, 4, none⟩ = some (.int .i64 d) := (blk_cell HS.out.G 4).trans rfl
      have hf7_0 : w7.frozen? ⟨g, 0, none⟩ = false := blk_frozen HS.out.G 0
      have hf7_1 : w7.frozen? ⟨g, 1, none⟩ = false := blk_frozen HS.out.G 1
      have hf7_2 : w7.frozen? ⟨g, 2, none⟩ = false := blk_frozen HS.out.G 2
      have hf7_3 : w7.frozen? ⟨g, 3, none⟩ = false := blk_frozen HS.out.G 3
      have hf7_4 : w7.frozen? ⟨g, 4, none⟩ = false := blk_frozen HS.out.G 4
      refine last_ (i := 17) (N := none) (XSq.bA 18 262143) rfl rfl (one_of HT_.out (by kernel_rfl)) (by decide) (fun K hK => ?_)
      refine skip_ (w1 := ?_) (by rfl) rfl ?_ ?_
      rotate_left
      · go_simp
        rfl
      refine hK.out _ _ ?_
      clear hK K
      have n0_ := Aside0.mk (BS.putD HS.out d1)
      clear HS hc7_0 hf7_0 hc7_1 hf7_1 hc7_2 hf7_2 hc7_3 hf7_3 hc7_4 hf7_4
      have HS := n0_
      clear n0_
      rw [HE.out.2.2.2.2.1]
      generalize (World.setCell _ ⟨g, 4, none⟩ (.int .i64 d1)) = w8 at HS ⊢
      refine done_ (done_of HT_.out (by kernel_rfl)) ?_
      clear HT_ HW_
      clear hx_ p1_ q1_ p2_ q2_
      try go_wp2
      have n0_ := Aside0.mk (BS.drew HS.out)
      clear HS
      have HS := n0_
      clear n0_
      refine start_ (n := 11) (S := fun w' => w'.cell? ⟨g, 0, none⟩ = some (.string rule) ∧ w'.cell? ⟨g, 1, none⟩ = some (.map (some b)) ∧ w'.cell? ⟨g, 2, none⟩ = some (.int .i64 x1) ∧ w'.cell? ⟨g, 3, none⟩ = some (.int .i64 y1) ∧ w'.cell? ⟨g, 4, none⟩ = some (.int .i64 d1)) (ds := []) #[false, false, false, false, false, false, false, false, false, false, false] (by kernel_rfl) rfl rfl ⟨(blk_cell HS.out.G 0).trans rfl, (blk_cell HS.out.G 1).trans rfl, (blk_cell HS.out.G 2).trans rfl, (blk_cell HS.out.G 3).trans rfl, (blk_cell HS.out.G 4).trans rfl⟩ (fun hHeld => ?_); refine with_tabW bk.tab5 bk.bits5 (fun HT_ HW_ => ?_)
      generalize World.drew _ = w8 at HS hHeld ⊢
      refine pure_ (i := 0) (N := some 76) (v := ?_) (a' := ?_) (XSq.bA 11 1) rfl rfl (any_of HT_.out (by kernel_rfl)) (fun _ _ _ h => h) (Or.inl ⟨by rfl, ?_⟩) ?_ ?_
      rotate_left
      · intro w'
        go_simp
        with_reducible rfl
      rotate_left
      · simp only [Act.put, XSq.p1, XSq.p2, XSq.p3, i64_w, i32_w]
        rfl
      refine pure_ (i := 1) (N := some 77) (v := ?_) (a' := ?_) (XSq.bA 11 3) rfl rfl (any_of HT_.out (by kernel_rfl)) (fun _ _ _ h => h) (Or.inl ⟨by rfl, ?_⟩) ?_ ?_
      rotate_left
      · intro w'
        go_simp
        with_reducible rfl
      rotate_left
      · simp only [Act.put, XSq.p1, XSq.p2, XSq.p3, i64_w, i32_w]
        rfl
      refine pure_ (i := 2) (N := some 78) (v := ?_) (a' := ?_) (XSq.bA 11 7) rfl rfl (any_of HT_.out (by kernel_rfl)) (fun _ _ _ h => h) (Or.inl ⟨by rfl, ?_⟩) ?_ ?_
      rotate_left
      · intro w'
        go_simp
        with_reducible rfl
      rotate_left
      · simp only [Act.put, XSq.p1, XSq.p2, XSq.p3, i64_w, i32_w]
        rfl
      refine pure_ (i := 3) (N := some 79) (v := ?_) (a' := ?_) (XSq.bA 11 15) rfl rfl (any_of HT_.out (by kernel_rfl)) (fun _ _ _ h => h) (Or.inl ⟨by rfl, ?_⟩) ?_ ?_
      rotate_left
      · intro w'
        go_simp
        with_reducible rfl
      rotate_left
      · simp only [Act.put, XSq.p1, XSq.p2, XSq.p3, i64_w, i32_w]
        rfl
      refine pure_ (i := 5) (N := some 81) (v := ?_) (a' := ?_) (XSq.bA 11 47) rfl rfl (any_of HT_.out (by kernel_rfl)) (fun _ _ _ h => h) (Or.inl ⟨by rfl, ?_⟩) ?_ ?_
      rotate_left
      · intro w'
        go_simp
        with_reducible rfl
      rotate_left
      · simp only [Act.put, XSq.p1, XSq.p2, XSq.p3, i64_w, i32_w]
        rfl
      refine pure_ (i := 6) (N := some 82) (v := ?_) (a' := ?_) (XSq.bA 11 111) rfl rfl (any_of HT_.out (by kernel_rfl)) (fun _ _ _ h => h) (Or.inl ⟨by rfl, ?_⟩) ?_ ?_
      rotate_left
      · intro w'
        go_simp
        with_reducible rfl
      rotate_left
      · simp only [Act.put, XSq.p1, XSq.p2, XSq.p3, i64_w, i32_w]
        rfl
      refine pure_ (i := 7) (N := some 83) (v := ?_) (a' := ?_) (XSq.bA 11 239) rfl rfl (any_of HT_.out (by kernel_rfl)) (fun _ _ _ h => h) (Or.inl ⟨by rfl, ?_⟩) ?_ ?_
      rotate_left
      · intro w'
        go_simp
        with_reducible rfl
      rotate_left
      · simp only [Act.put, XSq.p1, XSq.p2, XSq.p3, i64_w, i32_w]
        rfl
      refine pure_ (i := 9) (N := some 85) (v := ?_) (a' := ?_) (XSq.bA 11 751) rfl rfl (any_of HT_.out (by kernel_rfl)) (fun _ _ _ h => h) (Or.inl ⟨by rfl, ?_⟩) ?_ ?_
      rotate_left
      · intro w'
        go_simp
        with_reducible rfl
      rotate_left
      · simp only [Act.put, XSq.p1, XSq.p2, XSq.p3, i64_w, i32_w]
        rfl
      refine take_ (i := 4) (N := some 80) (v := ?_) (a' := ?_) (XSq.bA 11 767) rfl rfl (take_ofW HT_.out HW_.out (by kernel_rfl)) (fun _ _ _ h => h) (Or.inl ⟨by rfl, ?_⟩) hHeld ?_ ?_
      rotate_left
      · rintro w' ⟨s0, s1, s2, s3, s4⟩
        go_simp
        with_reducible rfl
      rotate_left
      · simp only [Act.put, XSq.p1, XSq.p2, XSq.p3, i64_w, i32_w]
        rfl
      refine take_ (i := 8) (N := some 84) (v := ?_) (a' := ?_) (XSq.bA 11 1023) rfl rfl (take_ofW HT_.out HW_.out (by kernel_rfl)) (fun _ _ _ h => h) (Or.inl ⟨by rfl, ?_⟩) hHeld ?_ ?_
      rotate_left
      · rintro w' ⟨s0, s1, s2, s3, s4⟩
        go_simp
        with_reducible rfl
      rotate_left
      · simp only [Act.put, XSq.p1, XSq.p2, XSq.p3, i64_w, i32_w]
        rfl
      refine one_ (i := 10) (N := some 86) (XSq.bA 11 2047) rfl rfl (one_of HT_.out (by kernel_rfl)) (by decide) (fun K hK => ?_)
      refine goes_ Tryd.func33 (by kernel_rfl) rfl #[.pointer (some ⟨g, 0, none⟩), .int .i64 x1, .int .i64 y1, .int .i64 c1] (by rfl) rfl rfl (by (try simp only [List.map_toArray, List.map_cons, List.map_nil]); first | done | rfl | (go_simp; done) | (go_simp; rfl)) ?_
      refine (paint_calls g b n M x1 y1 c1 _ _ HS.out.G rfl HS.out.I HNE.out HI.out.1 HI.out.2.1 HI.out.2.2 HN.out).mono ?_
      rintro e w9 ⟨rfl, hm, hgr⟩
      refine ⟨_, rfl, ?_⟩
      have n0_ := Aside0.mk (BS.grown HS.out hgr hm)
      clear hgr hm
      rw [HE.out.2.2.2.2.2] at n0_
      refine hK.out _ _ ⟨(blk_cell n0_.out.G 0).trans rfl, (blk_cell n0_.out.G 1).trans rfl, (blk_cell n0_.out.G 2).trans rfl, (blk_cell n0_.out.G 3).trans rfl, (blk_cell n0_.out.G 4).trans rfl⟩ (fun hHeld => ?_)
      clear hK K HS
      have HS := n0_
      clear n0_
      refine norm_ (a' := ?_) ?_ ?_
      rotate_left
      · show Act.put _ (some 86) _ = _
        simp only [Act.put, XSq.p1, XSq.p2, XSq.p3, i64_w, i32_w]
        rfl
      refine done_ (done_of HT_.out (by kernel_rfl)) ?_
      clear HT_ HW_
      go_wp2_with (first | (go_at_call 42; refine (isPlain_calls g b (n + 1) M1 rule x1 y1 d1 t _ (BS.G (by repeat (first | exact HS.out | apply BS.drewN | apply BS.drew))) (BS.I (by repeat (first | exact HS.out | apply BS.drewN | apply BS.drew))) HNE.out AN.out).mono ?_; rintro e w9 ⟨rfl, hb⟩; have n0_ := Aside0.mk (BS.below (by repeat (first | exact HS.out | apply BS.drewN | apply BS.drew)) hb); clear HS hb; have HS := n0_; clear n0_))
      go_ret
      exact ⟨rfl, (by repeat (first | exact HS.out | apply BS.drewN | apply BS.drew))⟩
    · rw [if_neg c2_] at H
      cases H
def mkS (s : XMapL.Sp) : S60 := ⟨s.1, s.2.1, s.2.2⟩
/-- The entries of a map as spots, by y, then by x. -/
def sortF (L : List XMapL.Sp) : List (S60) := (L.map mkS).mergeSort fun s t => !ltS t s
theorem sortF_perm (L : List XMapL.Sp) : (gL.F (sortF L)).Perm L := by
  have h := (List.mergeSort_perm (L.map mkS) fun s t => !ltS t s).map gL.tr
  have e : (L.map mkS).map gL.tr = L := by
    rw [List.map_map]
    conv => rhs; rw [← List.map_id L]
    rfl
  rw [e] at h
  exact h
instance (s : XMapL.Sp) : Decidable (near s) := by unfold near; infer_instance
/-- The list that plain gives, told where its walk is shown. -/
def plainR (L : List XMapL.Sp) : Option (List (S60)) := if L.length ≤ 1000 ∧ (∀ s ∈ L, near s) ∧ strictS (sortF L) = true then some (sortF L) else none
structure QS (w W : World) (gA gB : Nat) (cs : Array Value) : Prop where
  A : W.heap[gA]? = some (.cells cs 28 (0, 0))
  B : W.heap[gB]? = some (.cells #[.string (⟨#[]⟩ : ByteArray), .slice none 0 0, .int .i64 0, .int .i64 0, .int .i64 0] 28 (0, 0))
  ne : gA ≠ gB
  bA : w.heap.size ≤ gA
  bB : w.heap.size ≤ gB
  bel : Below w.heap.size w W
theorem QS.below {w W W' : World} {gA gB : Nat} {cs : Array Value} (h : QS w W gA gB cs) (hb : Below W.heap.size W W') : QS w W' gA gB cs := ⟨blk_below h.A hb, blk_below h.B hb, h.ne, h.bA, h.bB, below_step h.bel hb⟩
theorem QS.grown {w W W' : World} {gA gB b : Nat} {cs : Array Value} (h : QS w W gA gB cs) (hg : W.grownBy W' (some b)) (h1 : gA ≠ b) (h2 : gB ≠ b) (hb : w.heap.size ≤ b) : QS w W' gA gB cs := ⟨blk_grown h.A hg (fun e => h1 (Option.some.inj e)), blk_grown h.B hg (fun e => h2 (Option.some.inj e)), h.ne, h.bA, h.bB, h.bel.grown hg (below_size h.bel) (fun j hj => by cases hj; exact hb)⟩
theorem QS.drewN {w W : World} {gA gB : Nat} {cs : Array Value} (h : QS w W gA gB cs) (m : Nat) : QS w (W.drewN m) gA gB cs := ⟨h.A, h.B, h.ne, h.bA, h.bB, pw_below_drewN h.bel m⟩
theorem QS.drew {w W : World} {gA gB : Nat} {cs : Array Value} (h : QS w W gA gB cs) : QS w W.drew gA gB cs := ⟨h.A, h.B, h.ne, h.bA, h.bB, below_drew1 h.bel⟩
theorem QS.far {w W : World} {gA gB b : Nat} {cs : Array Value} (h : QS w W gA gB cs) (hb : W.heap.size ≤ b) : gA ≠ b ∧ gB ≠ b ∧ w.heap.size ≤ b := ⟨Nat.ne_of_lt (Nat.lt_of_lt_of_le (blk_lt h.A) hb), Nat.ne_of_lt (Nat.lt_of_lt_of_le (blk_lt h.B) hb), Nat.le_trans (below_size h.bel) hb⟩
theorem QS.kept {w W W' : World} {gA gB : Nat} {cs : Array Value} (h : QS w W gA gB cs) (hk : Kept W W' (fun k_ => k_ ≠ gA ∧ k_ ≠ gB)) (hb : Below w.heap.size w W') : QS w W' gA gB cs := ⟨(hk.2 gA (blk_lt h.A) (fun e => e.1 rfl)).trans h.A, (hk.2 gB (blk_lt h.B) (fun e => e.2 rfl)).trans h.B, h.ne, h.bA, h.bB, hb⟩
theorem XQ.own {w W W' : World} {gA gB : Nat} {cs : Array Value} {v : Value} {xs : List (S60)} (hR : Kd.R k60 60 W' W.heap.size (fun _ => True) v xs) (h : QS w W gA gB cs) : Kd.R k60 60 W' w.heap.size (fun k_ => k_ ≠ gA ∧ k_ ≠ gB) v xs := Kd.R_lower (Kd.R_mono (Kd.R_bound hR) (fun k hk => by
  have h1 := blk_lt h.A
  have h2 := blk_lt h.B
  have h3 := hk.2.1
  exact ⟨by omega, by omega⟩)) (below_size h.bel)
theorem plainR_some {L : List XMapL.Sp} {S : List (S60)} (h : plainR L = some S) : L.length ≤ 1000 ∧ (∀ s ∈ L, near s) ∧ strictS S = true ∧ (gL.F S).Perm L := by
  unfold plainR at h
  by_cases c : L.length ≤ 1000 ∧ (∀ s ∈ L, near s) ∧ strictS (sortF L) = true
  · rw [if_pos c] at h
    obtain rfl := Option.some.inj h
    exact ⟨c.1, c.2.1, c.2.2, sortF_perm L⟩
  · rw [if_neg c] at h
    cases h
def impl_PlainBefore.l : Nat → ByteArray → Int → Int → List XMapL.Sp → Int → Int → Int → Option (ByteArray × (List (S60)) × Int × Int × Int × Bool)
  | 0, _, _, _, _, _, _, _ => none
  | k + 1, rule, e, i, M, x, y, d => if 0 ≤ i ∧ i ≤ 1000 then (if i < e then ((bk.f rule M x y d).bind fun r => (if r.2.2.2.2 = true then impl_PlainBefore.l k rule e (wrap64 (i + 1)) r.1 r.2.1 r.2.2.1 r.2.2.2.1 else some ((⟨#[]⟩ : ByteArray), ([] : List (S60)), 0, 0, 0, false))) else ((plainR M).bind fun S => some (rule, S, x, y, d, true))) else none
def impl_PlainBefore.f (k : Nat) (a0_0 : ByteArray) (l0_1 : List (S60)) (a0_2 : Int) (a0_3 : Int) (a0_4 : Int) (a1 : Int) : Option (ByteArray × (List (S60)) × Int × Int × Int × Bool) :=
  (impl_isRun.f k a0_0 l0_1 a0_2 a0_3 a0_4 a1).bind fun t => (if t = true then (if l0_1.length ≤ 1000 then ((gL.f l0_1).bind fun L => impl_PlainBefore.l k a0_0 a1 0 L a0_2 a0_3 a0_4) else none) else (some ((⟨#[]⟩ : ByteArray), ([] : List (S60)), 0, 0, 0, false)))
theorem impl_PlainBefore.mono_l : ∀ k rule e i M x y d, LeO (impl_PlainBefore.l k rule e i M x y d) (impl_PlainBefore.l (k + 1) rule e i M x y d)
  | 0 => fun _ _ _ _ _ _ _ r h => by simp [impl_PlainBefore.l] at h
  | k + 1 => by
    have ih := impl_PlainBefore.mono_l k
    intro rule e i M x y d
    rw [impl_PlainBefore.l, impl_PlainBefore.l]
    repeat' first
      | (with_reducible exact ih _ _ _ _ _ _ _)
      | (with_reducible exact LeO.refl _)
      | (with_reducible exact LeO.none _)
      | (with_reducible refine LeO.ite ?_ ?_)
      | (with_reducible refine LeO.bind ?_ (fun _ => ?_))
theorem impl_PlainBefore.mono : ∀ a0 a1 a2 a3 a4 a5 k, LeO (impl_PlainBefore.f k a0 a1 a2 a3 a4 a5) (impl_PlainBefore.f (k + 1) a0 a1 a2 a3 a4 a5) := by
  intro a0 a1 a2 a3 a4 a5 k
  unfold impl_PlainBefore.f
  repeat' first
      | (with_reducible exact impl_PlainBefore.mono_l _ _ _ _ _ _ _ _)
      | (with_reducible exact impl_isRun.mono _ _ _ _ _ _ _)
      | (with_reducible exact LeO.refl _)
      | (with_reducible exact LeO.none _)
      | (with_reducible refine LeO.ite ?_ ?_)
      | (with_reducible refine LeO.bind ?_ (fun _ => ?_))
structure PB (w W : World) (gA gB g b n : Nat) (cs : Array Value) (rule : ByteArray) (x y d : Int) (M : List XMapL.Sp) : Prop where
  Q : QS w W gA gB cs
  G : W.heap[g]? = some (.cells #[.string rule, .map (some b), .int .i64 x, .int .i64 y, .int .i64 d] 65 (0, 0))
  I : gL.IM W b n M
  ne : g ≠ b
  fg : gA ≠ g ∧ gB ≠ g ∧ w.heap.size ≤ g
  fb : gA ≠ b ∧ gB ≠ b ∧ w.heap.size ≤ b
section
variable {w W W' : World} {gA gB g b n n' : Nat} {cs : Array Value} {rule : ByteArray} {x y d x' y' d' : Int} {M M' : List XMapL.Sp}
theorem PB.below (h : PB w W gA gB g b n cs rule x y d M) (hb : Below W.heap.size W W') : PB w W' gA gB g b n cs rule x y d M := ⟨h.Q.below hb, blk_below h.G hb, h.I.below hb, h.ne, h.fg, h.fb⟩
theorem PB.drewN (h : PB w W gA gB g b n cs rule x y d M) (m : Nat) : PB w (W.drewN m) gA gB g b n cs rule x y d M := ⟨h.Q.drewN m, h.G, h.I, h.ne, h.fg, h.fb⟩
theorem PB.drew (h : PB w W gA gB g b n cs rule x y d M) : PB w W.drew gA gB g b n cs rule x y d M := ⟨h.Q.drew, h.G, h.I, h.ne, h.fg, h.fb⟩
theorem PB.back (h : PB w W gA gB g b n cs rule x y d M) (hs : BS w W W' g b n' rule x' y' d' M') : PB w W' gA gB g b n' cs rule x' y' d' M' :=
  ⟨⟨(hs.k.2 gA (blk_lt h.Q.A) (fun e => e.elim h.fg.1 h.fb.1)).trans h.Q.A, (hs.k.2 gB (blk_lt h.Q.B) (fun e => e.elim h.fg.2.1 h.fb.2.1)).trans h.Q.B, h.Q.ne, h.Q.bA, h.Q.bB, hs.bw⟩, hs.G, hs.I, h.ne, h.fg, h.fb⟩
theorem PB.own {v : Value} {xs : List (S60)} (h : PB w W gA gB g b n cs rule x y d M) (hR : Kd.R k60 60 W' W.heap.size (fun _ => True) v xs) : Kd.R k60 60 W' w.heap.size (fun k_ => k_ ≠ gB) v xs := Kd.R_lower (Kd.R_mono (Kd.R_bound hR) (fun k hk => by
  have h2 := blk_lt h.Q.B
  have h3 := hk.2.1
  show k ≠ gB
  omega)) (below_size h.Q.bel)
end
set_option maxHeartbeats 8000000 in
set_option maxRecDepth 100000 in
theorem impl_PlainBefore.calls (k : Nat) (a0_0 : ByteArray) (A0_1 : Option Addr) (c0_1 : Nat) (l0_1 : List (S60)) (a0_2 : Int) (a0_3 : Int) (a0_4 : Int) (a1 : Int) (r1 : ByteArray) (r2 : List (S60)) (r3 : Int) (r4 : Int) (r5 : Int) (r6 : Bool) (w : World) (hr0_1 : Kd.C k60 w A0_1 l0_1.length l0_1) (hc0_1 : l0_1.length ≤ c0_1) (h : impl_PlainBefore.f k a0_0 l0_1 a0_2 a0_3 a0_4 a1 = some (r1, r2, r3, r4, r5, r6)) :
    Calls Tryd.prog 8 #[.agg #[.string a0_0, .slice A0_1 l0_1.length c0_1, .int .i64 a0_2, .int .i64 a0_3, .int .i64 a0_4], .int .i64 a1] w fun e w' => ∃ v1_ : Value, e = .returned (.tuple #[.agg #[.string r1, v1_, .int .i64 r3, .int .i64 r4, .int .i64 r5], .bool r6]) ∧ Kd.R k60 60 w' w.heap.size (fun _ => True) v1_ r2 ∧ Below w.heap.size w w' := by
  have hu1 := Tryd.underlying28
  have HR := Aside0.mk hr0_1
  have HC := Aside0.mk hc0_1
  clear hr0_1 hc0_1
  have HB := Aside0.mk (Below.refl w.heap.size w)
  unfold impl_PlainBefore.f at h
  obtain ⟨t, A10, H⟩ := Option.bind_eq_some_iff.mp h
  clear h
  have A1 := Aside0.mk A10
  clear A10
  by_cases c1 : t = true
  · subst c1
    rw [if_pos rfl] at H
    by_cases c2 : l0_1.length ≤ 1000
    · rw [if_pos c2] at H
      obtain ⟨L, AL0, H⟩ := Option.bind_eq_some_iff.mp H
      have AL := Aside0.mk AL0
      have H' := Aside0.mk H
      have HL := Aside0.mk c2
      clear AL0 H c2
      go_enter Tryd.func8, Tryd.ntmps8
      go_wp2_with (first | ((with_reducible refine gate_dst (N := 2) rfl ?_); refine box_event ?hg (N := 2) ?hd (cs := #[.string a0_0, .slice A0_1 l0_1.length c0_1, .int .i64 a0_2, .int .i64 a0_3, .int .i64 a0_4]) (t := 28) ?hr ?_; (case hd => rfl); (case hg => rfl); (case hr => first | (go_simp; done) | (go_simp; rfl)); intro gA hg w1 hbox hb; have HBK := Aside0.mk hbox; have HBL := Aside0.mk (below_step (XSq.bB HB) hb); have HGA := XSq.gw hg (XSq.bB HB); clear hg hbox hb HB) | ((with_reducible refine gate_dst (N := 4) rfl ?_); refine box_event ?hg (N := 4) ?hd (cs := #[.string (⟨#[]⟩ : ByteArray), .slice none 0 0, .int .i64 0, .int .i64 0, .int .i64 0]) (t := 28) ?hr ?_; (case hd => rfl); (case hg => rfl); (case hr => first | (go_simp; done) | (go_simp; rfl)); intro gB hg w2 hbox hb; have HQ := Aside0.mk (QS.mk (XSq.bb HBK hb).out hbox (XSq.nl hg (XSq.bq HBK)).out HGA.out (XSq.gw hg (XSq.bB HBL)).out (below_step (XSq.bB HBL) hb)); clear hg hbox hb HBK HBL HGA; have hc2_0 : w2.cell? ⟨gA, 0, none⟩ = some (.string a0_0) := (blk_cell HQ.out.A 0).trans rfl; have hc2_1 : w2.cell? ⟨gA, 1, none⟩ = some (.slice A0_1 l0_1.length c0_1) := (blk_cell HQ.out.A 1).trans rfl; have hc2_2 : w2.cell? ⟨gA, 2, none⟩ = some (.int .i64 a0_2) := (blk_cell HQ.out.A 2).trans rfl; have hc2_3 : w2.cell? ⟨gA, 3, none⟩ = some (.int .i64 a0_3) := (blk_cell HQ.out.A 3).trans rfl; have hc2_4 : w2.cell? ⟨gA, 4, none⟩ = some (.int .i64 a0_4) := (blk_cell HQ.out.A 4).trans rfl; have hf2_0 : w2.frozen? ⟨gA, 0, none⟩ = false := blk_frozen HQ.out.A 0; have hf2_1 : w2.frozen? ⟨gA, 1, none⟩ = false := blk_frozen HQ.out.A 1; have hf2_2 : w2.frozen? ⟨gA, 2, none⟩ = false := blk_frozen HQ.out.A 2; have hf2_3 : w2.frozen? ⟨gA, 3, none⟩ = false := blk_frozen HQ.out.A 3; have hf2_4 : w2.frozen? ⟨gA, 4, none⟩ = false := blk_frozen HQ.out.A 4) | (go_at_call 19; refine (impl_isRun.calls k a0_0 A0_1 c0_1 l0_1 a0_2 a0_3 a0_4 a1 true _ (Kd.C_below HR.out (by repeat (first | exact HQ.out.bel | apply pw_below_drewN | apply below_drew1))) HC.out A1.out).mono ?_; rintro e w3 ⟨rfl, hb⟩; have n0_ := Aside0.mk (QS.below (by repeat (first | exact HQ.out | apply QS.drewN | apply QS.drew)) hb); clear HQ hb; have HQ := n0_; clear n0_; have hc3_0 : w3.cell? ⟨gA, 0, none⟩ = some (.string a0_0) := (blk_cell HQ.out.A 0).trans rfl; have hc3_1 : w3.cell? ⟨gA, 1, none⟩ = some (.slice A0_1 l0_1.length c0_1) := (blk_cell HQ.out.A 1).trans rfl; have hc3_2 : w3.cell? ⟨gA, 2, none⟩ = some (.int .i64 a0_2) := (blk_cell HQ.out.A 2).trans rfl; have hc3_3 : w3.cell? ⟨gA, 3, none⟩ = some (.int .i64 a0_3) := (blk_cell HQ.out.A 3).trans rfl; have hc3_4 : w3.cell? ⟨gA, 4, none⟩ = some (.int .i64 a0_4) := (blk_cell HQ.out.A 4).trans rfl; have hf3_0 : w3.frozen? ⟨gA, 0, none⟩ = false := blk_frozen HQ.out.A 0; have hf3_1 : w3.frozen? ⟨gA, 1, none⟩ = false := blk_frozen HQ.out.A 1; have hf3_2 : w3.frozen? ⟨gA, 2, none⟩ = false := blk_frozen HQ.out.A 2; have hf3_3 : w3.frozen? ⟨gA, 3, none⟩ = false := blk_frozen HQ.out.A 3; have hf3_4 : w3.frozen? ⟨gA, 4, none⟩ = false := blk_frozen HQ.out.A 4) | (go_at_call 20; refine (gL.calls a0_0 A0_1 c0_1 l0_1 a0_2 a0_3 a0_4 L _ (Kd.C_below HR.out (by repeat (first | exact HQ.out.bel | apply pw_below_drewN | apply below_drew1))) HC.out AL.out).mono ?_; rintro e w6 ⟨g, b, rfl, hgc, hm, hb, hg1, hb1, hne⟩; have HP := Aside0.mk (PB.mk (QS.below (by repeat (first | exact HQ.out | apply QS.drewN | apply QS.drew)) hb) hgc hm hne (QS.far (by repeat (first | exact HQ.out | apply QS.drewN | apply QS.drew)) hg1) (QS.far (by repeat (first | exact HQ.out | apply QS.drewN | apply QS.drew)) hb1)); clear HQ hb hgc hm hg1 hb1 hne))
      go_loopg [15] k (fun kq v15 w' => ∃ (i x y d : Int) (M : List XMapL.Sp) (n : Nat), v15 = .int .i64 i ∧ Aside0 (impl_PlainBefore.l kq a0_0 a1 i M x y d = some (r1, r2, r3, r4, r5, r6)) ∧ Aside0 (kq ≤ k) ∧ Aside0 ((n : Int) ≤ 1000 + i) ∧ Aside0 (PB w w' gA gB g b n #[.string a0_0, .slice A0_1 l0_1.length c0_1, .int .i64 a0_2, .int .i64 a0_3, .int .i64 a0_4] a0_0 x y d M))
      case atStart => exact ⟨0, a0_2, a0_3, a0_4, L, l0_1.length, rfl, H', ⟨Nat.le_refl _⟩, ⟨by have := HL.out; omega⟩, ⟨(by repeat (first | exact HP.out | apply PB.drewN | apply PB.drew))⟩⟩
      case round =>
        clear H' HP
        obtain ⟨i, x, y, d, M, n, rfl, HA, HK1, HN, HP⟩ := hrel
        cases gk with
        | zero => exact absurd HA.out (by simp [impl_PlainBefore.l])
        | succ k1 =>
          have H := HA.out
          clear HA
          rw [impl_PlainBefore.l] at H
          by_cases cg : 0 ≤ i ∧ i ≤ 1000
          · rw [if_pos cg] at H
            have HG := Aside0.mk cg
            clear cg
            have ws : wrap64 (i + 1) = i + 1 := by have := HG.out; unfold wrap64; omega
            by_cases c3 : i < a1
            · rw [if_pos c3] at H
              have c3b : decide (i < a1) = true := decide_eq_true c3
              clear c3
              obtain ⟨⟨M1, x1, y1, d1, t⟩, AB0, H⟩ := Option.bind_eq_some_iff.mp H
              have AB := Aside0.mk AB0
              clear AB0
              dsimp only at H
              cases t with
              | true =>
                rw [if_pos rfl] at H
                have H' := Aside0.mk H
                clear H
                go_wp2_with (first | (go_at_call 21; refine (back_calls g b n M M1 a0_0 x y d x1 y1 d1 true w _ (PB.G (by repeat (first | exact HP.out | apply PB.drewN | apply PB.drew))) (PB.I (by repeat (first | exact HP.out | apply PB.drewN | apply PB.drew))) HP.out.ne (QS.bel (PB.Q (by repeat (first | exact HP.out | apply PB.drewN | apply PB.drew)))) HP.out.fg.2.2 HP.out.fb.2.2 (by have := HN.out; have := HG.out; omega) AB.out).mono ?_; rintro e w7 ⟨rfl, hs⟩; have n0_ := Aside0.mk (PB.back (by repeat (first | exact HP.out | apply PB.drewN | apply PB.drew)) hs); clear HP hs; have HP := n0_; clear n0_; skip))
                go_roundg k1
                case measure => omega
                case rel => exact ⟨i + 1, x1, y1, d1, M1, n + 1, by first | rfl | (rw [← ws]; rfl) | simp [ws], by rw [← ws]; exact H', ⟨by have := HK1.out; omega⟩, ⟨by have := HN.out; omega⟩, ⟨(by repeat (first | exact HP.out | apply PB.drewN | apply PB.drew))⟩⟩
              | false =>
                rw [if_neg (by decide)] at H
                simp only [Option.some.injEq, Prod.mk.injEq] at H
                obtain ⟨rfl, rfl, rfl, rfl, rfl, rfl⟩ := H
                go_wp2_with (first | (go_at_call 21; refine (back_calls g b n M M1 a0_0 x y d x1 y1 d1 false w _ (PB.G (by repeat (first | exact HP.out | apply PB.drewN | apply PB.drew))) (PB.I (by repeat (first | exact HP.out | apply PB.drewN | apply PB.drew))) HP.out.ne (QS.bel (PB.Q (by repeat (first | exact HP.out | apply PB.drewN | apply PB.drew)))) HP.out.fg.2.2 HP.out.fb.2.2 (by have := HN.out; have := HG.out; omega) AB.out).mono ?_; rintro e w7 ⟨rfl, hs⟩; have n0_ := Aside0.mk (PB.back (by repeat (first | exact HP.out | apply PB.drewN | apply PB.drew)) hs); clear HP hs; have HP := n0_; clear n0_; have hc7_0 : w7.cell? ⟨gB, 0, none⟩ = some (.string (⟨#[]⟩ : ByteArray)) := (blk_cell HP.out.Q.B 0).trans rfl; have hc7_1 : w7.cell? ⟨gB, 1, none⟩ = some (.slice none 0 0) := (blk_cell HP.out.Q.B 1).trans rfl; have hc7_2 : w7.cell? ⟨gB, 2, none⟩ = some (.int .i64 0) := (blk_cell HP.out.Q.B 2).trans rfl; have hc7_3 : w7.cell? ⟨gB, 3, none⟩ = some (.int .i64 0) := (blk_cell HP.out.Q.B 3).trans rfl; have hc7_4 : w7.cell? ⟨gB, 4, none⟩ = some (.int .i64 0) := (blk_cell HP.out.Q.B 4).trans rfl; have hf7_0 : w7.frozen? ⟨gB, 0, none⟩ = false := blk_frozen HP.out.Q.B 0; have hf7_1 : w7.frozen? ⟨gB, 1, none⟩ = false := blk_frozen HP.out.Q.B 1; have hf7_2 : w7.frozen? ⟨gB, 2, none⟩ = false := blk_frozen HP.out.Q.B 2; have hf7_3 : w7.frozen? ⟨gB, 3, none⟩ = false := blk_frozen HP.out.Q.B 3; have hf7_4 : w7.frozen? ⟨gB, 4, none⟩ = false := blk_frozen HP.out.Q.B 4))
                refine bodyPost_ret (results_ct rfl _ _ gB 28 #[.string (⟨#[]⟩ : ByteArray), .slice none 0 0, .int .i64 0, .int .i64 0, .int .i64 0] (0, 0) _ rfl (by (with_reducible repeat (first | refine blk_drewN ?_ _ | refine blk_drew ?_ | refine blk_alloc ?_ _)); refine blk_put (cs := #[.string (⟨#[]⟩ : ByteArray), .slice none 0 0, .int .i64 0, .int .i64 0, .int .i64 0]) ?_ 4 _ rfl; (with_reducible repeat (first | refine blk_drewN ?_ _ | refine blk_drew ?_ | refine blk_alloc ?_ _)); refine blk_put (cs := #[.string (⟨#[]⟩ : ByteArray), .slice none 0 0, .int .i64 0, .int .i64 0, .int .i64 0]) ?_ 3 _ rfl; (with_reducible repeat (first | refine blk_drewN ?_ _ | refine blk_drew ?_ | refine blk_alloc ?_ _)); refine blk_put (cs := #[.string (⟨#[]⟩ : ByteArray), .slice none 0 0, .int .i64 0, .int .i64 0, .int .i64 0]) ?_ 2 _ rfl; (with_reducible repeat (first | refine blk_drewN ?_ _ | refine blk_drew ?_ | refine blk_alloc ?_ _)); refine blk_put (cs := #[.string (⟨#[]⟩ : ByteArray), .slice none 0 0, .int .i64 0, .int .i64 0, .int .i64 0]) ?_ 1 _ rfl; (with_reducible repeat (first | refine blk_drewN ?_ _ | refine blk_drew ?_ | refine blk_alloc ?_ _)); refine blk_put (cs := #[.string (⟨#[]⟩ : ByteArray), .slice none 0 0, .int .i64 0, .int .i64 0, .int .i64 0]) ?_ 0 _ rfl; (with_reducible repeat (first | refine blk_drewN ?_ _ | refine blk_drew ?_ | refine blk_alloc ?_ _)); exact HP.out.Q.B) Tryd.underlying28 rfl (by kernel_rfl)) rfl ?_
                exact ⟨.slice none 0 0, by first | rfl | (simp; done), Kd.R_nil _ _ _ _ _, by repeat (first | (with_reducible first | exact HP.out.Q.bel | apply below_alloc | apply pw_below_drewN | apply below_drew1 | refine below_set ?_ HP.out.Q.bB) | exact HP.out.Q.bel)⟩
            · rw [if_neg c3] at H
              have c3b : decide (i < a1) = false := decide_eq_false c3
              clear c3
              obtain ⟨S, AS0, H⟩ := Option.bind_eq_some_iff.mp H
              have HPL := Aside0.mk (plainR_some AS0)
              clear AS0
              simp only [Option.some.injEq, Prod.mk.injEq] at H
              obtain ⟨rfl, rfl, rfl, rfl, rfl, rfl⟩ := H
              go_wp2_with (first | (go_at_call 22; refine (plain_calls g b n M a0_0 x y d S _ (PB.G (by repeat (first | exact HP.out | apply PB.drewN | apply PB.drew))) (PB.I (by repeat (first | exact HP.out | apply PB.drewN | apply PB.drew))) HPL.out.1 HPL.out.2.1 HPL.out.2.2.1 HPL.out.2.2.2).mono ?_; rintro e w8 ⟨v8, rfl, hR, hb⟩; obtain ⟨A9, c9, e9⟩ := Kd.R_slice hR; subst e9; have HO9 := Aside0.mk (PB.own (by repeat (first | exact HP.out | apply PB.drewN | apply PB.drew)) hR); have n0_ := Aside0.mk (PB.below (by repeat (first | exact HP.out | apply PB.drewN | apply PB.drew)) hb); clear HP hR hb; have HP := n0_; clear n0_; have hc9_0 : w8.cell? ⟨gB, 0, none⟩ = some (.string (⟨#[]⟩ : ByteArray)) := (blk_cell HP.out.Q.B 0).trans rfl; have hc9_1 : w8.cell? ⟨gB, 1, none⟩ = some (.slice none 0 0) := (blk_cell HP.out.Q.B 1).trans rfl; have hc9_2 : w8.cell? ⟨gB, 2, none⟩ = some (.int .i64 0) := (blk_cell HP.out.Q.B 2).trans rfl; have hc9_3 : w8.cell? ⟨gB, 3, none⟩ = some (.int .i64 0) := (blk_cell HP.out.Q.B 3).trans rfl; have hc9_4 : w8.cell? ⟨gB, 4, none⟩ = some (.int .i64 0) := (blk_cell HP.out.Q.B 4).trans rfl; have hf9_0 : w8.frozen? ⟨gB, 0, none⟩ = false := blk_frozen HP.out.Q.B 0; have hf9_1 : w8.frozen? ⟨gB, 1, none⟩ = false := blk_frozen HP.out.Q.B 1; have hf9_2 : w8.frozen? ⟨gB, 2, none⟩ = false := blk_frozen HP.out.Q.B 2; have hf9_3 : w8.frozen? ⟨gB, 3, none⟩ = false := blk_frozen HP.out.Q.B 3; have hf9_4 : w8.frozen? ⟨gB, 4, none⟩ = false := blk_frozen HP.out.Q.B 4))
              refine bodyPost_ret (results_ct rfl _ _ gB 28 #[.string a0_0, .slice A9 S.length c9, .int .i64 x, .int .i64 y, .int .i64 d] (0, 0) _ rfl (by (with_reducible repeat (first | refine blk_drewN ?_ _ | refine blk_drew ?_ | refine blk_alloc ?_ _)); refine blk_put (cs := #[.string a0_0, .slice A9 S.length c9, .int .i64 x, .int .i64 y, .int .i64 0]) ?_ 4 _ rfl; (with_reducible repeat (first | refine blk_drewN ?_ _ | refine blk_drew ?_ | refine blk_alloc ?_ _)); refine blk_put (cs := #[.string a0_0, .slice A9 S.length c9, .int .i64 x, .int .i64 0, .int .i64 0]) ?_ 3 _ rfl; (with_reducible repeat (first | refine blk_drewN ?_ _ | refine blk_drew ?_ | refine blk_alloc ?_ _)); refine blk_put (cs := #[.string a0_0, .slice A9 S.length c9, .int .i64 0, .int .i64 0, .int .i64 0]) ?_ 2 _ rfl; (with_reducible repeat (first | refine blk_drewN ?_ _ | refine blk_drew ?_ | refine blk_alloc ?_ _)); refine blk_put (cs := #[.string a0_0, .slice none 0 0, .int .i64 0, .int .i64 0, .int .i64 0]) ?_ 1 _ rfl; (with_reducible repeat (first | refine blk_drewN ?_ _ | refine blk_drew ?_ | refine blk_alloc ?_ _)); refine blk_put (cs := #[.string (⟨#[]⟩ : ByteArray), .slice none 0 0, .int .i64 0, .int .i64 0, .int .i64 0]) ?_ 0 _ rfl; (with_reducible repeat (first | refine blk_drewN ?_ _ | refine blk_drew ?_ | refine blk_alloc ?_ _)); exact HP.out.Q.B) Tryd.underlying28 rfl (by kernel_rfl)) rfl ?_
              exact ⟨.slice A9 S.length c9, by first | rfl | (simp; done), by (with_reducible repeat (first | apply Kd.R_alloc | apply Kd.R_drewN | apply Kd.R_drew)); exact Kd.R_mono (Kd.R_far (p := ⟨gB, 4, none⟩) (Kd.R_far (p := ⟨gB, 3, none⟩) (Kd.R_far (p := ⟨gB, 2, none⟩) (Kd.R_far (p := ⟨gB, 1, none⟩) (Kd.R_far (p := ⟨gB, 0, none⟩) HO9.out (fun _ hk => hk) (.string a0_0)) (fun _ hk => hk) (.slice A9 S.length c9)) (fun _ hk => hk) (.int .i64 x)) (fun _ hk => hk) (.int .i64 y)) (fun _ hk => hk) (.int .i64 d)) (fun _ _ => trivial), by repeat (first | (with_reducible first | exact HP.out.Q.bel | apply below_alloc | apply pw_below_drewN | apply below_drew1 | refine below_set ?_ HP.out.Q.bB) | exact HP.out.Q.bel)⟩
          · rw [if_neg cg] at H
            cases H
    · rw [if_neg c2] at H
      cases H
  · replace c1 := Bool.eq_false_iff.mpr c1
    subst c1
    rw [if_neg (by decide)] at H
    simp only [Option.some.injEq, Prod.mk.injEq] at H
    obtain ⟨rfl, rfl, rfl, rfl, rfl, rfl⟩ := H
    go_enter Tryd.func8, Tryd.ntmps8
    go_wp2_with (first | ((with_reducible refine gate_dst (N := 2) rfl ?_); refine box_event ?hg (N := 2) ?hd (cs := #[.string a0_0, .slice A0_1 l0_1.length c0_1, .int .i64 a0_2, .int .i64 a0_3, .int .i64 a0_4]) (t := 28) ?hr ?_; (case hd => rfl); (case hg => rfl); (case hr => first | (go_simp; done) | (go_simp; rfl)); intro gA hg w1 hbox hb; have HBK := Aside0.mk hbox; have HBL := Aside0.mk (below_step (XSq.bB HB) hb); have HGA := XSq.gw hg (XSq.bB HB); clear hg hbox hb HB) | ((with_reducible refine gate_dst (N := 4) rfl ?_); refine box_event ?hg (N := 4) ?hd (cs := #[.string (⟨#[]⟩ : ByteArray), .slice none 0 0, .int .i64 0, .int .i64 0, .int .i64 0]) (t := 28) ?hr ?_; (case hd => rfl); (case hg => rfl); (case hr => first | (go_simp; done) | (go_simp; rfl)); intro gB hg w2 hbox hb; have HQ := Aside0.mk (QS.mk (XSq.bb HBK hb).out hbox (XSq.nl hg (XSq.bq HBK)).out HGA.out (XSq.gw hg (XSq.bB HBL)).out (below_step (XSq.bB HBL) hb)); clear hg hbox hb HBK HBL HGA; have hc2_0 : w2.cell? ⟨gA, 0, none⟩ = some (.string a0_0) := (blk_cell HQ.out.A 0).trans rfl; have hc2_1 : w2.cell? ⟨gA, 1, none⟩ = some (.slice A0_1 l0_1.length c0_1) := (blk_cell HQ.out.A 1).trans rfl; have hc2_2 : w2.cell? ⟨gA, 2, none⟩ = some (.int .i64 a0_2) := (blk_cell HQ.out.A 2).trans rfl; have hc2_3 : w2.cell? ⟨gA, 3, none⟩ = some (.int .i64 a0_3) := (blk_cell HQ.out.A 3).trans rfl; have hc2_4 : w2.cell? ⟨gA, 4, none⟩ = some (.int .i64 a0_4) := (blk_cell HQ.out.A 4).trans rfl; have hf2_0 : w2.frozen? ⟨gA, 0, none⟩ = false := blk_frozen HQ.out.A 0; have hf2_1 : w2.frozen? ⟨gA, 1, none⟩ = false := blk_frozen HQ.out.A 1; have hf2_2 : w2.frozen? ⟨gA, 2, none⟩ = false := blk_frozen HQ.out.A 2; have hf2_3 : w2.frozen? ⟨gA, 3, none⟩ = false := blk_frozen HQ.out.A 3; have hf2_4 : w2.frozen? ⟨gA, 4, none⟩ = false := blk_frozen HQ.out.A 4) | (go_at_call 19; refine (impl_isRun.calls k a0_0 A0_1 c0_1 l0_1 a0_2 a0_3 a0_4 a1 false _ (Kd.C_below HR.out (by repeat (first | exact HQ.out.bel | apply pw_below_drewN | apply below_drew1))) HC.out A1.out).mono ?_; rintro e w3 ⟨rfl, hb⟩; have n0_ := Aside0.mk (QS.below (by repeat (first | exact HQ.out | apply QS.drewN | apply QS.drew)) hb); clear HQ hb; have HQ := n0_; clear n0_; have hc3_0 : w3.cell? ⟨gB, 0, none⟩ = some (.string (⟨#[]⟩ : ByteArray)) := (blk_cell HQ.out.B 0).trans rfl; have hc3_1 : w3.cell? ⟨gB, 1, none⟩ = some (.slice none 0 0) := (blk_cell HQ.out.B 1).trans rfl; have hc3_2 : w3.cell? ⟨gB, 2, none⟩ = some (.int .i64 0) := (blk_cell HQ.out.B 2).trans rfl; have hc3_3 : w3.cell? ⟨gB, 3, none⟩ = some (.int .i64 0) := (blk_cell HQ.out.B 3).trans rfl; have hc3_4 : w3.cell? ⟨gB, 4, none⟩ = some (.int .i64 0) := (blk_cell HQ.out.B 4).trans rfl; have hf3_0 : w3.frozen? ⟨gB, 0, none⟩ = false := blk_frozen HQ.out.B 0; have hf3_1 : w3.frozen? ⟨gB, 1, none⟩ = false := blk_frozen HQ.out.B 1; have hf3_2 : w3.frozen? ⟨gB, 2, none⟩ = false := blk_frozen HQ.out.B 2; have hf3_3 : w3.frozen? ⟨gB, 3, none⟩ = false := blk_frozen HQ.out.B 3; have hf3_4 : w3.frozen? ⟨gB, 4, none⟩ = false := blk_frozen HQ.out.B 4))
    refine bodyPost_ret (results_ct rfl _ _ gB 28 #[.string (⟨#[]⟩ : ByteArray), .slice none 0 0, .int .i64 0, .int .i64 0, .int .i64 0] (0, 0) _ rfl (by (with_reducible repeat (first | refine blk_drewN ?_ _ | refine blk_drew ?_ | refine blk_alloc ?_ _)); refine blk_put (cs := #[.string (⟨#[]⟩ : ByteArray), .slice none 0 0, .int .i64 0, .int .i64 0, .int .i64 0]) ?_ 4 _ rfl; (with_reducible repeat (first | refine blk_drewN ?_ _ | refine blk_drew ?_ | refine blk_alloc ?_ _)); refine blk_put (cs := #[.string (⟨#[]⟩ : ByteArray), .slice none 0 0, .int .i64 0, .int .i64 0, .int .i64 0]) ?_ 3 _ rfl; (with_reducible repeat (first | refine blk_drewN ?_ _ | refine blk_drew ?_ | refine blk_alloc ?_ _)); refine blk_put (cs := #[.string (⟨#[]⟩ : ByteArray), .slice none 0 0, .int .i64 0, .int .i64 0, .int .i64 0]) ?_ 2 _ rfl; (with_reducible repeat (first | refine blk_drewN ?_ _ | refine blk_drew ?_ | refine blk_alloc ?_ _)); refine blk_put (cs := #[.string (⟨#[]⟩ : ByteArray), .slice none 0 0, .int .i64 0, .int .i64 0, .int .i64 0]) ?_ 1 _ rfl; (with_reducible repeat (first | refine blk_drewN ?_ _ | refine blk_drew ?_ | refine blk_alloc ?_ _)); refine blk_put (cs := #[.string (⟨#[]⟩ : ByteArray), .slice none 0 0, .int .i64 0, .int .i64 0, .int .i64 0]) ?_ 0 _ rfl; (with_reducible repeat (first | refine blk_drewN ?_ _ | refine blk_drew ?_ | refine blk_alloc ?_ _)); exact HQ.out.B) Tryd.underlying28 rfl (by kernel_rfl)) rfl ?_
    exact ⟨.slice none 0 0, by first | rfl | (simp; done), Kd.R_nil _ _ _ _ _, by repeat (first | (with_reducible first | exact HQ.out.bel | apply below_alloc | apply pw_below_drewN | apply below_drew1 | refine below_set ?_ HQ.out.bB) | exact HQ.out.bel)⟩

end Go.Proofs.YtfhplgiblknfcaaDoor.PFnExactPlainBefore
