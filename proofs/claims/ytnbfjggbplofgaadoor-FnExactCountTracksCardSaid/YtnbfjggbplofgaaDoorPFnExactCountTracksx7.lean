-- Made by wip/tools/xkit.py (a program of this session's) with the kit's printer.
import Derived.Test.YtnbfjggbplofgaaDoorPFnExactCountTracksx0
import Derived.Test.YtnbfjggbplofgaaDoorPFnExactCountTracksx1
import Derived.Test.YtnbfjggbplofgaaDoorPFnExactCountTracksx4
import Derived.Test.YtnbfjggbplofgaaDoorPFnExactCountTracksx5
import Derived.Test.YtnbfjggbplofgaaDoorPFnExactCountTracksx6
namespace Go.Proofs.YtnbfjggbplofgaaDoor.PFnExactCountTracks
open Go.RowKit Go.Proofs.YtnbfjggbplofgaaDoorW.PrintWords Go.Proofs.YtnbfjggbplofgaaDoorW.PrintLast Go.Proofs.YtnbfjggbplofgaaDoorW.PrintMore
attribute [local go_sem] max2_int min2_int max_two min_two max_three min_three max_four min_four   -- for this text's walks alone
set_option linter.unusedVariables false
set_option linter.unusedSimpArgs false

/-! ### impl_CountTracks: function 7, by hand -/
theorem fol.lawT : Go.Maps.Keyed Tryd.prog 34 := Go.Maps.Keyed.of_law (deep_law_laid (by kernel_rfl) (m := 3) (by omega) (of_decide_eq_true (by kernel_rfl)) (by kernel_rfl) (by rw [Tryd.underlying34]))
theorem fol.keyT : XMapT.TripKey Tryd.prog 34 3 := ⟨⟨_, _, _, Tryd.underlying34, rfl, rfl, by decide, rfl, rfl, by decide, rfl, rfl, by decide⟩, Tryd.underlying3, by kernel_rfl, by kernel_rfl, by kernel_rfl, ⟨_, rfl⟩⟩
theorem fol.zb (w : World) : (zeroValue 4).run Tryd.prog w = .ok (.bool false) w := by kernel_rfl
abbrev fol.IM (w : World) (b n : Nat) (F : Int → Int → Int → Bool) : Prop := XMapT.IsMapT Tryd.prog 34 4 w b n F
def fol.l : Nat → Int → Int → ByteArray → Bool → Int → Int → Int → Bool → (Int → Int → Int → Bool) → Int → Option (Int × (Int → Int → Int → Bool))
  | 0, _, _, _, _, _, _, _, _, _, _ => none
  | k + 1, a, b, c, u, x, y, d, i, F, m => if (XMapT.In64 x ∧ XMapT.In64 y ∧ XMapT.In64 d) ∧ 0 ≤ m ∧ m ≤ 1000000 then (if i = true then (if F x y d = true then some (m, F) else (impl_Maze_hit.f k a b c u x y d).bind fun r => fol.l k a b c u r.2.2.2.2.1 r.2.2.2.2.2.1 r.2.2.2.2.2.2.1 r.2.2.2.2.2.2.2.2 (XMapT.upd F x y d) (m + 1)) else some (m, F)) else none
def fol.f (k : Nat) (a b : Int) (c : ByteArray) (u : Bool) (x y d : Int) (F : Int → Int → Int → Bool) : Option (Int × (Int → Int → Int → Bool)) := fol.l k a b c u x y d true F 0
theorem fol.mono_l : ∀ k, ∀ a b c u x y d i F m, LeO (fol.l k a b c u x y d i F m) (fol.l (k + 1) a b c u x y d i F m)
  | 0 => fun _ _ _ _ _ _ _ _ _ _ r h => by simp [fol.l] at h
  | k + 1 => by
    have ih := fol.mono_l k
    intro a b c u x y d i F m
    rw [fol.l, fol.l]
    repeat' first
      | (with_reducible exact ih _ _ _ _ _ _ _ _ _ _)
      | (with_reducible exact impl_Maze_hit.mono _ _ _ _ _ _ _ _)
      | (with_reducible exact LeO.refl _)
      | (with_reducible exact LeO.none _)
      | (with_reducible refine LeO.ite ?_ ?_)
      | (with_reducible refine LeO.bind ?_ (fun _ => ?_))
theorem fol.mono (k : Nat) (a b : Int) (c : ByteArray) (u : Bool) (x y d : Int) (F : Int → Int → Int → Bool) : LeO (fol.f k a b c u x y d F) (fol.f (k + 1) a b c u x y d F) := fol.mono_l k _ _ _ _ _ _ _ _ _ _
structure FS (w0 w W : World) (gm gb bm n : Nat) (a b : Int) (c : ByteArray) (u : Bool) (x y d : Int) (F : Int → Int → Int → Bool) : Prop where
  M : W.heap[gm]? = some (.cells #[.int .i64 a, .int .i64 b, .string c, .bool u] 27 (0, 0))
  B : W.heap[gb]? = some (.cells #[.int .i64 x, .int .i64 y, .int .i64 d] 34 (0, 0))
  I : fol.IM W bm n F
  mb : gm ≠ gb
  nm : gm ≠ bm
  nb : gb ≠ bm
  k : Kept w W (fun k_ => k_ = bm)
  bw : Below w0.heap.size w0 W
  sm : w.heap.size ≤ gm
  sb : w.heap.size ≤ gb
  s0 : w0.heap.size ≤ w.heap.size
  s1 : w0.heap.size ≤ bm
section
variable {w0 w W W' : World} {gm gb bm n n' : Nat} {a b : Int} {c : ByteArray} {u : Bool} {x y d : Int} {F F' : Int → Int → Int → Bool}
theorem FS.below (h : FS w0 w W gm gb bm n a b c u x y d F) (hb : Below W.heap.size W W') : FS w0 w W' gm gb bm n a b c u x y d F := ⟨blk_below h.M hb, blk_below h.B hb, h.I.below hb, h.mb, h.nm, h.nb, h.k.below hb, below_step h.bw hb, h.sm, h.sb, h.s0, h.s1⟩
theorem FS.drewN (h : FS w0 w W gm gb bm n a b c u x y d F) (m : Nat) : FS w0 w (W.drewN m) gm gb bm n a b c u x y d F := ⟨h.M, h.B, h.I, h.mb, h.nm, h.nb, h.k.drewN m, pw_below_drewN h.bw m, h.sm, h.sb, h.s0, h.s1⟩
theorem FS.drew (h : FS w0 w W gm gb bm n a b c u x y d F) : FS w0 w W.drew gm gb bm n a b c u x y d F := ⟨h.M, h.B, h.I, h.mb, h.nm, h.nb, h.k.drew, below_drew1 h.bw, h.sm, h.sb, h.s0, h.s1⟩
theorem FS.grown (h : FS w0 w W gm gb bm n a b c u x y d F) (hg : W.grownBy W' (some bm)) (hi : fol.IM W' bm n' F') : FS w0 w W' gm gb bm n' a b c u x y d F' := ⟨blk_grown h.M hg (fun e => h.nm (Option.some.inj e)), blk_grown h.B hg (fun e => h.nb (Option.some.inj e)), hi, h.mb, h.nm, h.nb, Kept.of_grown hg h.k (fun k_ e => .inl (Option.some.inj e).symm), h.bw.grown hg (below_size h.bw) (fun j hj => by cases hj; exact h.s1), h.sm, h.sb, h.s0, h.s1⟩
theorem FS.store (h : FS w0 w W gm gb bm n a b c u x y d F) (x' y' d' : Int) : FS w0 w (((W.setCell ⟨gb, 0, none⟩ (.int .i64 x')).setCell ⟨gb, 1, none⟩ (.int .i64 y')).setCell ⟨gb, 2, none⟩ (.int .i64 d')) gm gb bm n a b c u x' y' d' F :=
  ⟨blk_far (blk_far (blk_far h.M h.mb _) h.mb _) h.mb _, by refine blk_put (cs := #[.int .i64 x', .int .i64 y', .int .i64 d]) ?_ 2 _ rfl; refine blk_put (cs := #[.int .i64 x', .int .i64 y, .int .i64 d]) ?_ 1 _ rfl; refine blk_put (cs := #[.int .i64 x, .int .i64 y, .int .i64 d]) ?_ 0 _ rfl; exact h.B, ((h.I.set (Ne.symm h.nb) _).set (Ne.symm h.nb) _).set (Ne.symm h.nb) _, h.mb, h.nm, h.nb, ((h.k.setCell (.inr h.sb) _).setCell (.inr h.sb) _).setCell (.inr h.sb) _, by have e := Nat.le_trans h.s0 h.sb; exact below_set (below_set (below_set h.bw e) e) e, h.sm, h.sb, h.s0, h.s1⟩
end
set_option maxHeartbeats 8000000 in
set_option maxRecDepth 100000 in
theorem fol.calls (k : Nat) (a b : Int) (c : ByteArray) (u : Bool) (x y d : Int) (bm n : Nat) (F : Int → Int → Int → Bool) (r : Int) (F' : Int → Int → Int → Bool) (w0 w : World) (hM : fol.IM w bm n F) (hn : n ≤ 1000000) (hB : Below w0.heap.size w0 w) (hs : w0.heap.size ≤ bm) (h : fol.f k a b c u x y d F = some (r, F')) :
    Calls Tryd.prog 16 #[.agg #[.int .i64 a, .int .i64 b, .string c, .bool u], .agg #[.int .i64 x, .int .i64 y, .int .i64 d], .map (some bm)] w fun e w' => e = .returned (.int .i64 r) ∧ fol.IM w' bm (n + r.toNat) F' ∧ Below w0.heap.size w0 w' ∧ Kept w w' (fun k_ => k_ = bm) ∧ 0 ≤ r ∧ r ≤ 1000001 := by
  have hu27 := Tryd.underlying27
  have hu34 := Tryd.underlying34
  unfold fol.f at h
  have H' := Aside0.mk h
  have HM := Aside0.mk hM
  have HN := Aside0.mk hn
  have HB0 := Aside0.mk hB
  have HS1 := Aside0.mk hs
  have HB := Aside0.mk (Below.refl w.heap.size w)
  clear h hM hn hB hs
  go_enter Tryd.func16, Tryd.ntmps16
  go_wp2_with (first | ((with_reducible refine gate_dst (N := 3) rfl ?_); refine box_event ?hg (N := 3) ?hd (cs := #[.int .i64 a, .int .i64 b, .string c, .bool u]) (t := 27) ?hr ?_; (case hd => rfl); (case hg => rfl); (case hr => first | (go_simp; done) | (go_simp; rfl)); intro gm hg w1 hbox hb; have HBM := Aside0.mk hbox; have HBL := Aside0.mk (below_step (XSq.bB HB) hb); have HGM := XSq.gw hg (XSq.bB HB); clear hg hbox hb HB) | ((with_reducible refine gate_dst (N := 4) rfl ?_); refine box_event ?hg (N := 4) ?hd (cs := #[.int .i64 x, .int .i64 y, .int .i64 d]) (t := 34) ?hr ?_; (case hd => rfl); (case hg => rfl); (case hr => first | (go_simp; done) | (go_simp; rfl)); intro gb hg w2 hbox hb; have HBL2 := below_step (XSq.bB HBL) hb; have hsb := XSq.gw hg (XSq.bB HBL); have HF := Aside0.mk (FS.mk (XSq.bb HBM hb).out hbox (HM.out.below HBL2) (XSq.nl hg (XSq.bq HBM)).out (Nat.ne_of_gt (Nat.lt_of_lt_of_le HM.out.lt HGM.out)) (Nat.ne_of_gt (Nat.lt_of_lt_of_le HM.out.lt hsb.out)) (Kept.of_below HBL2 (fun k_ => k_ = bm)) (below_step HB0.out HBL2) HGM.out hsb.out (below_size HB0.out) HS1.out); clear hg hbox hb HBM HBL HGM HBL2 hsb HM))
  go_loopg [7, 8] k (fun kq v7 v8 w' => ∃ (x y d m : Int) (i : Bool) (G : Int → Int → Int → Bool), v7 = .int .i64 m ∧ v8 = .bool i ∧ Aside0 (fol.l kq a b c u x y d i G m = some (r, F')) ∧ Aside0 (kq ≤ k) ∧ Aside0 (FS w0 w w' gm gb bm (n + m.toNat) a b c u x y d G))
  case atStart => exact ⟨x, y, d, 0, true, F, rfl, rfl, H', ⟨Nat.le_refl _⟩, ⟨by repeat (first | exact HF.out | apply FS.drewN | apply FS.drew)⟩⟩
  case round =>
    clear H' HF
    obtain ⟨x, y, d, m, i, G, rfl, rfl, HA, HK1, HF⟩ := hrel
    cases gk with
    | zero => exact absurd HA.out (by simp [fol.l])
    | succ k1 =>
      have H := HA.out
      clear HA
      rw [fol.l] at H
      by_cases c0 : (XMapT.In64 x ∧ XMapT.In64 y ∧ XMapT.In64 d) ∧ 0 ≤ m ∧ m ≤ 1000000
      · rw [if_pos c0] at H
        have HI := Aside0.mk c0
        clear c0
        have ws : wrap64 (m + 1) = m + 1 := by have := HI.out.2; unfold wrap64; omega
        have hp1 : (m + 1).toNat = m.toNat + 1 := by have := HI.out.2; omega
        cases i with
        | true =>
          rw [if_pos rfl] at H
          have hcrm_0 : wr.cell? ⟨gm, 0, none⟩ = some (.int .i64 a) := (blk_cell HF.out.M 0).trans rfl; have hcrm_1 : wr.cell? ⟨gm, 1, none⟩ = some (.int .i64 b) := (blk_cell HF.out.M 1).trans rfl; have hcrm_2 : wr.cell? ⟨gm, 2, none⟩ = some (.string c) := (blk_cell HF.out.M 2).trans rfl; have hcrm_3 : wr.cell? ⟨gm, 3, none⟩ = some (.bool u) := (blk_cell HF.out.M 3).trans rfl
          have hcrb_0 : wr.cell? ⟨gb, 0, none⟩ = some (.int .i64 x) := (blk_cell HF.out.B 0).trans rfl; have hcrb_1 : wr.cell? ⟨gb, 1, none⟩ = some (.int .i64 y) := (blk_cell HF.out.B 1).trans rfl; have hcrb_2 : wr.cell? ⟨gb, 2, none⟩ = some (.int .i64 d) := (blk_cell HF.out.B 2).trans rfl
          cases hF : G x y d with
          | true =>
            rw [if_pos hF] at H
            simp only [Option.some.injEq, Prod.mk.injEq] at H
            obtain ⟨rfl, rfl⟩ := H
            have HC := Aside0.mk hF
            clear hF
            go_wp2_with (first | (at_lookup; (try (refine gate_guard (by rfl) ?_; dsimp only)); refine XMapT.look (FS.I (by repeat (first | exact HF.out | apply FS.drewN | apply FS.drew))) HI.out.1.1 HI.out.1.2.1 HI.out.1.2.2 fol.keyT fol.lawT Tryd.underlying40 Tryd.underlying4 (fol.zb _) HC.out ?hg _ _ rfl ?hm ?hu ?_; (case hg => rfl); (case hm => first | rfl | (go_simp; done) | (go_simp; rfl)); (case hu => first | rfl | (go_simp; done) | (go_simp; rfl))))
            go_ret
            exact ⟨rfl, (FS.I (by repeat (first | exact HF.out | apply FS.drewN | apply FS.drew))), (FS.bw (by repeat (first | exact HF.out | apply FS.drewN | apply FS.drew))), (FS.k (by repeat (first | exact HF.out | apply FS.drewN | apply FS.drew))), HI.out.2.1, by have := HI.out.2; omega⟩
          | false =>
            rw [if_neg (by rw [hF]; decide)] at H
            have HC := Aside0.mk hF
            clear hF
            obtain ⟨⟨r1, r2, r3, r4, r5, r6, r7, r8, r9⟩, AH0, H⟩ := Option.bind_eq_some_iff.mp H
            have AH := Aside0.mk AH0
            have H' : Aside0 (fol.l k1 a b c u r5 r6 r7 r9 (XMapT.upd G x y d) (m + 1) = some (r, F')) := ⟨H⟩
            clear AH0 H
            go_wp2_with (first | (at_lookup; (try (refine gate_guard (by rfl) ?_; dsimp only)); refine XMapT.look (FS.I (by repeat (first | exact HF.out | apply FS.drewN | apply FS.drew))) HI.out.1.1 HI.out.1.2.1 HI.out.1.2.2 fol.keyT fol.lawT Tryd.underlying40 Tryd.underlying4 (fol.zb _) HC.out ?hg _ _ rfl ?hm ?hu ?_; (case hg => rfl); (case hm => first | rfl | (go_simp; done) | (go_simp; rfl)); (case hu => first | rfl | (go_simp; done) | (go_simp; rfl))) | (at_mapUpdate; refine XMapT.put (FS.I (by repeat (first | exact HF.out | apply FS.drewN | apply FS.drew))) HI.out.1.1 HI.out.1.2.1 HI.out.1.2.2 fol.keyT fol.lawT Tryd.underlying40 Tryd.underlying4 (by have := HN.out; have := HI.out.2; omega) ?hg _ _ _ rfl ?hm ?hy ?hu ?_; (case hg => rfl); (case hm => first | rfl | (go_simp; done) | (go_simp; rfl)); (case hy => first | rfl | (go_simp; done) | (go_simp; rfl)); (case hu => first | rfl | (go_simp; done) | (go_simp; rfl)); intro w5 hm_ hg_; have n0_ := Aside0.mk (FS.grown (by repeat (first | exact HF.out | apply FS.drewN | apply FS.drew)) hg_ hm_); clear HF hm_ hg_; have HF := n0_; clear n0_; have hc5m_0 : w5.cell? ⟨gm, 0, none⟩ = some (.int .i64 a) := (blk_cell HF.out.M 0).trans rfl; have hc5m_1 : w5.cell? ⟨gm, 1, none⟩ = some (.int .i64 b) := (blk_cell HF.out.M 1).trans rfl; have hc5m_2 : w5.cell? ⟨gm, 2, none⟩ = some (.string c) := (blk_cell HF.out.M 2).trans rfl; have hc5m_3 : w5.cell? ⟨gm, 3, none⟩ = some (.bool u) := (blk_cell HF.out.M 3).trans rfl; have hc5b_0 : w5.cell? ⟨gb, 0, none⟩ = some (.int .i64 x) := (blk_cell HF.out.B 0).trans rfl; have hc5b_1 : w5.cell? ⟨gb, 1, none⟩ = some (.int .i64 y) := (blk_cell HF.out.B 1).trans rfl; have hc5b_2 : w5.cell? ⟨gb, 2, none⟩ = some (.int .i64 d) := (blk_cell HF.out.B 2).trans rfl) | (go_at_call 22; refine (impl_Maze_hit.calls k1 a b c u x y d r1 r2 r3 r4 r5 r6 r7 r8 r9 _ AH.out).mono ?_; rintro e w6 ⟨rfl, hb⟩; have n0_ := Aside0.mk (FS.below (by repeat (first | exact HF.out | apply FS.drewN | apply FS.drew)) hb); clear HF hb; have HF := n0_; clear n0_; have hc6b_0 : w6.cell? ⟨gb, 0, none⟩ = some (.int .i64 x) := (blk_cell HF.out.B 0).trans rfl; have hc6b_1 : w6.cell? ⟨gb, 1, none⟩ = some (.int .i64 y) := (blk_cell HF.out.B 1).trans rfl; have hc6b_2 : w6.cell? ⟨gb, 2, none⟩ = some (.int .i64 d) := (blk_cell HF.out.B 2).trans rfl; have hf6b_0 : w6.frozen? ⟨gb, 0, none⟩ = false := blk_frozen HF.out.B 0; have hf6b_1 : w6.frozen? ⟨gb, 1, none⟩ = false := blk_frozen HF.out.B 1; have hf6b_2 : w6.frozen? ⟨gb, 2, none⟩ = false := blk_frozen HF.out.B 2))
            go_roundg k1
            case measure => omega
            case rel => exact ⟨r5, r6, r7, m + 1, r9, XMapT.upd G x y d, by first | rfl | (rw [← ws]; rfl) | simp [ws], by first | rfl | (simp; done), H', ⟨by have := HK1.out; omega⟩, ⟨by rw [hp1]; exact FS.store (by repeat (first | exact HF.out | apply FS.drewN | apply FS.drew)) r5 r6 r7⟩⟩
        | false =>
          rw [if_neg (by decide)] at H
          simp only [Option.some.injEq, Prod.mk.injEq] at H
          obtain ⟨rfl, rfl⟩ := H
          go_wp2
          go_ret
          exact ⟨rfl, (FS.I (by repeat (first | exact HF.out | apply FS.drewN | apply FS.drew))), (FS.bw (by repeat (first | exact HF.out | apply FS.drewN | apply FS.drew))), (FS.k (by repeat (first | exact HF.out | apply FS.drewN | apply FS.drew))), HI.out.2.1, by have := HI.out.2; omega⟩
      · rw [if_neg c0] at H
        cases H
def trk.T7 : Bool × List (List Nat × List Nat) := (true, [([], []), ([], []), ([], []), ([1, 2], [1, 2]), ([], []), ([0, 3, 4, 3], [0, 3, 4])])
def trk.B7 : List Nat := [0, 0, 0, 6, 0, 31]
theorem trk.tab7 : rtab .any (opsOf Tryd.f7 7) = trk.T7 := by kernel_rfl
theorem trk.bits7 : waitsOk trk.T7.2 trk.B7 = true := by kernel_rfl
def trk.T15 : Bool × List (List Nat × List Nat) := (true, [([], []), ([], []), ([], []), ([], []), ([3], [3]), ([2, 4], [2, 4]), ([], []), ([], []), ([7], [7]), ([6, 8], [6, 8]), ([], []), ([5, 9, 10], [5, 9, 10]), ([], []), ([1, 11, 12], [1, 11, 12]), ([13], [13]), ([14, 13], [14]), ([0, 15], [0, 15]), ([16, 15, 0, 1, 2, 3, 4, 5, 6, 7, 8, 9, 10, 11, 12, 13, 14, 15, 16], [0, 16])])
def trk.B15 : List Nat := [0, 0, 0, 0, 8, 28, 0, 0, 128, 448, 0, 2044, 0, 8190, 16382, 32766, 65535, 131071]
theorem trk.tab15 : rtab .any (opsOf Tryd.f7 15) = trk.T15 := by kernel_rfl
theorem trk.bits15 : waitsOk trk.T15.2 trk.B15 = true := by kernel_rfl
mutual
def impl_CountTracks.l1 : Nat → Int → Int → ByteArray → Bool → Int → Int → (Int → Int → Int → Bool) → Int → Option (Int × Bool)
  | 0, _, _, _, _, _, _, _, _ => none
  | k + 1, a, b, c, u, i, t, F, s => if i < (c.size : Int) then impl_CountTracks.l2 k a b c u i 0 t F s else some (wrap64 (Int.tdiv t 2), true)
def impl_CountTracks.l2 : Nat → Int → Int → ByteArray → Bool → Int → Int → Int → (Int → Int → Int → Bool) → Int → Option (Int × Bool)
  | 0, _, _, _, _, _, _, _, _, _ => none
  | k + 1, a, b, c, u, i, j, t, F, s => if (0 ≤ s ∧ s ≤ 1000000) ∧ a ≠ 0 then (if j < 4 then (fol.f k a b c u (Int.tmod i a) (wrap64 (Int.tdiv i a)) j F).bind fun r => (impl_bit.f (decide (0 < r.1))).bind fun z => impl_CountTracks.l2 k a b c u i (wrap64 (j + 1)) (wrap64 (t + z)) r.2 (s + r.1) else impl_CountTracks.l1 k a b c u (wrap64 (i + 1)) t F s) else none
end
def impl_CountTracks.l0 : Nat → Int → Int → ByteArray → Bool → Int → Int → (Int → Int → Int → Bool) → Int → Option (Int × Bool)
  | 0, _, _, _, _, _, _, _, _ => none
  | k + 1, a, b, c, u, e, i, F, s => if 0 ≤ s ∧ s ≤ 1000000 then (if i < e then (impl_Maze_entry.f a b c u i).bind fun q => (fol.f k a b c u q.1 q.2.1 q.2.2 F).bind fun r => impl_CountTracks.l0 k a b c u e (wrap64 (i + 1)) r.2 (s + r.1) else impl_CountTracks.l1 k a b c u 0 0 F s) else none
def impl_CountTracks.f (k : Nat) (a b : Int) (c : ByteArray) (u : Bool) : Option (Int × Bool) := (impl_IsMaze.f a b c u).bind fun t => if t = true then (if u = true then some (0, false) else (impl_Maze_ends.f a b c u).bind fun e => impl_CountTracks.l0 k a b c u e 0 (fun _ _ _ => false) 0) else some (0, false)
theorem impl_CountTracks.mono_l : ∀ k, (∀ a b c u i t F s, LeO (impl_CountTracks.l1 k a b c u i t F s) (impl_CountTracks.l1 (k + 1) a b c u i t F s)) ∧ (∀ a b c u i j t F s, LeO (impl_CountTracks.l2 k a b c u i j t F s) (impl_CountTracks.l2 (k + 1) a b c u i j t F s)) ∧ (∀ a b c u e i F s, LeO (impl_CountTracks.l0 k a b c u e i F s) (impl_CountTracks.l0 (k + 1) a b c u e i F s))
  | 0 => ⟨fun _ _ _ _ _ _ _ _ r h => by simp [impl_CountTracks.l1] at h, fun _ _ _ _ _ _ _ _ _ r h => by simp [impl_CountTracks.l2] at h, fun _ _ _ _ _ _ _ _ r h => by simp [impl_CountTracks.l0] at h⟩
  | k + 1 => by
    obtain ⟨ih1, ih2, ih0⟩ := impl_CountTracks.mono_l k
    refine ⟨?_, ?_, ?_⟩
    · intro a b c u i t F s
      rw [impl_CountTracks.l1, impl_CountTracks.l1]
      repeat' first
        | (with_reducible exact ih2 _ _ _ _ _ _ _ _ _)
        | (with_reducible exact LeO.refl _)
        | (with_reducible exact LeO.none _)
        | (with_reducible refine LeO.ite ?_ ?_)
        | (with_reducible refine LeO.bind ?_ (fun _ => ?_))
    · intro a b c u i j t F s
      rw [impl_CountTracks.l2, impl_CountTracks.l2]
      repeat' first
        | (with_reducible exact ih2 _ _ _ _ _ _ _ _ _)
        | (with_reducible exact ih1 _ _ _ _ _ _ _ _)
        | (with_reducible exact fol.mono _ _ _ _ _ _ _ _ _)
        | (with_reducible exact LeO.refl _)
        | (with_reducible exact LeO.none _)
        | (with_reducible refine LeO.ite ?_ ?_)
        | (with_reducible refine LeO.bind ?_ (fun _ => ?_))
    · intro a b c u e i F s
      rw [impl_CountTracks.l0, impl_CountTracks.l0]
      repeat' first
        | (with_reducible exact ih0 _ _ _ _ _ _ _ _)
        | (with_reducible exact ih1 _ _ _ _ _ _ _ _)
        | (with_reducible exact fol.mono _ _ _ _ _ _ _ _ _)
        | (with_reducible exact LeO.refl _)
        | (with_reducible exact LeO.none _)
        | (with_reducible refine LeO.ite ?_ ?_)
        | (with_reducible refine LeO.bind ?_ (fun _ => ?_))
theorem impl_CountTracks.mono : ∀ a b c u k, LeO (impl_CountTracks.f k a b c u) (impl_CountTracks.f (k + 1) a b c u) := by
  intro a b c u k
  obtain ⟨ih1, ih2, ih0⟩ := impl_CountTracks.mono_l k
  unfold impl_CountTracks.f
  repeat' first
    | (with_reducible exact ih0 _ _ _ _ _ _ _ _)
    | (with_reducible exact LeO.refl _)
    | (with_reducible exact LeO.none _)
    | (with_reducible refine LeO.ite ?_ ?_)
    | (with_reducible refine LeO.bind ?_ (fun _ => ?_))
structure CS (w W : World) (gm bm n : Nat) (a b : Int) (c : ByteArray) (u : Bool) (F : Int → Int → Int → Bool) : Prop where
  M : W.heap[gm]? = some (.cells #[.int .i64 a, .int .i64 b, .string c, .bool u] 27 (0, 0))
  I : fol.IM W bm n F
  nm : gm ≠ bm
  bw : Below w.heap.size w W
  sm : w.heap.size ≤ gm
  s1 : w.heap.size ≤ bm
section
variable {w W W' : World} {gm bm n n' : Nat} {a b : Int} {c : ByteArray} {u : Bool} {F F' : Int → Int → Int → Bool}
theorem CS.below (h : CS w W gm bm n a b c u F) (hb : Below W.heap.size W W') : CS w W' gm bm n a b c u F := ⟨blk_below h.M hb, h.I.below hb, h.nm, below_step h.bw hb, h.sm, h.s1⟩
theorem CS.drewN (h : CS w W gm bm n a b c u F) (m : Nat) : CS w (W.drewN m) gm bm n a b c u F := ⟨h.M, h.I, h.nm, pw_below_drewN h.bw m, h.sm, h.s1⟩
theorem CS.drew (h : CS w W gm bm n a b c u F) : CS w W.drew gm bm n a b c u F := ⟨h.M, h.I, h.nm, below_drew1 h.bw, h.sm, h.s1⟩
theorem CS.called (h : CS w W gm bm n a b c u F) (hi : fol.IM W' bm n' F') (hb : Below w.heap.size w W') (hk : Kept W W' (fun k_ => k_ = bm)) : CS w W' gm bm n' a b c u F' := ⟨(hk.2 gm (blk_lt h.M) h.nm).trans h.M, hi, h.nm, hb, h.sm, h.s1⟩
end
set_option maxHeartbeats 8000000 in
set_option maxRecDepth 100000 in
theorem impl_CountTracks.calls (k : Nat) (a b : Int) (c : ByteArray) (u : Bool) (r1 : Int) (r2 : Bool) (w : World) (h : impl_CountTracks.f k a b c u = some (r1, r2)) :
    Calls Tryd.prog 7 #[.agg #[.int .i64 a, .int .i64 b, .string c, .bool u]] w fun e w' => e = .returned (.tuple #[.int .i64 r1, .bool r2]) ∧ Below w.heap.size w w' := by
  have hu27 := Tryd.underlying27
  have hu34 := Tryd.underlying34
  unfold impl_CountTracks.f at h
  have HB := Aside0.mk (Below.refl w.heap.size w)
  obtain ⟨t, AI0, H⟩ := Option.bind_eq_some_iff.mp h
  clear h
  have AI := Aside0.mk AI0
  clear AI0
  cases t with
  | false =>
    rw [if_neg (by decide)] at H
    simp only [Option.some.injEq, Prod.mk.injEq] at H
    obtain ⟨rfl, rfl⟩ := H
    go_enter Tryd.func7, Tryd.ntmps7
    go_wp2_with (first | ((with_reducible refine gate_dst (N := 1) rfl ?_); refine box_event ?hg (N := 1) ?hd (cs := #[.int .i64 a, .int .i64 b, .string c, .bool u]) (t := 27) ?hr ?_; (case hd => rfl); (case hg => rfl); (case hr => first | (go_simp; done) | (go_simp; rfl)); intro gm hg w1 hbox hb; have HGM := XSq.gw hg (XSq.bB HB); have n0_ := Aside0.mk (below_step (XSq.bB HB) hb); have HBM := Aside0.mk hbox; clear HB hg hbox hb; have HB := n0_; clear n0_; have hc1_0 : w1.cell? ⟨gm, 0, none⟩ = some (.int .i64 a) := (blk_cell HBM.out 0).trans rfl; have hc1_1 : w1.cell? ⟨gm, 1, none⟩ = some (.int .i64 b) := (blk_cell HBM.out 1).trans rfl; have hc1_2 : w1.cell? ⟨gm, 2, none⟩ = some (.string c) := (blk_cell HBM.out 2).trans rfl; have hc1_3 : w1.cell? ⟨gm, 3, none⟩ = some (.bool u) := (blk_cell HBM.out 3).trans rfl) | (go_at_call 14; refine (impl_IsMaze.calls a b c u false _ AI.out).mono ?_; rintro e w2 ⟨rfl, hb⟩; have n0_ := XSq.bb HBM hb; have n1_ := Aside0.mk (below_step (XSq.bB HB) hb); clear HBM HB hb; have HBM := n0_; have HB := n1_; clear n0_ n1_; skip))
    go_ret2
    exact ⟨rfl, (XSq.bB HB)⟩
  | true =>
    rw [if_pos rfl] at H
    cases u with
    | true =>
      rw [if_pos rfl] at H
      simp only [Option.some.injEq, Prod.mk.injEq] at H
      obtain ⟨rfl, rfl⟩ := H
      go_enter Tryd.func7, Tryd.ntmps7
      go_wp2_with (first | ((with_reducible refine gate_dst (N := 1) rfl ?_); refine box_event ?hg (N := 1) ?hd (cs := #[.int .i64 a, .int .i64 b, .string c, .bool true]) (t := 27) ?hr ?_; (case hd => rfl); (case hg => rfl); (case hr => first | (go_simp; done) | (go_simp; rfl)); intro gm hg w1 hbox hb; have HGM := XSq.gw hg (XSq.bB HB); have n0_ := Aside0.mk (below_step (XSq.bB HB) hb); have HBM := Aside0.mk hbox; clear HB hg hbox hb; have HB := n0_; clear n0_; have hc1_0 : w1.cell? ⟨gm, 0, none⟩ = some (.int .i64 a) := (blk_cell HBM.out 0).trans rfl; have hc1_1 : w1.cell? ⟨gm, 1, none⟩ = some (.int .i64 b) := (blk_cell HBM.out 1).trans rfl; have hc1_2 : w1.cell? ⟨gm, 2, none⟩ = some (.string c) := (blk_cell HBM.out 2).trans rfl; have hc1_3 : w1.cell? ⟨gm, 3, none⟩ = some (.bool true) := (blk_cell HBM.out 3).trans rfl) | (go_at_call 14; refine (impl_IsMaze.calls a b c true true _ AI.out).mono ?_; rintro e w2 ⟨rfl, hb⟩; have n0_ := XSq.bb HBM hb; have n1_ := Aside0.mk (below_step (XSq.bB HB) hb); clear HBM HB hb; have HBM := n0_; have HB := n1_; clear n0_ n1_; have hc2_0 : w2.cell? ⟨gm, 0, none⟩ = some (.int .i64 a) := (blk_cell HBM.out 0).trans rfl; have hc2_1 : w2.cell? ⟨gm, 1, none⟩ = some (.int .i64 b) := (blk_cell HBM.out 1).trans rfl; have hc2_2 : w2.cell? ⟨gm, 2, none⟩ = some (.string c) := (blk_cell HBM.out 2).trans rfl; have hc2_3 : w2.cell? ⟨gm, 3, none⟩ = some (.bool true) := (blk_cell HBM.out 3).trans rfl))
      go_ret2
      exact ⟨rfl, (XSq.bB HB)⟩
    | false =>
      rw [if_neg (by decide)] at H
      obtain ⟨e_, AE0, H⟩ := Option.bind_eq_some_iff.mp H
      have AE := Aside0.mk AE0
      have H' := Aside0.mk H
      clear AE0 H
      go_enter Tryd.func7, Tryd.ntmps7
      go_wp2_with (first | ((with_reducible refine gate_dst (N := 1) rfl ?_); refine box_event ?hg (N := 1) ?hd (cs := #[.int .i64 a, .int .i64 b, .string c, .bool false]) (t := 27) ?hr ?_; (case hd => rfl); (case hg => rfl); (case hr => first | (go_simp; done) | (go_simp; rfl)); intro gm hg w1 hbox hb; have HGM := XSq.gw hg (XSq.bB HB); have n0_ := Aside0.mk (below_step (XSq.bB HB) hb); have HBM := Aside0.mk hbox; clear HB hg hbox hb; have HB := n0_; clear n0_; have hc1_0 : w1.cell? ⟨gm, 0, none⟩ = some (.int .i64 a) := (blk_cell HBM.out 0).trans rfl; have hc1_1 : w1.cell? ⟨gm, 1, none⟩ = some (.int .i64 b) := (blk_cell HBM.out 1).trans rfl; have hc1_2 : w1.cell? ⟨gm, 2, none⟩ = some (.string c) := (blk_cell HBM.out 2).trans rfl; have hc1_3 : w1.cell? ⟨gm, 3, none⟩ = some (.bool false) := (blk_cell HBM.out 3).trans rfl) | (go_at_call 14; refine (impl_IsMaze.calls a b c false true _ AI.out).mono ?_; rintro e w2 ⟨rfl, hb⟩; have n0_ := XSq.bb HBM hb; have n1_ := Aside0.mk (below_step (XSq.bB HB) hb); clear HBM HB hb; have HBM := n0_; have HB := n1_; clear n0_ n1_; have hc2_0 : w2.cell? ⟨gm, 0, none⟩ = some (.int .i64 a) := (blk_cell HBM.out 0).trans rfl; have hc2_1 : w2.cell? ⟨gm, 1, none⟩ = some (.int .i64 b) := (blk_cell HBM.out 1).trans rfl; have hc2_2 : w2.cell? ⟨gm, 2, none⟩ = some (.string c) := (blk_cell HBM.out 2).trans rfl; have hc2_3 : w2.cell? ⟨gm, 3, none⟩ = some (.bool false) := (blk_cell HBM.out 3).trans rfl) | ((with_reducible refine gate_dst (N := 16) rfl ?_); refine XMapT.made_event 34 4 rfl rfl ?_; intro bm hg w3 hm_ hb; have HS := Aside0.mk (CS.mk (XSq.bb HBM hb).out hm_ (XSq.nl hg (XSq.bq HBM)).out (below_step (XSq.bB HB) hb) HGM.out (XSq.gw hg (XSq.bB HB)).out); clear HBM HB hg hm_ hb; have hc3_0 : w3.cell? ⟨gm, 0, none⟩ = some (.int .i64 a) := (blk_cell HS.out.M 0).trans rfl; have hc3_1 : w3.cell? ⟨gm, 1, none⟩ = some (.int .i64 b) := (blk_cell HS.out.M 1).trans rfl; have hc3_2 : w3.cell? ⟨gm, 2, none⟩ = some (.string c) := (blk_cell HS.out.M 2).trans rfl; have hc3_3 : w3.cell? ⟨gm, 3, none⟩ = some (.bool false) := (blk_cell HS.out.M 3).trans rfl) | (go_at_call 15; refine (impl_Maze_ends.calls a b c false e_ _ AE.out).mono ?_; rintro e w4 ⟨rfl, hb⟩; have n0_ := Aside0.mk (CS.below (by repeat (first | exact HS.out | apply CS.drewN | apply CS.drew)) hb); clear HS hb; have HS := n0_; clear n0_))
      go_loopg [6, 19] k (fun kq v6 v19 w' => ∃ (i s : Int) (F : Int → Int → Int → Bool), v19 = .int .i64 i ∧ Aside0 (impl_CountTracks.l0 kq a b c false e_ i F s = some (r1, r2)) ∧ Aside0 (kq ≤ k) ∧ Aside0 (CS w w' gm bm s.toNat a b c false F))
      case atStart => exact ⟨0, 0, _, rfl, H', ⟨Nat.le_refl _⟩, ⟨(by repeat (first | exact HS.out | apply CS.drewN | apply CS.drew))⟩⟩
      case round =>
        clear H' HS
        obtain ⟨i, s, F, rfl, HA, HK1, HS⟩ := hrel
        cases gk with
        | zero => exact absurd HA.out (by simp [impl_CountTracks.l0])
        | succ k1 =>
          have H := HA.out
          clear HA
          rw [impl_CountTracks.l0] at H
          by_cases cg : 0 ≤ s ∧ s ≤ 1000000
          · rw [if_pos cg] at H
            have HG := Aside0.mk cg
            clear cg
            by_cases c1 : i < e_
            · rw [if_pos c1] at H
              have c1b : decide (i < e_) = true := decide_eq_true c1
              clear c1
              obtain ⟨⟨q1, q2, q3⟩, AQ0, H⟩ := Option.bind_eq_some_iff.mp H
              have AQ := Aside0.mk AQ0
              clear AQ0
              obtain ⟨⟨f1, F1⟩, AF0, H⟩ := Option.bind_eq_some_iff.mp H
              have AF : Aside0 (fol.f k1 a b c false q1 q2 q3 F = some (f1, F1)) := ⟨AF0⟩
              have H' : Aside0 (impl_CountTracks.l0 k1 a b c false e_ (wrap64 (i + 1)) F1 (s + f1) = some (r1, r2)) := ⟨H⟩
              clear AF0 H
              try go_wp2
              have n0_ := Aside0.mk (CS.drew HS.out)
              clear HS
              have HS := n0_
              clear n0_
              refine start_ (n := 6) (S := fun w' => w'.cell? ⟨gm, 0, none⟩ = some (.int .i64 a) ∧ w'.cell? ⟨gm, 1, none⟩ = some (.int .i64 b) ∧ w'.cell? ⟨gm, 2, none⟩ = some (.string c) ∧ w'.cell? ⟨gm, 3, none⟩ = some (.bool false)) (ds := []) #[false, false, false, false, false, false] (by kernel_rfl) rfl rfl ⟨(blk_cell HS.out.M 0).trans rfl, (blk_cell HS.out.M 1).trans rfl, (blk_cell HS.out.M 2).trans rfl, (blk_cell HS.out.M 3).trans rfl⟩ (fun hHeld => ?_); refine with_tabW trk.tab7 trk.bits7 (fun HT_ HW_ => ?_)
              generalize wr.drew = w5 at HS hHeld ⊢
              refine pure_ (i := 2) (N := some 24) (v := ?_) (a' := ?_) #[false, false, true, false, false, false] rfl rfl (any_of HT_.out (by kernel_rfl)) (fun _ _ _ h => h) (Or.inl ⟨by rfl, ?_⟩) ?_ ?_
              rotate_left
              · intro w'
                go_simp
                with_reducible rfl
              rotate_left
              · simp only [Act.put, List.setIfInBounds_toArray, List.set_cons_zero, List.set_cons_succ, i64_w, i32_w]
                rfl
              refine pure_ (i := 4) (N := some 26) (v := ?_) (a' := ?_) #[false, false, true, false, true, false] rfl rfl (any_of HT_.out (by kernel_rfl)) (fun _ _ _ h => h) (Or.inl ⟨by rfl, ?_⟩) ?_ ?_
              rotate_left
              · intro w'
                go_simp
                with_reducible rfl
              rotate_left
              · simp only [Act.put, List.setIfInBounds_toArray, List.set_cons_zero, List.set_cons_succ, i64_w, i32_w]
                rfl
              refine take_ (i := 0) (N := some 22) (v := ?_) (a' := ?_) #[true, false, true, false, true, false] rfl rfl (take_ofW HT_.out HW_.out (by kernel_rfl)) (fun _ _ _ h => h) (Or.inl ⟨by rfl, ?_⟩) hHeld ?_ ?_
              rotate_left
              · rintro w' ⟨s0, s1, s2, s3⟩
                go_simp
                with_reducible rfl
              rotate_left
              · simp only [Act.put, List.setIfInBounds_toArray, List.set_cons_zero, List.set_cons_succ, i64_w, i32_w]
                rfl
              refine take_ (i := 1) (N := some 23) (v := ?_) (a' := ?_) #[true, true, true, false, true, false] rfl rfl (take_ofW HT_.out HW_.out (by kernel_rfl)) (fun _ _ _ h => h) (Or.inl ⟨by rfl, ?_⟩) hHeld ?_ ?_
              rotate_left
              · rintro w' ⟨s0, s1, s2, s3⟩
                go_simp
                with_reducible rfl
              rotate_left
              · simp only [Act.put, List.setIfInBounds_toArray, List.set_cons_zero, List.set_cons_succ, i64_w, i32_w]
                rfl
              refine one_ (i := 3) (N := some 25) #[true, true, true, true, true, false] rfl rfl (one_of HT_.out (by kernel_rfl)) (by decide) (fun K hK => ?_)
              refine goes_ Tryd.func17 (by kernel_rfl) rfl #[.agg #[.int .i64 a, .int .i64 b, .string c, .bool false], .int .i64 i] (by rfl) rfl rfl (by (try simp only [List.map_toArray, List.map_cons, List.map_nil]); first | done | rfl | (go_simp; done) | (go_simp; rfl)) ?_
              refine (impl_Maze_entry.calls a b c false i q1 q2 q3 _ AQ.out).mono ?_
              rintro e w6 ⟨rfl, hb⟩
              refine ⟨_, rfl, ?_⟩
              have n0_ := Aside0.mk (CS.below HS.out hb)
              clear HS hb
              have HS := n0_
              clear n0_
              refine hK.out _ _ ⟨(blk_cell HS.out.M 0).trans rfl, (blk_cell HS.out.M 1).trans rfl, (blk_cell HS.out.M 2).trans rfl, (blk_cell HS.out.M 3).trans rfl⟩ (fun hHeld => ?_)
              clear hK K
              refine norm_ (a' := ?_) ?_ ?_
              rotate_left
              · show Act.put _ (some 25) _ = _
                simp only [Act.put, List.setIfInBounds_toArray, List.set_cons_zero, List.set_cons_succ, i64_w, i32_w]
                rfl
              refine one_ (i := 5) (N := some 27) #[true, true, true, true, true, true] rfl rfl (one_of HT_.out (by kernel_rfl)) (by decide) (fun K hK => ?_)
              refine goes_ Tryd.func16 (by kernel_rfl) rfl #[.agg #[.int .i64 a, .int .i64 b, .string c, .bool false], .agg #[.int .i64 q1, .int .i64 q2, .int .i64 q3], .map (some bm)] (by rfl) rfl rfl (by (try simp only [List.map_toArray, List.map_cons, List.map_nil]); first | done | rfl | (go_simp; done) | (go_simp; rfl)) ?_
              refine (fol.calls k1 a b c false q1 q2 q3 bm s.toNat F f1 F1 w _ HS.out.I (by have := HG.out; omega) HS.out.bw HS.out.s1 AF.out).mono ?_
              rintro e w7 ⟨rfl, hm_, hb, hk, hf0, hf1⟩
              refine ⟨_, rfl, ?_⟩
              have HF1 := Aside0.mk (And.intro hf0 hf1)
              have n0_ := Aside0.mk (CS.called HS.out hm_ hb hk)
              clear HS hm_ hb hk hf0 hf1
              have HS := n0_
              clear n0_
              refine hK.out _ _ ⟨(blk_cell HS.out.M 0).trans rfl, (blk_cell HS.out.M 1).trans rfl, (blk_cell HS.out.M 2).trans rfl, (blk_cell HS.out.M 3).trans rfl⟩ (fun hHeld => ?_)
              clear hK K
              refine norm_ (a' := ?_) ?_ ?_
              rotate_left
              · show Act.put _ (some 27) _ = _
                simp only [Act.put, List.setIfInBounds_toArray, List.set_cons_zero, List.set_cons_succ, i64_w, i32_w]
                rfl
              refine done_ (done_of HT_.out (by kernel_rfl)) ?_
              clear HT_ HW_ hHeld
              try go_wp2
              go_roundg k1
              case measure => omega
              case rel => exact ⟨wrap64 (i + 1), s + f1, F1, by first | rfl | (simp; done), H', ⟨by have := HK1.out; omega⟩, ⟨by rw [show (s + f1).toNat = s.toNat + f1.toNat by have := HG.out; have := HF1.out; omega]; repeat (first | exact HS.out | apply CS.drewN | apply CS.drew)⟩⟩
            · rw [if_neg c1] at H
              have c1b : decide (i < e_) = false := decide_eq_false c1
              clear c1
              have H' := Aside0.mk H
              clear H
              have hcr_0 : wr.cell? ⟨gm, 0, none⟩ = some (.int .i64 a) := (blk_cell HS.out.M 0).trans rfl; have hcr_1 : wr.cell? ⟨gm, 1, none⟩ = some (.int .i64 b) := (blk_cell HS.out.M 1).trans rfl; have hcr_2 : wr.cell? ⟨gm, 2, none⟩ = some (.string c) := (blk_cell HS.out.M 2).trans rfl; have hcr_3 : wr.cell? ⟨gm, 3, none⟩ = some (.bool false) := (blk_cell HS.out.M 3).trans rfl
              go_wp2
              go_loopg [5, 7, 8, 32, 35] k1 (fun kq v5 v7 v8 v32 v35 w' => ∃ (i t s : Int) (F : Int → Int → Int → Bool), v5 = .int .i64 t ∧ v32 = .int .i64 i ∧ Aside0 (impl_CountTracks.l1 kq a b c false i t F s = some (r1, r2)) ∧ Aside0 (kq ≤ k1) ∧ Aside0 (CS w w' gm bm s.toNat a b c false F))
              case atStart => exact ⟨0, 0, s, F, rfl, rfl, H', ⟨Nat.le_refl _⟩, ⟨(by repeat (first | exact HS.out | apply CS.drewN | apply CS.drew))⟩⟩
              case round =>
                clear H' HS HG
                obtain ⟨i, t, s, F, rfl, rfl, HA, HK2, HS⟩ := hrel
                cases gk with
                | zero => exact absurd HA.out (by simp [impl_CountTracks.l1])
                | succ k2 =>
                  have H := HA.out
                  clear HA
                  rw [impl_CountTracks.l1] at H
                  by_cases c2 : i < (c.size : Int)
                  · rw [if_pos c2] at H
                    have c2b : decide (i < (c.size : Int)) = true := decide_eq_true c2
                    clear c2
                    have H' := Aside0.mk H
                    clear H
                    go_wp2
                    go_loopg [5, 8, 35] k2 (fun kq v5 v8 v35 w' => ∃ (j t s : Int) (F : Int → Int → Int → Bool), v5 = .int .i64 t ∧ v35 = .int .i64 j ∧ Aside0 (impl_CountTracks.l2 kq a b c false i j t F s = some (r1, r2)) ∧ Aside0 (kq ≤ k2) ∧ Aside0 (CS w w' gm bm s.toNat a b c false F))
                    case atStart => exact ⟨0, t, s, F, rfl, rfl, H', ⟨Nat.le_refl _⟩, ⟨(by repeat (first | exact HS.out | apply CS.drewN | apply CS.drew))⟩⟩
                    case round =>
                      clear H' HS
                      obtain ⟨j, t, s, F, rfl, rfl, HA, HK3, HS⟩ := hrel
                      cases gk with
                      | zero => exact absurd HA.out (by simp [impl_CountTracks.l2])
                      | succ k3 =>
                        have H := HA.out
                        clear HA
                        rw [impl_CountTracks.l2] at H
                        by_cases cg : (0 ≤ s ∧ s ≤ 1000000) ∧ a ≠ 0
                        · rw [if_pos cg] at H
                          have HG := Aside0.mk cg.1
                          have a0 := cg.2
                          clear cg
                          by_cases c3 : j < 4
                          · rw [if_pos c3] at H
                            have c3b : decide (j < 4) = true := decide_eq_true c3
                            clear c3
                            obtain ⟨⟨f1, F1⟩, AF0, H⟩ := Option.bind_eq_some_iff.mp H
                            have AF : Aside0 (fol.f k3 a b c false (Int.tmod i a) (wrap64 (Int.tdiv i a)) j F = some (f1, F1)) := ⟨AF0⟩
                            obtain ⟨z, AZ0, H⟩ := Option.bind_eq_some_iff.mp H
                            obtain ⟨bq, hbq⟩ : ∃ b_ : Bool, decide (0 < f1) = b_ := ⟨_, rfl⟩
                            have hbq2 : decide (f1 > 0) = bq := hbq
                            have AZ : Aside0 (impl_bit.f bq = some z) := ⟨by rw [← hbq]; exact AZ0⟩
                            have H' : Aside0 (impl_CountTracks.l2 k3 a b c false i (wrap64 (j + 1)) (wrap64 (t + z)) F1 (s + f1) = some (r1, r2)) := ⟨H⟩
                            clear AF0 AZ0 H
                            try go_wp2
                            have n0_ := Aside0.mk (CS.drew HS.out)
                            clear HS
                            have HS := n0_
                            clear n0_
                            refine start_ (n := 18) (S := fun w' => w'.cell? ⟨gm, 0, none⟩ = some (.int .i64 a) ∧ w'.cell? ⟨gm, 1, none⟩ = some (.int .i64 b) ∧ w'.cell? ⟨gm, 2, none⟩ = some (.string c) ∧ w'.cell? ⟨gm, 3, none⟩ = some (.bool false)) (ds := []) #[false, false, false, false, false, false, false, false, false, false, false, false, false, false, false, false, false, false] (by kernel_rfl) rfl rfl ⟨(blk_cell HS.out.M 0).trans rfl, (blk_cell HS.out.M 1).trans rfl, (blk_cell HS.out.M 2).trans rfl, (blk_cell HS.out.M 3).trans rfl⟩ (fun hHeld => ?_); refine with_tabW trk.tab15 trk.bits15 (fun HT_ HW_ => ?_)
                            generalize wr.drew = w5 at HS hHeld ⊢
                            refine pure_ (i := 0) (N := some 38) (v := ?_) (a' := ?_) #[true, false, false, false, false, false, false, false, false, false, false, false, false, false, false, false, false, false] rfl rfl (any_of HT_.out (by kernel_rfl)) (fun _ _ _ h => h) (Or.inl ⟨by rfl, ?_⟩) ?_ ?_
                            rotate_left
                            · intro w'
                              go_simp
                              with_reducible rfl
                            rotate_left
                            · simp only [Act.put, List.setIfInBounds_toArray, List.set_cons_zero, List.set_cons_succ, i64_w, i32_w]
                              rfl
                            refine pure_ (i := 2) (N := some 40) (v := ?_) (a' := ?_) #[true, false, true, false, false, false, false, false, false, false, false, false, false, false, false, false, false, false] rfl rfl (any_of HT_.out (by kernel_rfl)) (fun _ _ _ h => h) (Or.inl ⟨by rfl, ?_⟩) ?_ ?_
                            rotate_left
                            · intro w'
                              go_simp
                              with_reducible rfl
                            rotate_left
                            · simp only [Act.put, List.setIfInBounds_toArray, List.set_cons_zero, List.set_cons_succ, i64_w, i32_w]
                              rfl
                            refine pure_ (i := 3) (N := some 41) (v := ?_) (a' := ?_) #[true, false, true, true, false, false, false, false, false, false, false, false, false, false, false, false, false, false] rfl rfl (any_of HT_.out (by kernel_rfl)) (fun _ _ _ h => h) (Or.inl ⟨by rfl, ?_⟩) ?_ ?_
                            rotate_left
                            · intro w'
                              go_simp
                              with_reducible rfl
                            rotate_left
                            · simp only [Act.put, List.setIfInBounds_toArray, List.set_cons_zero, List.set_cons_succ, i64_w, i32_w]
                              rfl
                            refine pure_ (i := 6) (N := some 44) (v := ?_) (a' := ?_) #[true, false, true, true, false, false, true, false, false, false, false, false, false, false, false, false, false, false] rfl rfl (any_of HT_.out (by kernel_rfl)) (fun _ _ _ h => h) (Or.inl ⟨by rfl, ?_⟩) ?_ ?_
                            rotate_left
                            · intro w'
                              go_simp
                              with_reducible rfl
                            rotate_left
                            · simp only [Act.put, List.setIfInBounds_toArray, List.set_cons_zero, List.set_cons_succ, i64_w, i32_w]
                              rfl
                            refine pure_ (i := 7) (N := some 45) (v := ?_) (a' := ?_) #[true, false, true, true, false, false, true, true, false, false, false, false, false, false, false, false, false, false] rfl rfl (any_of HT_.out (by kernel_rfl)) (fun _ _ _ h => h) (Or.inl ⟨by rfl, ?_⟩) ?_ ?_
                            rotate_left
                            · intro w'
                              go_simp
                              with_reducible rfl
                            rotate_left
                            · simp only [Act.put, List.setIfInBounds_toArray, List.set_cons_zero, List.set_cons_succ, i64_w, i32_w]
                              rfl
                            refine pure_ (i := 10) (N := some 48) (v := ?_) (a' := ?_) #[true, false, true, true, false, false, true, true, false, false, true, false, false, false, false, false, false, false] rfl rfl (any_of HT_.out (by kernel_rfl)) (fun _ _ _ h => h) (Or.inl ⟨by rfl, ?_⟩) ?_ ?_
                            rotate_left
                            · intro w'
                              go_simp
                              with_reducible rfl
                            rotate_left
                            · simp only [Act.put, List.setIfInBounds_toArray, List.set_cons_zero, List.set_cons_succ, i64_w, i32_w]
                              rfl
                            refine pure_ (i := 12) (N := some 50) (v := ?_) (a' := ?_) #[true, false, true, true, false, false, true, true, false, false, true, false, true, false, false, false, false, false] rfl rfl (any_of HT_.out (by kernel_rfl)) (fun _ _ _ h => h) (Or.inl ⟨by rfl, ?_⟩) ?_ ?_
                            rotate_left
                            · intro w'
                              go_simp
                              with_reducible rfl
                            rotate_left
                            · simp only [Act.put, List.setIfInBounds_toArray, List.set_cons_zero, List.set_cons_succ, i64_w, i32_w]
                              rfl
                            refine take_ (i := 1) (N := some 39) (v := ?_) (a' := ?_) #[true, true, true, true, false, false, true, true, false, false, true, false, true, false, false, false, false, false] rfl rfl (take_ofW HT_.out HW_.out (by kernel_rfl)) (fun _ _ _ h => h) (Or.inl ⟨by rfl, ?_⟩) hHeld ?_ ?_
                            rotate_left
                            · rintro w' ⟨s0, s1, s2, s3⟩
                              go_simp
                              with_reducible rfl
                            rotate_left
                            · simp only [Act.put, List.setIfInBounds_toArray, List.set_cons_zero, List.set_cons_succ, i64_w, i32_w]
                              rfl
                            refine take_ (i := 4) (N := some 42) (v := ?_) (a' := ?_) #[true, true, true, true, true, false, true, true, false, false, true, false, true, false, false, false, false, false] rfl rfl (take_ofW HT_.out HW_.out (by kernel_rfl)) (fun _ _ _ h => h) (Or.inl ⟨by rfl, ?_⟩) hHeld ?_ ?_
                            rotate_left
                            · rintro w' ⟨s0, s1, s2, s3⟩
                              go_simp
                              with_reducible rfl
                            rotate_left
                            · simp only [Act.put, List.setIfInBounds_toArray, List.set_cons_zero, List.set_cons_succ, i64_w, i32_w]
                              rfl
                            refine take_ (i := 8) (N := some 46) (v := ?_) (a' := ?_) #[true, true, true, true, true, false, true, true, true, false, true, false, true, false, false, false, false, false] rfl rfl (take_ofW HT_.out HW_.out (by kernel_rfl)) (fun _ _ _ h => h) (Or.inl ⟨by rfl, ?_⟩) hHeld ?_ ?_
                            rotate_left
                            · rintro w' ⟨s0, s1, s2, s3⟩
                              go_simp
                              with_reducible rfl
                            rotate_left
                            · simp only [Act.put, List.setIfInBounds_toArray, List.set_cons_zero, List.set_cons_succ, i64_w, i32_w]
                              rfl
                            refine pure_ (i := 5) (N := some 43) (v := ?_) (a' := ?_) #[true, true, true, true, true, true, true, true, true, false, true, false, true, false, false, false, false, false] rfl rfl (any_of HT_.out (by kernel_rfl)) (fun _ _ _ h => h) (Or.inl ⟨by rfl, ?_⟩) ?_ ?_
                            rotate_left
                            · intro w'
                              go_simp
                              with_reducible rfl
                            rotate_left
                            · simp only [Act.put, List.setIfInBounds_toArray, List.set_cons_zero, List.set_cons_succ, i64_w, i32_w]
                              rfl
                            refine pure_ (i := 9) (N := some 47) (v := ?_) (a' := ?_) #[true, true, true, true, true, true, true, true, true, true, true, false, true, false, false, false, false, false] rfl rfl (any_of HT_.out (by kernel_rfl)) (fun _ _ _ h => h) (Or.inl ⟨by rfl, ?_⟩) ?_ ?_
                            rotate_left
                            · intro w'
                              go_simp
                              with_reducible rfl
                            rotate_left
                            · simp only [Act.put, List.setIfInBounds_toArray, List.set_cons_zero, List.set_cons_succ, i64_w, i32_w]
                              rfl
                            refine pure_ (i := 11) (N := some 49) (v := ?_) (a' := ?_) #[true, true, true, true, true, true, true, true, true, true, true, true, true, false, false, false, false, false] rfl rfl (any_of HT_.out (by kernel_rfl)) (fun _ _ _ h => h) (Or.inl ⟨by rfl, ?_⟩) ?_ ?_
                            rotate_left
                            · intro w'
                              go_simp
                              with_reducible rfl
                            rotate_left
                            · simp only [Act.put, List.setIfInBounds_toArray, List.set_cons_zero, List.set_cons_succ, i64_w, i32_w]
                              rfl
                            refine one_ (i := 13) (N := some 51) #[true, true, true, true, true, true, true, true, true, true, true, true, true, true, false, false, false, false] rfl rfl (one_of HT_.out (by kernel_rfl)) (by decide) (fun K hK => ?_)
                            refine goes_ Tryd.func16 (by kernel_rfl) rfl #[.agg #[.int .i64 a, .int .i64 b, .string c, .bool false], .agg #[.int .i64 (Int.tmod i a), .int .i64 (wrap64 (Int.tdiv i a)), .int .i64 j], .map (some bm)] (by rfl) rfl rfl (by (try simp only [List.map_toArray, List.map_cons, List.map_nil]); first | done | rfl | (go_simp; done) | (go_simp; rfl)) ?_
                            refine (fol.calls k3 a b c false (Int.tmod i a) (wrap64 (Int.tdiv i a)) j bm s.toNat F f1 F1 w _ HS.out.I (by have := HG.out; omega) HS.out.bw HS.out.s1 AF.out).mono ?_
                            rintro e w7 ⟨rfl, hm_, hb, hk, hf0, hf1⟩
                            refine ⟨_, rfl, ?_⟩
                            have HF1 := Aside0.mk (And.intro hf0 hf1)
                            have n0_ := Aside0.mk (CS.called HS.out hm_ hb hk)
                            clear HS hm_ hb hk hf0 hf1
                            have HS := n0_
                            clear n0_
                            refine hK.out _ _ ⟨(blk_cell HS.out.M 0).trans rfl, (blk_cell HS.out.M 1).trans rfl, (blk_cell HS.out.M 2).trans rfl, (blk_cell HS.out.M 3).trans rfl⟩ (fun hHeld => ?_)
                            clear hK K
                            refine norm_ (a' := ?_) ?_ ?_
                            rotate_left
                            · show Act.put _ (some 51) _ = _
                              simp only [Act.put, List.setIfInBounds_toArray, List.set_cons_zero, List.set_cons_succ, i64_w, i32_w]
                              rfl
                            refine pure_ (i := 14) (N := some 52) (v := ?_) (a' := ?_) #[true, true, true, true, true, true, true, true, true, true, true, true, true, true, true, false, false, false] rfl rfl (any_of HT_.out (by kernel_rfl)) (fun _ _ _ h => h) (Or.inl ⟨by rfl, ?_⟩) ?_ ?_
                            rotate_left
                            · intro w'
                              go_simp
                              with_reducible rfl
                            rotate_left
                            · simp only [Act.put, List.setIfInBounds_toArray, List.set_cons_zero, List.set_cons_succ, i64_w, i32_w]
                              rfl
                            refine one_ (i := 15) (N := some 53) #[true, true, true, true, true, true, true, true, true, true, true, true, true, true, true, true, false, false] rfl rfl (one_of HT_.out (by kernel_rfl)) (by decide) (fun K hK => ?_)
                            refine goes_ Tryd.func18 (by kernel_rfl) rfl #[.bool bq] (by rfl) rfl rfl (by (try simp only [List.map_toArray, List.map_cons, List.map_nil]); first | done | rfl | (go_simp; done) | (go_simp; rfl)) ?_
                            refine (impl_bit.calls bq z _ AZ.out).mono ?_
                            rintro e w8 ⟨rfl, ⟨nd, rfl⟩⟩
                            refine ⟨_, rfl, ?_⟩
                            have n0_ := Aside0.mk (CS.drewN HS.out nd)
                            clear HS
                            have HS := n0_
                            clear n0_
                            refine hK.out _ _ ⟨(blk_cell HS.out.M 0).trans rfl, (blk_cell HS.out.M 1).trans rfl, (blk_cell HS.out.M 2).trans rfl, (blk_cell HS.out.M 3).trans rfl⟩ (fun hHeld => ?_)
                            clear hK K
                            refine norm_ (a' := ?_) ?_ ?_
                            rotate_left
                            · show Act.put _ (some 53) _ = _
                              simp only [Act.put, List.setIfInBounds_toArray, List.set_cons_zero, List.set_cons_succ, i64_w, i32_w]
                              rfl
                            refine pure_ (i := 16) (N := some 54) (v := ?_) (a' := ?_) #[true, true, true, true, true, true, true, true, true, true, true, true, true, true, true, true, true, false] rfl rfl (any_of HT_.out (by kernel_rfl)) (fun _ _ _ h => h) (Or.inl ⟨by rfl, ?_⟩) ?_ ?_
                            rotate_left
                            · intro w'
                              go_simp
                              with_reducible rfl
                            rotate_left
                            · simp only [Act.put, List.setIfInBounds_toArray, List.set_cons_zero, List.set_cons_succ, i64_w, i32_w]
                              rfl
                            refine pure_ (i := 17) (N := some 5) (v := ?_) (a' := ?_) #[true, true, true, true, true, true, true, true, true, true, true, true, true, true, true, true, true, true] rfl rfl (any_of HT_.out (by kernel_rfl)) (fun _ _ _ h => h) (Or.inl ⟨by rfl, ?_⟩) ?_ ?_
                            rotate_left
                            · intro w'
                              go_simp
                              with_reducible rfl
                            rotate_left
                            · simp only [Act.put, List.setIfInBounds_toArray, List.set_cons_zero, List.set_cons_succ, i64_w, i32_w]
                              rfl
                            refine done_ (done_of HT_.out (by kernel_rfl)) ?_
                            clear HT_ HW_ hHeld
                            try go_wp2
                            go_roundg k3
                            case measure => omega
                            case rel => exact ⟨wrap64 (j + 1), wrap64 (t + z), s + f1, F1, by first | rfl | (simp; done), by first | rfl | (simp; done), H', ⟨by have := HK3.out; omega⟩, ⟨by rw [show (s + f1).toNat = s.toNat + f1.toNat by have := HG.out; have := HF1.out; omega]; repeat (first | exact HS.out | apply CS.drewN | apply CS.drew)⟩⟩
                          · rw [if_neg c3] at H
                            have c3b : decide (j < 4) = false := decide_eq_false c3
                            clear c3
                            have H' := Aside0.mk H
                            clear H
                            go_wp2
                            go_roundg k3
                            case measure => have := HK3.out; omega
                            case rel => exact ⟨wrap64 (i + 1), t, s, F, by first | rfl | (simp; done), by first | rfl | (simp; done), H', ⟨by have := HK2.out; have := HK3.out; omega⟩, ⟨(by repeat (first | exact HS.out | apply CS.drewN | apply CS.drew))⟩⟩
                        · rw [if_neg cg] at H
                          cases H
                  · rw [if_neg c2] at H
                    have c2b : decide (i < (c.size : Int)) = false := decide_eq_false c2
                    clear c2
                    simp only [Option.some.injEq, Prod.mk.injEq] at H
                    obtain ⟨rfl, rfl⟩ := H
                    go_wp2
                    go_ret2
                    exact ⟨rfl, (by repeat (first | exact HS.out.bw | apply pw_below_drewN | apply below_drew1))⟩
          · rw [if_neg cg] at H
            cases H

/-! ### laws_FnExactCountTracks: function 3 -/
def laws_FnExactCountTracks.f (k : Nat) (a0_0 : Int) (a0_1 : Int) (a0_2 : ByteArray) (a0_3 : Bool) : Option (Bool) := (laws_szMaze.f a0_0 a0_1 a0_2 a0_3 1048576).bind fun t197 => (if t197 < 0 then (some true) else ((laws_toMaze.f a0_0 a0_1 a0_2 a0_3).bind fun bt198 => ((spec_CountTracks.f k bt198.1 bt198.2.1 bt198.2.2.1 bt198.2.2.2).bind fun bt202 => ((laws_toMaze.f a0_0 a0_1 a0_2 a0_3).bind fun bt204 => ((impl_CountTracks.f k bt204.1 bt204.2.1 bt204.2.2.1 bt204.2.2.2).bind fun bt208 => (if bt208.1 = bt202.1 then (if (bt208.2 != bt202.2) = true then (none) else (some true)) else (none)))))))
theorem laws_FnExactCountTracks.mono : ∀ a0 a1 a2 a3 k, LeO (laws_FnExactCountTracks.f k a0 a1 a2 a3) (laws_FnExactCountTracks.f (k + 1) a0 a1 a2 a3) := by
  intro a0 a1 a2 a3 k
  unfold laws_FnExactCountTracks.f
  repeat' first
      | (with_reducible exact impl_CountTracks.mono _ _ _ _ _)
      | (with_reducible exact spec_CountTracks.mono _ _ _ _ _)
      | (with_reducible exact LeO.refl _)
      | (with_reducible exact LeO.none _)
      | (with_reducible refine LeO.ite ?_ ?_)
      | (with_reducible refine LeO.bind ?_ (fun _ => ?_))
      | exact impl_CountTracks.mono _ _ _ _ _
      | exact spec_CountTracks.mono _ _ _ _ _
      | exact LeO.none _
      | refine LeO.ite ?_ ?_
      | refine LeO.bind ?_ (fun _ => ?_)
set_option maxHeartbeats 8000000 in
set_option maxRecDepth 100000 in
theorem laws_FnExactCountTracks.calls (k : Nat) (a0_0 : Int) (a0_1 : Int) (a0_2 : ByteArray) (a0_3 : Bool) (r : Bool) (w : World) (h : laws_FnExactCountTracks.f k a0_0 a0_1 a0_2 a0_3 = some r) :
    Calls Tryd.prog 3 #[.agg #[.int .i64 a0_0, .int .i64 a0_1, .string a0_2, .bool a0_3]] w fun e w' => e = .returned (.bool r) ∧ Below w.heap.size w w' := by
  have hu23 := Tryd.underlying23
  have HB := Aside0.mk (Below.refl w.heap.size w)
  have H : ((laws_szMaze.f a0_0 a0_1 a0_2 a0_3 1048576).bind fun t197 => (if t197 < 0 then (some true) else ((laws_toMaze.f a0_0 a0_1 a0_2 a0_3).bind fun bt198 => ((spec_CountTracks.f k bt198.1 bt198.2.1 bt198.2.2.1 bt198.2.2.2).bind fun bt202 => ((laws_toMaze.f a0_0 a0_1 a0_2 a0_3).bind fun bt204 => ((impl_CountTracks.f k bt204.1 bt204.2.1 bt204.2.2.1 bt204.2.2.2).bind fun bt208 => (if bt208.1 = bt202.1 then (if (bt208.2 != bt202.2) = true then (none) else (some true)) else (none)))))))) = some r := h
  clear h
  replace H := Option.bind_eq_some_iff.mp H
  obtain ⟨t197, A20, H⟩ := H
  replace H : (if t197 < 0 then (some true) else ((laws_toMaze.f a0_0 a0_1 a0_2 a0_3).bind fun bt198 => ((spec_CountTracks.f k bt198.1 bt198.2.1 bt198.2.2.1 bt198.2.2.2).bind fun bt202 => ((laws_toMaze.f a0_0 a0_1 a0_2 a0_3).bind fun bt204 => ((impl_CountTracks.f k bt204.1 bt204.2.1 bt204.2.2.1 bt204.2.2.2).bind fun bt208 => (if bt208.1 = bt202.1 then (if (bt208.2 != bt202.2) = true then (none) else (some true)) else (none))))))) = some r := H
  have A2 := Aside0.mk A20
  clear A20
  by_cases c3 : t197 < 0
  · rw [if_pos c3] at H
    have c3b0 : decide (t197 < 0) = true := decide_eq_true c3
    clear c3
    obtain rfl := Option.some.inj H
    go_enter Tryd.func3, Tryd.ntmps3
    go_wp2_with (first | ((with_reducible refine gate_dst (N := 1) rfl ?_); refine box_event ?hg (N := 1) ?hd (cs := #[.int .i64 a0_0, .int .i64 a0_1, .string a0_2, .bool a0_3]) (t := 23) ?hr ?_; (case hd => rfl); (case hg => rfl); (case hr => first | (go_simp; done) | (go_simp; rfl)); intro gb196 hg w4 hbox hb; have n0_ := Aside0.mk (below_step (XSq.bB HB) hb); have n1_ := Aside0.mk (hbox); have n2_ := Aside0.mk ((by rw [hg]; exact (below_size (XSq.bB HB)) : w.heap.size ≤ gb196)); have n3_ := Aside0.mk ((by rw [hg]; exact (below_size (XSq.bB HB)) : w.heap.size ≤ gb196)); clear HB; have HB := n0_; have BK196 := n1_; have GW196 := n2_; have GE196 := n3_; clear n0_ n1_ n2_ n3_; clear hb hbox hg; have hcz5_0 : w4.cell? ⟨gb196, 0, none⟩ = some (.int .i64 a0_0) := (blk_cell BK196.out 0).trans rfl; have hcz5_1 : w4.cell? ⟨gb196, 1, none⟩ = some (.int .i64 a0_1) := (blk_cell BK196.out 1).trans rfl; have hcz5_2 : w4.cell? ⟨gb196, 2, none⟩ = some (.string a0_2) := (blk_cell BK196.out 2).trans rfl; have hcz5_3 : w4.cell? ⟨gb196, 3, none⟩ = some (.bool a0_3) := (blk_cell BK196.out 3).trans rfl; have hfz5_0 := blk_frozen BK196.out 0; have hfz5_1 := blk_frozen BK196.out 1; have hfz5_2 := blk_frozen BK196.out 2; have hfz5_3 := blk_frozen BK196.out 3) | ((with_reducible refine gate_callee (f := 4) rfl ?_); refine goesL_ (some 10) rfl rfl Tryd.func4 (by kernel_rfl) rfl #[.agg #[.int .i64 a0_0, .int .i64 a0_1, .string a0_2, .bool a0_3], .int .i64 1048576] rfl (by (try simp only [List.map_toArray, List.map_cons, List.map_nil]); first | done | rfl | (simp only [List.length_drop, List.length_take]; rfl)) ?_; (with_reducible refine (laws_szMaze.calls a0_0 a0_1 a0_2 a0_3 1048576 t197 _ A2.out).mono ?_); rintro e w6 ⟨rfl, hb⟩; refine ⟨_, rfl, ?_⟩; have n0_ := Aside0.mk (blk_below (g := gb196) (o := .cells #[.int .i64 a0_0, .int .i64 a0_1, .string a0_2, .bool a0_3] 23 (0, 0)) (XSq.bq BK196) hb); have n1_ := Aside0.mk (below_step (XSq.bB HB) hb); clear BK196; clear HB; have BK196 := n0_; have HB := n1_; clear n0_ n1_; (try clear hb); (try clear hb2); (try clear hk); (try clear hi)))
    go_ret
    exact ⟨by first | rfl | (simp [errW_none, errW_some] <;> rfl) | (simp [*, errW_none, errW_some] <;> rfl), by repeat (first | (with_reducible first | exact HB.out | apply below_alloc | apply pw_below_drewN | apply below_drew1 | refine below_set ?_ GE196.out) | exact HB.out)⟩
  · rw [if_neg c3] at H
    have c3b0 : decide (t197 < 0) = false := decide_eq_false c3
    clear c3
    replace H := Option.bind_eq_some_iff.mp H
    obtain ⟨⟨t198, t199, t200, t201⟩, A70, H⟩ := H
    replace H : ((spec_CountTracks.f k t198 t199 t200 t201).bind fun bt202 => ((laws_toMaze.f a0_0 a0_1 a0_2 a0_3).bind fun bt204 => ((impl_CountTracks.f k bt204.1 bt204.2.1 bt204.2.2.1 bt204.2.2.2).bind fun bt208 => (if bt208.1 = bt202.1 then (if (bt208.2 != bt202.2) = true then (none) else (some true)) else (none))))) = some r := H
    have A7 := Aside0.mk A70
    clear A70
    replace H := Option.bind_eq_some_iff.mp H
    obtain ⟨⟨t202, t203⟩, A80, H⟩ := H
    replace H : ((laws_toMaze.f a0_0 a0_1 a0_2 a0_3).bind fun bt204 => ((impl_CountTracks.f k bt204.1 bt204.2.1 bt204.2.2.1 bt204.2.2.2).bind fun bt208 => (if bt208.1 = t202 then (if (bt208.2 != t203) = true then (none) else (some true)) else (none)))) = some r := H
    have A8 := Aside0.mk A80
    clear A80
    replace H := Option.bind_eq_some_iff.mp H
    obtain ⟨⟨t204, t205, t206, t207⟩, A90, H⟩ := H
    replace H : ((impl_CountTracks.f k t204 t205 t206 t207).bind fun bt208 => (if bt208.1 = t202 then (if (bt208.2 != t203) = true then (none) else (some true)) else (none))) = some r := H
    have A9 := Aside0.mk A90
    clear A90
    replace H := Option.bind_eq_some_iff.mp H
    obtain ⟨⟨t208, t209⟩, A100, H⟩ := H
    replace H : (if t208 = t202 then (if (t209 != t203) = true then (none) else (some true)) else (none)) = some r := H
    have A10 := Aside0.mk A100
    clear A100
    by_cases c11 : t208 = t202
    · rw [if_pos c11] at H
      have c11b0 : (t208 == t202) = true := beq_iff_eq.mpr c11
      have c11b1 : (t208 != t202) = false := bne_eq_false_iff_eq.mpr c11
      clear c11
      by_cases c12 : (t209 != t203) = true
      · rw [if_pos c12] at H
        exact absurd H (by simp)
      · rw [if_neg c12] at H
        have c12b0 : (t209 != t203) = false := by simpa using c12
        (try (have c12b1 : decide (t209 = t203) = true := by simpa using c12))
        (try (have c12b2 : (t209 == t203) = true := by simpa using c12))
        clear c12
        obtain rfl := Option.some.inj H
        go_enter Tryd.func3, Tryd.ntmps3
        go_wp2_with (first | ((with_reducible refine gate_dst (N := 1) rfl ?_); refine box_event ?hg (N := 1) ?hd (cs := #[.int .i64 a0_0, .int .i64 a0_1, .string a0_2, .bool a0_3]) (t := 23) ?hr ?_; (case hd => rfl); (case hg => rfl); (case hr => first | (go_simp; done) | (go_simp; rfl)); intro gb196 hg w13 hbox hb; have n0_ := Aside0.mk (below_step (XSq.bB HB) hb); have n1_ := Aside0.mk (hbox); have n2_ := Aside0.mk ((by rw [hg]; exact (below_size (XSq.bB HB)) : w.heap.size ≤ gb196)); have n3_ := Aside0.mk ((by rw [hg]; exact (below_size (XSq.bB HB)) : w.heap.size ≤ gb196)); clear HB; have HB := n0_; have BK196 := n1_; have GW196 := n2_; have GE196 := n3_; clear n0_ n1_ n2_ n3_; clear hb hbox hg; have hcz14_0 : w13.cell? ⟨gb196, 0, none⟩ = some (.int .i64 a0_0) := (blk_cell BK196.out 0).trans rfl; have hcz14_1 : w13.cell? ⟨gb196, 1, none⟩ = some (.int .i64 a0_1) := (blk_cell BK196.out 1).trans rfl; have hcz14_2 : w13.cell? ⟨gb196, 2, none⟩ = some (.string a0_2) := (blk_cell BK196.out 2).trans rfl; have hcz14_3 : w13.cell? ⟨gb196, 3, none⟩ = some (.bool a0_3) := (blk_cell BK196.out 3).trans rfl; have hfz14_0 := blk_frozen BK196.out 0; have hfz14_1 := blk_frozen BK196.out 1; have hfz14_2 := blk_frozen BK196.out 2; have hfz14_3 := blk_frozen BK196.out 3) | ((with_reducible refine gate_callee (f := 4) rfl ?_); refine goesL_ (some 10) rfl rfl Tryd.func4 (by kernel_rfl) rfl #[.agg #[.int .i64 a0_0, .int .i64 a0_1, .string a0_2, .bool a0_3], .int .i64 1048576] rfl (by (try simp only [List.map_toArray, List.map_cons, List.map_nil]); first | done | rfl | (simp only [List.length_drop, List.length_take]; rfl)) ?_; (with_reducible refine (laws_szMaze.calls a0_0 a0_1 a0_2 a0_3 1048576 t197 _ A2.out).mono ?_); rintro e w15 ⟨rfl, hb⟩; refine ⟨_, rfl, ?_⟩; have n0_ := Aside0.mk (blk_below (g := gb196) (o := .cells #[.int .i64 a0_0, .int .i64 a0_1, .string a0_2, .bool a0_3] 23 (0, 0)) (XSq.bq BK196) hb); have n1_ := Aside0.mk (below_step (XSq.bB HB) hb); clear BK196; clear HB; have BK196 := n0_; have HB := n1_; clear n0_ n1_; (try clear hb); (try clear hb2); (try clear hk); (try clear hi); have hcz16_0 : w15.cell? ⟨gb196, 0, none⟩ = some (.int .i64 a0_0) := (blk_cell BK196.out 0).trans rfl; have hcz16_1 : w15.cell? ⟨gb196, 1, none⟩ = some (.int .i64 a0_1) := (blk_cell BK196.out 1).trans rfl; have hcz16_2 : w15.cell? ⟨gb196, 2, none⟩ = some (.string a0_2) := (blk_cell BK196.out 2).trans rfl; have hcz16_3 : w15.cell? ⟨gb196, 3, none⟩ = some (.bool a0_3) := (blk_cell BK196.out 3).trans rfl; have hfz16_0 := blk_frozen BK196.out 0; have hfz16_1 := blk_frozen BK196.out 1; have hfz16_2 := blk_frozen BK196.out 2; have hfz16_3 := blk_frozen BK196.out 3) | ((with_reducible refine gate_callee (f := 6) rfl ?_); refine goesL_ (some 15) rfl rfl Tryd.func6 (by kernel_rfl) rfl #[.agg #[.int .i64 a0_0, .int .i64 a0_1, .string a0_2, .bool a0_3]] rfl (by (try simp only [List.map_toArray, List.map_cons, List.map_nil]); first | done | rfl | (simp only [List.length_drop, List.length_take]; rfl)) ?_; (with_reducible refine (laws_toMaze.calls a0_0 a0_1 a0_2 a0_3 t198 t199 t200 t201 _ A7.out).mono ?_); rintro e w17 ⟨rfl, hb⟩; refine ⟨_, rfl, ?_⟩; have n0_ := Aside0.mk (blk_below (g := gb196) (o := .cells #[.int .i64 a0_0, .int .i64 a0_1, .string a0_2, .bool a0_3] 23 (0, 0)) (XSq.bq BK196) hb); have n1_ := Aside0.mk (below_step (XSq.bB HB) hb); clear BK196; clear HB; have BK196 := n0_; have HB := n1_; clear n0_ n1_; (try clear hb); (try clear hb2); (try clear hk); (try clear hi)) | ((with_reducible refine gate_callee (f := 5) rfl ?_); refine goesL_ (some 16) rfl rfl Tryd.func5 (by kernel_rfl) rfl #[.agg #[.int .i64 t198, .int .i64 t199, .string t200, .bool t201]] rfl (by (try simp only [List.map_toArray, List.map_cons, List.map_nil]); first | done | rfl | (simp only [List.length_drop, List.length_take]; rfl)) ?_; (with_reducible refine (spec_CountTracks.calls k t198 t199 t200 t201 t202 t203 _ A8.out).mono ?_); rintro e w18 ⟨rfl, hb⟩; refine ⟨_, rfl, ?_⟩; have n0_ := Aside0.mk (blk_below (g := gb196) (o := .cells #[.int .i64 a0_0, .int .i64 a0_1, .string a0_2, .bool a0_3] 23 (0, 0)) (XSq.bq BK196) hb); have n1_ := Aside0.mk (below_step (XSq.bB HB) hb); clear BK196; clear HB; have BK196 := n0_; have HB := n1_; clear n0_ n1_; (try clear hb); (try clear hb2); (try clear hk); (try clear hi); have hcz19_0 : w18.cell? ⟨gb196, 0, none⟩ = some (.int .i64 a0_0) := (blk_cell BK196.out 0).trans rfl; have hcz19_1 : w18.cell? ⟨gb196, 1, none⟩ = some (.int .i64 a0_1) := (blk_cell BK196.out 1).trans rfl; have hcz19_2 : w18.cell? ⟨gb196, 2, none⟩ = some (.string a0_2) := (blk_cell BK196.out 2).trans rfl; have hcz19_3 : w18.cell? ⟨gb196, 3, none⟩ = some (.bool a0_3) := (blk_cell BK196.out 3).trans rfl; have hfz19_0 := blk_frozen BK196.out 0; have hfz19_1 := blk_frozen BK196.out 1; have hfz19_2 := blk_frozen BK196.out 2; have hfz19_3 := blk_frozen BK196.out 3) | ((with_reducible refine gate_callee (f := 6) rfl ?_); refine goesL_ (some 21) rfl rfl Tryd.func6 (by kernel_rfl) rfl #[.agg #[.int .i64 a0_0, .int .i64 a0_1, .string a0_2, .bool a0_3]] rfl (by (try simp only [List.map_toArray, List.map_cons, List.map_nil]); first | done | rfl | (simp only [List.length_drop, List.length_take]; rfl)) ?_; (with_reducible refine (laws_toMaze.calls a0_0 a0_1 a0_2 a0_3 t204 t205 t206 t207 _ A9.out).mono ?_); rintro e w20 ⟨rfl, hb⟩; refine ⟨_, rfl, ?_⟩; have n0_ := Aside0.mk (blk_below (g := gb196) (o := .cells #[.int .i64 a0_0, .int .i64 a0_1, .string a0_2, .bool a0_3] 23 (0, 0)) (XSq.bq BK196) hb); have n1_ := Aside0.mk (below_step (XSq.bB HB) hb); clear BK196; clear HB; have BK196 := n0_; have HB := n1_; clear n0_ n1_; (try clear hb); (try clear hb2); (try clear hk); (try clear hi)) | ((with_reducible refine gate_callee (f := 7) rfl ?_); refine goesL_ (some 22) rfl rfl Tryd.func7 (by kernel_rfl) rfl #[.agg #[.int .i64 t204, .int .i64 t205, .string t206, .bool t207]] rfl (by (try simp only [List.map_toArray, List.map_cons, List.map_nil]); first | done | rfl | (simp only [List.length_drop, List.length_take]; rfl)) ?_; (with_reducible refine (impl_CountTracks.calls k t204 t205 t206 t207 t208 t209 _ A10.out).mono ?_); rintro e w21 ⟨rfl, hb⟩; refine ⟨_, rfl, ?_⟩; have n0_ := Aside0.mk (blk_below (g := gb196) (o := .cells #[.int .i64 a0_0, .int .i64 a0_1, .string a0_2, .bool a0_3] 23 (0, 0)) (XSq.bq BK196) hb); have n1_ := Aside0.mk (below_step (XSq.bB HB) hb); clear BK196; clear HB; have BK196 := n0_; have HB := n1_; clear n0_ n1_; (try clear hb); (try clear hb2); (try clear hk); (try clear hi)))
        go_ret
        exact ⟨by first | rfl | (simp [errW_none, errW_some] <;> rfl) | (simp [*, errW_none, errW_some] <;> rfl), by repeat (first | (with_reducible first | exact HB.out | apply below_alloc | apply pw_below_drewN | apply below_drew1 | refine below_set ?_ GE196.out) | exact HB.out)⟩
    · rw [if_neg c11] at H
      exact absurd H (by simp)

end Go.Proofs.YtnbfjggbplofgaaDoor.PFnExactCountTracks
