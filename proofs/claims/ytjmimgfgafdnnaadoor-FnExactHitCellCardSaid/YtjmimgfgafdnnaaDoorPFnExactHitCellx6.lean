-- Made by wip/tools/xkit.py (a program of this session's) with the kit's printer.
import Derived.Test.YtjmimgfgafdnnaaDoorPFnExactHitCellx0
import Derived.Test.YtjmimgfgafdnnaaDoorPFnExactHitCellx1
import Derived.Test.YtjmimgfgafdnnaaDoorPFnExactHitCellx3
import Derived.Test.YtjmimgfgafdnnaaDoorPFnExactHitCellx5
namespace Go.Proofs.YtjmimgfgafdnnaaDoor.PFnExactHitCell
open Go.RowKit Go.Proofs.YtjmimgfgafdnnaaDoorW.PrintWords Go.Proofs.YtjmimgfgafdnnaaDoorW.PrintLast Go.Proofs.YtjmimgfgafdnnaaDoorW.PrintMore
attribute [local go_sem] max2_int min2_int max_two min_two max_three min_three max_four min_four   -- for this text's walks alone
set_option linter.unusedVariables false
set_option linter.unusedSimpArgs false

/-! ### laws_FnExactHitCell: function 3 -/
def laws_FnExactHitCell.f (k : Nat) (a0_0 : Int) (a0_1 : Int) (a0_2 : ByteArray) (a0_3 : Bool) (a1_0 : Int) (a1_1 : Int) (a1_2 : Int) : Option (Bool) := (laws_szMaze.f a0_0 a0_1 a0_2 a0_3 1048576).bind fun t200 => (if t200 < 0 then (some true) else ((laws_toMaze.f a0_0 a0_1 a0_2 a0_3).bind fun bt201 => ((laws_toBall.f a1_0 a1_1 a1_2).bind fun bt205 => ((spec_HitCell.f k bt201.1 bt201.2.1 bt201.2.2.1 bt201.2.2.2 bt205.1 bt205.2.1 bt205.2.2).bind fun bt208 => ((laws_toMaze.f a0_0 a0_1 a0_2 a0_3).bind fun bt218 => ((laws_toBall.f a1_0 a1_1 a1_2).bind fun bt222 => ((impl_HitCell.f k bt218.1 bt218.2.1 bt218.2.2.1 bt218.2.2.2 bt222.1 bt222.2.1 bt222.2.2).bind fun bt225 => ((laws_eqMaze.f bt225.1 bt225.2.1 bt225.2.2.1 bt225.2.2.2.1 bt208.1 bt208.2.1 bt208.2.2.1 bt208.2.2.2.1).bind fun t235 => (if t235 = true then ((laws_eqBall.f bt225.2.2.2.2.1 bt225.2.2.2.2.2.1 bt225.2.2.2.2.2.2.1 bt208.2.2.2.2.1 bt208.2.2.2.2.2.1 bt208.2.2.2.2.2.2.1).bind fun t236 => (if t236 = true then (if (bt225.2.2.2.2.2.2.2 != bt208.2.2.2.2.2.2.2) = true then (none) else (some true)) else (none))) else (none))))))))))
theorem laws_FnExactHitCell.mono : ∀ a0 a1 a2 a3 a4 a5 a6 k, LeO (laws_FnExactHitCell.f k a0 a1 a2 a3 a4 a5 a6) (laws_FnExactHitCell.f (k + 1) a0 a1 a2 a3 a4 a5 a6) := by
  intro a0 a1 a2 a3 a4 a5 a6 k
  unfold laws_FnExactHitCell.f
  repeat' first
      | (with_reducible exact impl_HitCell.mono _ _ _ _ _ _ _ _)
      | (with_reducible exact spec_HitCell.mono _ _ _ _ _ _ _ _)
      | (with_reducible exact LeO.refl _)
      | (with_reducible exact LeO.none _)
      | (with_reducible refine LeO.ite ?_ ?_)
      | (with_reducible refine LeO.bind ?_ (fun _ => ?_))
      | exact impl_HitCell.mono _ _ _ _ _ _ _ _
      | exact spec_HitCell.mono _ _ _ _ _ _ _ _
      | exact LeO.none _
      | refine LeO.ite ?_ ?_
      | refine LeO.bind ?_ (fun _ => ?_)
def laws_FnExactHitCell.T5 : Bool × List (List Nat × List Nat) := (true, [([], []), ([0], [0]), ([], []), ([2, 1], [2]), ([1, 3, 3], [1, 3]), ([4], [4]), ([5], [5]), ([5], [5]), ([5], [5]), ([], []), ([], []), ([9, 6, 4, 0, 1, 2, 3, 4, 5, 6, 9, 10], [6, 9]), ([10, 7, 11, 0, 1, 2, 3, 4, 5, 6, 7, 9, 10, 11], [7, 10]), ([8, 12, 0, 1, 2, 3, 4, 5, 6, 7, 8, 9, 10, 11, 12], [8])])
def laws_FnExactHitCell.B5 : List Nat := [0, 1, 0, 7, 15, 31, 63, 63, 63, 0, 0, 1663, 3839, 8191]
theorem laws_FnExactHitCell.tab5 : rtab .any (opsOf Tryd.f3 5) = laws_FnExactHitCell.T5 := by kernel_rfl
theorem laws_FnExactHitCell.bits5 : waitsOk laws_FnExactHitCell.T5.2 laws_FnExactHitCell.B5 = true := by kernel_rfl
def laws_FnExactHitCell.T6 : Bool × List (List Nat × List Nat) := (true, [([], []), ([0], [0]), ([], []), ([2, 1], [2]), ([1, 3, 3], [1, 3]), ([4], [4]), ([5], [5]), ([5], [5]), ([5], [5]), ([], []), ([], []), ([9, 6, 4, 0, 1, 2, 3, 4, 5, 6, 9, 10], [6, 9]), ([10, 7, 11, 0, 1, 2, 3, 4, 5, 6, 7, 9, 10, 11], [7, 10]), ([8, 12, 0, 1, 2, 3, 4, 5, 6, 7, 8, 9, 10, 11, 12], [8])])
def laws_FnExactHitCell.B6 : List Nat := [0, 1, 0, 7, 15, 31, 63, 63, 63, 0, 0, 1663, 3839, 8191]
theorem laws_FnExactHitCell.tab6 : rtab .any (opsOf Tryd.f3 6) = laws_FnExactHitCell.T6 := by kernel_rfl
theorem laws_FnExactHitCell.bits6 : waitsOk laws_FnExactHitCell.T6.2 laws_FnExactHitCell.B6 = true := by kernel_rfl
theorem laws_FnExactHitCell.cs {w' : World} {g198 : Nat} {g199 : Nat} {a0_0 : Int} {a0_1 : Int} {a0_2 : ByteArray} {a0_3 : Bool} {a1_0 : Int} {a1_1 : Int} {a1_2 : Int} (h198 : w'.heap[g198]? = some (.cells #[.int .i64 a0_0, .int .i64 a0_1, .string a0_2, .bool a0_3] 23 (0, 0))) (h199 : w'.heap[g199]? = some (.cells #[.int .i64 a1_0, .int .i64 a1_1, .int .i64 a1_2] 25 (0, 0))) : w'.cell? ⟨g198, 0, none⟩ = some (.int .i64 a0_0) ∧ w'.cell? ⟨g198, 1, none⟩ = some (.int .i64 a0_1) ∧ w'.cell? ⟨g198, 2, none⟩ = some (.string a0_2) ∧ w'.cell? ⟨g198, 3, none⟩ = some (.bool a0_3) ∧ w'.cell? ⟨g199, 0, none⟩ = some (.int .i64 a1_0) ∧ w'.cell? ⟨g199, 1, none⟩ = some (.int .i64 a1_1) ∧ w'.cell? ⟨g199, 2, none⟩ = some (.int .i64 a1_2) := ⟨(blk_cell h198 0).trans rfl, (blk_cell h198 1).trans rfl, (blk_cell h198 2).trans rfl, (blk_cell h198 3).trans rfl, (blk_cell h199 0).trans rfl, (blk_cell h199 1).trans rfl, (blk_cell h199 2).trans rfl⟩
set_option maxHeartbeats 8000000 in
set_option maxRecDepth 100000 in
theorem laws_FnExactHitCell.calls (k : Nat) (a0_0 : Int) (a0_1 : Int) (a0_2 : ByteArray) (a0_3 : Bool) (a1_0 : Int) (a1_1 : Int) (a1_2 : Int) (r : Bool) (w : World) (h : laws_FnExactHitCell.f k a0_0 a0_1 a0_2 a0_3 a1_0 a1_1 a1_2 = some r) :
  Calls Tryd.prog 3 #[.agg #[.int .i64 a0_0, .int .i64 a0_1, .string a0_2, .bool a0_3], .agg #[.int .i64 a1_0, .int .i64 a1_1, .int .i64 a1_2]] w fun e w' => e = .returned (.bool r) ∧ Below w.heap.size w w' := by
 have hu23 := Tryd.underlying23
 have hu25 := Tryd.underlying25
 have hu27 := Tryd.underlying27
 have hu28 := Tryd.underlying28
 have HB := Aside0.mk (Below.refl w.heap.size w)
 have H : ((laws_szMaze.f a0_0 a0_1 a0_2 a0_3 1048576).bind fun t200 => (if t200 < 0 then (some true) else ((laws_toMaze.f a0_0 a0_1 a0_2 a0_3).bind fun bt201 => ((laws_toBall.f a1_0 a1_1 a1_2).bind fun bt205 => ((spec_HitCell.f k bt201.1 bt201.2.1 bt201.2.2.1 bt201.2.2.2 bt205.1 bt205.2.1 bt205.2.2).bind fun bt208 => ((laws_toMaze.f a0_0 a0_1 a0_2 a0_3).bind fun bt218 => ((laws_toBall.f a1_0 a1_1 a1_2).bind fun bt222 => ((impl_HitCell.f k bt218.1 bt218.2.1 bt218.2.2.1 bt218.2.2.2 bt222.1 bt222.2.1 bt222.2.2).bind fun bt225 => ((laws_eqMaze.f bt225.1 bt225.2.1 bt225.2.2.1 bt225.2.2.2.1 bt208.1 bt208.2.1 bt208.2.2.1 bt208.2.2.2.1).bind fun t235 => (if t235 = true then ((laws_eqBall.f bt225.2.2.2.2.1 bt225.2.2.2.2.2.1 bt225.2.2.2.2.2.2.1 bt208.2.2.2.2.1 bt208.2.2.2.2.2.1 bt208.2.2.2.2.2.2.1).bind fun t236 => (if t236 = true then (if (bt225.2.2.2.2.2.2.2 != bt208.2.2.2.2.2.2.2) = true then (none) else (some true)) else (none))) else (none))))))))))) = some r := h
 clear h
 replace H := Option.bind_eq_some_iff.mp H
 obtain ⟨t200, A30, H⟩ := H
 replace H : (if t200 < 0 then (some true) else ((laws_toMaze.f a0_0 a0_1 a0_2 a0_3).bind fun bt201 => ((laws_toBall.f a1_0 a1_1 a1_2).bind fun bt205 => ((spec_HitCell.f k bt201.1 bt201.2.1 bt201.2.2.1 bt201.2.2.2 bt205.1 bt205.2.1 bt205.2.2).bind fun bt208 => ((laws_toMaze.f a0_0 a0_1 a0_2 a0_3).bind fun bt218 => ((laws_toBall.f a1_0 a1_1 a1_2).bind fun bt222 => ((impl_HitCell.f k bt218.1 bt218.2.1 bt218.2.2.1 bt218.2.2.2 bt222.1 bt222.2.1 bt222.2.2).bind fun bt225 => ((laws_eqMaze.f bt225.1 bt225.2.1 bt225.2.2.1 bt225.2.2.2.1 bt208.1 bt208.2.1 bt208.2.2.1 bt208.2.2.2.1).bind fun t235 => (if t235 = true then ((laws_eqBall.f bt225.2.2.2.2.1 bt225.2.2.2.2.2.1 bt225.2.2.2.2.2.2.1 bt208.2.2.2.2.1 bt208.2.2.2.2.2.1 bt208.2.2.2.2.2.2.1).bind fun t236 => (if t236 = true then (if (bt225.2.2.2.2.2.2.2 != bt208.2.2.2.2.2.2.2) = true then (none) else (some true)) else (none))) else (none)))))))))) = some r := H
 have A3 := Aside0.mk A30
 clear A30
 by_cases c4 : t200 < 0
 ·
  rw [if_pos c4] at H
  have c4b0 : decide (t200 < 0) = true := decide_eq_true c4
  clear c4
  obtain rfl := Option.some.inj H
  go_enter Tryd.func3, Tryd.ntmps3
  go_wp2_with (first | ((with_reducible refine gate_dst (N := 2) rfl ?_); refine box_event ?hg (N := 2) ?hd (cs := #[.int .i64 a0_0, .int .i64 a0_1, .string a0_2, .bool a0_3]) (t := 23) ?hr ?_; (case hd => rfl); (case hg => rfl); (case hr => first | (go_simp; done) | (go_simp; rfl)); intro gb198 hg w5 hbox hb; have n0_ := Aside0.mk (below_step (XSq.bB HB) hb); have n1_ := Aside0.mk (hbox); have n2_ := XSq.gw hg (XSq.bB HB); have n3_ := XSq.gw hg (XSq.bB HB); clear HB; have HB := n0_; have BK198 := n1_; have GW198 := n2_; have GE198 := n3_; clear n0_ n1_ n2_ n3_; clear hb hbox hg) | ((with_reducible refine gate_dst (N := 3) rfl ?_); refine box_event ?hg (N := 3) ?hd (cs := #[.int .i64 a1_0, .int .i64 a1_1, .int .i64 a1_2]) (t := 25) ?hr ?_; (case hd => rfl); (case hg => rfl); (case hr => first | (go_simp; done) | (go_simp; rfl)); intro gb199 hg w6 hbox hb; have n0_ := XSq.bb BK198 hb; have n1_ := Aside0.mk (below_step (XSq.bB HB) hb); have n2_ := Aside0.mk (hbox); have n3_ := XSq.gw hg (XSq.bB HB); have n4_ := XSq.gw hg (XSq.bB HB); have n5_ := XSq.nl hg (XSq.bq BK198); have n6_ := XSq.nr hg (XSq.bq BK198); clear BK198; clear HB; have BK198 := n0_; have HB := n1_; have BK199 := n2_; have GW199 := n3_; have GE199 := n4_; have NB198_199 := n5_; have NB199_198 := n6_; clear n0_ n1_ n2_ n3_ n4_ n5_ n6_; clear hb hbox hg; have hnb7 := NB198_199.out; have hnc7 := NB199_198.out; have hcz8_0 : w6.cell? ⟨gb198, 0, none⟩ = some (.int .i64 a0_0) := (blk_cell BK198.out 0).trans rfl; have hcz8_1 : w6.cell? ⟨gb198, 1, none⟩ = some (.int .i64 a0_1) := (blk_cell BK198.out 1).trans rfl; have hcz8_2 : w6.cell? ⟨gb198, 2, none⟩ = some (.string a0_2) := (blk_cell BK198.out 2).trans rfl; have hcz8_3 : w6.cell? ⟨gb198, 3, none⟩ = some (.bool a0_3) := (blk_cell BK198.out 3).trans rfl; have hfz8_0 := blk_frozen BK198.out 0; have hfz8_1 := blk_frozen BK198.out 1; have hfz8_2 := blk_frozen BK198.out 2; have hfz8_3 := blk_frozen BK198.out 3) | ((with_reducible refine gate_callee (f := 7) rfl ?_); refine goesL_ (some 14) rfl rfl Tryd.func7 (by kernel_rfl) rfl #[.agg #[.int .i64 a0_0, .int .i64 a0_1, .string a0_2, .bool a0_3], .int .i64 1048576] rfl (by (try simp only [List.map_toArray, List.map_cons, List.map_nil]); first | done | rfl | (simp only [List.length_drop, List.length_take]; rfl)) ?_; (with_reducible refine (laws_szMaze.calls a0_0 a0_1 a0_2 a0_3 1048576 t200 _ A3.out).mono ?_); rintro e w9 ⟨rfl, hb⟩; refine ⟨_, rfl, ?_⟩; have n0_ := XSq.bb BK198 hb; have n1_ := XSq.bb BK199 hb; have n2_ := Aside0.mk (below_step (XSq.bB HB) hb); clear BK198; clear BK199; clear HB; have BK198 := n0_; have BK199 := n1_; have HB := n2_; clear n0_ n1_ n2_; clear hb; (try clear hb2); (try clear hk); (try clear hi)))
  go_ret
  exact ⟨by first | rfl | (simp [errW_none, errW_some] <;> rfl) | (simp [*, errW_none, errW_some] <;> rfl), by repeat (first | (with_reducible first | exact HB.out | apply below_alloc | apply pw_below_drewN | apply below_drew1 | refine below_set ?_ GE198.out | refine below_set ?_ GE199.out) | exact HB.out)⟩
 ·
  rw [if_neg c4] at H
  have c4b0 : decide (t200 < 0) = false := decide_eq_false c4
  clear c4
  replace H := Option.bind_eq_some_iff.mp H
  obtain ⟨⟨t201, t202, t203, t204⟩, A100, H⟩ := H
  replace H : ((laws_toBall.f a1_0 a1_1 a1_2).bind fun bt205 => ((spec_HitCell.f k t201 t202 t203 t204 bt205.1 bt205.2.1 bt205.2.2).bind fun bt208 => ((laws_toMaze.f a0_0 a0_1 a0_2 a0_3).bind fun bt218 => ((laws_toBall.f a1_0 a1_1 a1_2).bind fun bt222 => ((impl_HitCell.f k bt218.1 bt218.2.1 bt218.2.2.1 bt218.2.2.2 bt222.1 bt222.2.1 bt222.2.2).bind fun bt225 => ((laws_eqMaze.f bt225.1 bt225.2.1 bt225.2.2.1 bt225.2.2.2.1 bt208.1 bt208.2.1 bt208.2.2.1 bt208.2.2.2.1).bind fun t235 => (if t235 = true then ((laws_eqBall.f bt225.2.2.2.2.1 bt225.2.2.2.2.2.1 bt225.2.2.2.2.2.2.1 bt208.2.2.2.2.1 bt208.2.2.2.2.2.1 bt208.2.2.2.2.2.2.1).bind fun t236 => (if t236 = true then (if (bt225.2.2.2.2.2.2.2 != bt208.2.2.2.2.2.2.2) = true then (none) else (some true)) else (none))) else (none)))))))) = some r := H
  have A10 := Aside0.mk A100
  clear A100
  replace H := Option.bind_eq_some_iff.mp H
  obtain ⟨⟨t205, t206, t207⟩, A110, H⟩ := H
  replace H : ((spec_HitCell.f k t201 t202 t203 t204 t205 t206 t207).bind fun bt208 => ((laws_toMaze.f a0_0 a0_1 a0_2 a0_3).bind fun bt218 => ((laws_toBall.f a1_0 a1_1 a1_2).bind fun bt222 => ((impl_HitCell.f k bt218.1 bt218.2.1 bt218.2.2.1 bt218.2.2.2 bt222.1 bt222.2.1 bt222.2.2).bind fun bt225 => ((laws_eqMaze.f bt225.1 bt225.2.1 bt225.2.2.1 bt225.2.2.2.1 bt208.1 bt208.2.1 bt208.2.2.1 bt208.2.2.2.1).bind fun t235 => (if t235 = true then ((laws_eqBall.f bt225.2.2.2.2.1 bt225.2.2.2.2.2.1 bt225.2.2.2.2.2.2.1 bt208.2.2.2.2.1 bt208.2.2.2.2.2.1 bt208.2.2.2.2.2.2.1).bind fun t236 => (if t236 = true then (if (bt225.2.2.2.2.2.2.2 != bt208.2.2.2.2.2.2.2) = true then (none) else (some true)) else (none))) else (none))))))) = some r := H
  have A11 := Aside0.mk A110
  clear A110
  replace H := Option.bind_eq_some_iff.mp H
  obtain ⟨⟨t208, t209, t210, t211, t212, t213, t214, t215⟩, A120, H⟩ := H
  replace H : ((laws_toMaze.f a0_0 a0_1 a0_2 a0_3).bind fun bt218 => ((laws_toBall.f a1_0 a1_1 a1_2).bind fun bt222 => ((impl_HitCell.f k bt218.1 bt218.2.1 bt218.2.2.1 bt218.2.2.2 bt222.1 bt222.2.1 bt222.2.2).bind fun bt225 => ((laws_eqMaze.f bt225.1 bt225.2.1 bt225.2.2.1 bt225.2.2.2.1 t208 t209 t210 t211).bind fun t235 => (if t235 = true then ((laws_eqBall.f bt225.2.2.2.2.1 bt225.2.2.2.2.2.1 bt225.2.2.2.2.2.2.1 t212 t213 t214).bind fun t236 => (if t236 = true then (if (bt225.2.2.2.2.2.2.2 != t215) = true then (none) else (some true)) else (none))) else (none)))))) = some r := H
  have A12 := Aside0.mk A120
  clear A120
  replace H := Option.bind_eq_some_iff.mp H
  obtain ⟨⟨t218, t219, t220, t221⟩, A130, H⟩ := H
  replace H : ((laws_toBall.f a1_0 a1_1 a1_2).bind fun bt222 => ((impl_HitCell.f k t218 t219 t220 t221 bt222.1 bt222.2.1 bt222.2.2).bind fun bt225 => ((laws_eqMaze.f bt225.1 bt225.2.1 bt225.2.2.1 bt225.2.2.2.1 t208 t209 t210 t211).bind fun t235 => (if t235 = true then ((laws_eqBall.f bt225.2.2.2.2.1 bt225.2.2.2.2.2.1 bt225.2.2.2.2.2.2.1 t212 t213 t214).bind fun t236 => (if t236 = true then (if (bt225.2.2.2.2.2.2.2 != t215) = true then (none) else (some true)) else (none))) else (none))))) = some r := H
  have A13 := Aside0.mk A130
  clear A130
  replace H := Option.bind_eq_some_iff.mp H
  obtain ⟨⟨t222, t223, t224⟩, A140, H⟩ := H
  replace H : ((impl_HitCell.f k t218 t219 t220 t221 t222 t223 t224).bind fun bt225 => ((laws_eqMaze.f bt225.1 bt225.2.1 bt225.2.2.1 bt225.2.2.2.1 t208 t209 t210 t211).bind fun t235 => (if t235 = true then ((laws_eqBall.f bt225.2.2.2.2.1 bt225.2.2.2.2.2.1 bt225.2.2.2.2.2.2.1 t212 t213 t214).bind fun t236 => (if t236 = true then (if (bt225.2.2.2.2.2.2.2 != t215) = true then (none) else (some true)) else (none))) else (none)))) = some r := H
  have A14 := Aside0.mk A140
  clear A140
  replace H := Option.bind_eq_some_iff.mp H
  obtain ⟨⟨t225, t226, t227, t228, t229, t230, t231, t232⟩, A150, H⟩ := H
  replace H : ((laws_eqMaze.f t225 t226 t227 t228 t208 t209 t210 t211).bind fun t235 => (if t235 = true then ((laws_eqBall.f t229 t230 t231 t212 t213 t214).bind fun t236 => (if t236 = true then (if (t232 != t215) = true then (none) else (some true)) else (none))) else (none))) = some r := H
  have A15 := Aside0.mk A150
  clear A150
  replace H := Option.bind_eq_some_iff.mp H
  obtain ⟨t235, A160, H⟩ := H
  replace H : (if t235 = true then ((laws_eqBall.f t229 t230 t231 t212 t213 t214).bind fun t236 => (if t236 = true then (if (t232 != t215) = true then (none) else (some true)) else (none))) else (none)) = some r := H
  have A16 := Aside0.mk A160
  clear A160
  by_cases c17 : t235 = true
  ·
   subst c17
   have H1 : ((laws_eqBall.f t229 t230 t231 t212 t213 t214).bind fun t236 => (if t236 = true then (if (t232 != t215) = true then (none) else (some true)) else (none))) = some r := by rw [if_pos rfl] at H; exact H
   clear H
   have H := H1
   clear H1
   replace H := Option.bind_eq_some_iff.mp H
   obtain ⟨t236, A180, H⟩ := H
   replace H : (if t236 = true then (if (t232 != t215) = true then (none) else (some true)) else (none)) = some r := H
   have A18 := Aside0.mk A180
   clear A180
   by_cases c19 : t236 = true
   ·
    subst c19
    have H1 : (if (t232 != t215) = true then (none) else (some true)) = some r := by rw [if_pos rfl] at H; exact H
    clear H
    have H := H1
    clear H1
    by_cases c20 : (t232 != t215) = true
    ·
     rw [if_pos c20] at H
     exact absurd H (by simp)
    ·
     rw [if_neg c20] at H
     have c20b0 : (t232 != t215) = false := by simpa using c20
     (try (have c20b1 : decide (t232 = t215) = true := by simpa using c20))
     (try (have c20b2 : (t232 == t215) = true := by simpa using c20))
     clear c20
     obtain rfl := Option.some.inj H
     go_enter Tryd.func3, Tryd.ntmps3
     try go_wp2_with (first | ((with_reducible refine gate_dst (N := 2) rfl ?_); refine box_event ?hg (N := 2) ?hd (cs := #[.int .i64 a0_0, .int .i64 a0_1, .string a0_2, .bool a0_3]) (t := 23) ?hr ?_; (case hd => rfl); (case hg => rfl); (case hr => first | (go_simp; done) | (go_simp; rfl)); intro gb198 hg w21 hbox hb; have n0_ := Aside0.mk (below_step (XSq.bB HB) hb); have n1_ := Aside0.mk (hbox); have n2_ := XSq.gw hg (XSq.bB HB); have n3_ := XSq.gw hg (XSq.bB HB); clear HB; have HB := n0_; have BK198 := n1_; have GW198 := n2_; have GE198 := n3_; clear n0_ n1_ n2_ n3_; clear hb hbox hg) | ((with_reducible refine gate_dst (N := 3) rfl ?_); refine box_event ?hg (N := 3) ?hd (cs := #[.int .i64 a1_0, .int .i64 a1_1, .int .i64 a1_2]) (t := 25) ?hr ?_; (case hd => rfl); (case hg => rfl); (case hr => first | (go_simp; done) | (go_simp; rfl)); intro gb199 hg w22 hbox hb; have n0_ := XSq.bb BK198 hb; have n1_ := Aside0.mk (below_step (XSq.bB HB) hb); have n2_ := Aside0.mk (hbox); have n3_ := XSq.gw hg (XSq.bB HB); have n4_ := XSq.gw hg (XSq.bB HB); have n5_ := XSq.nl hg (XSq.bq BK198); have n6_ := XSq.nr hg (XSq.bq BK198); clear BK198; clear HB; have BK198 := n0_; have HB := n1_; have BK199 := n2_; have GW199 := n3_; have GE199 := n4_; have NB198_199 := n5_; have NB199_198 := n6_; clear n0_ n1_ n2_ n3_ n4_ n5_ n6_; clear hb hbox hg; have hnb23 := NB198_199.out; have hnc23 := NB199_198.out; have hcz24_0 : w22.cell? ⟨gb198, 0, none⟩ = some (.int .i64 a0_0) := (blk_cell BK198.out 0).trans rfl; have hcz24_1 : w22.cell? ⟨gb198, 1, none⟩ = some (.int .i64 a0_1) := (blk_cell BK198.out 1).trans rfl; have hcz24_2 : w22.cell? ⟨gb198, 2, none⟩ = some (.string a0_2) := (blk_cell BK198.out 2).trans rfl; have hcz24_3 : w22.cell? ⟨gb198, 3, none⟩ = some (.bool a0_3) := (blk_cell BK198.out 3).trans rfl; have hfz24_0 := blk_frozen BK198.out 0; have hfz24_1 := blk_frozen BK198.out 1; have hfz24_2 := blk_frozen BK198.out 2; have hfz24_3 := blk_frozen BK198.out 3) | ((with_reducible refine gate_callee (f := 7) rfl ?_); refine goesL_ (some 14) rfl rfl Tryd.func7 (by kernel_rfl) rfl #[.agg #[.int .i64 a0_0, .int .i64 a0_1, .string a0_2, .bool a0_3], .int .i64 1048576] rfl (by (try simp only [List.map_toArray, List.map_cons, List.map_nil]); first | done | rfl | (simp only [List.length_drop, List.length_take]; rfl)) ?_; (with_reducible refine (laws_szMaze.calls a0_0 a0_1 a0_2 a0_3 1048576 t200 _ A3.out).mono ?_); rintro e w25 ⟨rfl, hb⟩; refine ⟨_, rfl, ?_⟩; have n0_ := XSq.bb BK198 hb; have n1_ := XSq.bb BK199 hb; have n2_ := Aside0.mk (below_step (XSq.bB HB) hb); clear BK198; clear BK199; clear HB; have BK198 := n0_; have BK199 := n1_; have HB := n2_; clear n0_ n1_ n2_; clear hb; (try clear hb2); (try clear hk); (try clear hi)))
     replace BK198 := Aside0.mk (blk_drew BK198.out)
     replace BK199 := Aside0.mk (blk_drew BK199.out)
     replace HB := Aside0.mk (below_drew1 HB.out)
     refine start_ (n := 14) (S := fun w' => w'.cell? ⟨gb198, 0, none⟩ = some (.int .i64 a0_0) ∧ w'.cell? ⟨gb198, 1, none⟩ = some (.int .i64 a0_1) ∧ w'.cell? ⟨gb198, 2, none⟩ = some (.string a0_2) ∧ w'.cell? ⟨gb198, 3, none⟩ = some (.bool a0_3) ∧ w'.cell? ⟨gb199, 0, none⟩ = some (.int .i64 a1_0) ∧ w'.cell? ⟨gb199, 1, none⟩ = some (.int .i64 a1_1) ∧ w'.cell? ⟨gb199, 2, none⟩ = some (.int .i64 a1_2)) (ds := []) #[false, false, false, false, false, false, false, false, false, false, false, false, false, false] (by kernel_rfl) rfl rfl ⟨(blk_cell BK198.out 0).trans rfl, (blk_cell BK198.out 1).trans rfl, (blk_cell BK198.out 2).trans rfl, (blk_cell BK198.out 3).trans rfl, (blk_cell BK199.out 0).trans rfl, (blk_cell BK199.out 1).trans rfl, (blk_cell BK199.out 2).trans rfl⟩ (fun hHeld => ?_); refine with_tabW laws_FnExactHitCell.tab5 laws_FnExactHitCell.bits5 (fun HT_ HW_ => ?_)
     generalize w25.drew = w26 at BK198 BK199 HB hHeld ⊢
     refine take_ (i := 0) (N := some 18) (v := ?_) (a' := ?_) #[true, false, false, false, false, false, false, false, false, false, false, false, false, false] rfl rfl (take_ofW HT_.out HW_.out (by kernel_rfl)) (fun _ _ _ h => h) (Or.inl ⟨by rfl, ?_⟩) hHeld ?_ ?_
     rotate_left
     ·
      rintro w' ⟨s0, s1, s2, s3, s4, s5, s6⟩
      go_simp
      with_reducible rfl
     rotate_left
     ·
      simp only [Act.put, List.setIfInBounds_toArray, List.set_cons_zero, List.set_cons_succ, i64_w, i32_w]
      rfl
     refine take_ (i := 2) (N := some 20) (v := ?_) (a' := ?_) #[true, false, true, false, false, false, false, false, false, false, false, false, false, false] rfl rfl (take_ofW HT_.out HW_.out (by kernel_rfl)) (fun _ _ _ h => h) (Or.inl ⟨by rfl, ?_⟩) hHeld ?_ ?_
     rotate_left
     ·
      rintro w' ⟨s0, s1, s2, s3, s4, s5, s6⟩
      go_simp
      with_reducible rfl
     rotate_left
     ·
      simp only [Act.put, List.setIfInBounds_toArray, List.set_cons_zero, List.set_cons_succ, i64_w, i32_w]
      rfl
     refine join_ (σ := Nat × Nat) 3 #[true, true, true, true, true, true, true, true, true, true, true, false, false, false] (fun s_ => [(19, .agg #[.int .i64 t201, .int .i64 t202, .string t203, .bool t204]), (21, .agg #[.int .i64 t205, .int .i64 t206, .int .i64 t207]), (22, .tuple #[.agg #[.int .i64 t208, .int .i64 t209, .string t210, .bool t211], .agg #[.int .i64 t212, .int .i64 t213, .int .i64 t214], .bool t215]), (6, .pointer (some ⟨s_.1, 0, none⟩)), (7, .pointer (some ⟨s_.2, 0, none⟩)), (17, .tuple #[.agg #[.int .i64 t208, .int .i64 t209, .string t210, .bool t211], .agg #[.int .i64 t212, .int .i64 t213, .int .i64 t214], .bool t215]), (23, .agg #[.int .i64 t208, .int .i64 t209, .string t210, .bool t211]), (24, .agg #[.int .i64 t212, .int .i64 t213, .int .i64 t214]), (25, .bool t215)]) (fun s_ w' => (w'.cell? ⟨gb198, 0, none⟩ = some (.int .i64 a0_0) ∧ w'.cell? ⟨gb198, 1, none⟩ = some (.int .i64 a0_1) ∧ w'.cell? ⟨gb198, 2, none⟩ = some (.string a0_2) ∧ w'.cell? ⟨gb198, 3, none⟩ = some (.bool a0_3) ∧ w'.cell? ⟨gb199, 0, none⟩ = some (.int .i64 a1_0) ∧ w'.cell? ⟨gb199, 1, none⟩ = some (.int .i64 a1_1) ∧ w'.cell? ⟨gb199, 2, none⟩ = some (.int .i64 a1_2)) ∧ (w'.heap[gb198]? = some (.cells #[.int .i64 a0_0, .int .i64 a0_1, .string a0_2, .bool a0_3] 23 (0, 0))) ∧ (w'.heap[gb199]? = some (.cells #[.int .i64 a1_0, .int .i64 a1_1, .int .i64 a1_2] 25 (0, 0))) ∧ (w'.heap[s_.1]? = some (.cells #[.int .i64 0, .int .i64 0, .string (⟨#[]⟩ : ByteArray), .bool false] 27 (0, 0))) ∧ (w'.heap[s_.2]? = some (.cells #[.int .i64 0, .int .i64 0, .int .i64 0] 28 (0, 0))) ∧ (w.heap.size ≤ s_.1) ∧ (w.heap.size ≤ s_.1) ∧ (gb198 ≠ s_.1) ∧ (s_.1 ≠ gb198) ∧ (gb199 ≠ s_.1) ∧ (s_.1 ≠ gb199) ∧ (s_.2 ≠ s_.1) ∧ (s_.1 ≠ s_.2) ∧ (w.heap.size ≤ s_.2) ∧ (w.heap.size ≤ s_.2) ∧ (gb198 ≠ s_.2) ∧ (s_.2 ≠ gb198) ∧ (gb199 ≠ s_.2) ∧ (s_.2 ≠ gb199) ∧ (Below w.heap.size w w')) ?f1 ?c1
     case' c1 =>
      intro hJ1_3_4_9_10
      refine join_ (σ := Nat) 4 #[true, true, true, true, true, true, true, true, true, true, false, false, false, false] (fun s_ => [(19, .agg #[.int .i64 t201, .int .i64 t202, .string t203, .bool t204]), (21, .agg #[.int .i64 t205, .int .i64 t206, .int .i64 t207]), (22, .tuple #[.agg #[.int .i64 t208, .int .i64 t209, .string t210, .bool t211], .agg #[.int .i64 t212, .int .i64 t213, .int .i64 t214], .bool t215]), (6, .pointer (some ⟨s_, 0, none⟩)), (17, .tuple #[.agg #[.int .i64 t208, .int .i64 t209, .string t210, .bool t211], .agg #[.int .i64 t212, .int .i64 t213, .int .i64 t214], .bool t215]), (23, .agg #[.int .i64 t208, .int .i64 t209, .string t210, .bool t211]), (24, .agg #[.int .i64 t212, .int .i64 t213, .int .i64 t214]), (25, .bool t215)]) (fun s_ w' => (w'.cell? ⟨gb198, 0, none⟩ = some (.int .i64 a0_0) ∧ w'.cell? ⟨gb198, 1, none⟩ = some (.int .i64 a0_1) ∧ w'.cell? ⟨gb198, 2, none⟩ = some (.string a0_2) ∧ w'.cell? ⟨gb198, 3, none⟩ = some (.bool a0_3) ∧ w'.cell? ⟨gb199, 0, none⟩ = some (.int .i64 a1_0) ∧ w'.cell? ⟨gb199, 1, none⟩ = some (.int .i64 a1_1) ∧ w'.cell? ⟨gb199, 2, none⟩ = some (.int .i64 a1_2)) ∧ (w'.heap[gb198]? = some (.cells #[.int .i64 a0_0, .int .i64 a0_1, .string a0_2, .bool a0_3] 23 (0, 0))) ∧ (w'.heap[gb199]? = some (.cells #[.int .i64 a1_0, .int .i64 a1_1, .int .i64 a1_2] 25 (0, 0))) ∧ (w'.heap[s_]? = some (.cells #[.int .i64 0, .int .i64 0, .string (⟨#[]⟩ : ByteArray), .bool false] 27 (0, 0))) ∧ (w.heap.size ≤ s_) ∧ (w.heap.size ≤ s_) ∧ (gb198 ≠ s_) ∧ (s_ ≠ gb198) ∧ (gb199 ≠ s_) ∧ (s_ ≠ gb199) ∧ (Below w.heap.size w w')) ?f2 ?c2
     case' c2 =>
      intro hJ1_3_4_9
      refine join_ (σ := Nat) 4 #[true, true, true, true, true, true, true, true, true, false, true, false, false, false] (fun s_ => [(19, .agg #[.int .i64 t201, .int .i64 t202, .string t203, .bool t204]), (21, .agg #[.int .i64 t205, .int .i64 t206, .int .i64 t207]), (22, .tuple #[.agg #[.int .i64 t208, .int .i64 t209, .string t210, .bool t211], .agg #[.int .i64 t212, .int .i64 t213, .int .i64 t214], .bool t215]), (7, .pointer (some ⟨s_, 0, none⟩)), (17, .tuple #[.agg #[.int .i64 t208, .int .i64 t209, .string t210, .bool t211], .agg #[.int .i64 t212, .int .i64 t213, .int .i64 t214], .bool t215]), (23, .agg #[.int .i64 t208, .int .i64 t209, .string t210, .bool t211]), (24, .agg #[.int .i64 t212, .int .i64 t213, .int .i64 t214]), (25, .bool t215)]) (fun s_ w' => (w'.cell? ⟨gb198, 0, none⟩ = some (.int .i64 a0_0) ∧ w'.cell? ⟨gb198, 1, none⟩ = some (.int .i64 a0_1) ∧ w'.cell? ⟨gb198, 2, none⟩ = some (.string a0_2) ∧ w'.cell? ⟨gb198, 3, none⟩ = some (.bool a0_3) ∧ w'.cell? ⟨gb199, 0, none⟩ = some (.int .i64 a1_0) ∧ w'.cell? ⟨gb199, 1, none⟩ = some (.int .i64 a1_1) ∧ w'.cell? ⟨gb199, 2, none⟩ = some (.int .i64 a1_2)) ∧ (w'.heap[gb198]? = some (.cells #[.int .i64 a0_0, .int .i64 a0_1, .string a0_2, .bool a0_3] 23 (0, 0))) ∧ (w'.heap[gb199]? = some (.cells #[.int .i64 a1_0, .int .i64 a1_1, .int .i64 a1_2] 25 (0, 0))) ∧ (w'.heap[s_]? = some (.cells #[.int .i64 0, .int .i64 0, .int .i64 0] 28 (0, 0))) ∧ (w.heap.size ≤ s_) ∧ (w.heap.size ≤ s_) ∧ (gb198 ≠ s_) ∧ (s_ ≠ gb198) ∧ (gb199 ≠ s_) ∧ (s_ ≠ gb199) ∧ (Below w.heap.size w w')) ?f3 ?c3
     case' c3 =>
      intro hJ1_3_4_10
      refine join_ (σ := Nat × Nat) 8 #[true, true, true, true, false, false, false, false, false, true, true, false, false, false] (fun s_ => [(19, .agg #[.int .i64 t201, .int .i64 t202, .string t203, .bool t204]), (21, .agg #[.int .i64 t205, .int .i64 t206, .int .i64 t207]), (6, .pointer (some ⟨s_.1, 0, none⟩)), (7, .pointer (some ⟨s_.2, 0, none⟩))]) (fun s_ w' => (w'.cell? ⟨gb198, 0, none⟩ = some (.int .i64 a0_0) ∧ w'.cell? ⟨gb198, 1, none⟩ = some (.int .i64 a0_1) ∧ w'.cell? ⟨gb198, 2, none⟩ = some (.string a0_2) ∧ w'.cell? ⟨gb198, 3, none⟩ = some (.bool a0_3) ∧ w'.cell? ⟨gb199, 0, none⟩ = some (.int .i64 a1_0) ∧ w'.cell? ⟨gb199, 1, none⟩ = some (.int .i64 a1_1) ∧ w'.cell? ⟨gb199, 2, none⟩ = some (.int .i64 a1_2)) ∧ (w'.heap[gb198]? = some (.cells #[.int .i64 a0_0, .int .i64 a0_1, .string a0_2, .bool a0_3] 23 (0, 0))) ∧ (w'.heap[gb199]? = some (.cells #[.int .i64 a1_0, .int .i64 a1_1, .int .i64 a1_2] 25 (0, 0))) ∧ (w'.heap[s_.1]? = some (.cells #[.int .i64 0, .int .i64 0, .string (⟨#[]⟩ : ByteArray), .bool false] 27 (0, 0))) ∧ (w'.heap[s_.2]? = some (.cells #[.int .i64 0, .int .i64 0, .int .i64 0] 28 (0, 0))) ∧ (w.heap.size ≤ s_.1) ∧ (w.heap.size ≤ s_.1) ∧ (gb198 ≠ s_.1) ∧ (s_.1 ≠ gb198) ∧ (gb199 ≠ s_.1) ∧ (s_.1 ≠ gb199) ∧ (s_.2 ≠ s_.1) ∧ (s_.1 ≠ s_.2) ∧ (w.heap.size ≤ s_.2) ∧ (w.heap.size ≤ s_.2) ∧ (gb198 ≠ s_.2) ∧ (s_.2 ≠ gb198) ∧ (gb199 ≠ s_.2) ∧ (s_.2 ≠ gb199) ∧ (Below w.heap.size w w')) ?f4 ?c4
     case' c4 =>
      intro hJ1_3_9_10
      refine join_ (σ := Unit) 5 #[true, true, true, true, true, true, true, true, true, false, false, false, false, false] (fun s_ => [(19, .agg #[.int .i64 t201, .int .i64 t202, .string t203, .bool t204]), (21, .agg #[.int .i64 t205, .int .i64 t206, .int .i64 t207]), (22, .tuple #[.agg #[.int .i64 t208, .int .i64 t209, .string t210, .bool t211], .agg #[.int .i64 t212, .int .i64 t213, .int .i64 t214], .bool t215]), (17, .tuple #[.agg #[.int .i64 t208, .int .i64 t209, .string t210, .bool t211], .agg #[.int .i64 t212, .int .i64 t213, .int .i64 t214], .bool t215]), (23, .agg #[.int .i64 t208, .int .i64 t209, .string t210, .bool t211]), (24, .agg #[.int .i64 t212, .int .i64 t213, .int .i64 t214]), (25, .bool t215)]) (fun s_ w' => (w'.cell? ⟨gb198, 0, none⟩ = some (.int .i64 a0_0) ∧ w'.cell? ⟨gb198, 1, none⟩ = some (.int .i64 a0_1) ∧ w'.cell? ⟨gb198, 2, none⟩ = some (.string a0_2) ∧ w'.cell? ⟨gb198, 3, none⟩ = some (.bool a0_3) ∧ w'.cell? ⟨gb199, 0, none⟩ = some (.int .i64 a1_0) ∧ w'.cell? ⟨gb199, 1, none⟩ = some (.int .i64 a1_1) ∧ w'.cell? ⟨gb199, 2, none⟩ = some (.int .i64 a1_2)) ∧ (w'.heap[gb198]? = some (.cells #[.int .i64 a0_0, .int .i64 a0_1, .string a0_2, .bool a0_3] 23 (0, 0))) ∧ (w'.heap[gb199]? = some (.cells #[.int .i64 a1_0, .int .i64 a1_1, .int .i64 a1_2] 25 (0, 0))) ∧ (Below w.heap.size w w')) ?f5 ?c5
     case' c5 =>
      intro hJ1_3_4
      refine join_ (σ := Nat) 9 #[true, true, true, true, false, false, false, false, false, true, false, false, false, false] (fun s_ => [(19, .agg #[.int .i64 t201, .int .i64 t202, .string t203, .bool t204]), (21, .agg #[.int .i64 t205, .int .i64 t206, .int .i64 t207]), (6, .pointer (some ⟨s_, 0, none⟩))]) (fun s_ w' => (w'.cell? ⟨gb198, 0, none⟩ = some (.int .i64 a0_0) ∧ w'.cell? ⟨gb198, 1, none⟩ = some (.int .i64 a0_1) ∧ w'.cell? ⟨gb198, 2, none⟩ = some (.string a0_2) ∧ w'.cell? ⟨gb198, 3, none⟩ = some (.bool a0_3) ∧ w'.cell? ⟨gb199, 0, none⟩ = some (.int .i64 a1_0) ∧ w'.cell? ⟨gb199, 1, none⟩ = some (.int .i64 a1_1) ∧ w'.cell? ⟨gb199, 2, none⟩ = some (.int .i64 a1_2)) ∧ (w'.heap[gb198]? = some (.cells #[.int .i64 a0_0, .int .i64 a0_1, .string a0_2, .bool a0_3] 23 (0, 0))) ∧ (w'.heap[gb199]? = some (.cells #[.int .i64 a1_0, .int .i64 a1_1, .int .i64 a1_2] 25 (0, 0))) ∧ (w'.heap[s_]? = some (.cells #[.int .i64 0, .int .i64 0, .string (⟨#[]⟩ : ByteArray), .bool false] 27 (0, 0))) ∧ (w.heap.size ≤ s_) ∧ (w.heap.size ≤ s_) ∧ (gb198 ≠ s_) ∧ (s_ ≠ gb198) ∧ (gb199 ≠ s_) ∧ (s_ ≠ gb199) ∧ (Below w.heap.size w w')) ?f6 ?c6
     case' c6 =>
      intro hJ1_3_9
      refine join_ (σ := Nat) 9 #[true, true, true, true, false, false, false, false, false, false, true, false, false, false] (fun s_ => [(19, .agg #[.int .i64 t201, .int .i64 t202, .string t203, .bool t204]), (21, .agg #[.int .i64 t205, .int .i64 t206, .int .i64 t207]), (7, .pointer (some ⟨s_, 0, none⟩))]) (fun s_ w' => (w'.cell? ⟨gb198, 0, none⟩ = some (.int .i64 a0_0) ∧ w'.cell? ⟨gb198, 1, none⟩ = some (.int .i64 a0_1) ∧ w'.cell? ⟨gb198, 2, none⟩ = some (.string a0_2) ∧ w'.cell? ⟨gb198, 3, none⟩ = some (.bool a0_3) ∧ w'.cell? ⟨gb199, 0, none⟩ = some (.int .i64 a1_0) ∧ w'.cell? ⟨gb199, 1, none⟩ = some (.int .i64 a1_1) ∧ w'.cell? ⟨gb199, 2, none⟩ = some (.int .i64 a1_2)) ∧ (w'.heap[gb198]? = some (.cells #[.int .i64 a0_0, .int .i64 a0_1, .string a0_2, .bool a0_3] 23 (0, 0))) ∧ (w'.heap[gb199]? = some (.cells #[.int .i64 a1_0, .int .i64 a1_1, .int .i64 a1_2] 25 (0, 0))) ∧ (w'.heap[s_]? = some (.cells #[.int .i64 0, .int .i64 0, .int .i64 0] 28 (0, 0))) ∧ (w.heap.size ≤ s_) ∧ (w.heap.size ≤ s_) ∧ (gb198 ≠ s_) ∧ (s_ ≠ gb198) ∧ (gb199 ≠ s_) ∧ (s_ ≠ gb199) ∧ (Below w.heap.size w w')) ?f7 ?c7
     case' c7 =>
      intro hJ1_3_10
      refine join_ (σ := Nat × Nat) 9 #[true, true, true, false, false, false, false, false, false, true, true, false, false, false] (fun s_ => [(19, .agg #[.int .i64 t201, .int .i64 t202, .string t203, .bool t204]), (6, .pointer (some ⟨s_.1, 0, none⟩)), (7, .pointer (some ⟨s_.2, 0, none⟩))]) (fun s_ w' => (w'.cell? ⟨gb198, 0, none⟩ = some (.int .i64 a0_0) ∧ w'.cell? ⟨gb198, 1, none⟩ = some (.int .i64 a0_1) ∧ w'.cell? ⟨gb198, 2, none⟩ = some (.string a0_2) ∧ w'.cell? ⟨gb198, 3, none⟩ = some (.bool a0_3) ∧ w'.cell? ⟨gb199, 0, none⟩ = some (.int .i64 a1_0) ∧ w'.cell? ⟨gb199, 1, none⟩ = some (.int .i64 a1_1) ∧ w'.cell? ⟨gb199, 2, none⟩ = some (.int .i64 a1_2)) ∧ (w'.heap[gb198]? = some (.cells #[.int .i64 a0_0, .int .i64 a0_1, .string a0_2, .bool a0_3] 23 (0, 0))) ∧ (w'.heap[gb199]? = some (.cells #[.int .i64 a1_0, .int .i64 a1_1, .int .i64 a1_2] 25 (0, 0))) ∧ (w'.heap[s_.1]? = some (.cells #[.int .i64 0, .int .i64 0, .string (⟨#[]⟩ : ByteArray), .bool false] 27 (0, 0))) ∧ (w'.heap[s_.2]? = some (.cells #[.int .i64 0, .int .i64 0, .int .i64 0] 28 (0, 0))) ∧ (w.heap.size ≤ s_.1) ∧ (w.heap.size ≤ s_.1) ∧ (gb198 ≠ s_.1) ∧ (s_.1 ≠ gb198) ∧ (gb199 ≠ s_.1) ∧ (s_.1 ≠ gb199) ∧ (s_.2 ≠ s_.1) ∧ (s_.1 ≠ s_.2) ∧ (w.heap.size ≤ s_.2) ∧ (w.heap.size ≤ s_.2) ∧ (gb198 ≠ s_.2) ∧ (s_.2 ≠ gb198) ∧ (gb199 ≠ s_.2) ∧ (s_.2 ≠ gb199) ∧ (Below w.heap.size w w')) ?f8 ?c8
     case' c8 =>
      intro hJ1_9_10
      refine join_ (σ := Unit) 10 #[true, true, true, true, false, false, false, false, false, false, false, false, false, false] (fun s_ => [(19, .agg #[.int .i64 t201, .int .i64 t202, .string t203, .bool t204]), (21, .agg #[.int .i64 t205, .int .i64 t206, .int .i64 t207])]) (fun s_ w' => (w'.cell? ⟨gb198, 0, none⟩ = some (.int .i64 a0_0) ∧ w'.cell? ⟨gb198, 1, none⟩ = some (.int .i64 a0_1) ∧ w'.cell? ⟨gb198, 2, none⟩ = some (.string a0_2) ∧ w'.cell? ⟨gb198, 3, none⟩ = some (.bool a0_3) ∧ w'.cell? ⟨gb199, 0, none⟩ = some (.int .i64 a1_0) ∧ w'.cell? ⟨gb199, 1, none⟩ = some (.int .i64 a1_1) ∧ w'.cell? ⟨gb199, 2, none⟩ = some (.int .i64 a1_2)) ∧ (w'.heap[gb198]? = some (.cells #[.int .i64 a0_0, .int .i64 a0_1, .string a0_2, .bool a0_3] 23 (0, 0))) ∧ (w'.heap[gb199]? = some (.cells #[.int .i64 a1_0, .int .i64 a1_1, .int .i64 a1_2] 25 (0, 0))) ∧ (Below w.heap.size w w')) ?f9 ?c9
     case' c9 =>
      intro hJ1_3
      refine join_ (σ := Nat) 10 #[true, true, true, false, false, false, false, false, false, true, false, false, false, false] (fun s_ => [(19, .agg #[.int .i64 t201, .int .i64 t202, .string t203, .bool t204]), (6, .pointer (some ⟨s_, 0, none⟩))]) (fun s_ w' => (w'.cell? ⟨gb198, 0, none⟩ = some (.int .i64 a0_0) ∧ w'.cell? ⟨gb198, 1, none⟩ = some (.int .i64 a0_1) ∧ w'.cell? ⟨gb198, 2, none⟩ = some (.string a0_2) ∧ w'.cell? ⟨gb198, 3, none⟩ = some (.bool a0_3) ∧ w'.cell? ⟨gb199, 0, none⟩ = some (.int .i64 a1_0) ∧ w'.cell? ⟨gb199, 1, none⟩ = some (.int .i64 a1_1) ∧ w'.cell? ⟨gb199, 2, none⟩ = some (.int .i64 a1_2)) ∧ (w'.heap[gb198]? = some (.cells #[.int .i64 a0_0, .int .i64 a0_1, .string a0_2, .bool a0_3] 23 (0, 0))) ∧ (w'.heap[gb199]? = some (.cells #[.int .i64 a1_0, .int .i64 a1_1, .int .i64 a1_2] 25 (0, 0))) ∧ (w'.heap[s_]? = some (.cells #[.int .i64 0, .int .i64 0, .string (⟨#[]⟩ : ByteArray), .bool false] 27 (0, 0))) ∧ (w.heap.size ≤ s_) ∧ (w.heap.size ≤ s_) ∧ (gb198 ≠ s_) ∧ (s_ ≠ gb198) ∧ (gb199 ≠ s_) ∧ (s_ ≠ gb199) ∧ (Below w.heap.size w w')) ?f10 ?c10
     case' c10 =>
      intro hJ1_9
      refine join_ (σ := Nat) 10 #[true, true, true, false, false, false, false, false, false, false, true, false, false, false] (fun s_ => [(19, .agg #[.int .i64 t201, .int .i64 t202, .string t203, .bool t204]), (7, .pointer (some ⟨s_, 0, none⟩))]) (fun s_ w' => (w'.cell? ⟨gb198, 0, none⟩ = some (.int .i64 a0_0) ∧ w'.cell? ⟨gb198, 1, none⟩ = some (.int .i64 a0_1) ∧ w'.cell? ⟨gb198, 2, none⟩ = some (.string a0_2) ∧ w'.cell? ⟨gb198, 3, none⟩ = some (.bool a0_3) ∧ w'.cell? ⟨gb199, 0, none⟩ = some (.int .i64 a1_0) ∧ w'.cell? ⟨gb199, 1, none⟩ = some (.int .i64 a1_1) ∧ w'.cell? ⟨gb199, 2, none⟩ = some (.int .i64 a1_2)) ∧ (w'.heap[gb198]? = some (.cells #[.int .i64 a0_0, .int .i64 a0_1, .string a0_2, .bool a0_3] 23 (0, 0))) ∧ (w'.heap[gb199]? = some (.cells #[.int .i64 a1_0, .int .i64 a1_1, .int .i64 a1_2] 25 (0, 0))) ∧ (w'.heap[s_]? = some (.cells #[.int .i64 0, .int .i64 0, .int .i64 0] 28 (0, 0))) ∧ (w.heap.size ≤ s_) ∧ (w.heap.size ≤ s_) ∧ (gb198 ≠ s_) ∧ (s_ ≠ gb198) ∧ (gb199 ≠ s_) ∧ (s_ ≠ gb199) ∧ (Below w.heap.size w w')) ?f11 ?c11
     case' c11 =>
      intro hJ1_10
      refine join_ (σ := Nat × Nat) 10 #[true, false, true, false, false, false, false, false, false, true, true, false, false, false] (fun s_ => [(6, .pointer (some ⟨s_.1, 0, none⟩)), (7, .pointer (some ⟨s_.2, 0, none⟩))]) (fun s_ w' => (w'.cell? ⟨gb198, 0, none⟩ = some (.int .i64 a0_0) ∧ w'.cell? ⟨gb198, 1, none⟩ = some (.int .i64 a0_1) ∧ w'.cell? ⟨gb198, 2, none⟩ = some (.string a0_2) ∧ w'.cell? ⟨gb198, 3, none⟩ = some (.bool a0_3) ∧ w'.cell? ⟨gb199, 0, none⟩ = some (.int .i64 a1_0) ∧ w'.cell? ⟨gb199, 1, none⟩ = some (.int .i64 a1_1) ∧ w'.cell? ⟨gb199, 2, none⟩ = some (.int .i64 a1_2)) ∧ (w'.heap[gb198]? = some (.cells #[.int .i64 a0_0, .int .i64 a0_1, .string a0_2, .bool a0_3] 23 (0, 0))) ∧ (w'.heap[gb199]? = some (.cells #[.int .i64 a1_0, .int .i64 a1_1, .int .i64 a1_2] 25 (0, 0))) ∧ (w'.heap[s_.1]? = some (.cells #[.int .i64 0, .int .i64 0, .string (⟨#[]⟩ : ByteArray), .bool false] 27 (0, 0))) ∧ (w'.heap[s_.2]? = some (.cells #[.int .i64 0, .int .i64 0, .int .i64 0] 28 (0, 0))) ∧ (w.heap.size ≤ s_.1) ∧ (w.heap.size ≤ s_.1) ∧ (gb198 ≠ s_.1) ∧ (s_.1 ≠ gb198) ∧ (gb199 ≠ s_.1) ∧ (s_.1 ≠ gb199) ∧ (s_.2 ≠ s_.1) ∧ (s_.1 ≠ s_.2) ∧ (w.heap.size ≤ s_.2) ∧ (w.heap.size ≤ s_.2) ∧ (gb198 ≠ s_.2) ∧ (s_.2 ≠ gb198) ∧ (gb199 ≠ s_.2) ∧ (s_.2 ≠ gb199) ∧ (Below w.heap.size w w')) ?f12 ?c12
     case' c12 =>
      intro hJ9_10
      refine join_ (σ := Unit) 11 #[true, true, true, false, false, false, false, false, false, false, false, false, false, false] (fun s_ => [(19, .agg #[.int .i64 t201, .int .i64 t202, .string t203, .bool t204])]) (fun s_ w' => (w'.cell? ⟨gb198, 0, none⟩ = some (.int .i64 a0_0) ∧ w'.cell? ⟨gb198, 1, none⟩ = some (.int .i64 a0_1) ∧ w'.cell? ⟨gb198, 2, none⟩ = some (.string a0_2) ∧ w'.cell? ⟨gb198, 3, none⟩ = some (.bool a0_3) ∧ w'.cell? ⟨gb199, 0, none⟩ = some (.int .i64 a1_0) ∧ w'.cell? ⟨gb199, 1, none⟩ = some (.int .i64 a1_1) ∧ w'.cell? ⟨gb199, 2, none⟩ = some (.int .i64 a1_2)) ∧ (w'.heap[gb198]? = some (.cells #[.int .i64 a0_0, .int .i64 a0_1, .string a0_2, .bool a0_3] 23 (0, 0))) ∧ (w'.heap[gb199]? = some (.cells #[.int .i64 a1_0, .int .i64 a1_1, .int .i64 a1_2] 25 (0, 0))) ∧ (Below w.heap.size w w')) ?f13 ?c13
     case' c13 =>
      intro hJ1
      refine join_ (σ := Nat) 11 #[true, false, true, false, false, false, false, false, false, true, false, false, false, false] (fun s_ => [(6, .pointer (some ⟨s_, 0, none⟩))]) (fun s_ w' => (w'.cell? ⟨gb198, 0, none⟩ = some (.int .i64 a0_0) ∧ w'.cell? ⟨gb198, 1, none⟩ = some (.int .i64 a0_1) ∧ w'.cell? ⟨gb198, 2, none⟩ = some (.string a0_2) ∧ w'.cell? ⟨gb198, 3, none⟩ = some (.bool a0_3) ∧ w'.cell? ⟨gb199, 0, none⟩ = some (.int .i64 a1_0) ∧ w'.cell? ⟨gb199, 1, none⟩ = some (.int .i64 a1_1) ∧ w'.cell? ⟨gb199, 2, none⟩ = some (.int .i64 a1_2)) ∧ (w'.heap[gb198]? = some (.cells #[.int .i64 a0_0, .int .i64 a0_1, .string a0_2, .bool a0_3] 23 (0, 0))) ∧ (w'.heap[gb199]? = some (.cells #[.int .i64 a1_0, .int .i64 a1_1, .int .i64 a1_2] 25 (0, 0))) ∧ (w'.heap[s_]? = some (.cells #[.int .i64 0, .int .i64 0, .string (⟨#[]⟩ : ByteArray), .bool false] 27 (0, 0))) ∧ (w.heap.size ≤ s_) ∧ (w.heap.size ≤ s_) ∧ (gb198 ≠ s_) ∧ (s_ ≠ gb198) ∧ (gb199 ≠ s_) ∧ (s_ ≠ gb199) ∧ (Below w.heap.size w w')) ?f14 ?c14
     case' c14 =>
      intro hJ9
      refine join_ (σ := Nat) 11 #[true, false, true, false, false, false, false, false, false, false, true, false, false, false] (fun s_ => [(7, .pointer (some ⟨s_, 0, none⟩))]) (fun s_ w' => (w'.cell? ⟨gb198, 0, none⟩ = some (.int .i64 a0_0) ∧ w'.cell? ⟨gb198, 1, none⟩ = some (.int .i64 a0_1) ∧ w'.cell? ⟨gb198, 2, none⟩ = some (.string a0_2) ∧ w'.cell? ⟨gb198, 3, none⟩ = some (.bool a0_3) ∧ w'.cell? ⟨gb199, 0, none⟩ = some (.int .i64 a1_0) ∧ w'.cell? ⟨gb199, 1, none⟩ = some (.int .i64 a1_1) ∧ w'.cell? ⟨gb199, 2, none⟩ = some (.int .i64 a1_2)) ∧ (w'.heap[gb198]? = some (.cells #[.int .i64 a0_0, .int .i64 a0_1, .string a0_2, .bool a0_3] 23 (0, 0))) ∧ (w'.heap[gb199]? = some (.cells #[.int .i64 a1_0, .int .i64 a1_1, .int .i64 a1_2] 25 (0, 0))) ∧ (w'.heap[s_]? = some (.cells #[.int .i64 0, .int .i64 0, .int .i64 0] 28 (0, 0))) ∧ (w.heap.size ≤ s_) ∧ (w.heap.size ≤ s_) ∧ (gb198 ≠ s_) ∧ (s_ ≠ gb198) ∧ (gb199 ≠ s_) ∧ (s_ ≠ gb199) ∧ (Below w.heap.size w w')) ?f15 ?c15
     case c15 =>
      intro hJ10
      refine three_ (i := 1) (j := 9) (k := 10) (Ni := some 19) (Nj := some 6) (Nk := some 7) #[true, true, true, false, false, false, false, false, false, false, false, false, false, false] #[true, false, true, false, false, false, false, false, false, true, false, false, false, false] #[true, false, true, false, false, false, false, false, false, false, true, false, false, false] rfl rfl rfl rfl rfl rfl (three_of HT_.out (by kernel_rfl)) (by decide) (by decide) (by decide) (fun K hK => ?_) (fun K hK => ?_) (fun K hK => ?_)
      ·
       refine goes_ Tryd.func9 (by kernel_rfl) rfl #[.agg #[.int .i64 a0_0, .int .i64 a0_1, .string a0_2, .bool a0_3]] (by rfl) rfl rfl (by (try simp only [List.map_toArray, List.map_cons, List.map_nil]); first | done | rfl | (simp only [List.length_drop, List.length_take]; rfl)) ?_
       with_reducible refine (laws_toMaze.calls a0_0 a0_1 a0_2 a0_3 t201 t202 t203 t204 _ A10.out).mono ?_
       rintro e w27 ⟨rfl, hb⟩
       refine ⟨_, rfl, ?_⟩
       replace BK198 := XSq.bb BK198 hb
       replace BK199 := XSq.bb BK199 hb
       replace HB := Aside0.mk (below_step (XSq.bB HB) hb)
       clear hb
       refine hK.out _ _ (laws_FnExactHitCell.cs BK198.out BK199.out) (fun hHeld => ?_)
       clear hK K
       refine norm_ (a' := ?_) ?_ ?_
       rotate_left
       ·
        show Act.put _ (some 19) _ = _
        simp only [Act.put, List.setIfInBounds_toArray, List.set_cons_zero, List.set_cons_succ, i64_w, i32_w]
        rfl
       exact norm_ (by simp only [putAll, Act.put, List.setIfInBounds_toArray, List.set_cons_zero, List.set_cons_succ] <;> rfl) (hJ1 () _ ⟨hHeld, (XSq.bq BK198), (XSq.bq BK199), (XSq.bB HB)⟩)
      ·
       refine box_step ?hg (N := 6) ?hd (cs := #[.int .i64 0, .int .i64 0, .string (⟨#[]⟩ : ByteArray), .bool false]) (t := 27) ?hr ?_; (case hd => rfl); (case hg => rfl); (case hr => first | (go_simp; done) | (go_simp; rfl))
       intro gb216 hg w27 hbox hb
       have BK216 := Aside0.mk (hbox)
       have GW216 := XSq.gw hg (XSq.bB HB)
       have GE216 := XSq.gw hg (XSq.bB HB)
       have NB198_216 := XSq.nl hg (XSq.bq BK198)
       have NB216_198 := XSq.nr hg (XSq.bq BK198)
       have NB199_216 := XSq.nl hg (XSq.bq BK199)
       have NB216_199 := XSq.nr hg (XSq.bq BK199)
       replace BK198 := XSq.bb BK198 hb
       replace BK199 := XSq.bb BK199 hb
       replace HB := Aside0.mk (below_step (XSq.bB HB) hb)
       clear hb hbox hg
       refine hK.out _ _ (laws_FnExactHitCell.cs BK198.out BK199.out) (fun hHeld => ?_)
       clear hK K
       refine norm_ (a' := ?_) ?_ ?_
       rotate_left
       ·
        show Act.put _ (some 6) _ = _
        simp only [Act.put, List.setIfInBounds_toArray, List.set_cons_zero, List.set_cons_succ, i64_w, i32_w]
        rfl
       exact norm_ (by simp only [putAll, Act.put, List.setIfInBounds_toArray, List.set_cons_zero, List.set_cons_succ] <;> rfl) (hJ9 (gb216) _ ⟨hHeld, (XSq.bq BK198), (XSq.bq BK199), (XSq.bq BK216), GW216.out, GE216.out, NB198_216.out, NB216_198.out, NB199_216.out, NB216_199.out, (XSq.bB HB)⟩)
      ·
       refine box_step ?hg (N := 7) ?hd (cs := #[.int .i64 0, .int .i64 0, .int .i64 0]) (t := 28) ?hr ?_; (case hd => rfl); (case hg => rfl); (case hr => first | (go_simp; done) | (go_simp; rfl))
       intro gb217 hg w27 hbox hb
       have BK217 := Aside0.mk (hbox)
       have GW217 := XSq.gw hg (XSq.bB HB)
       have GE217 := XSq.gw hg (XSq.bB HB)
       have NB198_217 := XSq.nl hg (XSq.bq BK198)
       have NB217_198 := XSq.nr hg (XSq.bq BK198)
       have NB199_217 := XSq.nl hg (XSq.bq BK199)
       have NB217_199 := XSq.nr hg (XSq.bq BK199)
       replace BK198 := XSq.bb BK198 hb
       replace BK199 := XSq.bb BK199 hb
       replace HB := Aside0.mk (below_step (XSq.bB HB) hb)
       clear hb hbox hg
       refine hK.out _ _ (laws_FnExactHitCell.cs BK198.out BK199.out) (fun hHeld => ?_)
       clear hK K
       refine norm_ (a' := ?_) ?_ ?_
       rotate_left
       ·
        show Act.put _ (some 7) _ = _
        simp only [Act.put, List.setIfInBounds_toArray, List.set_cons_zero, List.set_cons_succ, i64_w, i32_w]
        rfl
       exact norm_ (by simp only [putAll, Act.put, List.setIfInBounds_toArray, List.set_cons_zero, List.set_cons_succ] <;> rfl) (hJ10 (gb217) _ ⟨hHeld, (XSq.bq BK198), (XSq.bq BK199), (XSq.bq BK217), GW217.out, GE217.out, NB198_217.out, NB217_198.out, NB199_217.out, NB217_199.out, (XSq.bB HB)⟩)
     case f15 =>
      ·
       rintro gb217 w28 ⟨hS_, h0_, h1_, h2_, h3_, h4_, h5_, h6_, h7_, h8_, h9_⟩
       replace BK198 : Aside0 (w28.heap[gb198]? = some (.cells #[.int .i64 a0_0, .int .i64 a0_1, .string a0_2, .bool a0_3] 23 (0, 0))) := ⟨h0_⟩
       replace BK199 : Aside0 (w28.heap[gb199]? = some (.cells #[.int .i64 a1_0, .int .i64 a1_1, .int .i64 a1_2] 25 (0, 0))) := ⟨h1_⟩
       have BK217 : Aside0 (w28.heap[gb217]? = some (.cells #[.int .i64 0, .int .i64 0, .int .i64 0] 28 (0, 0))) := ⟨h2_⟩
       have GW217 : Aside0 (w.heap.size ≤ gb217) := ⟨h3_⟩
       have GE217 : Aside0 (w.heap.size ≤ gb217) := ⟨h4_⟩
       have NB198_217 : Aside0 (gb198 ≠ gb217) := ⟨h5_⟩
       have NB217_198 : Aside0 (gb217 ≠ gb198) := ⟨h6_⟩
       have NB199_217 : Aside0 (gb199 ≠ gb217) := ⟨h7_⟩
       have NB217_199 : Aside0 (gb217 ≠ gb199) := ⟨h8_⟩
       replace HB : Aside0 (Below w.heap.size w w28) := ⟨h9_⟩
       clear h0_ h1_ h2_ h3_ h4_ h5_ h6_ h7_ h8_ h9_
       have hHeld : w28.cell? ⟨gb198, 0, none⟩ = some (.int .i64 a0_0) ∧ w28.cell? ⟨gb198, 1, none⟩ = some (.int .i64 a0_1) ∧ w28.cell? ⟨gb198, 2, none⟩ = some (.string a0_2) ∧ w28.cell? ⟨gb198, 3, none⟩ = some (.bool a0_3) ∧ w28.cell? ⟨gb199, 0, none⟩ = some (.int .i64 a1_0) ∧ w28.cell? ⟨gb199, 1, none⟩ = some (.int .i64 a1_1) ∧ w28.cell? ⟨gb199, 2, none⟩ = some (.int .i64 a1_2) := hS_
       refine norm_ (a' := ?_) ?_ ?_
       rotate_left
       ·
        simp only [putAll, Act.put, List.setIfInBounds_toArray, List.set_cons_zero, List.set_cons_succ]
        rfl
       refine two_ (i := 1) (j := 9) (Ni := some 19) (Nj := some 6) #[true, true, true, false, false, false, false, false, false, false, true, false, false, false] #[true, false, true, false, false, false, false, false, false, true, true, false, false, false] rfl rfl rfl rfl (two_of HT_.out (by kernel_rfl)) (by decide) (by decide) (fun K hK => ?_) (fun K hK => ?_)
       ·
        refine goes_ Tryd.func9 (by kernel_rfl) rfl #[.agg #[.int .i64 a0_0, .int .i64 a0_1, .string a0_2, .bool a0_3]] (by rfl) rfl rfl (by (try simp only [List.map_toArray, List.map_cons, List.map_nil]); first | done | rfl | (simp only [List.length_drop, List.length_take]; rfl)) ?_
        with_reducible refine (laws_toMaze.calls a0_0 a0_1 a0_2 a0_3 t201 t202 t203 t204 _ A10.out).mono ?_
        rintro e w29 ⟨rfl, hb⟩
        refine ⟨_, rfl, ?_⟩
        replace BK198 := XSq.bb BK198 hb
        replace BK199 := XSq.bb BK199 hb
        replace BK217 := XSq.bb BK217 hb
        replace HB := Aside0.mk (below_step (XSq.bB HB) hb)
        clear hb
        refine hK.out _ _ (laws_FnExactHitCell.cs BK198.out BK199.out) (fun hHeld => ?_)
        clear hK K
        refine norm_ (a' := ?_) ?_ ?_
        rotate_left
        ·
         show Act.put _ (some 19) _ = _
         simp only [Act.put, List.setIfInBounds_toArray, List.set_cons_zero, List.set_cons_succ, i64_w, i32_w]
         rfl
        exact norm_ (by simp only [putAll, Act.put, List.setIfInBounds_toArray, List.set_cons_zero, List.set_cons_succ] <;> rfl) (hJ1_10 (gb217) _ ⟨hHeld, (XSq.bq BK198), (XSq.bq BK199), (XSq.bq BK217), GW217.out, GE217.out, NB198_217.out, NB217_198.out, NB199_217.out, NB217_199.out, (XSq.bB HB)⟩)
       ·
        refine box_step ?hg (N := 6) ?hd (cs := #[.int .i64 0, .int .i64 0, .string (⟨#[]⟩ : ByteArray), .bool false]) (t := 27) ?hr ?_; (case hd => rfl); (case hg => rfl); (case hr => first | (go_simp; done) | (go_simp; rfl))
        intro gb216 hg w29 hbox hb
        have BK216 := Aside0.mk (hbox)
        have GW216 := XSq.gw hg (XSq.bB HB)
        have GE216 := XSq.gw hg (XSq.bB HB)
        have NB198_216 := XSq.nl hg (XSq.bq BK198)
        have NB216_198 := XSq.nr hg (XSq.bq BK198)
        have NB199_216 := XSq.nl hg (XSq.bq BK199)
        have NB216_199 := XSq.nr hg (XSq.bq BK199)
        have NB217_216 := XSq.nl hg (XSq.bq BK217)
        have NB216_217 := XSq.nr hg (XSq.bq BK217)
        replace BK198 := XSq.bb BK198 hb
        replace BK199 := XSq.bb BK199 hb
        replace BK217 := XSq.bb BK217 hb
        replace HB := Aside0.mk (below_step (XSq.bB HB) hb)
        clear hb hbox hg
        refine hK.out _ _ (laws_FnExactHitCell.cs BK198.out BK199.out) (fun hHeld => ?_)
        clear hK K
        refine norm_ (a' := ?_) ?_ ?_
        rotate_left
        ·
         show Act.put _ (some 6) _ = _
         simp only [Act.put, List.setIfInBounds_toArray, List.set_cons_zero, List.set_cons_succ, i64_w, i32_w]
         rfl
        exact norm_ (by simp only [putAll, Act.put, List.setIfInBounds_toArray, List.set_cons_zero, List.set_cons_succ] <;> rfl) (hJ9_10 (gb216, gb217) _ ⟨hHeld, (XSq.bq BK198), (XSq.bq BK199), (XSq.bq BK216), (XSq.bq BK217), GW216.out, GE216.out, NB198_216.out, NB216_198.out, NB199_216.out, NB216_199.out, NB217_216.out, NB216_217.out, GW217.out, GE217.out, NB198_217.out, NB217_198.out, NB199_217.out, NB217_199.out, (XSq.bB HB)⟩)
     case f14 =>
      ·
       rintro gb216 w28 ⟨hS_, h0_, h1_, h2_, h3_, h4_, h5_, h6_, h7_, h8_, h9_⟩
       replace BK198 : Aside0 (w28.heap[gb198]? = some (.cells #[.int .i64 a0_0, .int .i64 a0_1, .string a0_2, .bool a0_3] 23 (0, 0))) := ⟨h0_⟩
       replace BK199 : Aside0 (w28.heap[gb199]? = some (.cells #[.int .i64 a1_0, .int .i64 a1_1, .int .i64 a1_2] 25 (0, 0))) := ⟨h1_⟩
       have BK216 : Aside0 (w28.heap[gb216]? = some (.cells #[.int .i64 0, .int .i64 0, .string (⟨#[]⟩ : ByteArray), .bool false] 27 (0, 0))) := ⟨h2_⟩
       have GW216 : Aside0 (w.heap.size ≤ gb216) := ⟨h3_⟩
       have GE216 : Aside0 (w.heap.size ≤ gb216) := ⟨h4_⟩
       have NB198_216 : Aside0 (gb198 ≠ gb216) := ⟨h5_⟩
       have NB216_198 : Aside0 (gb216 ≠ gb198) := ⟨h6_⟩
       have NB199_216 : Aside0 (gb199 ≠ gb216) := ⟨h7_⟩
       have NB216_199 : Aside0 (gb216 ≠ gb199) := ⟨h8_⟩
       replace HB : Aside0 (Below w.heap.size w w28) := ⟨h9_⟩
       clear h0_ h1_ h2_ h3_ h4_ h5_ h6_ h7_ h8_ h9_
       have hHeld : w28.cell? ⟨gb198, 0, none⟩ = some (.int .i64 a0_0) ∧ w28.cell? ⟨gb198, 1, none⟩ = some (.int .i64 a0_1) ∧ w28.cell? ⟨gb198, 2, none⟩ = some (.string a0_2) ∧ w28.cell? ⟨gb198, 3, none⟩ = some (.bool a0_3) ∧ w28.cell? ⟨gb199, 0, none⟩ = some (.int .i64 a1_0) ∧ w28.cell? ⟨gb199, 1, none⟩ = some (.int .i64 a1_1) ∧ w28.cell? ⟨gb199, 2, none⟩ = some (.int .i64 a1_2) := hS_
       refine norm_ (a' := ?_) ?_ ?_
       rotate_left
       ·
        simp only [putAll, Act.put, List.setIfInBounds_toArray, List.set_cons_zero, List.set_cons_succ]
        rfl
       refine two_ (i := 1) (j := 10) (Ni := some 19) (Nj := some 7) #[true, true, true, false, false, false, false, false, false, true, false, false, false, false] #[true, false, true, false, false, false, false, false, false, true, true, false, false, false] rfl rfl rfl rfl (two_of HT_.out (by kernel_rfl)) (by decide) (by decide) (fun K hK => ?_) (fun K hK => ?_)
       ·
        refine goes_ Tryd.func9 (by kernel_rfl) rfl #[.agg #[.int .i64 a0_0, .int .i64 a0_1, .string a0_2, .bool a0_3]] (by rfl) rfl rfl (by (try simp only [List.map_toArray, List.map_cons, List.map_nil]); first | done | rfl | (simp only [List.length_drop, List.length_take]; rfl)) ?_
        with_reducible refine (laws_toMaze.calls a0_0 a0_1 a0_2 a0_3 t201 t202 t203 t204 _ A10.out).mono ?_
        rintro e w29 ⟨rfl, hb⟩
        refine ⟨_, rfl, ?_⟩
        replace BK198 := XSq.bb BK198 hb
        replace BK199 := XSq.bb BK199 hb
        replace BK216 := Aside0.mk (blk_below (g := gb216) (o := .cells #[.int .i64 0, .int .i64 0, .string (⟨#[]⟩ : ByteArray), .bool false] 27 (0, 0)) (XSq.bq BK216) hb)
        replace HB := Aside0.mk (below_step (XSq.bB HB) hb)
        clear hb
        refine hK.out _ _ (laws_FnExactHitCell.cs BK198.out BK199.out) (fun hHeld => ?_)
        clear hK K
        refine norm_ (a' := ?_) ?_ ?_
        rotate_left
        ·
         show Act.put _ (some 19) _ = _
         simp only [Act.put, List.setIfInBounds_toArray, List.set_cons_zero, List.set_cons_succ, i64_w, i32_w]
         rfl
        exact norm_ (by simp only [putAll, Act.put, List.setIfInBounds_toArray, List.set_cons_zero, List.set_cons_succ] <;> rfl) (hJ1_9 (gb216) _ ⟨hHeld, (XSq.bq BK198), (XSq.bq BK199), (XSq.bq BK216), GW216.out, GE216.out, NB198_216.out, NB216_198.out, NB199_216.out, NB216_199.out, (XSq.bB HB)⟩)
       ·
        refine box_step ?hg (N := 7) ?hd (cs := #[.int .i64 0, .int .i64 0, .int .i64 0]) (t := 28) ?hr ?_; (case hd => rfl); (case hg => rfl); (case hr => first | (go_simp; done) | (go_simp; rfl))
        intro gb217 hg w29 hbox hb
        have BK217 := Aside0.mk (hbox)
        have GW217 := XSq.gw hg (XSq.bB HB)
        have GE217 := XSq.gw hg (XSq.bB HB)
        have NB198_217 := XSq.nl hg (XSq.bq BK198)
        have NB217_198 := XSq.nr hg (XSq.bq BK198)
        have NB199_217 := XSq.nl hg (XSq.bq BK199)
        have NB217_199 := XSq.nr hg (XSq.bq BK199)
        have NB216_217 := Aside0.mk ((by rw [hg]; exact Nat.ne_of_lt (blk_lt (g := gb216) (o := .cells #[.int .i64 0, .int .i64 0, .string (⟨#[]⟩ : ByteArray), .bool false] 27 (0, 0)) (XSq.bq BK216)) : gb216 ≠ gb217))
        have NB217_216 := Aside0.mk ((by rw [hg]; exact Nat.ne_of_gt (blk_lt (g := gb216) (o := .cells #[.int .i64 0, .int .i64 0, .string (⟨#[]⟩ : ByteArray), .bool false] 27 (0, 0)) (XSq.bq BK216)) : gb217 ≠ gb216))
        replace BK198 := XSq.bb BK198 hb
        replace BK199 := XSq.bb BK199 hb
        replace BK216 := Aside0.mk (blk_below (g := gb216) (o := .cells #[.int .i64 0, .int .i64 0, .string (⟨#[]⟩ : ByteArray), .bool false] 27 (0, 0)) (XSq.bq BK216) hb)
        replace HB := Aside0.mk (below_step (XSq.bB HB) hb)
        clear hb hbox hg
        refine hK.out _ _ (laws_FnExactHitCell.cs BK198.out BK199.out) (fun hHeld => ?_)
        clear hK K
        refine norm_ (a' := ?_) ?_ ?_
        rotate_left
        ·
         show Act.put _ (some 7) _ = _
         simp only [Act.put, List.setIfInBounds_toArray, List.set_cons_zero, List.set_cons_succ, i64_w, i32_w]
         rfl
        exact norm_ (by simp only [putAll, Act.put, List.setIfInBounds_toArray, List.set_cons_zero, List.set_cons_succ] <;> rfl) (hJ9_10 (gb216, gb217) _ ⟨hHeld, (XSq.bq BK198), (XSq.bq BK199), (XSq.bq BK216), (XSq.bq BK217), GW216.out, GE216.out, NB198_216.out, NB216_198.out, NB199_216.out, NB216_199.out, NB217_216.out, NB216_217.out, GW217.out, GE217.out, NB198_217.out, NB217_198.out, NB199_217.out, NB217_199.out, (XSq.bB HB)⟩)
     case f13 =>
      ·
       rintro _ w28 ⟨hS_, h0_, h1_, h2_⟩
       replace BK198 : Aside0 (w28.heap[gb198]? = some (.cells #[.int .i64 a0_0, .int .i64 a0_1, .string a0_2, .bool a0_3] 23 (0, 0))) := ⟨h0_⟩
       replace BK199 : Aside0 (w28.heap[gb199]? = some (.cells #[.int .i64 a1_0, .int .i64 a1_1, .int .i64 a1_2] 25 (0, 0))) := ⟨h1_⟩
       replace HB : Aside0 (Below w.heap.size w w28) := ⟨h2_⟩
       clear h0_ h1_ h2_
       have hHeld : w28.cell? ⟨gb198, 0, none⟩ = some (.int .i64 a0_0) ∧ w28.cell? ⟨gb198, 1, none⟩ = some (.int .i64 a0_1) ∧ w28.cell? ⟨gb198, 2, none⟩ = some (.string a0_2) ∧ w28.cell? ⟨gb198, 3, none⟩ = some (.bool a0_3) ∧ w28.cell? ⟨gb199, 0, none⟩ = some (.int .i64 a1_0) ∧ w28.cell? ⟨gb199, 1, none⟩ = some (.int .i64 a1_1) ∧ w28.cell? ⟨gb199, 2, none⟩ = some (.int .i64 a1_2) := hS_
       refine norm_ (a' := ?_) ?_ ?_
       rotate_left
       ·
        simp only [putAll, Act.put, List.setIfInBounds_toArray, List.set_cons_zero, List.set_cons_succ]
        rfl
       refine three_ (i := 3) (j := 9) (k := 10) (Ni := some 21) (Nj := some 6) (Nk := some 7) #[true, true, true, true, false, false, false, false, false, false, false, false, false, false] #[true, true, true, false, false, false, false, false, false, true, false, false, false, false] #[true, true, true, false, false, false, false, false, false, false, true, false, false, false] rfl rfl rfl rfl rfl rfl (three_of HT_.out (by kernel_rfl)) (by decide) (by decide) (by decide) (fun K hK => ?_) (fun K hK => ?_) (fun K hK => ?_)
       ·
        refine goes_ Tryd.func10 (by kernel_rfl) rfl #[.agg #[.int .i64 a1_0, .int .i64 a1_1, .int .i64 a1_2]] (by rfl) rfl rfl (by (try simp only [List.map_toArray, List.map_cons, List.map_nil]); first | done | rfl | (simp only [List.length_drop, List.length_take]; rfl)) ?_
        with_reducible refine (laws_toBall.calls a1_0 a1_1 a1_2 t205 t206 t207 _ A11.out).mono ?_
        rintro e w29 ⟨rfl, hb⟩
        refine ⟨_, rfl, ?_⟩
        replace BK198 := XSq.bb BK198 hb
        replace BK199 := XSq.bb BK199 hb
        replace HB := Aside0.mk (below_step (XSq.bB HB) hb)
        clear hb
        refine hK.out _ _ (laws_FnExactHitCell.cs BK198.out BK199.out) (fun hHeld => ?_)
        clear hK K
        refine norm_ (a' := ?_) ?_ ?_
        rotate_left
        ·
         show Act.put _ (some 21) _ = _
         simp only [Act.put, List.setIfInBounds_toArray, List.set_cons_zero, List.set_cons_succ, i64_w, i32_w]
         rfl
        exact norm_ (by simp only [putAll, Act.put, List.setIfInBounds_toArray, List.set_cons_zero, List.set_cons_succ] <;> rfl) (hJ1_3 () _ ⟨hHeld, (XSq.bq BK198), (XSq.bq BK199), (XSq.bB HB)⟩)
       ·
        refine box_step ?hg (N := 6) ?hd (cs := #[.int .i64 0, .int .i64 0, .string (⟨#[]⟩ : ByteArray), .bool false]) (t := 27) ?hr ?_; (case hd => rfl); (case hg => rfl); (case hr => first | (go_simp; done) | (go_simp; rfl))
        intro gb216 hg w29 hbox hb
        have BK216 := Aside0.mk (hbox)
        have GW216 := XSq.gw hg (XSq.bB HB)
        have GE216 := XSq.gw hg (XSq.bB HB)
        have NB198_216 := XSq.nl hg (XSq.bq BK198)
        have NB216_198 := XSq.nr hg (XSq.bq BK198)
        have NB199_216 := XSq.nl hg (XSq.bq BK199)
        have NB216_199 := XSq.nr hg (XSq.bq BK199)
        replace BK198 := XSq.bb BK198 hb
        replace BK199 := XSq.bb BK199 hb
        replace HB := Aside0.mk (below_step (XSq.bB HB) hb)
        clear hb hbox hg
        refine hK.out _ _ (laws_FnExactHitCell.cs BK198.out BK199.out) (fun hHeld => ?_)
        clear hK K
        refine norm_ (a' := ?_) ?_ ?_
        rotate_left
        ·
         show Act.put _ (some 6) _ = _
         simp only [Act.put, List.setIfInBounds_toArray, List.set_cons_zero, List.set_cons_succ, i64_w, i32_w]
         rfl
        exact norm_ (by simp only [putAll, Act.put, List.setIfInBounds_toArray, List.set_cons_zero, List.set_cons_succ] <;> rfl) (hJ1_9 (gb216) _ ⟨hHeld, (XSq.bq BK198), (XSq.bq BK199), (XSq.bq BK216), GW216.out, GE216.out, NB198_216.out, NB216_198.out, NB199_216.out, NB216_199.out, (XSq.bB HB)⟩)
       ·
        refine box_step ?hg (N := 7) ?hd (cs := #[.int .i64 0, .int .i64 0, .int .i64 0]) (t := 28) ?hr ?_; (case hd => rfl); (case hg => rfl); (case hr => first | (go_simp; done) | (go_simp; rfl))
        intro gb217 hg w29 hbox hb
        have BK217 := Aside0.mk (hbox)
        have GW217 := XSq.gw hg (XSq.bB HB)
        have GE217 := XSq.gw hg (XSq.bB HB)
        have NB198_217 := XSq.nl hg (XSq.bq BK198)
        have NB217_198 := XSq.nr hg (XSq.bq BK198)
        have NB199_217 := XSq.nl hg (XSq.bq BK199)
        have NB217_199 := XSq.nr hg (XSq.bq BK199)
        replace BK198 := XSq.bb BK198 hb
        replace BK199 := XSq.bb BK199 hb
        replace HB := Aside0.mk (below_step (XSq.bB HB) hb)
        clear hb hbox hg
        refine hK.out _ _ (laws_FnExactHitCell.cs BK198.out BK199.out) (fun hHeld => ?_)
        clear hK K
        refine norm_ (a' := ?_) ?_ ?_
        rotate_left
        ·
         show Act.put _ (some 7) _ = _
         simp only [Act.put, List.setIfInBounds_toArray, List.set_cons_zero, List.set_cons_succ, i64_w, i32_w]
         rfl
        exact norm_ (by simp only [putAll, Act.put, List.setIfInBounds_toArray, List.set_cons_zero, List.set_cons_succ] <;> rfl) (hJ1_10 (gb217) _ ⟨hHeld, (XSq.bq BK198), (XSq.bq BK199), (XSq.bq BK217), GW217.out, GE217.out, NB198_217.out, NB217_198.out, NB199_217.out, NB217_199.out, (XSq.bB HB)⟩)
     case f12 =>
      ·
       rintro ⟨gb216, gb217⟩ w29 ⟨hS_, h0_, h1_, h2_, h3_, h4_, h5_, h6_, h7_, h8_, h9_, h10_, h11_, h12_, h13_, h14_, h15_, h16_, h17_, h18_⟩
       replace BK198 : Aside0 (w29.heap[gb198]? = some (.cells #[.int .i64 a0_0, .int .i64 a0_1, .string a0_2, .bool a0_3] 23 (0, 0))) := ⟨h0_⟩
       replace BK199 : Aside0 (w29.heap[gb199]? = some (.cells #[.int .i64 a1_0, .int .i64 a1_1, .int .i64 a1_2] 25 (0, 0))) := ⟨h1_⟩
       have BK216 : Aside0 (w29.heap[gb216]? = some (.cells #[.int .i64 0, .int .i64 0, .string (⟨#[]⟩ : ByteArray), .bool false] 27 (0, 0))) := ⟨h2_⟩
       have BK217 : Aside0 (w29.heap[gb217]? = some (.cells #[.int .i64 0, .int .i64 0, .int .i64 0] 28 (0, 0))) := ⟨h3_⟩
       have GW216 : Aside0 (w.heap.size ≤ gb216) := ⟨h4_⟩
       have GE216 : Aside0 (w.heap.size ≤ gb216) := ⟨h5_⟩
       have NB198_216 : Aside0 (gb198 ≠ gb216) := ⟨h6_⟩
       have NB216_198 : Aside0 (gb216 ≠ gb198) := ⟨h7_⟩
       have NB199_216 : Aside0 (gb199 ≠ gb216) := ⟨h8_⟩
       have NB216_199 : Aside0 (gb216 ≠ gb199) := ⟨h9_⟩
       have NB217_216 : Aside0 (gb217 ≠ gb216) := ⟨h10_⟩
       have NB216_217 : Aside0 (gb216 ≠ gb217) := ⟨h11_⟩
       have GW217 : Aside0 (w.heap.size ≤ gb217) := ⟨h12_⟩
       have GE217 : Aside0 (w.heap.size ≤ gb217) := ⟨h13_⟩
       have NB198_217 : Aside0 (gb198 ≠ gb217) := ⟨h14_⟩
       have NB217_198 : Aside0 (gb217 ≠ gb198) := ⟨h15_⟩
       have NB199_217 : Aside0 (gb199 ≠ gb217) := ⟨h16_⟩
       have NB217_199 : Aside0 (gb217 ≠ gb199) := ⟨h17_⟩
       replace HB : Aside0 (Below w.heap.size w w29) := ⟨h18_⟩
       clear h0_ h1_ h2_ h3_ h4_ h5_ h6_ h7_ h8_ h9_ h10_ h11_ h12_ h13_ h14_ h15_ h16_ h17_ h18_
       have hHeld : w29.cell? ⟨gb198, 0, none⟩ = some (.int .i64 a0_0) ∧ w29.cell? ⟨gb198, 1, none⟩ = some (.int .i64 a0_1) ∧ w29.cell? ⟨gb198, 2, none⟩ = some (.string a0_2) ∧ w29.cell? ⟨gb198, 3, none⟩ = some (.bool a0_3) ∧ w29.cell? ⟨gb199, 0, none⟩ = some (.int .i64 a1_0) ∧ w29.cell? ⟨gb199, 1, none⟩ = some (.int .i64 a1_1) ∧ w29.cell? ⟨gb199, 2, none⟩ = some (.int .i64 a1_2) := hS_
       refine norm_ (a' := ?_) ?_ ?_
       rotate_left
       ·
        simp only [putAll, Act.put, List.setIfInBounds_toArray, List.set_cons_zero, List.set_cons_succ]
        rfl
       refine one_ (i := 1) (N := some 19) #[true, true, true, false, false, false, false, false, false, true, true, false, false, false] rfl rfl (one_of HT_.out (by kernel_rfl)) (by decide) (fun K hK => ?_)
       refine goes_ Tryd.func9 (by kernel_rfl) rfl #[.agg #[.int .i64 a0_0, .int .i64 a0_1, .string a0_2, .bool a0_3]] (by rfl) rfl rfl (by (try simp only [List.map_toArray, List.map_cons, List.map_nil]); first | done | rfl | (simp only [List.length_drop, List.length_take]; rfl)) ?_
       with_reducible refine (laws_toMaze.calls a0_0 a0_1 a0_2 a0_3 t201 t202 t203 t204 _ A10.out).mono ?_
       rintro e w30 ⟨rfl, hb⟩
       refine ⟨_, rfl, ?_⟩
       replace BK198 := XSq.bb BK198 hb
       replace BK199 := XSq.bb BK199 hb
       replace BK216 := Aside0.mk (blk_below (g := gb216) (o := .cells #[.int .i64 0, .int .i64 0, .string (⟨#[]⟩ : ByteArray), .bool false] 27 (0, 0)) (XSq.bq BK216) hb)
       replace BK217 := XSq.bb BK217 hb
       replace HB := Aside0.mk (below_step (XSq.bB HB) hb)
       clear hb
       refine hK.out _ _ (laws_FnExactHitCell.cs BK198.out BK199.out) (fun hHeld => ?_)
       clear hK K
       refine norm_ (a' := ?_) ?_ ?_
       rotate_left
       ·
        show Act.put _ (some 19) _ = _
        simp only [Act.put, List.setIfInBounds_toArray, List.set_cons_zero, List.set_cons_succ, i64_w, i32_w]
        rfl
       exact norm_ (by simp only [putAll, Act.put, List.setIfInBounds_toArray, List.set_cons_zero, List.set_cons_succ] <;> rfl) (hJ1_9_10 (gb216, gb217) _ ⟨hHeld, (XSq.bq BK198), (XSq.bq BK199), (XSq.bq BK216), (XSq.bq BK217), GW216.out, GE216.out, NB198_216.out, NB216_198.out, NB199_216.out, NB216_199.out, NB217_216.out, NB216_217.out, GW217.out, GE217.out, NB198_217.out, NB217_198.out, NB199_217.out, NB217_199.out, (XSq.bB HB)⟩)
     case f11 =>
      ·
       rintro gb217 w29 ⟨hS_, h0_, h1_, h2_, h3_, h4_, h5_, h6_, h7_, h8_, h9_⟩
       replace BK198 : Aside0 (w29.heap[gb198]? = some (.cells #[.int .i64 a0_0, .int .i64 a0_1, .string a0_2, .bool a0_3] 23 (0, 0))) := ⟨h0_⟩
       replace BK199 : Aside0 (w29.heap[gb199]? = some (.cells #[.int .i64 a1_0, .int .i64 a1_1, .int .i64 a1_2] 25 (0, 0))) := ⟨h1_⟩
       have BK217 : Aside0 (w29.heap[gb217]? = some (.cells #[.int .i64 0, .int .i64 0, .int .i64 0] 28 (0, 0))) := ⟨h2_⟩
       have GW217 : Aside0 (w.heap.size ≤ gb217) := ⟨h3_⟩
       have GE217 : Aside0 (w.heap.size ≤ gb217) := ⟨h4_⟩
       have NB198_217 : Aside0 (gb198 ≠ gb217) := ⟨h5_⟩
       have NB217_198 : Aside0 (gb217 ≠ gb198) := ⟨h6_⟩
       have NB199_217 : Aside0 (gb199 ≠ gb217) := ⟨h7_⟩
       have NB217_199 : Aside0 (gb217 ≠ gb199) := ⟨h8_⟩
       replace HB : Aside0 (Below w.heap.size w w29) := ⟨h9_⟩
       clear h0_ h1_ h2_ h3_ h4_ h5_ h6_ h7_ h8_ h9_
       have hHeld : w29.cell? ⟨gb198, 0, none⟩ = some (.int .i64 a0_0) ∧ w29.cell? ⟨gb198, 1, none⟩ = some (.int .i64 a0_1) ∧ w29.cell? ⟨gb198, 2, none⟩ = some (.string a0_2) ∧ w29.cell? ⟨gb198, 3, none⟩ = some (.bool a0_3) ∧ w29.cell? ⟨gb199, 0, none⟩ = some (.int .i64 a1_0) ∧ w29.cell? ⟨gb199, 1, none⟩ = some (.int .i64 a1_1) ∧ w29.cell? ⟨gb199, 2, none⟩ = some (.int .i64 a1_2) := hS_
       refine norm_ (a' := ?_) ?_ ?_
       rotate_left
       ·
        simp only [putAll, Act.put, List.setIfInBounds_toArray, List.set_cons_zero, List.set_cons_succ]
        rfl
       refine two_ (i := 3) (j := 9) (Ni := some 21) (Nj := some 6) #[true, true, true, true, false, false, false, false, false, false, true, false, false, false] #[true, true, true, false, false, false, false, false, false, true, true, false, false, false] rfl rfl rfl rfl (two_of HT_.out (by kernel_rfl)) (by decide) (by decide) (fun K hK => ?_) (fun K hK => ?_)
       ·
        refine goes_ Tryd.func10 (by kernel_rfl) rfl #[.agg #[.int .i64 a1_0, .int .i64 a1_1, .int .i64 a1_2]] (by rfl) rfl rfl (by (try simp only [List.map_toArray, List.map_cons, List.map_nil]); first | done | rfl | (simp only [List.length_drop, List.length_take]; rfl)) ?_
        with_reducible refine (laws_toBall.calls a1_0 a1_1 a1_2 t205 t206 t207 _ A11.out).mono ?_
        rintro e w30 ⟨rfl, hb⟩
        refine ⟨_, rfl, ?_⟩
        replace BK198 := XSq.bb BK198 hb
        replace BK199 := XSq.bb BK199 hb
        replace BK217 := XSq.bb BK217 hb
        replace HB := Aside0.mk (below_step (XSq.bB HB) hb)
        clear hb
        refine hK.out _ _ (laws_FnExactHitCell.cs BK198.out BK199.out) (fun hHeld => ?_)
        clear hK K
        refine norm_ (a' := ?_) ?_ ?_
        rotate_left
        ·
         show Act.put _ (some 21) _ = _
         simp only [Act.put, List.setIfInBounds_toArray, List.set_cons_zero, List.set_cons_succ, i64_w, i32_w]
         rfl
        exact norm_ (by simp only [putAll, Act.put, List.setIfInBounds_toArray, List.set_cons_zero, List.set_cons_succ] <;> rfl) (hJ1_3_10 (gb217) _ ⟨hHeld, (XSq.bq BK198), (XSq.bq BK199), (XSq.bq BK217), GW217.out, GE217.out, NB198_217.out, NB217_198.out, NB199_217.out, NB217_199.out, (XSq.bB HB)⟩)
       ·
        refine box_step ?hg (N := 6) ?hd (cs := #[.int .i64 0, .int .i64 0, .string (⟨#[]⟩ : ByteArray), .bool false]) (t := 27) ?hr ?_; (case hd => rfl); (case hg => rfl); (case hr => first | (go_simp; done) | (go_simp; rfl))
        intro gb216 hg w30 hbox hb
        have BK216 := Aside0.mk (hbox)
        have GW216 := XSq.gw hg (XSq.bB HB)
        have GE216 := XSq.gw hg (XSq.bB HB)
        have NB198_216 := XSq.nl hg (XSq.bq BK198)
        have NB216_198 := XSq.nr hg (XSq.bq BK198)
        have NB199_216 := XSq.nl hg (XSq.bq BK199)
        have NB216_199 := XSq.nr hg (XSq.bq BK199)
        have NB217_216 := XSq.nl hg (XSq.bq BK217)
        have NB216_217 := XSq.nr hg (XSq.bq BK217)
        replace BK198 := XSq.bb BK198 hb
        replace BK199 := XSq.bb BK199 hb
        replace BK217 := XSq.bb BK217 hb
        replace HB := Aside0.mk (below_step (XSq.bB HB) hb)
        clear hb hbox hg
        refine hK.out _ _ (laws_FnExactHitCell.cs BK198.out BK199.out) (fun hHeld => ?_)
        clear hK K
        refine norm_ (a' := ?_) ?_ ?_
        rotate_left
        ·
         show Act.put _ (some 6) _ = _
         simp only [Act.put, List.setIfInBounds_toArray, List.set_cons_zero, List.set_cons_succ, i64_w, i32_w]
         rfl
        exact norm_ (by simp only [putAll, Act.put, List.setIfInBounds_toArray, List.set_cons_zero, List.set_cons_succ] <;> rfl) (hJ1_9_10 (gb216, gb217) _ ⟨hHeld, (XSq.bq BK198), (XSq.bq BK199), (XSq.bq BK216), (XSq.bq BK217), GW216.out, GE216.out, NB198_216.out, NB216_198.out, NB199_216.out, NB216_199.out, NB217_216.out, NB216_217.out, GW217.out, GE217.out, NB198_217.out, NB217_198.out, NB199_217.out, NB217_199.out, (XSq.bB HB)⟩)
     case f10 =>
      ·
       rintro gb216 w29 ⟨hS_, h0_, h1_, h2_, h3_, h4_, h5_, h6_, h7_, h8_, h9_⟩
       replace BK198 : Aside0 (w29.heap[gb198]? = some (.cells #[.int .i64 a0_0, .int .i64 a0_1, .string a0_2, .bool a0_3] 23 (0, 0))) := ⟨h0_⟩
       replace BK199 : Aside0 (w29.heap[gb199]? = some (.cells #[.int .i64 a1_0, .int .i64 a1_1, .int .i64 a1_2] 25 (0, 0))) := ⟨h1_⟩
       have BK216 : Aside0 (w29.heap[gb216]? = some (.cells #[.int .i64 0, .int .i64 0, .string (⟨#[]⟩ : ByteArray), .bool false] 27 (0, 0))) := ⟨h2_⟩
       have GW216 : Aside0 (w.heap.size ≤ gb216) := ⟨h3_⟩
       have GE216 : Aside0 (w.heap.size ≤ gb216) := ⟨h4_⟩
       have NB198_216 : Aside0 (gb198 ≠ gb216) := ⟨h5_⟩
       have NB216_198 : Aside0 (gb216 ≠ gb198) := ⟨h6_⟩
       have NB199_216 : Aside0 (gb199 ≠ gb216) := ⟨h7_⟩
       have NB216_199 : Aside0 (gb216 ≠ gb199) := ⟨h8_⟩
       replace HB : Aside0 (Below w.heap.size w w29) := ⟨h9_⟩
       clear h0_ h1_ h2_ h3_ h4_ h5_ h6_ h7_ h8_ h9_
       have hHeld : w29.cell? ⟨gb198, 0, none⟩ = some (.int .i64 a0_0) ∧ w29.cell? ⟨gb198, 1, none⟩ = some (.int .i64 a0_1) ∧ w29.cell? ⟨gb198, 2, none⟩ = some (.string a0_2) ∧ w29.cell? ⟨gb198, 3, none⟩ = some (.bool a0_3) ∧ w29.cell? ⟨gb199, 0, none⟩ = some (.int .i64 a1_0) ∧ w29.cell? ⟨gb199, 1, none⟩ = some (.int .i64 a1_1) ∧ w29.cell? ⟨gb199, 2, none⟩ = some (.int .i64 a1_2) := hS_
       refine norm_ (a' := ?_) ?_ ?_
       rotate_left
       ·
        simp only [putAll, Act.put, List.setIfInBounds_toArray, List.set_cons_zero, List.set_cons_succ]
        rfl
       refine two_ (i := 3) (j := 10) (Ni := some 21) (Nj := some 7) #[true, true, true, true, false, false, false, false, false, true, false, false, false, false] #[true, true, true, false, false, false, false, false, false, true, true, false, false, false] rfl rfl rfl rfl (two_of HT_.out (by kernel_rfl)) (by decide) (by decide) (fun K hK => ?_) (fun K hK => ?_)
       ·
        refine goes_ Tryd.func10 (by kernel_rfl) rfl #[.agg #[.int .i64 a1_0, .int .i64 a1_1, .int .i64 a1_2]] (by rfl) rfl rfl (by (try simp only [List.map_toArray, List.map_cons, List.map_nil]); first | done | rfl | (simp only [List.length_drop, List.length_take]; rfl)) ?_
        with_reducible refine (laws_toBall.calls a1_0 a1_1 a1_2 t205 t206 t207 _ A11.out).mono ?_
        rintro e w30 ⟨rfl, hb⟩
        refine ⟨_, rfl, ?_⟩
        replace BK198 := XSq.bb BK198 hb
        replace BK199 := XSq.bb BK199 hb
        replace BK216 := Aside0.mk (blk_below (g := gb216) (o := .cells #[.int .i64 0, .int .i64 0, .string (⟨#[]⟩ : ByteArray), .bool false] 27 (0, 0)) (XSq.bq BK216) hb)
        replace HB := Aside0.mk (below_step (XSq.bB HB) hb)
        clear hb
        refine hK.out _ _ (laws_FnExactHitCell.cs BK198.out BK199.out) (fun hHeld => ?_)
        clear hK K
        refine norm_ (a' := ?_) ?_ ?_
        rotate_left
        ·
         show Act.put _ (some 21) _ = _
         simp only [Act.put, List.setIfInBounds_toArray, List.set_cons_zero, List.set_cons_succ, i64_w, i32_w]
         rfl
        exact norm_ (by simp only [putAll, Act.put, List.setIfInBounds_toArray, List.set_cons_zero, List.set_cons_succ] <;> rfl) (hJ1_3_9 (gb216) _ ⟨hHeld, (XSq.bq BK198), (XSq.bq BK199), (XSq.bq BK216), GW216.out, GE216.out, NB198_216.out, NB216_198.out, NB199_216.out, NB216_199.out, (XSq.bB HB)⟩)
       ·
        refine box_step ?hg (N := 7) ?hd (cs := #[.int .i64 0, .int .i64 0, .int .i64 0]) (t := 28) ?hr ?_; (case hd => rfl); (case hg => rfl); (case hr => first | (go_simp; done) | (go_simp; rfl))
        intro gb217 hg w30 hbox hb
        have BK217 := Aside0.mk (hbox)
        have GW217 := XSq.gw hg (XSq.bB HB)
        have GE217 := XSq.gw hg (XSq.bB HB)
        have NB198_217 := XSq.nl hg (XSq.bq BK198)
        have NB217_198 := XSq.nr hg (XSq.bq BK198)
        have NB199_217 := XSq.nl hg (XSq.bq BK199)
        have NB217_199 := XSq.nr hg (XSq.bq BK199)
        have NB216_217 := Aside0.mk ((by rw [hg]; exact Nat.ne_of_lt (blk_lt (g := gb216) (o := .cells #[.int .i64 0, .int .i64 0, .string (⟨#[]⟩ : ByteArray), .bool false] 27 (0, 0)) (XSq.bq BK216)) : gb216 ≠ gb217))
        have NB217_216 := Aside0.mk ((by rw [hg]; exact Nat.ne_of_gt (blk_lt (g := gb216) (o := .cells #[.int .i64 0, .int .i64 0, .string (⟨#[]⟩ : ByteArray), .bool false] 27 (0, 0)) (XSq.bq BK216)) : gb217 ≠ gb216))
        replace BK198 := XSq.bb BK198 hb
        replace BK199 := XSq.bb BK199 hb
        replace BK216 := Aside0.mk (blk_below (g := gb216) (o := .cells #[.int .i64 0, .int .i64 0, .string (⟨#[]⟩ : ByteArray), .bool false] 27 (0, 0)) (XSq.bq BK216) hb)
        replace HB := Aside0.mk (below_step (XSq.bB HB) hb)
        clear hb hbox hg
        refine hK.out _ _ (laws_FnExactHitCell.cs BK198.out BK199.out) (fun hHeld => ?_)
        clear hK K
        refine norm_ (a' := ?_) ?_ ?_
        rotate_left
        ·
         show Act.put _ (some 7) _ = _
         simp only [Act.put, List.setIfInBounds_toArray, List.set_cons_zero, List.set_cons_succ, i64_w, i32_w]
         rfl
        exact norm_ (by simp only [putAll, Act.put, List.setIfInBounds_toArray, List.set_cons_zero, List.set_cons_succ] <;> rfl) (hJ1_9_10 (gb216, gb217) _ ⟨hHeld, (XSq.bq BK198), (XSq.bq BK199), (XSq.bq BK216), (XSq.bq BK217), GW216.out, GE216.out, NB198_216.out, NB216_198.out, NB199_216.out, NB216_199.out, NB217_216.out, NB216_217.out, GW217.out, GE217.out, NB198_217.out, NB217_198.out, NB199_217.out, NB217_199.out, (XSq.bB HB)⟩)
     case f9 =>
      ·
       rintro _ w29 ⟨hS_, h0_, h1_, h2_⟩
       replace BK198 : Aside0 (w29.heap[gb198]? = some (.cells #[.int .i64 a0_0, .int .i64 a0_1, .string a0_2, .bool a0_3] 23 (0, 0))) := ⟨h0_⟩
       replace BK199 : Aside0 (w29.heap[gb199]? = some (.cells #[.int .i64 a1_0, .int .i64 a1_1, .int .i64 a1_2] 25 (0, 0))) := ⟨h1_⟩
       replace HB : Aside0 (Below w.heap.size w w29) := ⟨h2_⟩
       clear h0_ h1_ h2_
       have hHeld : w29.cell? ⟨gb198, 0, none⟩ = some (.int .i64 a0_0) ∧ w29.cell? ⟨gb198, 1, none⟩ = some (.int .i64 a0_1) ∧ w29.cell? ⟨gb198, 2, none⟩ = some (.string a0_2) ∧ w29.cell? ⟨gb198, 3, none⟩ = some (.bool a0_3) ∧ w29.cell? ⟨gb199, 0, none⟩ = some (.int .i64 a1_0) ∧ w29.cell? ⟨gb199, 1, none⟩ = some (.int .i64 a1_1) ∧ w29.cell? ⟨gb199, 2, none⟩ = some (.int .i64 a1_2) := hS_
       refine norm_ (a' := ?_) ?_ ?_
       rotate_left
       ·
        simp only [putAll, Act.put, List.setIfInBounds_toArray, List.set_cons_zero, List.set_cons_succ]
        rfl
       refine three_ (i := 4) (j := 9) (k := 10) (Ni := some 22) (Nj := some 6) (Nk := some 7) #[true, true, true, true, true, false, false, false, false, false, false, false, false, false] #[true, true, true, true, false, false, false, false, false, true, false, false, false, false] #[true, true, true, true, false, false, false, false, false, false, true, false, false, false] rfl rfl rfl rfl rfl rfl (three_of HT_.out (by kernel_rfl)) (by decide) (by decide) (by decide) (fun K hK => ?_) (fun K hK => ?_) (fun K hK => ?_)
       ·
        refine goes_ Tryd.func8 (by kernel_rfl) rfl #[.agg #[.int .i64 t201, .int .i64 t202, .string t203, .bool t204], .agg #[.int .i64 t205, .int .i64 t206, .int .i64 t207]] (by rfl) rfl rfl (by (try simp only [List.map_toArray, List.map_cons, List.map_nil]); first | done | rfl | (simp only [List.length_drop, List.length_take]; rfl)) ?_
        with_reducible refine (spec_HitCell.calls k t201 t202 t203 t204 t205 t206 t207 t208 t209 t210 t211 t212 t213 t214 t215 _ A12.out).mono ?_
        rintro e w30 ⟨rfl, hb⟩
        refine ⟨_, rfl, ?_⟩
        replace BK198 := XSq.bb BK198 hb
        replace BK199 := XSq.bb BK199 hb
        replace HB := Aside0.mk (below_step (XSq.bB HB) hb)
        clear hb
        refine hK.out _ _ (laws_FnExactHitCell.cs BK198.out BK199.out) (fun hHeld => ?_)
        clear hK K
        refine norm_ (a' := ?_) ?_ ?_
        rotate_left
        ·
         show Act.put _ (some 22) _ = _
         simp only [Act.put, List.setIfInBounds_toArray, List.set_cons_zero, List.set_cons_succ, i64_w, i32_w]
         rfl
        refine pure_ (i := 5) (N := some 17) (v := ?_) (a' := ?_) #[true, true, true, true, true, true, false, false, false, false, false, false, false, false] rfl rfl (any_of HT_.out (by kernel_rfl)) (fun _ _ _ h => h) (Or.inl ⟨by rfl, ?_⟩) ?_ ?_
        rotate_left
        ·
         intro w'
         go_simp
         with_reducible rfl
        rotate_left
        ·
         simp only [Act.put, List.setIfInBounds_toArray, List.set_cons_zero, List.set_cons_succ, i64_w, i32_w]
         rfl
        refine pure_ (i := 6) (N := some 23) (v := ?_) (a' := ?_) #[true, true, true, true, true, true, true, false, false, false, false, false, false, false] rfl rfl (any_of HT_.out (by kernel_rfl)) (fun _ _ _ h => h) (Or.inl ⟨by rfl, ?_⟩) ?_ ?_
        rotate_left
        ·
         intro w'
         go_simp
         with_reducible rfl
        rotate_left
        ·
         simp only [Act.put, List.setIfInBounds_toArray, List.set_cons_zero, List.set_cons_succ, i64_w, i32_w]
         rfl
        refine pure_ (i := 7) (N := some 24) (v := ?_) (a' := ?_) #[true, true, true, true, true, true, true, true, false, false, false, false, false, false] rfl rfl (any_of HT_.out (by kernel_rfl)) (fun _ _ _ h => h) (Or.inl ⟨by rfl, ?_⟩) ?_ ?_
        rotate_left
        ·
         intro w'
         go_simp
         with_reducible rfl
        rotate_left
        ·
         simp only [Act.put, List.setIfInBounds_toArray, List.set_cons_zero, List.set_cons_succ, i64_w, i32_w]
         rfl
        refine pure_ (i := 8) (N := some 25) (v := ?_) (a' := ?_) #[true, true, true, true, true, true, true, true, true, false, false, false, false, false] rfl rfl (any_of HT_.out (by kernel_rfl)) (fun _ _ _ h => h) (Or.inl ⟨by rfl, ?_⟩) ?_ ?_
        rotate_left
        ·
         intro w'
         go_simp
         with_reducible rfl
        rotate_left
        ·
         simp only [Act.put, List.setIfInBounds_toArray, List.set_cons_zero, List.set_cons_succ, i64_w, i32_w]
         rfl
        exact norm_ (by simp only [putAll, Act.put, List.setIfInBounds_toArray, List.set_cons_zero, List.set_cons_succ] <;> rfl) (hJ1_3_4 () _ ⟨hHeld, (XSq.bq BK198), (XSq.bq BK199), (XSq.bB HB)⟩)
       ·
        refine box_step ?hg (N := 6) ?hd (cs := #[.int .i64 0, .int .i64 0, .string (⟨#[]⟩ : ByteArray), .bool false]) (t := 27) ?hr ?_; (case hd => rfl); (case hg => rfl); (case hr => first | (go_simp; done) | (go_simp; rfl))
        intro gb216 hg w30 hbox hb
        have BK216 := Aside0.mk (hbox)
        have GW216 := XSq.gw hg (XSq.bB HB)
        have GE216 := XSq.gw hg (XSq.bB HB)
        have NB198_216 := XSq.nl hg (XSq.bq BK198)
        have NB216_198 := XSq.nr hg (XSq.bq BK198)
        have NB199_216 := XSq.nl hg (XSq.bq BK199)
        have NB216_199 := XSq.nr hg (XSq.bq BK199)
        replace BK198 := XSq.bb BK198 hb
        replace BK199 := XSq.bb BK199 hb
        replace HB := Aside0.mk (below_step (XSq.bB HB) hb)
        clear hb hbox hg
        refine hK.out _ _ (laws_FnExactHitCell.cs BK198.out BK199.out) (fun hHeld => ?_)
        clear hK K
        refine norm_ (a' := ?_) ?_ ?_
        rotate_left
        ·
         show Act.put _ (some 6) _ = _
         simp only [Act.put, List.setIfInBounds_toArray, List.set_cons_zero, List.set_cons_succ, i64_w, i32_w]
         rfl
        exact norm_ (by simp only [putAll, Act.put, List.setIfInBounds_toArray, List.set_cons_zero, List.set_cons_succ] <;> rfl) (hJ1_3_9 (gb216) _ ⟨hHeld, (XSq.bq BK198), (XSq.bq BK199), (XSq.bq BK216), GW216.out, GE216.out, NB198_216.out, NB216_198.out, NB199_216.out, NB216_199.out, (XSq.bB HB)⟩)
       ·
        refine box_step ?hg (N := 7) ?hd (cs := #[.int .i64 0, .int .i64 0, .int .i64 0]) (t := 28) ?hr ?_; (case hd => rfl); (case hg => rfl); (case hr => first | (go_simp; done) | (go_simp; rfl))
        intro gb217 hg w30 hbox hb
        have BK217 := Aside0.mk (hbox)
        have GW217 := XSq.gw hg (XSq.bB HB)
        have GE217 := XSq.gw hg (XSq.bB HB)
        have NB198_217 := XSq.nl hg (XSq.bq BK198)
        have NB217_198 := XSq.nr hg (XSq.bq BK198)
        have NB199_217 := XSq.nl hg (XSq.bq BK199)
        have NB217_199 := XSq.nr hg (XSq.bq BK199)
        replace BK198 := XSq.bb BK198 hb
        replace BK199 := XSq.bb BK199 hb
        replace HB := Aside0.mk (below_step (XSq.bB HB) hb)
        clear hb hbox hg
        refine hK.out _ _ (laws_FnExactHitCell.cs BK198.out BK199.out) (fun hHeld => ?_)
        clear hK K
        refine norm_ (a' := ?_) ?_ ?_
        rotate_left
        ·
         show Act.put _ (some 7) _ = _
         simp only [Act.put, List.setIfInBounds_toArray, List.set_cons_zero, List.set_cons_succ, i64_w, i32_w]
         rfl
        exact norm_ (by simp only [putAll, Act.put, List.setIfInBounds_toArray, List.set_cons_zero, List.set_cons_succ] <;> rfl) (hJ1_3_10 (gb217) _ ⟨hHeld, (XSq.bq BK198), (XSq.bq BK199), (XSq.bq BK217), GW217.out, GE217.out, NB198_217.out, NB217_198.out, NB199_217.out, NB217_199.out, (XSq.bB HB)⟩)
     case f8 =>
      ·
       rintro ⟨gb216, gb217⟩ w30 ⟨hS_, h0_, h1_, h2_, h3_, h4_, h5_, h6_, h7_, h8_, h9_, h10_, h11_, h12_, h13_, h14_, h15_, h16_, h17_, h18_⟩
       replace BK198 : Aside0 (w30.heap[gb198]? = some (.cells #[.int .i64 a0_0, .int .i64 a0_1, .string a0_2, .bool a0_3] 23 (0, 0))) := ⟨h0_⟩
       replace BK199 : Aside0 (w30.heap[gb199]? = some (.cells #[.int .i64 a1_0, .int .i64 a1_1, .int .i64 a1_2] 25 (0, 0))) := ⟨h1_⟩
       have BK216 : Aside0 (w30.heap[gb216]? = some (.cells #[.int .i64 0, .int .i64 0, .string (⟨#[]⟩ : ByteArray), .bool false] 27 (0, 0))) := ⟨h2_⟩
       have BK217 : Aside0 (w30.heap[gb217]? = some (.cells #[.int .i64 0, .int .i64 0, .int .i64 0] 28 (0, 0))) := ⟨h3_⟩
       have GW216 : Aside0 (w.heap.size ≤ gb216) := ⟨h4_⟩
       have GE216 : Aside0 (w.heap.size ≤ gb216) := ⟨h5_⟩
       have NB198_216 : Aside0 (gb198 ≠ gb216) := ⟨h6_⟩
       have NB216_198 : Aside0 (gb216 ≠ gb198) := ⟨h7_⟩
       have NB199_216 : Aside0 (gb199 ≠ gb216) := ⟨h8_⟩
       have NB216_199 : Aside0 (gb216 ≠ gb199) := ⟨h9_⟩
       have NB217_216 : Aside0 (gb217 ≠ gb216) := ⟨h10_⟩
       have NB216_217 : Aside0 (gb216 ≠ gb217) := ⟨h11_⟩
       have GW217 : Aside0 (w.heap.size ≤ gb217) := ⟨h12_⟩
       have GE217 : Aside0 (w.heap.size ≤ gb217) := ⟨h13_⟩
       have NB198_217 : Aside0 (gb198 ≠ gb217) := ⟨h14_⟩
       have NB217_198 : Aside0 (gb217 ≠ gb198) := ⟨h15_⟩
       have NB199_217 : Aside0 (gb199 ≠ gb217) := ⟨h16_⟩
       have NB217_199 : Aside0 (gb217 ≠ gb199) := ⟨h17_⟩
       replace HB : Aside0 (Below w.heap.size w w30) := ⟨h18_⟩
       clear h0_ h1_ h2_ h3_ h4_ h5_ h6_ h7_ h8_ h9_ h10_ h11_ h12_ h13_ h14_ h15_ h16_ h17_ h18_
       have hHeld : w30.cell? ⟨gb198, 0, none⟩ = some (.int .i64 a0_0) ∧ w30.cell? ⟨gb198, 1, none⟩ = some (.int .i64 a0_1) ∧ w30.cell? ⟨gb198, 2, none⟩ = some (.string a0_2) ∧ w30.cell? ⟨gb198, 3, none⟩ = some (.bool a0_3) ∧ w30.cell? ⟨gb199, 0, none⟩ = some (.int .i64 a1_0) ∧ w30.cell? ⟨gb199, 1, none⟩ = some (.int .i64 a1_1) ∧ w30.cell? ⟨gb199, 2, none⟩ = some (.int .i64 a1_2) := hS_
       refine norm_ (a' := ?_) ?_ ?_
       rotate_left
       ·
        simp only [putAll, Act.put, List.setIfInBounds_toArray, List.set_cons_zero, List.set_cons_succ]
        rfl
       refine one_ (i := 3) (N := some 21) #[true, true, true, true, false, false, false, false, false, true, true, false, false, false] rfl rfl (one_of HT_.out (by kernel_rfl)) (by decide) (fun K hK => ?_)
       refine goes_ Tryd.func10 (by kernel_rfl) rfl #[.agg #[.int .i64 a1_0, .int .i64 a1_1, .int .i64 a1_2]] (by rfl) rfl rfl (by (try simp only [List.map_toArray, List.map_cons, List.map_nil]); first | done | rfl | (simp only [List.length_drop, List.length_take]; rfl)) ?_
       with_reducible refine (laws_toBall.calls a1_0 a1_1 a1_2 t205 t206 t207 _ A11.out).mono ?_
       rintro e w31 ⟨rfl, hb⟩
       refine ⟨_, rfl, ?_⟩
       replace BK198 := XSq.bb BK198 hb
       replace BK199 := XSq.bb BK199 hb
       replace BK216 := Aside0.mk (blk_below (g := gb216) (o := .cells #[.int .i64 0, .int .i64 0, .string (⟨#[]⟩ : ByteArray), .bool false] 27 (0, 0)) (XSq.bq BK216) hb)
       replace BK217 := XSq.bb BK217 hb
       replace HB := Aside0.mk (below_step (XSq.bB HB) hb)
       clear hb
       refine hK.out _ _ (laws_FnExactHitCell.cs BK198.out BK199.out) (fun hHeld => ?_)
       clear hK K
       refine norm_ (a' := ?_) ?_ ?_
       rotate_left
       ·
        show Act.put _ (some 21) _ = _
        simp only [Act.put, List.setIfInBounds_toArray, List.set_cons_zero, List.set_cons_succ, i64_w, i32_w]
        rfl
       exact norm_ (by simp only [putAll, Act.put, List.setIfInBounds_toArray, List.set_cons_zero, List.set_cons_succ] <;> rfl) (hJ1_3_9_10 (gb216, gb217) _ ⟨hHeld, (XSq.bq BK198), (XSq.bq BK199), (XSq.bq BK216), (XSq.bq BK217), GW216.out, GE216.out, NB198_216.out, NB216_198.out, NB199_216.out, NB216_199.out, NB217_216.out, NB216_217.out, GW217.out, GE217.out, NB198_217.out, NB217_198.out, NB199_217.out, NB217_199.out, (XSq.bB HB)⟩)
     case f7 =>
      ·
       rintro gb217 w30 ⟨hS_, h0_, h1_, h2_, h3_, h4_, h5_, h6_, h7_, h8_, h9_⟩
       replace BK198 : Aside0 (w30.heap[gb198]? = some (.cells #[.int .i64 a0_0, .int .i64 a0_1, .string a0_2, .bool a0_3] 23 (0, 0))) := ⟨h0_⟩
       replace BK199 : Aside0 (w30.heap[gb199]? = some (.cells #[.int .i64 a1_0, .int .i64 a1_1, .int .i64 a1_2] 25 (0, 0))) := ⟨h1_⟩
       have BK217 : Aside0 (w30.heap[gb217]? = some (.cells #[.int .i64 0, .int .i64 0, .int .i64 0] 28 (0, 0))) := ⟨h2_⟩
       have GW217 : Aside0 (w.heap.size ≤ gb217) := ⟨h3_⟩
       have GE217 : Aside0 (w.heap.size ≤ gb217) := ⟨h4_⟩
       have NB198_217 : Aside0 (gb198 ≠ gb217) := ⟨h5_⟩
       have NB217_198 : Aside0 (gb217 ≠ gb198) := ⟨h6_⟩
       have NB199_217 : Aside0 (gb199 ≠ gb217) := ⟨h7_⟩
       have NB217_199 : Aside0 (gb217 ≠ gb199) := ⟨h8_⟩
       replace HB : Aside0 (Below w.heap.size w w30) := ⟨h9_⟩
       clear h0_ h1_ h2_ h3_ h4_ h5_ h6_ h7_ h8_ h9_
       have hHeld : w30.cell? ⟨gb198, 0, none⟩ = some (.int .i64 a0_0) ∧ w30.cell? ⟨gb198, 1, none⟩ = some (.int .i64 a0_1) ∧ w30.cell? ⟨gb198, 2, none⟩ = some (.string a0_2) ∧ w30.cell? ⟨gb198, 3, none⟩ = some (.bool a0_3) ∧ w30.cell? ⟨gb199, 0, none⟩ = some (.int .i64 a1_0) ∧ w30.cell? ⟨gb199, 1, none⟩ = some (.int .i64 a1_1) ∧ w30.cell? ⟨gb199, 2, none⟩ = some (.int .i64 a1_2) := hS_
       refine norm_ (a' := ?_) ?_ ?_
       rotate_left
       ·
        simp only [putAll, Act.put, List.setIfInBounds_toArray, List.set_cons_zero, List.set_cons_succ]
        rfl
       refine two_ (i := 4) (j := 9) (Ni := some 22) (Nj := some 6) #[true, true, true, true, true, false, false, false, false, false, true, false, false, false] #[true, true, true, true, false, false, false, false, false, true, true, false, false, false] rfl rfl rfl rfl (two_of HT_.out (by kernel_rfl)) (by decide) (by decide) (fun K hK => ?_) (fun K hK => ?_)
       ·
        refine goes_ Tryd.func8 (by kernel_rfl) rfl #[.agg #[.int .i64 t201, .int .i64 t202, .string t203, .bool t204], .agg #[.int .i64 t205, .int .i64 t206, .int .i64 t207]] (by rfl) rfl rfl (by (try simp only [List.map_toArray, List.map_cons, List.map_nil]); first | done | rfl | (simp only [List.length_drop, List.length_take]; rfl)) ?_
        with_reducible refine (spec_HitCell.calls k t201 t202 t203 t204 t205 t206 t207 t208 t209 t210 t211 t212 t213 t214 t215 _ A12.out).mono ?_
        rintro e w31 ⟨rfl, hb⟩
        refine ⟨_, rfl, ?_⟩
        replace BK198 := XSq.bb BK198 hb
        replace BK199 := XSq.bb BK199 hb
        replace BK217 := XSq.bb BK217 hb
        replace HB := Aside0.mk (below_step (XSq.bB HB) hb)
        clear hb
        refine hK.out _ _ (laws_FnExactHitCell.cs BK198.out BK199.out) (fun hHeld => ?_)
        clear hK K
        refine norm_ (a' := ?_) ?_ ?_
        rotate_left
        ·
         show Act.put _ (some 22) _ = _
         simp only [Act.put, List.setIfInBounds_toArray, List.set_cons_zero, List.set_cons_succ, i64_w, i32_w]
         rfl
        refine pure_ (i := 5) (N := some 17) (v := ?_) (a' := ?_) #[true, true, true, true, true, true, false, false, false, false, true, false, false, false] rfl rfl (any_of HT_.out (by kernel_rfl)) (fun _ _ _ h => h) (Or.inl ⟨by rfl, ?_⟩) ?_ ?_
        rotate_left
        ·
         intro w'
         go_simp
         with_reducible rfl
        rotate_left
        ·
         simp only [Act.put, List.setIfInBounds_toArray, List.set_cons_zero, List.set_cons_succ, i64_w, i32_w]
         rfl
        refine pure_ (i := 6) (N := some 23) (v := ?_) (a' := ?_) #[true, true, true, true, true, true, true, false, false, false, true, false, false, false] rfl rfl (any_of HT_.out (by kernel_rfl)) (fun _ _ _ h => h) (Or.inl ⟨by rfl, ?_⟩) ?_ ?_
        rotate_left
        ·
         intro w'
         go_simp
         with_reducible rfl
        rotate_left
        ·
         simp only [Act.put, List.setIfInBounds_toArray, List.set_cons_zero, List.set_cons_succ, i64_w, i32_w]
         rfl
        refine pure_ (i := 7) (N := some 24) (v := ?_) (a' := ?_) #[true, true, true, true, true, true, true, true, false, false, true, false, false, false] rfl rfl (any_of HT_.out (by kernel_rfl)) (fun _ _ _ h => h) (Or.inl ⟨by rfl, ?_⟩) ?_ ?_
        rotate_left
        ·
         intro w'
         go_simp
         with_reducible rfl
        rotate_left
        ·
         simp only [Act.put, List.setIfInBounds_toArray, List.set_cons_zero, List.set_cons_succ, i64_w, i32_w]
         rfl
        refine pure_ (i := 8) (N := some 25) (v := ?_) (a' := ?_) #[true, true, true, true, true, true, true, true, true, false, true, false, false, false] rfl rfl (any_of HT_.out (by kernel_rfl)) (fun _ _ _ h => h) (Or.inl ⟨by rfl, ?_⟩) ?_ ?_
        rotate_left
        ·
         intro w'
         go_simp
         with_reducible rfl
        rotate_left
        ·
         simp only [Act.put, List.setIfInBounds_toArray, List.set_cons_zero, List.set_cons_succ, i64_w, i32_w]
         rfl
        exact norm_ (by simp only [putAll, Act.put, List.setIfInBounds_toArray, List.set_cons_zero, List.set_cons_succ] <;> rfl) (hJ1_3_4_10 (gb217) _ ⟨hHeld, (XSq.bq BK198), (XSq.bq BK199), (XSq.bq BK217), GW217.out, GE217.out, NB198_217.out, NB217_198.out, NB199_217.out, NB217_199.out, (XSq.bB HB)⟩)
       ·
        refine box_step ?hg (N := 6) ?hd (cs := #[.int .i64 0, .int .i64 0, .string (⟨#[]⟩ : ByteArray), .bool false]) (t := 27) ?hr ?_; (case hd => rfl); (case hg => rfl); (case hr => first | (go_simp; done) | (go_simp; rfl))
        intro gb216 hg w31 hbox hb
        have BK216 := Aside0.mk (hbox)
        have GW216 := XSq.gw hg (XSq.bB HB)
        have GE216 := XSq.gw hg (XSq.bB HB)
        have NB198_216 := XSq.nl hg (XSq.bq BK198)
        have NB216_198 := XSq.nr hg (XSq.bq BK198)
        have NB199_216 := XSq.nl hg (XSq.bq BK199)
        have NB216_199 := XSq.nr hg (XSq.bq BK199)
        have NB217_216 := XSq.nl hg (XSq.bq BK217)
        have NB216_217 := XSq.nr hg (XSq.bq BK217)
        replace BK198 := XSq.bb BK198 hb
        replace BK199 := XSq.bb BK199 hb
        replace BK217 := XSq.bb BK217 hb
        replace HB := Aside0.mk (below_step (XSq.bB HB) hb)
        clear hb hbox hg
        refine hK.out _ _ (laws_FnExactHitCell.cs BK198.out BK199.out) (fun hHeld => ?_)
        clear hK K
        refine norm_ (a' := ?_) ?_ ?_
        rotate_left
        ·
         show Act.put _ (some 6) _ = _
         simp only [Act.put, List.setIfInBounds_toArray, List.set_cons_zero, List.set_cons_succ, i64_w, i32_w]
         rfl
        exact norm_ (by simp only [putAll, Act.put, List.setIfInBounds_toArray, List.set_cons_zero, List.set_cons_succ] <;> rfl) (hJ1_3_9_10 (gb216, gb217) _ ⟨hHeld, (XSq.bq BK198), (XSq.bq BK199), (XSq.bq BK216), (XSq.bq BK217), GW216.out, GE216.out, NB198_216.out, NB216_198.out, NB199_216.out, NB216_199.out, NB217_216.out, NB216_217.out, GW217.out, GE217.out, NB198_217.out, NB217_198.out, NB199_217.out, NB217_199.out, (XSq.bB HB)⟩)
     case f6 =>
      ·
       rintro gb216 w30 ⟨hS_, h0_, h1_, h2_, h3_, h4_, h5_, h6_, h7_, h8_, h9_⟩
       replace BK198 : Aside0 (w30.heap[gb198]? = some (.cells #[.int .i64 a0_0, .int .i64 a0_1, .string a0_2, .bool a0_3] 23 (0, 0))) := ⟨h0_⟩
       replace BK199 : Aside0 (w30.heap[gb199]? = some (.cells #[.int .i64 a1_0, .int .i64 a1_1, .int .i64 a1_2] 25 (0, 0))) := ⟨h1_⟩
       have BK216 : Aside0 (w30.heap[gb216]? = some (.cells #[.int .i64 0, .int .i64 0, .string (⟨#[]⟩ : ByteArray), .bool false] 27 (0, 0))) := ⟨h2_⟩
       have GW216 : Aside0 (w.heap.size ≤ gb216) := ⟨h3_⟩
       have GE216 : Aside0 (w.heap.size ≤ gb216) := ⟨h4_⟩
       have NB198_216 : Aside0 (gb198 ≠ gb216) := ⟨h5_⟩
       have NB216_198 : Aside0 (gb216 ≠ gb198) := ⟨h6_⟩
       have NB199_216 : Aside0 (gb199 ≠ gb216) := ⟨h7_⟩
       have NB216_199 : Aside0 (gb216 ≠ gb199) := ⟨h8_⟩
       replace HB : Aside0 (Below w.heap.size w w30) := ⟨h9_⟩
       clear h0_ h1_ h2_ h3_ h4_ h5_ h6_ h7_ h8_ h9_
       have hHeld : w30.cell? ⟨gb198, 0, none⟩ = some (.int .i64 a0_0) ∧ w30.cell? ⟨gb198, 1, none⟩ = some (.int .i64 a0_1) ∧ w30.cell? ⟨gb198, 2, none⟩ = some (.string a0_2) ∧ w30.cell? ⟨gb198, 3, none⟩ = some (.bool a0_3) ∧ w30.cell? ⟨gb199, 0, none⟩ = some (.int .i64 a1_0) ∧ w30.cell? ⟨gb199, 1, none⟩ = some (.int .i64 a1_1) ∧ w30.cell? ⟨gb199, 2, none⟩ = some (.int .i64 a1_2) := hS_
       refine norm_ (a' := ?_) ?_ ?_
       rotate_left
       ·
        simp only [putAll, Act.put, List.setIfInBounds_toArray, List.set_cons_zero, List.set_cons_succ]
        rfl
       refine two_ (i := 4) (j := 10) (Ni := some 22) (Nj := some 7) #[true, true, true, true, true, false, false, false, false, true, false, false, false, false] #[true, true, true, true, false, false, false, false, false, true, true, false, false, false] rfl rfl rfl rfl (two_of HT_.out (by kernel_rfl)) (by decide) (by decide) (fun K hK => ?_) (fun K hK => ?_)
       ·
        refine goes_ Tryd.func8 (by kernel_rfl) rfl #[.agg #[.int .i64 t201, .int .i64 t202, .string t203, .bool t204], .agg #[.int .i64 t205, .int .i64 t206, .int .i64 t207]] (by rfl) rfl rfl (by (try simp only [List.map_toArray, List.map_cons, List.map_nil]); first | done | rfl | (simp only [List.length_drop, List.length_take]; rfl)) ?_
        with_reducible refine (spec_HitCell.calls k t201 t202 t203 t204 t205 t206 t207 t208 t209 t210 t211 t212 t213 t214 t215 _ A12.out).mono ?_
        rintro e w31 ⟨rfl, hb⟩
        refine ⟨_, rfl, ?_⟩
        replace BK198 := XSq.bb BK198 hb
        replace BK199 := XSq.bb BK199 hb
        replace BK216 := Aside0.mk (blk_below (g := gb216) (o := .cells #[.int .i64 0, .int .i64 0, .string (⟨#[]⟩ : ByteArray), .bool false] 27 (0, 0)) (XSq.bq BK216) hb)
        replace HB := Aside0.mk (below_step (XSq.bB HB) hb)
        clear hb
        refine hK.out _ _ (laws_FnExactHitCell.cs BK198.out BK199.out) (fun hHeld => ?_)
        clear hK K
        refine norm_ (a' := ?_) ?_ ?_
        rotate_left
        ·
         show Act.put _ (some 22) _ = _
         simp only [Act.put, List.setIfInBounds_toArray, List.set_cons_zero, List.set_cons_succ, i64_w, i32_w]
         rfl
        refine pure_ (i := 5) (N := some 17) (v := ?_) (a' := ?_) #[true, true, true, true, true, true, false, false, false, true, false, false, false, false] rfl rfl (any_of HT_.out (by kernel_rfl)) (fun _ _ _ h => h) (Or.inl ⟨by rfl, ?_⟩) ?_ ?_
        rotate_left
        ·
         intro w'
         go_simp
         with_reducible rfl
        rotate_left
        ·
         simp only [Act.put, List.setIfInBounds_toArray, List.set_cons_zero, List.set_cons_succ, i64_w, i32_w]
         rfl
        refine pure_ (i := 6) (N := some 23) (v := ?_) (a' := ?_) #[true, true, true, true, true, true, true, false, false, true, false, false, false, false] rfl rfl (any_of HT_.out (by kernel_rfl)) (fun _ _ _ h => h) (Or.inl ⟨by rfl, ?_⟩) ?_ ?_
        rotate_left
        ·
         intro w'
         go_simp
         with_reducible rfl
        rotate_left
        ·
         simp only [Act.put, List.setIfInBounds_toArray, List.set_cons_zero, List.set_cons_succ, i64_w, i32_w]
         rfl
        refine pure_ (i := 7) (N := some 24) (v := ?_) (a' := ?_) #[true, true, true, true, true, true, true, true, false, true, false, false, false, false] rfl rfl (any_of HT_.out (by kernel_rfl)) (fun _ _ _ h => h) (Or.inl ⟨by rfl, ?_⟩) ?_ ?_
        rotate_left
        ·
         intro w'
         go_simp
         with_reducible rfl
        rotate_left
        ·
         simp only [Act.put, List.setIfInBounds_toArray, List.set_cons_zero, List.set_cons_succ, i64_w, i32_w]
         rfl
        refine pure_ (i := 8) (N := some 25) (v := ?_) (a' := ?_) #[true, true, true, true, true, true, true, true, true, true, false, false, false, false] rfl rfl (any_of HT_.out (by kernel_rfl)) (fun _ _ _ h => h) (Or.inl ⟨by rfl, ?_⟩) ?_ ?_
        rotate_left
        ·
         intro w'
         go_simp
         with_reducible rfl
        rotate_left
        ·
         simp only [Act.put, List.setIfInBounds_toArray, List.set_cons_zero, List.set_cons_succ, i64_w, i32_w]
         rfl
        exact norm_ (by simp only [putAll, Act.put, List.setIfInBounds_toArray, List.set_cons_zero, List.set_cons_succ] <;> rfl) (hJ1_3_4_9 (gb216) _ ⟨hHeld, (XSq.bq BK198), (XSq.bq BK199), (XSq.bq BK216), GW216.out, GE216.out, NB198_216.out, NB216_198.out, NB199_216.out, NB216_199.out, (XSq.bB HB)⟩)
       ·
        refine box_step ?hg (N := 7) ?hd (cs := #[.int .i64 0, .int .i64 0, .int .i64 0]) (t := 28) ?hr ?_; (case hd => rfl); (case hg => rfl); (case hr => first | (go_simp; done) | (go_simp; rfl))
        intro gb217 hg w31 hbox hb
        have BK217 := Aside0.mk (hbox)
        have GW217 := XSq.gw hg (XSq.bB HB)
        have GE217 := XSq.gw hg (XSq.bB HB)
        have NB198_217 := XSq.nl hg (XSq.bq BK198)
        have NB217_198 := XSq.nr hg (XSq.bq BK198)
        have NB199_217 := XSq.nl hg (XSq.bq BK199)
        have NB217_199 := XSq.nr hg (XSq.bq BK199)
        have NB216_217 := Aside0.mk ((by rw [hg]; exact Nat.ne_of_lt (blk_lt (g := gb216) (o := .cells #[.int .i64 0, .int .i64 0, .string (⟨#[]⟩ : ByteArray), .bool false] 27 (0, 0)) (XSq.bq BK216)) : gb216 ≠ gb217))
        have NB217_216 := Aside0.mk ((by rw [hg]; exact Nat.ne_of_gt (blk_lt (g := gb216) (o := .cells #[.int .i64 0, .int .i64 0, .string (⟨#[]⟩ : ByteArray), .bool false] 27 (0, 0)) (XSq.bq BK216)) : gb217 ≠ gb216))
        replace BK198 := XSq.bb BK198 hb
        replace BK199 := XSq.bb BK199 hb
        replace BK216 := Aside0.mk (blk_below (g := gb216) (o := .cells #[.int .i64 0, .int .i64 0, .string (⟨#[]⟩ : ByteArray), .bool false] 27 (0, 0)) (XSq.bq BK216) hb)
        replace HB := Aside0.mk (below_step (XSq.bB HB) hb)
        clear hb hbox hg
        refine hK.out _ _ (laws_FnExactHitCell.cs BK198.out BK199.out) (fun hHeld => ?_)
        clear hK K
        refine norm_ (a' := ?_) ?_ ?_
        rotate_left
        ·
         show Act.put _ (some 7) _ = _
         simp only [Act.put, List.setIfInBounds_toArray, List.set_cons_zero, List.set_cons_succ, i64_w, i32_w]
         rfl
        exact norm_ (by simp only [putAll, Act.put, List.setIfInBounds_toArray, List.set_cons_zero, List.set_cons_succ] <;> rfl) (hJ1_3_9_10 (gb216, gb217) _ ⟨hHeld, (XSq.bq BK198), (XSq.bq BK199), (XSq.bq BK216), (XSq.bq BK217), GW216.out, GE216.out, NB198_216.out, NB216_198.out, NB199_216.out, NB216_199.out, NB217_216.out, NB216_217.out, GW217.out, GE217.out, NB198_217.out, NB217_198.out, NB199_217.out, NB217_199.out, (XSq.bB HB)⟩)
     case f5 =>
      ·
       rintro _ w30 ⟨hS_, h0_, h1_, h2_⟩
       replace BK198 : Aside0 (w30.heap[gb198]? = some (.cells #[.int .i64 a0_0, .int .i64 a0_1, .string a0_2, .bool a0_3] 23 (0, 0))) := ⟨h0_⟩
       replace BK199 : Aside0 (w30.heap[gb199]? = some (.cells #[.int .i64 a1_0, .int .i64 a1_1, .int .i64 a1_2] 25 (0, 0))) := ⟨h1_⟩
       replace HB : Aside0 (Below w.heap.size w w30) := ⟨h2_⟩
       clear h0_ h1_ h2_
       have hHeld : w30.cell? ⟨gb198, 0, none⟩ = some (.int .i64 a0_0) ∧ w30.cell? ⟨gb198, 1, none⟩ = some (.int .i64 a0_1) ∧ w30.cell? ⟨gb198, 2, none⟩ = some (.string a0_2) ∧ w30.cell? ⟨gb198, 3, none⟩ = some (.bool a0_3) ∧ w30.cell? ⟨gb199, 0, none⟩ = some (.int .i64 a1_0) ∧ w30.cell? ⟨gb199, 1, none⟩ = some (.int .i64 a1_1) ∧ w30.cell? ⟨gb199, 2, none⟩ = some (.int .i64 a1_2) := hS_
       refine norm_ (a' := ?_) ?_ ?_
       rotate_left
       ·
        simp only [putAll, Act.put, List.setIfInBounds_toArray, List.set_cons_zero, List.set_cons_succ]
        rfl
       refine two_ (i := 9) (j := 10) (Ni := some 6) (Nj := some 7) #[true, true, true, true, true, true, true, true, true, true, false, false, false, false] #[true, true, true, true, true, true, true, true, true, false, true, false, false, false] rfl rfl rfl rfl (two_of HT_.out (by kernel_rfl)) (by decide) (by decide) (fun K hK => ?_) (fun K hK => ?_)
       ·
        refine box_step ?hg (N := 6) ?hd (cs := #[.int .i64 0, .int .i64 0, .string (⟨#[]⟩ : ByteArray), .bool false]) (t := 27) ?hr ?_; (case hd => rfl); (case hg => rfl); (case hr => first | (go_simp; done) | (go_simp; rfl))
        intro gb216 hg w31 hbox hb
        have BK216 := Aside0.mk (hbox)
        have GW216 := XSq.gw hg (XSq.bB HB)
        have GE216 := XSq.gw hg (XSq.bB HB)
        have NB198_216 := XSq.nl hg (XSq.bq BK198)
        have NB216_198 := XSq.nr hg (XSq.bq BK198)
        have NB199_216 := XSq.nl hg (XSq.bq BK199)
        have NB216_199 := XSq.nr hg (XSq.bq BK199)
        replace BK198 := XSq.bb BK198 hb
        replace BK199 := XSq.bb BK199 hb
        replace HB := Aside0.mk (below_step (XSq.bB HB) hb)
        clear hb hbox hg
        refine hK.out _ _ (laws_FnExactHitCell.cs BK198.out BK199.out) (fun hHeld => ?_)
        clear hK K
        refine norm_ (a' := ?_) ?_ ?_
        rotate_left
        ·
         show Act.put _ (some 6) _ = _
         simp only [Act.put, List.setIfInBounds_toArray, List.set_cons_zero, List.set_cons_succ, i64_w, i32_w]
         rfl
        exact norm_ (by simp only [putAll, Act.put, List.setIfInBounds_toArray, List.set_cons_zero, List.set_cons_succ] <;> rfl) (hJ1_3_4_9 (gb216) _ ⟨hHeld, (XSq.bq BK198), (XSq.bq BK199), (XSq.bq BK216), GW216.out, GE216.out, NB198_216.out, NB216_198.out, NB199_216.out, NB216_199.out, (XSq.bB HB)⟩)
       ·
        refine box_step ?hg (N := 7) ?hd (cs := #[.int .i64 0, .int .i64 0, .int .i64 0]) (t := 28) ?hr ?_; (case hd => rfl); (case hg => rfl); (case hr => first | (go_simp; done) | (go_simp; rfl))
        intro gb217 hg w31 hbox hb
        have BK217 := Aside0.mk (hbox)
        have GW217 := XSq.gw hg (XSq.bB HB)
        have GE217 := XSq.gw hg (XSq.bB HB)
        have NB198_217 := XSq.nl hg (XSq.bq BK198)
        have NB217_198 := XSq.nr hg (XSq.bq BK198)
        have NB199_217 := XSq.nl hg (XSq.bq BK199)
        have NB217_199 := XSq.nr hg (XSq.bq BK199)
        replace BK198 := XSq.bb BK198 hb
        replace BK199 := XSq.bb BK199 hb
        replace HB := Aside0.mk (below_step (XSq.bB HB) hb)
        clear hb hbox hg
        refine hK.out _ _ (laws_FnExactHitCell.cs BK198.out BK199.out) (fun hHeld => ?_)
        clear hK K
        refine norm_ (a' := ?_) ?_ ?_
        rotate_left
        ·
         show Act.put _ (some 7) _ = _
         simp only [Act.put, List.setIfInBounds_toArray, List.set_cons_zero, List.set_cons_succ, i64_w, i32_w]
         rfl
        exact norm_ (by simp only [putAll, Act.put, List.setIfInBounds_toArray, List.set_cons_zero, List.set_cons_succ] <;> rfl) (hJ1_3_4_10 (gb217) _ ⟨hHeld, (XSq.bq BK198), (XSq.bq BK199), (XSq.bq BK217), GW217.out, GE217.out, NB198_217.out, NB217_198.out, NB199_217.out, NB217_199.out, (XSq.bB HB)⟩)
     case f4 =>
      ·
       rintro ⟨gb216, gb217⟩ w31 ⟨hS_, h0_, h1_, h2_, h3_, h4_, h5_, h6_, h7_, h8_, h9_, h10_, h11_, h12_, h13_, h14_, h15_, h16_, h17_, h18_⟩
       replace BK198 : Aside0 (w31.heap[gb198]? = some (.cells #[.int .i64 a0_0, .int .i64 a0_1, .string a0_2, .bool a0_3] 23 (0, 0))) := ⟨h0_⟩
       replace BK199 : Aside0 (w31.heap[gb199]? = some (.cells #[.int .i64 a1_0, .int .i64 a1_1, .int .i64 a1_2] 25 (0, 0))) := ⟨h1_⟩
       have BK216 : Aside0 (w31.heap[gb216]? = some (.cells #[.int .i64 0, .int .i64 0, .string (⟨#[]⟩ : ByteArray), .bool false] 27 (0, 0))) := ⟨h2_⟩
       have BK217 : Aside0 (w31.heap[gb217]? = some (.cells #[.int .i64 0, .int .i64 0, .int .i64 0] 28 (0, 0))) := ⟨h3_⟩
       have GW216 : Aside0 (w.heap.size ≤ gb216) := ⟨h4_⟩
       have GE216 : Aside0 (w.heap.size ≤ gb216) := ⟨h5_⟩
       have NB198_216 : Aside0 (gb198 ≠ gb216) := ⟨h6_⟩
       have NB216_198 : Aside0 (gb216 ≠ gb198) := ⟨h7_⟩
       have NB199_216 : Aside0 (gb199 ≠ gb216) := ⟨h8_⟩
       have NB216_199 : Aside0 (gb216 ≠ gb199) := ⟨h9_⟩
       have NB217_216 : Aside0 (gb217 ≠ gb216) := ⟨h10_⟩
       have NB216_217 : Aside0 (gb216 ≠ gb217) := ⟨h11_⟩
       have GW217 : Aside0 (w.heap.size ≤ gb217) := ⟨h12_⟩
       have GE217 : Aside0 (w.heap.size ≤ gb217) := ⟨h13_⟩
       have NB198_217 : Aside0 (gb198 ≠ gb217) := ⟨h14_⟩
       have NB217_198 : Aside0 (gb217 ≠ gb198) := ⟨h15_⟩
       have NB199_217 : Aside0 (gb199 ≠ gb217) := ⟨h16_⟩
       have NB217_199 : Aside0 (gb217 ≠ gb199) := ⟨h17_⟩
       replace HB : Aside0 (Below w.heap.size w w31) := ⟨h18_⟩
       clear h0_ h1_ h2_ h3_ h4_ h5_ h6_ h7_ h8_ h9_ h10_ h11_ h12_ h13_ h14_ h15_ h16_ h17_ h18_
       have hHeld : w31.cell? ⟨gb198, 0, none⟩ = some (.int .i64 a0_0) ∧ w31.cell? ⟨gb198, 1, none⟩ = some (.int .i64 a0_1) ∧ w31.cell? ⟨gb198, 2, none⟩ = some (.string a0_2) ∧ w31.cell? ⟨gb198, 3, none⟩ = some (.bool a0_3) ∧ w31.cell? ⟨gb199, 0, none⟩ = some (.int .i64 a1_0) ∧ w31.cell? ⟨gb199, 1, none⟩ = some (.int .i64 a1_1) ∧ w31.cell? ⟨gb199, 2, none⟩ = some (.int .i64 a1_2) := hS_
       refine norm_ (a' := ?_) ?_ ?_
       rotate_left
       ·
        simp only [putAll, Act.put, List.setIfInBounds_toArray, List.set_cons_zero, List.set_cons_succ]
        rfl
       refine one_ (i := 4) (N := some 22) #[true, true, true, true, true, false, false, false, false, true, true, false, false, false] rfl rfl (one_of HT_.out (by kernel_rfl)) (by decide) (fun K hK => ?_)
       refine goes_ Tryd.func8 (by kernel_rfl) rfl #[.agg #[.int .i64 t201, .int .i64 t202, .string t203, .bool t204], .agg #[.int .i64 t205, .int .i64 t206, .int .i64 t207]] (by rfl) rfl rfl (by (try simp only [List.map_toArray, List.map_cons, List.map_nil]); first | done | rfl | (simp only [List.length_drop, List.length_take]; rfl)) ?_
       with_reducible refine (spec_HitCell.calls k t201 t202 t203 t204 t205 t206 t207 t208 t209 t210 t211 t212 t213 t214 t215 _ A12.out).mono ?_
       rintro e w32 ⟨rfl, hb⟩
       refine ⟨_, rfl, ?_⟩
       replace BK198 := XSq.bb BK198 hb
       replace BK199 := XSq.bb BK199 hb
       replace BK216 := Aside0.mk (blk_below (g := gb216) (o := .cells #[.int .i64 0, .int .i64 0, .string (⟨#[]⟩ : ByteArray), .bool false] 27 (0, 0)) (XSq.bq BK216) hb)
       replace BK217 := XSq.bb BK217 hb
       replace HB := Aside0.mk (below_step (XSq.bB HB) hb)
       clear hb
       refine hK.out _ _ (laws_FnExactHitCell.cs BK198.out BK199.out) (fun hHeld => ?_)
       clear hK K
       refine norm_ (a' := ?_) ?_ ?_
       rotate_left
       ·
        show Act.put _ (some 22) _ = _
        simp only [Act.put, List.setIfInBounds_toArray, List.set_cons_zero, List.set_cons_succ, i64_w, i32_w]
        rfl
       refine pure_ (i := 5) (N := some 17) (v := ?_) (a' := ?_) #[true, true, true, true, true, true, false, false, false, true, true, false, false, false] rfl rfl (any_of HT_.out (by kernel_rfl)) (fun _ _ _ h => h) (Or.inl ⟨by rfl, ?_⟩) ?_ ?_
       rotate_left
       ·
        intro w'
        go_simp
        with_reducible rfl
       rotate_left
       ·
        simp only [Act.put, List.setIfInBounds_toArray, List.set_cons_zero, List.set_cons_succ, i64_w, i32_w]
        rfl
       refine pure_ (i := 6) (N := some 23) (v := ?_) (a' := ?_) #[true, true, true, true, true, true, true, false, false, true, true, false, false, false] rfl rfl (any_of HT_.out (by kernel_rfl)) (fun _ _ _ h => h) (Or.inl ⟨by rfl, ?_⟩) ?_ ?_
       rotate_left
       ·
        intro w'
        go_simp
        with_reducible rfl
       rotate_left
       ·
        simp only [Act.put, List.setIfInBounds_toArray, List.set_cons_zero, List.set_cons_succ, i64_w, i32_w]
        rfl
       refine pure_ (i := 7) (N := some 24) (v := ?_) (a' := ?_) #[true, true, true, true, true, true, true, true, false, true, true, false, false, false] rfl rfl (any_of HT_.out (by kernel_rfl)) (fun _ _ _ h => h) (Or.inl ⟨by rfl, ?_⟩) ?_ ?_
       rotate_left
       ·
        intro w'
        go_simp
        with_reducible rfl
       rotate_left
       ·
        simp only [Act.put, List.setIfInBounds_toArray, List.set_cons_zero, List.set_cons_succ, i64_w, i32_w]
        rfl
       refine pure_ (i := 8) (N := some 25) (v := ?_) (a' := ?_) #[true, true, true, true, true, true, true, true, true, true, true, false, false, false] rfl rfl (any_of HT_.out (by kernel_rfl)) (fun _ _ _ h => h) (Or.inl ⟨by rfl, ?_⟩) ?_ ?_
       rotate_left
       ·
        intro w'
        go_simp
        with_reducible rfl
       rotate_left
       ·
        simp only [Act.put, List.setIfInBounds_toArray, List.set_cons_zero, List.set_cons_succ, i64_w, i32_w]
        rfl
       exact norm_ (by simp only [putAll, Act.put, List.setIfInBounds_toArray, List.set_cons_zero, List.set_cons_succ] <;> rfl) (hJ1_3_4_9_10 (gb216, gb217) _ ⟨hHeld, (XSq.bq BK198), (XSq.bq BK199), (XSq.bq BK216), (XSq.bq BK217), GW216.out, GE216.out, NB198_216.out, NB216_198.out, NB199_216.out, NB216_199.out, NB217_216.out, NB216_217.out, GW217.out, GE217.out, NB198_217.out, NB217_198.out, NB199_217.out, NB217_199.out, (XSq.bB HB)⟩)
     case f3 =>
      ·
       rintro gb217 w31 ⟨hS_, h0_, h1_, h2_, h3_, h4_, h5_, h6_, h7_, h8_, h9_⟩
       replace BK198 : Aside0 (w31.heap[gb198]? = some (.cells #[.int .i64 a0_0, .int .i64 a0_1, .string a0_2, .bool a0_3] 23 (0, 0))) := ⟨h0_⟩
       replace BK199 : Aside0 (w31.heap[gb199]? = some (.cells #[.int .i64 a1_0, .int .i64 a1_1, .int .i64 a1_2] 25 (0, 0))) := ⟨h1_⟩
       have BK217 : Aside0 (w31.heap[gb217]? = some (.cells #[.int .i64 0, .int .i64 0, .int .i64 0] 28 (0, 0))) := ⟨h2_⟩
       have GW217 : Aside0 (w.heap.size ≤ gb217) := ⟨h3_⟩
       have GE217 : Aside0 (w.heap.size ≤ gb217) := ⟨h4_⟩
       have NB198_217 : Aside0 (gb198 ≠ gb217) := ⟨h5_⟩
       have NB217_198 : Aside0 (gb217 ≠ gb198) := ⟨h6_⟩
       have NB199_217 : Aside0 (gb199 ≠ gb217) := ⟨h7_⟩
       have NB217_199 : Aside0 (gb217 ≠ gb199) := ⟨h8_⟩
       replace HB : Aside0 (Below w.heap.size w w31) := ⟨h9_⟩
       clear h0_ h1_ h2_ h3_ h4_ h5_ h6_ h7_ h8_ h9_
       have hHeld : w31.cell? ⟨gb198, 0, none⟩ = some (.int .i64 a0_0) ∧ w31.cell? ⟨gb198, 1, none⟩ = some (.int .i64 a0_1) ∧ w31.cell? ⟨gb198, 2, none⟩ = some (.string a0_2) ∧ w31.cell? ⟨gb198, 3, none⟩ = some (.bool a0_3) ∧ w31.cell? ⟨gb199, 0, none⟩ = some (.int .i64 a1_0) ∧ w31.cell? ⟨gb199, 1, none⟩ = some (.int .i64 a1_1) ∧ w31.cell? ⟨gb199, 2, none⟩ = some (.int .i64 a1_2) := hS_
       refine norm_ (a' := ?_) ?_ ?_
       rotate_left
       ·
        simp only [putAll, Act.put, List.setIfInBounds_toArray, List.set_cons_zero, List.set_cons_succ]
        rfl
       refine one_ (i := 9) (N := some 6) #[true, true, true, true, true, true, true, true, true, true, true, false, false, false] rfl rfl (one_of HT_.out (by kernel_rfl)) (by decide) (fun K hK => ?_)
       refine box_step ?hg (N := 6) ?hd (cs := #[.int .i64 0, .int .i64 0, .string (⟨#[]⟩ : ByteArray), .bool false]) (t := 27) ?hr ?_; (case hd => rfl); (case hg => rfl); (case hr => first | (go_simp; done) | (go_simp; rfl))
       intro gb216 hg w32 hbox hb
       have BK216 := Aside0.mk (hbox)
       have GW216 := XSq.gw hg (XSq.bB HB)
       have GE216 := XSq.gw hg (XSq.bB HB)
       have NB198_216 := XSq.nl hg (XSq.bq BK198)
       have NB216_198 := XSq.nr hg (XSq.bq BK198)
       have NB199_216 := XSq.nl hg (XSq.bq BK199)
       have NB216_199 := XSq.nr hg (XSq.bq BK199)
       have NB217_216 := XSq.nl hg (XSq.bq BK217)
       have NB216_217 := XSq.nr hg (XSq.bq BK217)
       replace BK198 := XSq.bb BK198 hb
       replace BK199 := XSq.bb BK199 hb
       replace BK217 := XSq.bb BK217 hb
       replace HB := Aside0.mk (below_step (XSq.bB HB) hb)
       clear hb hbox hg
       refine hK.out _ _ (laws_FnExactHitCell.cs BK198.out BK199.out) (fun hHeld => ?_)
       clear hK K
       refine norm_ (a' := ?_) ?_ ?_
       rotate_left
       ·
        show Act.put _ (some 6) _ = _
        simp only [Act.put, List.setIfInBounds_toArray, List.set_cons_zero, List.set_cons_succ, i64_w, i32_w]
        rfl
       exact norm_ (by simp only [putAll, Act.put, List.setIfInBounds_toArray, List.set_cons_zero, List.set_cons_succ] <;> rfl) (hJ1_3_4_9_10 (gb216, gb217) _ ⟨hHeld, (XSq.bq BK198), (XSq.bq BK199), (XSq.bq BK216), (XSq.bq BK217), GW216.out, GE216.out, NB198_216.out, NB216_198.out, NB199_216.out, NB216_199.out, NB217_216.out, NB216_217.out, GW217.out, GE217.out, NB198_217.out, NB217_198.out, NB199_217.out, NB217_199.out, (XSq.bB HB)⟩)
     case f2 =>
      ·
       rintro gb216 w31 ⟨hS_, h0_, h1_, h2_, h3_, h4_, h5_, h6_, h7_, h8_, h9_⟩
       replace BK198 : Aside0 (w31.heap[gb198]? = some (.cells #[.int .i64 a0_0, .int .i64 a0_1, .string a0_2, .bool a0_3] 23 (0, 0))) := ⟨h0_⟩
       replace BK199 : Aside0 (w31.heap[gb199]? = some (.cells #[.int .i64 a1_0, .int .i64 a1_1, .int .i64 a1_2] 25 (0, 0))) := ⟨h1_⟩
       have BK216 : Aside0 (w31.heap[gb216]? = some (.cells #[.int .i64 0, .int .i64 0, .string (⟨#[]⟩ : ByteArray), .bool false] 27 (0, 0))) := ⟨h2_⟩
       have GW216 : Aside0 (w.heap.size ≤ gb216) := ⟨h3_⟩
       have GE216 : Aside0 (w.heap.size ≤ gb216) := ⟨h4_⟩
       have NB198_216 : Aside0 (gb198 ≠ gb216) := ⟨h5_⟩
       have NB216_198 : Aside0 (gb216 ≠ gb198) := ⟨h6_⟩
       have NB199_216 : Aside0 (gb199 ≠ gb216) := ⟨h7_⟩
       have NB216_199 : Aside0 (gb216 ≠ gb199) := ⟨h8_⟩
       replace HB : Aside0 (Below w.heap.size w w31) := ⟨h9_⟩
       clear h0_ h1_ h2_ h3_ h4_ h5_ h6_ h7_ h8_ h9_
       have hHeld : w31.cell? ⟨gb198, 0, none⟩ = some (.int .i64 a0_0) ∧ w31.cell? ⟨gb198, 1, none⟩ = some (.int .i64 a0_1) ∧ w31.cell? ⟨gb198, 2, none⟩ = some (.string a0_2) ∧ w31.cell? ⟨gb198, 3, none⟩ = some (.bool a0_3) ∧ w31.cell? ⟨gb199, 0, none⟩ = some (.int .i64 a1_0) ∧ w31.cell? ⟨gb199, 1, none⟩ = some (.int .i64 a1_1) ∧ w31.cell? ⟨gb199, 2, none⟩ = some (.int .i64 a1_2) := hS_
       refine norm_ (a' := ?_) ?_ ?_
       rotate_left
       ·
        simp only [putAll, Act.put, List.setIfInBounds_toArray, List.set_cons_zero, List.set_cons_succ]
        rfl
       refine one_ (i := 10) (N := some 7) #[true, true, true, true, true, true, true, true, true, true, true, false, false, false] rfl rfl (one_of HT_.out (by kernel_rfl)) (by decide) (fun K hK => ?_)
       refine box_step ?hg (N := 7) ?hd (cs := #[.int .i64 0, .int .i64 0, .int .i64 0]) (t := 28) ?hr ?_; (case hd => rfl); (case hg => rfl); (case hr => first | (go_simp; done) | (go_simp; rfl))
       intro gb217 hg w32 hbox hb
       have BK217 := Aside0.mk (hbox)
       have GW217 := XSq.gw hg (XSq.bB HB)
       have GE217 := XSq.gw hg (XSq.bB HB)
       have NB198_217 := XSq.nl hg (XSq.bq BK198)
       have NB217_198 := XSq.nr hg (XSq.bq BK198)
       have NB199_217 := XSq.nl hg (XSq.bq BK199)
       have NB217_199 := XSq.nr hg (XSq.bq BK199)
       have NB216_217 := Aside0.mk ((by rw [hg]; exact Nat.ne_of_lt (blk_lt (g := gb216) (o := .cells #[.int .i64 0, .int .i64 0, .string (⟨#[]⟩ : ByteArray), .bool false] 27 (0, 0)) (XSq.bq BK216)) : gb216 ≠ gb217))
       have NB217_216 := Aside0.mk ((by rw [hg]; exact Nat.ne_of_gt (blk_lt (g := gb216) (o := .cells #[.int .i64 0, .int .i64 0, .string (⟨#[]⟩ : ByteArray), .bool false] 27 (0, 0)) (XSq.bq BK216)) : gb217 ≠ gb216))
       replace BK198 := XSq.bb BK198 hb
       replace BK199 := XSq.bb BK199 hb
       replace BK216 := Aside0.mk (blk_below (g := gb216) (o := .cells #[.int .i64 0, .int .i64 0, .string (⟨#[]⟩ : ByteArray), .bool false] 27 (0, 0)) (XSq.bq BK216) hb)
       replace HB := Aside0.mk (below_step (XSq.bB HB) hb)
       clear hb hbox hg
       refine hK.out _ _ (laws_FnExactHitCell.cs BK198.out BK199.out) (fun hHeld => ?_)
       clear hK K
       refine norm_ (a' := ?_) ?_ ?_
       rotate_left
       ·
        show Act.put _ (some 7) _ = _
        simp only [Act.put, List.setIfInBounds_toArray, List.set_cons_zero, List.set_cons_succ, i64_w, i32_w]
        rfl
       exact norm_ (by simp only [putAll, Act.put, List.setIfInBounds_toArray, List.set_cons_zero, List.set_cons_succ] <;> rfl) (hJ1_3_4_9_10 (gb216, gb217) _ ⟨hHeld, (XSq.bq BK198), (XSq.bq BK199), (XSq.bq BK216), (XSq.bq BK217), GW216.out, GE216.out, NB198_216.out, NB216_198.out, NB199_216.out, NB216_199.out, NB217_216.out, NB216_217.out, GW217.out, GE217.out, NB198_217.out, NB217_198.out, NB199_217.out, NB217_199.out, (XSq.bB HB)⟩)
     case f1 =>
      rintro ⟨gb216, gb217⟩ w32 ⟨hS_, h0_, h1_, h2_, h3_, h4_, h5_, h6_, h7_, h8_, h9_, h10_, h11_, h12_, h13_, h14_, h15_, h16_, h17_, h18_⟩
      replace BK198 : Aside0 (w32.heap[gb198]? = some (.cells #[.int .i64 a0_0, .int .i64 a0_1, .string a0_2, .bool a0_3] 23 (0, 0))) := ⟨h0_⟩
      replace BK199 : Aside0 (w32.heap[gb199]? = some (.cells #[.int .i64 a1_0, .int .i64 a1_1, .int .i64 a1_2] 25 (0, 0))) := ⟨h1_⟩
      have BK216 : Aside0 (w32.heap[gb216]? = some (.cells #[.int .i64 0, .int .i64 0, .string (⟨#[]⟩ : ByteArray), .bool false] 27 (0, 0))) := ⟨h2_⟩
      have BK217 : Aside0 (w32.heap[gb217]? = some (.cells #[.int .i64 0, .int .i64 0, .int .i64 0] 28 (0, 0))) := ⟨h3_⟩
      have GW216 : Aside0 (w.heap.size ≤ gb216) := ⟨h4_⟩
      have GE216 : Aside0 (w.heap.size ≤ gb216) := ⟨h5_⟩
      have NB198_216 : Aside0 (gb198 ≠ gb216) := ⟨h6_⟩
      have NB216_198 : Aside0 (gb216 ≠ gb198) := ⟨h7_⟩
      have NB199_216 : Aside0 (gb199 ≠ gb216) := ⟨h8_⟩
      have NB216_199 : Aside0 (gb216 ≠ gb199) := ⟨h9_⟩
      have NB217_216 : Aside0 (gb217 ≠ gb216) := ⟨h10_⟩
      have NB216_217 : Aside0 (gb216 ≠ gb217) := ⟨h11_⟩
      have GW217 : Aside0 (w.heap.size ≤ gb217) := ⟨h12_⟩
      have GE217 : Aside0 (w.heap.size ≤ gb217) := ⟨h13_⟩
      have NB198_217 : Aside0 (gb198 ≠ gb217) := ⟨h14_⟩
      have NB217_198 : Aside0 (gb217 ≠ gb198) := ⟨h15_⟩
      have NB199_217 : Aside0 (gb199 ≠ gb217) := ⟨h16_⟩
      have NB217_199 : Aside0 (gb217 ≠ gb199) := ⟨h17_⟩
      replace HB : Aside0 (Below w.heap.size w w32) := ⟨h18_⟩
      clear h0_ h1_ h2_ h3_ h4_ h5_ h6_ h7_ h8_ h9_ h10_ h11_ h12_ h13_ h14_ h15_ h16_ h17_ h18_
      have hHeld : w32.cell? ⟨gb198, 0, none⟩ = some (.int .i64 a0_0) ∧ w32.cell? ⟨gb198, 1, none⟩ = some (.int .i64 a0_1) ∧ w32.cell? ⟨gb198, 2, none⟩ = some (.string a0_2) ∧ w32.cell? ⟨gb198, 3, none⟩ = some (.bool a0_3) ∧ w32.cell? ⟨gb199, 0, none⟩ = some (.int .i64 a1_0) ∧ w32.cell? ⟨gb199, 1, none⟩ = some (.int .i64 a1_1) ∧ w32.cell? ⟨gb199, 2, none⟩ = some (.int .i64 a1_2) := hS_
      refine norm_ (a' := ?_) ?_ ?_
      rotate_left
      ·
       simp only [putAll, Act.put, List.setIfInBounds_toArray, List.set_cons_zero, List.set_cons_succ]
       rfl
      refine one_ (i := 11) (N := none) #[true, true, true, true, true, true, true, true, true, true, true, true, false, false] rfl rfl (one_of HT_.out (by kernel_rfl)) (by decide) (fun K hK => ?_)
      have hs33 : w32.cell? ⟨gb216, 0, none⟩ = some (.int .i64 0) := (blk_cell BK216.out 0).trans rfl
      have hfs33 := blk_frozen BK216.out 0
      have hns33_0 := NB198_216.out
      have hns33_1 := NB199_216.out
      have hns33_3 := NB217_216.out
      have hms33_0 := NB216_198.out
      have hms33_1 := NB216_199.out
      have hms33_3 := NB216_217.out
      have hs34 : w32.cell? ⟨gb216, 1, none⟩ = some (.int .i64 0) := (blk_cell BK216.out 1).trans rfl
      have hfs34 := blk_frozen BK216.out 1
      have hns34_0 := NB198_216.out
      have hns34_1 := NB199_216.out
      have hns34_3 := NB217_216.out
      have hms34_0 := NB216_198.out
      have hms34_1 := NB216_199.out
      have hms34_3 := NB216_217.out
      have hs35 : w32.cell? ⟨gb216, 2, none⟩ = some (.string (⟨#[]⟩ : ByteArray)) := (blk_cell BK216.out 2).trans rfl
      have hfs35 := blk_frozen BK216.out 2
      have hns35_0 := NB198_216.out
      have hns35_1 := NB199_216.out
      have hns35_3 := NB217_216.out
      have hms35_0 := NB216_198.out
      have hms35_1 := NB216_199.out
      have hms35_3 := NB216_217.out
      have hs36 : w32.cell? ⟨gb216, 3, none⟩ = some (.bool false) := (blk_cell BK216.out 3).trans rfl
      have hfs36 := blk_frozen BK216.out 3
      have hns36_0 := NB198_216.out
      have hns36_1 := NB199_216.out
      have hns36_3 := NB217_216.out
      have hms36_0 := NB216_198.out
      have hms36_1 := NB216_199.out
      have hms36_3 := NB216_217.out
      refine skip_ (w1 := ?_) (by rfl) rfl ?_ ?_
      rotate_left
      ·
       go_simp
       rfl
      refine hK.out _ _ ⟨((cell_far (p := ⟨gb216, _, none⟩) NB198_216.out _).trans (((cell_far (p := ⟨gb216, _, none⟩) NB198_216.out _).trans (((cell_far (p := ⟨gb216, _, none⟩) NB198_216.out _).trans (((cell_far (p := ⟨gb216, _, none⟩) NB198_216.out _).trans (hHeld.1)))))))), ((cell_far (p := ⟨gb216, _, none⟩) NB198_216.out _).trans (((cell_far (p := ⟨gb216, _, none⟩) NB198_216.out _).trans (((cell_far (p := ⟨gb216, _, none⟩) NB198_216.out _).trans (((cell_far (p := ⟨gb216, _, none⟩) NB198_216.out _).trans (hHeld.2.1)))))))), ((cell_far (p := ⟨gb216, _, none⟩) NB198_216.out _).trans (((cell_far (p := ⟨gb216, _, none⟩) NB198_216.out _).trans (((cell_far (p := ⟨gb216, _, none⟩) NB198_216.out _).trans (((cell_far (p := ⟨gb216, _, none⟩) NB198_216.out _).trans (hHeld.2.2.1)))))))), ((cell_far (p := ⟨gb216, _, none⟩) NB198_216.out _).trans (((cell_far (p := ⟨gb216, _, none⟩) NB198_216.out _).trans (((cell_far (p := ⟨gb216, _, none⟩) NB198_216.out _).trans (((cell_far (p := ⟨gb216, _, none⟩) NB198_216.out _).trans (hHeld.2.2.2.1)))))))), ((cell_far (p := ⟨gb216, _, none⟩) NB199_216.out _).trans (((cell_far (p := ⟨gb216, _, none⟩) NB199_216.out _).trans (((cell_far (p := ⟨gb216, _, none⟩) NB199_216.out _).trans (((cell_far (p := ⟨gb216, _, none⟩) NB199_216.out _).trans (hHeld.2.2.2.2.1)))))))), ((cell_far (p := ⟨gb216, _, none⟩) NB199_216.out _).trans (((cell_far (p := ⟨gb216, _, none⟩) NB199_216.out _).trans (((cell_far (p := ⟨gb216, _, none⟩) NB199_216.out _).trans (((cell_far (p := ⟨gb216, _, none⟩) NB199_216.out _).trans (hHeld.2.2.2.2.2.1)))))))), ((cell_far (p := ⟨gb216, _, none⟩) NB199_216.out _).trans (((cell_far (p := ⟨gb216, _, none⟩) NB199_216.out _).trans (((cell_far (p := ⟨gb216, _, none⟩) NB199_216.out _).trans (((cell_far (p := ⟨gb216, _, none⟩) NB199_216.out _).trans (hHeld.2.2.2.2.2.2))))))))⟩ (fun hHeld => ?_)
      clear hK K
      refine one_ (i := 12) (N := none) #[true, true, true, true, true, true, true, true, true, true, true, true, true, false] rfl rfl (one_of HT_.out (by kernel_rfl)) (by decide) (fun K hK => ?_)
      have hs37 : w32.cell? ⟨gb217, 0, none⟩ = some (.int .i64 0) := (blk_cell BK217.out 0).trans rfl
      have hfs37 := blk_frozen BK217.out 0
      have hns37_0 := NB198_217.out
      have hns37_1 := NB199_217.out
      have hns37_2 := NB216_217.out
      have hms37_0 := NB217_198.out
      have hms37_1 := NB217_199.out
      have hms37_2 := NB217_216.out
      have hs38 : w32.cell? ⟨gb217, 1, none⟩ = some (.int .i64 0) := (blk_cell BK217.out 1).trans rfl
      have hfs38 := blk_frozen BK217.out 1
      have hns38_0 := NB198_217.out
      have hns38_1 := NB199_217.out
      have hns38_2 := NB216_217.out
      have hms38_0 := NB217_198.out
      have hms38_1 := NB217_199.out
      have hms38_2 := NB217_216.out
      have hs39 : w32.cell? ⟨gb217, 2, none⟩ = some (.int .i64 0) := (blk_cell BK217.out 2).trans rfl
      have hfs39 := blk_frozen BK217.out 2
      have hns39_0 := NB198_217.out
      have hns39_1 := NB199_217.out
      have hns39_2 := NB216_217.out
      have hms39_0 := NB217_198.out
      have hms39_1 := NB217_199.out
      have hms39_2 := NB217_216.out
      refine skip_ (w1 := ?_) (by rfl) rfl ?_ ?_
      rotate_left
      ·
       go_simp
       rfl
      refine hK.out _ _ ⟨((cell_far (p := ⟨gb217, _, none⟩) NB198_217.out _).trans (((cell_far (p := ⟨gb217, _, none⟩) NB198_217.out _).trans (((cell_far (p := ⟨gb217, _, none⟩) NB198_217.out _).trans (hHeld.1)))))), ((cell_far (p := ⟨gb217, _, none⟩) NB198_217.out _).trans (((cell_far (p := ⟨gb217, _, none⟩) NB198_217.out _).trans (((cell_far (p := ⟨gb217, _, none⟩) NB198_217.out _).trans (hHeld.2.1)))))), ((cell_far (p := ⟨gb217, _, none⟩) NB198_217.out _).trans (((cell_far (p := ⟨gb217, _, none⟩) NB198_217.out _).trans (((cell_far (p := ⟨gb217, _, none⟩) NB198_217.out _).trans (hHeld.2.2.1)))))), ((cell_far (p := ⟨gb217, _, none⟩) NB198_217.out _).trans (((cell_far (p := ⟨gb217, _, none⟩) NB198_217.out _).trans (((cell_far (p := ⟨gb217, _, none⟩) NB198_217.out _).trans (hHeld.2.2.2.1)))))), ((cell_far (p := ⟨gb217, _, none⟩) NB199_217.out _).trans (((cell_far (p := ⟨gb217, _, none⟩) NB199_217.out _).trans (((cell_far (p := ⟨gb217, _, none⟩) NB199_217.out _).trans (hHeld.2.2.2.2.1)))))), ((cell_far (p := ⟨gb217, _, none⟩) NB199_217.out _).trans (((cell_far (p := ⟨gb217, _, none⟩) NB199_217.out _).trans (((cell_far (p := ⟨gb217, _, none⟩) NB199_217.out _).trans (hHeld.2.2.2.2.2.1)))))), ((cell_far (p := ⟨gb217, _, none⟩) NB199_217.out _).trans (((cell_far (p := ⟨gb217, _, none⟩) NB199_217.out _).trans (((cell_far (p := ⟨gb217, _, none⟩) NB199_217.out _).trans (hHeld.2.2.2.2.2.2))))))⟩ (fun hHeld => ?_)
      clear hK K
      refine pure_ (i := 13) (N := some 8) (v := ?_) (a' := ?_) #[true, true, true, true, true, true, true, true, true, true, true, true, true, true] rfl rfl (any_of HT_.out (by kernel_rfl)) (fun _ _ _ h => h) (Or.inl ⟨by rfl, ?_⟩) ?_ ?_
      rotate_left
      ·
       intro w'
       go_simp
       with_reducible rfl
      rotate_left
      ·
       simp only [Act.put, List.setIfInBounds_toArray, List.set_cons_zero, List.set_cons_succ, i64_w, i32_w]
       rfl
      refine done_ (done_of HT_.out (by kernel_rfl)) ?_
      try go_wp2
      have n0_ : Aside0 ((((((((w32.setCell ⟨gb216, 0, none⟩ (.int .i64 t208)).setCell ⟨gb216, 1, none⟩ (.int .i64 t209)).setCell ⟨gb216, 2, none⟩ (.string t210)).setCell ⟨gb216, 3, none⟩ (.bool t211)).setCell ⟨gb217, 0, none⟩ (.int .i64 t212)).setCell ⟨gb217, 1, none⟩ (.int .i64 t213)).setCell ⟨gb217, 2, none⟩ (.int .i64 t214)).heap[gb198]? = some (.cells #[.int .i64 a0_0, .int .i64 a0_1, .string a0_2, .bool a0_3] 23 (0, 0))) := ⟨by (with_reducible repeat (first | refine blk_drewN ?_ _ | refine blk_drew ?_ | refine blk_alloc ?_ _)); refine blk_far ?_ NB198_217.out _; (with_reducible repeat (first | refine blk_drewN ?_ _ | refine blk_drew ?_ | refine blk_alloc ?_ _)); refine blk_far ?_ NB198_217.out _; (with_reducible repeat (first | refine blk_drewN ?_ _ | refine blk_drew ?_ | refine blk_alloc ?_ _)); refine blk_far ?_ NB198_217.out _; (with_reducible repeat (first | refine blk_drewN ?_ _ | refine blk_drew ?_ | refine blk_alloc ?_ _)); refine blk_far ?_ NB198_216.out _; (with_reducible repeat (first | refine blk_drewN ?_ _ | refine blk_drew ?_ | refine blk_alloc ?_ _)); refine blk_far ?_ NB198_216.out _; (with_reducible repeat (first | refine blk_drewN ?_ _ | refine blk_drew ?_ | refine blk_alloc ?_ _)); refine blk_far ?_ NB198_216.out _; (with_reducible repeat (first | refine blk_drewN ?_ _ | refine blk_drew ?_ | refine blk_alloc ?_ _)); refine blk_far ?_ NB198_216.out _; (with_reducible repeat (first | refine blk_drewN ?_ _ | refine blk_drew ?_ | refine blk_alloc ?_ _)); exact BK198.out⟩
      have n1_ : Aside0 ((((((((w32.setCell ⟨gb216, 0, none⟩ (.int .i64 t208)).setCell ⟨gb216, 1, none⟩ (.int .i64 t209)).setCell ⟨gb216, 2, none⟩ (.string t210)).setCell ⟨gb216, 3, none⟩ (.bool t211)).setCell ⟨gb217, 0, none⟩ (.int .i64 t212)).setCell ⟨gb217, 1, none⟩ (.int .i64 t213)).setCell ⟨gb217, 2, none⟩ (.int .i64 t214)).heap[gb199]? = some (.cells #[.int .i64 a1_0, .int .i64 a1_1, .int .i64 a1_2] 25 (0, 0))) := ⟨by (with_reducible repeat (first | refine blk_drewN ?_ _ | refine blk_drew ?_ | refine blk_alloc ?_ _)); refine blk_far ?_ NB199_217.out _; (with_reducible repeat (first | refine blk_drewN ?_ _ | refine blk_drew ?_ | refine blk_alloc ?_ _)); refine blk_far ?_ NB199_217.out _; (with_reducible repeat (first | refine blk_drewN ?_ _ | refine blk_drew ?_ | refine blk_alloc ?_ _)); refine blk_far ?_ NB199_217.out _; (with_reducible repeat (first | refine blk_drewN ?_ _ | refine blk_drew ?_ | refine blk_alloc ?_ _)); refine blk_far ?_ NB199_216.out _; (with_reducible repeat (first | refine blk_drewN ?_ _ | refine blk_drew ?_ | refine blk_alloc ?_ _)); refine blk_far ?_ NB199_216.out _; (with_reducible repeat (first | refine blk_drewN ?_ _ | refine blk_drew ?_ | refine blk_alloc ?_ _)); refine blk_far ?_ NB199_216.out _; (with_reducible repeat (first | refine blk_drewN ?_ _ | refine blk_drew ?_ | refine blk_alloc ?_ _)); refine blk_far ?_ NB199_216.out _; (with_reducible repeat (first | refine blk_drewN ?_ _ | refine blk_drew ?_ | refine blk_alloc ?_ _)); exact BK199.out⟩
      have n2_ : Aside0 ((((((((w32.setCell ⟨gb216, 0, none⟩ (.int .i64 t208)).setCell ⟨gb216, 1, none⟩ (.int .i64 t209)).setCell ⟨gb216, 2, none⟩ (.string t210)).setCell ⟨gb216, 3, none⟩ (.bool t211)).setCell ⟨gb217, 0, none⟩ (.int .i64 t212)).setCell ⟨gb217, 1, none⟩ (.int .i64 t213)).setCell ⟨gb217, 2, none⟩ (.int .i64 t214)).heap[gb216]? = some (.cells #[.int .i64 t208, .int .i64 t209, .string t210, .bool t211] 27 (0, 0))) := ⟨by (with_reducible repeat (first | refine blk_drewN ?_ _ | refine blk_drew ?_ | refine blk_alloc ?_ _)); refine blk_far ?_ NB216_217.out _; (with_reducible repeat (first | refine blk_drewN ?_ _ | refine blk_drew ?_ | refine blk_alloc ?_ _)); refine blk_far ?_ NB216_217.out _; (with_reducible repeat (first | refine blk_drewN ?_ _ | refine blk_drew ?_ | refine blk_alloc ?_ _)); refine blk_far ?_ NB216_217.out _; (with_reducible repeat (first | refine blk_drewN ?_ _ | refine blk_drew ?_ | refine blk_alloc ?_ _)); refine blk_put (cs := #[.int .i64 t208, .int .i64 t209, .string t210, .bool false]) ?_ 3 _ rfl; (with_reducible repeat (first | refine blk_drewN ?_ _ | refine blk_drew ?_ | refine blk_alloc ?_ _)); refine blk_put (cs := #[.int .i64 t208, .int .i64 t209, .string (⟨#[]⟩ : ByteArray), .bool false]) ?_ 2 _ rfl; (with_reducible repeat (first | refine blk_drewN ?_ _ | refine blk_drew ?_ | refine blk_alloc ?_ _)); refine blk_put (cs := #[.int .i64 t208, .int .i64 0, .string (⟨#[]⟩ : ByteArray), .bool false]) ?_ 1 _ rfl; (with_reducible repeat (first | refine blk_drewN ?_ _ | refine blk_drew ?_ | refine blk_alloc ?_ _)); refine blk_put (cs := #[.int .i64 0, .int .i64 0, .string (⟨#[]⟩ : ByteArray), .bool false]) ?_ 0 _ rfl; (with_reducible repeat (first | refine blk_drewN ?_ _ | refine blk_drew ?_ | refine blk_alloc ?_ _)); exact BK216.out⟩
      have n3_ : Aside0 ((((((((w32.setCell ⟨gb216, 0, none⟩ (.int .i64 t208)).setCell ⟨gb216, 1, none⟩ (.int .i64 t209)).setCell ⟨gb216, 2, none⟩ (.string t210)).setCell ⟨gb216, 3, none⟩ (.bool t211)).setCell ⟨gb217, 0, none⟩ (.int .i64 t212)).setCell ⟨gb217, 1, none⟩ (.int .i64 t213)).setCell ⟨gb217, 2, none⟩ (.int .i64 t214)).heap[gb217]? = some (.cells #[.int .i64 t212, .int .i64 t213, .int .i64 t214] 28 (0, 0))) := ⟨by (with_reducible repeat (first | refine blk_drewN ?_ _ | refine blk_drew ?_ | refine blk_alloc ?_ _)); refine blk_put (cs := #[.int .i64 t212, .int .i64 t213, .int .i64 0]) ?_ 2 _ rfl; (with_reducible repeat (first | refine blk_drewN ?_ _ | refine blk_drew ?_ | refine blk_alloc ?_ _)); refine blk_put (cs := #[.int .i64 t212, .int .i64 0, .int .i64 0]) ?_ 1 _ rfl; (with_reducible repeat (first | refine blk_drewN ?_ _ | refine blk_drew ?_ | refine blk_alloc ?_ _)); refine blk_put (cs := #[.int .i64 0, .int .i64 0, .int .i64 0]) ?_ 0 _ rfl; (with_reducible repeat (first | refine blk_drewN ?_ _ | refine blk_drew ?_ | refine blk_alloc ?_ _)); refine blk_far ?_ NB217_216.out _; (with_reducible repeat (first | refine blk_drewN ?_ _ | refine blk_drew ?_ | refine blk_alloc ?_ _)); refine blk_far ?_ NB217_216.out _; (with_reducible repeat (first | refine blk_drewN ?_ _ | refine blk_drew ?_ | refine blk_alloc ?_ _)); refine blk_far ?_ NB217_216.out _; (with_reducible repeat (first | refine blk_drewN ?_ _ | refine blk_drew ?_ | refine blk_alloc ?_ _)); refine blk_far ?_ NB217_216.out _; (with_reducible repeat (first | refine blk_drewN ?_ _ | refine blk_drew ?_ | refine blk_alloc ?_ _)); exact BK217.out⟩
      have n4_ : Aside0 (Below w.heap.size w (((((((w32.setCell ⟨gb216, 0, none⟩ (.int .i64 t208)).setCell ⟨gb216, 1, none⟩ (.int .i64 t209)).setCell ⟨gb216, 2, none⟩ (.string t210)).setCell ⟨gb216, 3, none⟩ (.bool t211)).setCell ⟨gb217, 0, none⟩ (.int .i64 t212)).setCell ⟨gb217, 1, none⟩ (.int .i64 t213)).setCell ⟨gb217, 2, none⟩ (.int .i64 t214))) := ⟨by repeat (first | (with_reducible first | exact HB.out | apply below_alloc | apply pw_below_drewN | apply below_drew1 | refine below_set ?_ GE198.out | refine below_set ?_ GE199.out | refine below_set ?_ GE216.out | refine below_set ?_ GE217.out) | exact HB.out)⟩
      (try clear BK198)
      (try clear BK199)
      (try clear BK216)
      (try clear BK217)
      (try clear HB)
      generalize (((((((w32.setCell ⟨gb216, 0, none⟩ (.int .i64 t208)).setCell ⟨gb216, 1, none⟩ (.int .i64 t209)).setCell ⟨gb216, 2, none⟩ (.string t210)).setCell ⟨gb216, 3, none⟩ (.bool t211)).setCell ⟨gb217, 0, none⟩ (.int .i64 t212)).setCell ⟨gb217, 1, none⟩ (.int .i64 t213)).setCell ⟨gb217, 2, none⟩ (.int .i64 t214)) = w40 at n0_ n1_ n2_ n3_ n4_ ⊢
      have BK198 := n0_
      have BK199 := n1_
      have BK216 := n2_
      have BK217 := n3_
      have HB := n4_
      clear n0_ n1_ n2_ n3_ n4_
      replace BK198 := Aside0.mk (blk_drew BK198.out)
      replace BK199 := Aside0.mk (blk_drew BK199.out)
      replace BK216 := Aside0.mk (blk_drew BK216.out)
      replace BK217 := Aside0.mk (blk_drew BK217.out)
      replace HB := Aside0.mk (below_drew1 HB.out)
      refine start_ (n := 14) (S := fun w' => w'.cell? ⟨gb198, 0, none⟩ = some (.int .i64 a0_0) ∧ w'.cell? ⟨gb198, 1, none⟩ = some (.int .i64 a0_1) ∧ w'.cell? ⟨gb198, 2, none⟩ = some (.string a0_2) ∧ w'.cell? ⟨gb198, 3, none⟩ = some (.bool a0_3) ∧ w'.cell? ⟨gb199, 0, none⟩ = some (.int .i64 a1_0) ∧ w'.cell? ⟨gb199, 1, none⟩ = some (.int .i64 a1_1) ∧ w'.cell? ⟨gb199, 2, none⟩ = some (.int .i64 a1_2)) (ds := []) #[false, false, false, false, false, false, false, false, false, false, false, false, false, false] (by kernel_rfl) rfl rfl ⟨(blk_cell BK198.out 0).trans rfl, (blk_cell BK198.out 1).trans rfl, (blk_cell BK198.out 2).trans rfl, (blk_cell BK198.out 3).trans rfl, (blk_cell BK199.out 0).trans rfl, (blk_cell BK199.out 1).trans rfl, (blk_cell BK199.out 2).trans rfl⟩ (fun hHeld => ?_); refine with_tabW laws_FnExactHitCell.tab6 laws_FnExactHitCell.bits6 (fun HT_ HW_ => ?_)
      generalize w40.drew = w41 at BK198 BK199 BK216 BK217 HB hHeld ⊢
      refine take_ (i := 0) (N := some 27) (v := ?_) (a' := ?_) #[true, false, false, false, false, false, false, false, false, false, false, false, false, false] rfl rfl (take_ofW HT_.out HW_.out (by kernel_rfl)) (fun _ _ _ h => h) (Or.inl ⟨by rfl, ?_⟩) hHeld ?_ ?_
      rotate_left
      ·
       rintro w' ⟨s0, s1, s2, s3, s4, s5, s6⟩
       go_simp
       with_reducible rfl
      rotate_left
      ·
       simp only [Act.put, List.setIfInBounds_toArray, List.set_cons_zero, List.set_cons_succ, i64_w, i32_w]
       rfl
      refine take_ (i := 2) (N := some 29) (v := ?_) (a' := ?_) #[true, false, true, false, false, false, false, false, false, false, false, false, false, false] rfl rfl (take_ofW HT_.out HW_.out (by kernel_rfl)) (fun _ _ _ h => h) (Or.inl ⟨by rfl, ?_⟩) hHeld ?_ ?_
      rotate_left
      ·
       rintro w' ⟨s0, s1, s2, s3, s4, s5, s6⟩
       go_simp
       with_reducible rfl
      rotate_left
      ·
       simp only [Act.put, List.setIfInBounds_toArray, List.set_cons_zero, List.set_cons_succ, i64_w, i32_w]
       rfl
      refine join_ (σ := Nat × Nat) 3 #[true, true, true, true, true, true, true, true, true, true, true, false, false, false] (fun s_ => [(28, .agg #[.int .i64 t218, .int .i64 t219, .string t220, .bool t221]), (30, .agg #[.int .i64 t222, .int .i64 t223, .int .i64 t224]), (31, .tuple #[.agg #[.int .i64 t225, .int .i64 t226, .string t227, .bool t228], .agg #[.int .i64 t229, .int .i64 t230, .int .i64 t231], .bool t232]), (9, .pointer (some ⟨s_.1, 0, none⟩)), (10, .pointer (some ⟨s_.2, 0, none⟩)), (26, .tuple #[.agg #[.int .i64 t225, .int .i64 t226, .string t227, .bool t228], .agg #[.int .i64 t229, .int .i64 t230, .int .i64 t231], .bool t232]), (32, .agg #[.int .i64 t225, .int .i64 t226, .string t227, .bool t228]), (33, .agg #[.int .i64 t229, .int .i64 t230, .int .i64 t231]), (34, .bool t232)]) (fun s_ w' => (w'.cell? ⟨gb198, 0, none⟩ = some (.int .i64 a0_0) ∧ w'.cell? ⟨gb198, 1, none⟩ = some (.int .i64 a0_1) ∧ w'.cell? ⟨gb198, 2, none⟩ = some (.string a0_2) ∧ w'.cell? ⟨gb198, 3, none⟩ = some (.bool a0_3) ∧ w'.cell? ⟨gb199, 0, none⟩ = some (.int .i64 a1_0) ∧ w'.cell? ⟨gb199, 1, none⟩ = some (.int .i64 a1_1) ∧ w'.cell? ⟨gb199, 2, none⟩ = some (.int .i64 a1_2)) ∧ (w'.heap[gb198]? = some (.cells #[.int .i64 a0_0, .int .i64 a0_1, .string a0_2, .bool a0_3] 23 (0, 0))) ∧ (w'.heap[gb199]? = some (.cells #[.int .i64 a1_0, .int .i64 a1_1, .int .i64 a1_2] 25 (0, 0))) ∧ (w'.heap[gb216]? = some (.cells #[.int .i64 t208, .int .i64 t209, .string t210, .bool t211] 27 (0, 0))) ∧ (w'.heap[gb217]? = some (.cells #[.int .i64 t212, .int .i64 t213, .int .i64 t214] 28 (0, 0))) ∧ (w'.heap[s_.1]? = some (.cells #[.int .i64 0, .int .i64 0, .string (⟨#[]⟩ : ByteArray), .bool false] 27 (0, 0))) ∧ (w'.heap[s_.2]? = some (.cells #[.int .i64 0, .int .i64 0, .int .i64 0] 28 (0, 0))) ∧ (w.heap.size ≤ s_.1) ∧ (w.heap.size ≤ s_.1) ∧ (gb198 ≠ s_.1) ∧ (s_.1 ≠ gb198) ∧ (gb199 ≠ s_.1) ∧ (s_.1 ≠ gb199) ∧ (gb216 ≠ s_.1) ∧ (s_.1 ≠ gb216) ∧ (gb217 ≠ s_.1) ∧ (s_.1 ≠ gb217) ∧ (s_.2 ≠ s_.1) ∧ (s_.1 ≠ s_.2) ∧ (w.heap.size ≤ s_.2) ∧ (w.heap.size ≤ s_.2) ∧ (gb198 ≠ s_.2) ∧ (s_.2 ≠ gb198) ∧ (gb199 ≠ s_.2) ∧ (s_.2 ≠ gb199) ∧ (gb216 ≠ s_.2) ∧ (s_.2 ≠ gb216) ∧ (gb217 ≠ s_.2) ∧ (s_.2 ≠ gb217) ∧ (Below w.heap.size w w')) ?f16 ?c16
      case' c16 =>
       intro hJ1_3_4_9_10
       refine join_ (σ := Nat) 4 #[true, true, true, true, true, true, true, true, true, true, false, false, false, false] (fun s_ => [(28, .agg #[.int .i64 t218, .int .i64 t219, .string t220, .bool t221]), (30, .agg #[.int .i64 t222, .int .i64 t223, .int .i64 t224]), (31, .tuple #[.agg #[.int .i64 t225, .int .i64 t226, .string t227, .bool t228], .agg #[.int .i64 t229, .int .i64 t230, .int .i64 t231], .bool t232]), (9, .pointer (some ⟨s_, 0, none⟩)), (26, .tuple #[.agg #[.int .i64 t225, .int .i64 t226, .string t227, .bool t228], .agg #[.int .i64 t229, .int .i64 t230, .int .i64 t231], .bool t232]), (32, .agg #[.int .i64 t225, .int .i64 t226, .string t227, .bool t228]), (33, .agg #[.int .i64 t229, .int .i64 t230, .int .i64 t231]), (34, .bool t232)]) (fun s_ w' => (w'.cell? ⟨gb198, 0, none⟩ = some (.int .i64 a0_0) ∧ w'.cell? ⟨gb198, 1, none⟩ = some (.int .i64 a0_1) ∧ w'.cell? ⟨gb198, 2, none⟩ = some (.string a0_2) ∧ w'.cell? ⟨gb198, 3, none⟩ = some (.bool a0_3) ∧ w'.cell? ⟨gb199, 0, none⟩ = some (.int .i64 a1_0) ∧ w'.cell? ⟨gb199, 1, none⟩ = some (.int .i64 a1_1) ∧ w'.cell? ⟨gb199, 2, none⟩ = some (.int .i64 a1_2)) ∧ (w'.heap[gb198]? = some (.cells #[.int .i64 a0_0, .int .i64 a0_1, .string a0_2, .bool a0_3] 23 (0, 0))) ∧ (w'.heap[gb199]? = some (.cells #[.int .i64 a1_0, .int .i64 a1_1, .int .i64 a1_2] 25 (0, 0))) ∧ (w'.heap[gb216]? = some (.cells #[.int .i64 t208, .int .i64 t209, .string t210, .bool t211] 27 (0, 0))) ∧ (w'.heap[gb217]? = some (.cells #[.int .i64 t212, .int .i64 t213, .int .i64 t214] 28 (0, 0))) ∧ (w'.heap[s_]? = some (.cells #[.int .i64 0, .int .i64 0, .string (⟨#[]⟩ : ByteArray), .bool false] 27 (0, 0))) ∧ (w.heap.size ≤ s_) ∧ (w.heap.size ≤ s_) ∧ (gb198 ≠ s_) ∧ (s_ ≠ gb198) ∧ (gb199 ≠ s_) ∧ (s_ ≠ gb199) ∧ (gb216 ≠ s_) ∧ (s_ ≠ gb216) ∧ (gb217 ≠ s_) ∧ (s_ ≠ gb217) ∧ (Below w.heap.size w w')) ?f17 ?c17
      case' c17 =>
       intro hJ1_3_4_9
       refine join_ (σ := Nat) 4 #[true, true, true, true, true, true, true, true, true, false, true, false, false, false] (fun s_ => [(28, .agg #[.int .i64 t218, .int .i64 t219, .string t220, .bool t221]), (30, .agg #[.int .i64 t222, .int .i64 t223, .int .i64 t224]), (31, .tuple #[.agg #[.int .i64 t225, .int .i64 t226, .string t227, .bool t228], .agg #[.int .i64 t229, .int .i64 t230, .int .i64 t231], .bool t232]), (10, .pointer (some ⟨s_, 0, none⟩)), (26, .tuple #[.agg #[.int .i64 t225, .int .i64 t226, .string t227, .bool t228], .agg #[.int .i64 t229, .int .i64 t230, .int .i64 t231], .bool t232]), (32, .agg #[.int .i64 t225, .int .i64 t226, .string t227, .bool t228]), (33, .agg #[.int .i64 t229, .int .i64 t230, .int .i64 t231]), (34, .bool t232)]) (fun s_ w' => (w'.cell? ⟨gb198, 0, none⟩ = some (.int .i64 a0_0) ∧ w'.cell? ⟨gb198, 1, none⟩ = some (.int .i64 a0_1) ∧ w'.cell? ⟨gb198, 2, none⟩ = some (.string a0_2) ∧ w'.cell? ⟨gb198, 3, none⟩ = some (.bool a0_3) ∧ w'.cell? ⟨gb199, 0, none⟩ = some (.int .i64 a1_0) ∧ w'.cell? ⟨gb199, 1, none⟩ = some (.int .i64 a1_1) ∧ w'.cell? ⟨gb199, 2, none⟩ = some (.int .i64 a1_2)) ∧ (w'.heap[gb198]? = some (.cells #[.int .i64 a0_0, .int .i64 a0_1, .string a0_2, .bool a0_3] 23 (0, 0))) ∧ (w'.heap[gb199]? = some (.cells #[.int .i64 a1_0, .int .i64 a1_1, .int .i64 a1_2] 25 (0, 0))) ∧ (w'.heap[gb216]? = some (.cells #[.int .i64 t208, .int .i64 t209, .string t210, .bool t211] 27 (0, 0))) ∧ (w'.heap[gb217]? = some (.cells #[.int .i64 t212, .int .i64 t213, .int .i64 t214] 28 (0, 0))) ∧ (w'.heap[s_]? = some (.cells #[.int .i64 0, .int .i64 0, .int .i64 0] 28 (0, 0))) ∧ (w.heap.size ≤ s_) ∧ (w.heap.size ≤ s_) ∧ (gb198 ≠ s_) ∧ (s_ ≠ gb198) ∧ (gb199 ≠ s_) ∧ (s_ ≠ gb199) ∧ (gb216 ≠ s_) ∧ (s_ ≠ gb216) ∧ (gb217 ≠ s_) ∧ (s_ ≠ gb217) ∧ (Below w.heap.size w w')) ?f18 ?c18
      case' c18 =>
       intro hJ1_3_4_10
       refine join_ (σ := Nat × Nat) 8 #[true, true, true, true, false, false, false, false, false, true, true, false, false, false] (fun s_ => [(28, .agg #[.int .i64 t218, .int .i64 t219, .string t220, .bool t221]), (30, .agg #[.int .i64 t222, .int .i64 t223, .int .i64 t224]), (9, .pointer (some ⟨s_.1, 0, none⟩)), (10, .pointer (some ⟨s_.2, 0, none⟩))]) (fun s_ w' => (w'.cell? ⟨gb198, 0, none⟩ = some (.int .i64 a0_0) ∧ w'.cell? ⟨gb198, 1, none⟩ = some (.int .i64 a0_1) ∧ w'.cell? ⟨gb198, 2, none⟩ = some (.string a0_2) ∧ w'.cell? ⟨gb198, 3, none⟩ = some (.bool a0_3) ∧ w'.cell? ⟨gb199, 0, none⟩ = some (.int .i64 a1_0) ∧ w'.cell? ⟨gb199, 1, none⟩ = some (.int .i64 a1_1) ∧ w'.cell? ⟨gb199, 2, none⟩ = some (.int .i64 a1_2)) ∧ (w'.heap[gb198]? = some (.cells #[.int .i64 a0_0, .int .i64 a0_1, .string a0_2, .bool a0_3] 23 (0, 0))) ∧ (w'.heap[gb199]? = some (.cells #[.int .i64 a1_0, .int .i64 a1_1, .int .i64 a1_2] 25 (0, 0))) ∧ (w'.heap[gb216]? = some (.cells #[.int .i64 t208, .int .i64 t209, .string t210, .bool t211] 27 (0, 0))) ∧ (w'.heap[gb217]? = some (.cells #[.int .i64 t212, .int .i64 t213, .int .i64 t214] 28 (0, 0))) ∧ (w'.heap[s_.1]? = some (.cells #[.int .i64 0, .int .i64 0, .string (⟨#[]⟩ : ByteArray), .bool false] 27 (0, 0))) ∧ (w'.heap[s_.2]? = some (.cells #[.int .i64 0, .int .i64 0, .int .i64 0] 28 (0, 0))) ∧ (w.heap.size ≤ s_.1) ∧ (w.heap.size ≤ s_.1) ∧ (gb198 ≠ s_.1) ∧ (s_.1 ≠ gb198) ∧ (gb199 ≠ s_.1) ∧ (s_.1 ≠ gb199) ∧ (gb216 ≠ s_.1) ∧ (s_.1 ≠ gb216) ∧ (gb217 ≠ s_.1) ∧ (s_.1 ≠ gb217) ∧ (s_.2 ≠ s_.1) ∧ (s_.1 ≠ s_.2) ∧ (w.heap.size ≤ s_.2) ∧ (w.heap.size ≤ s_.2) ∧ (gb198 ≠ s_.2) ∧ (s_.2 ≠ gb198) ∧ (gb199 ≠ s_.2) ∧ (s_.2 ≠ gb199) ∧ (gb216 ≠ s_.2) ∧ (s_.2 ≠ gb216) ∧ (gb217 ≠ s_.2) ∧ (s_.2 ≠ gb217) ∧ (Below w.heap.size w w')) ?f19 ?c19
      case' c19 =>
       intro hJ1_3_9_10
       refine join_ (σ := Unit) 5 #[true, true, true, true, true, true, true, true, true, false, false, false, false, false] (fun s_ => [(28, .agg #[.int .i64 t218, .int .i64 t219, .string t220, .bool t221]), (30, .agg #[.int .i64 t222, .int .i64 t223, .int .i64 t224]), (31, .tuple #[.agg #[.int .i64 t225, .int .i64 t226, .string t227, .bool t228], .agg #[.int .i64 t229, .int .i64 t230, .int .i64 t231], .bool t232]), (26, .tuple #[.agg #[.int .i64 t225, .int .i64 t226, .string t227, .bool t228], .agg #[.int .i64 t229, .int .i64 t230, .int .i64 t231], .bool t232]), (32, .agg #[.int .i64 t225, .int .i64 t226, .string t227, .bool t228]), (33, .agg #[.int .i64 t229, .int .i64 t230, .int .i64 t231]), (34, .bool t232)]) (fun s_ w' => (w'.cell? ⟨gb198, 0, none⟩ = some (.int .i64 a0_0) ∧ w'.cell? ⟨gb198, 1, none⟩ = some (.int .i64 a0_1) ∧ w'.cell? ⟨gb198, 2, none⟩ = some (.string a0_2) ∧ w'.cell? ⟨gb198, 3, none⟩ = some (.bool a0_3) ∧ w'.cell? ⟨gb199, 0, none⟩ = some (.int .i64 a1_0) ∧ w'.cell? ⟨gb199, 1, none⟩ = some (.int .i64 a1_1) ∧ w'.cell? ⟨gb199, 2, none⟩ = some (.int .i64 a1_2)) ∧ (w'.heap[gb198]? = some (.cells #[.int .i64 a0_0, .int .i64 a0_1, .string a0_2, .bool a0_3] 23 (0, 0))) ∧ (w'.heap[gb199]? = some (.cells #[.int .i64 a1_0, .int .i64 a1_1, .int .i64 a1_2] 25 (0, 0))) ∧ (w'.heap[gb216]? = some (.cells #[.int .i64 t208, .int .i64 t209, .string t210, .bool t211] 27 (0, 0))) ∧ (w'.heap[gb217]? = some (.cells #[.int .i64 t212, .int .i64 t213, .int .i64 t214] 28 (0, 0))) ∧ (Below w.heap.size w w')) ?f20 ?c20
      case' c20 =>
       intro hJ1_3_4
       refine join_ (σ := Nat) 9 #[true, true, true, true, false, false, false, false, false, true, false, false, false, false] (fun s_ => [(28, .agg #[.int .i64 t218, .int .i64 t219, .string t220, .bool t221]), (30, .agg #[.int .i64 t222, .int .i64 t223, .int .i64 t224]), (9, .pointer (some ⟨s_, 0, none⟩))]) (fun s_ w' => (w'.cell? ⟨gb198, 0, none⟩ = some (.int .i64 a0_0) ∧ w'.cell? ⟨gb198, 1, none⟩ = some (.int .i64 a0_1) ∧ w'.cell? ⟨gb198, 2, none⟩ = some (.string a0_2) ∧ w'.cell? ⟨gb198, 3, none⟩ = some (.bool a0_3) ∧ w'.cell? ⟨gb199, 0, none⟩ = some (.int .i64 a1_0) ∧ w'.cell? ⟨gb199, 1, none⟩ = some (.int .i64 a1_1) ∧ w'.cell? ⟨gb199, 2, none⟩ = some (.int .i64 a1_2)) ∧ (w'.heap[gb198]? = some (.cells #[.int .i64 a0_0, .int .i64 a0_1, .string a0_2, .bool a0_3] 23 (0, 0))) ∧ (w'.heap[gb199]? = some (.cells #[.int .i64 a1_0, .int .i64 a1_1, .int .i64 a1_2] 25 (0, 0))) ∧ (w'.heap[gb216]? = some (.cells #[.int .i64 t208, .int .i64 t209, .string t210, .bool t211] 27 (0, 0))) ∧ (w'.heap[gb217]? = some (.cells #[.int .i64 t212, .int .i64 t213, .int .i64 t214] 28 (0, 0))) ∧ (w'.heap[s_]? = some (.cells #[.int .i64 0, .int .i64 0, .string (⟨#[]⟩ : ByteArray), .bool false] 27 (0, 0))) ∧ (w.heap.size ≤ s_) ∧ (w.heap.size ≤ s_) ∧ (gb198 ≠ s_) ∧ (s_ ≠ gb198) ∧ (gb199 ≠ s_) ∧ (s_ ≠ gb199) ∧ (gb216 ≠ s_) ∧ (s_ ≠ gb216) ∧ (gb217 ≠ s_) ∧ (s_ ≠ gb217) ∧ (Below w.heap.size w w')) ?f21 ?c21
      case' c21 =>
       intro hJ1_3_9
       refine join_ (σ := Nat) 9 #[true, true, true, true, false, false, false, false, false, false, true, false, false, false] (fun s_ => [(28, .agg #[.int .i64 t218, .int .i64 t219, .string t220, .bool t221]), (30, .agg #[.int .i64 t222, .int .i64 t223, .int .i64 t224]), (10, .pointer (some ⟨s_, 0, none⟩))]) (fun s_ w' => (w'.cell? ⟨gb198, 0, none⟩ = some (.int .i64 a0_0) ∧ w'.cell? ⟨gb198, 1, none⟩ = some (.int .i64 a0_1) ∧ w'.cell? ⟨gb198, 2, none⟩ = some (.string a0_2) ∧ w'.cell? ⟨gb198, 3, none⟩ = some (.bool a0_3) ∧ w'.cell? ⟨gb199, 0, none⟩ = some (.int .i64 a1_0) ∧ w'.cell? ⟨gb199, 1, none⟩ = some (.int .i64 a1_1) ∧ w'.cell? ⟨gb199, 2, none⟩ = some (.int .i64 a1_2)) ∧ (w'.heap[gb198]? = some (.cells #[.int .i64 a0_0, .int .i64 a0_1, .string a0_2, .bool a0_3] 23 (0, 0))) ∧ (w'.heap[gb199]? = some (.cells #[.int .i64 a1_0, .int .i64 a1_1, .int .i64 a1_2] 25 (0, 0))) ∧ (w'.heap[gb216]? = some (.cells #[.int .i64 t208, .int .i64 t209, .string t210, .bool t211] 27 (0, 0))) ∧ (w'.heap[gb217]? = some (.cells #[.int .i64 t212, .int .i64 t213, .int .i64 t214] 28 (0, 0))) ∧ (w'.heap[s_]? = some (.cells #[.int .i64 0, .int .i64 0, .int .i64 0] 28 (0, 0))) ∧ (w.heap.size ≤ s_) ∧ (w.heap.size ≤ s_) ∧ (gb198 ≠ s_) ∧ (s_ ≠ gb198) ∧ (gb199 ≠ s_) ∧ (s_ ≠ gb199) ∧ (gb216 ≠ s_) ∧ (s_ ≠ gb216) ∧ (gb217 ≠ s_) ∧ (s_ ≠ gb217) ∧ (Below w.heap.size w w')) ?f22 ?c22
      case' c22 =>
       intro hJ1_3_10
       refine join_ (σ := Nat × Nat) 9 #[true, true, true, false, false, false, false, false, false, true, true, false, false, false] (fun s_ => [(28, .agg #[.int .i64 t218, .int .i64 t219, .string t220, .bool t221]), (9, .pointer (some ⟨s_.1, 0, none⟩)), (10, .pointer (some ⟨s_.2, 0, none⟩))]) (fun s_ w' => (w'.cell? ⟨gb198, 0, none⟩ = some (.int .i64 a0_0) ∧ w'.cell? ⟨gb198, 1, none⟩ = some (.int .i64 a0_1) ∧ w'.cell? ⟨gb198, 2, none⟩ = some (.string a0_2) ∧ w'.cell? ⟨gb198, 3, none⟩ = some (.bool a0_3) ∧ w'.cell? ⟨gb199, 0, none⟩ = some (.int .i64 a1_0) ∧ w'.cell? ⟨gb199, 1, none⟩ = some (.int .i64 a1_1) ∧ w'.cell? ⟨gb199, 2, none⟩ = some (.int .i64 a1_2)) ∧ (w'.heap[gb198]? = some (.cells #[.int .i64 a0_0, .int .i64 a0_1, .string a0_2, .bool a0_3] 23 (0, 0))) ∧ (w'.heap[gb199]? = some (.cells #[.int .i64 a1_0, .int .i64 a1_1, .int .i64 a1_2] 25 (0, 0))) ∧ (w'.heap[gb216]? = some (.cells #[.int .i64 t208, .int .i64 t209, .string t210, .bool t211] 27 (0, 0))) ∧ (w'.heap[gb217]? = some (.cells #[.int .i64 t212, .int .i64 t213, .int .i64 t214] 28 (0, 0))) ∧ (w'.heap[s_.1]? = some (.cells #[.int .i64 0, .int .i64 0, .string (⟨#[]⟩ : ByteArray), .bool false] 27 (0, 0))) ∧ (w'.heap[s_.2]? = some (.cells #[.int .i64 0, .int .i64 0, .int .i64 0] 28 (0, 0))) ∧ (w.heap.size ≤ s_.1) ∧ (w.heap.size ≤ s_.1) ∧ (gb198 ≠ s_.1) ∧ (s_.1 ≠ gb198) ∧ (gb199 ≠ s_.1) ∧ (s_.1 ≠ gb199) ∧ (gb216 ≠ s_.1) ∧ (s_.1 ≠ gb216) ∧ (gb217 ≠ s_.1) ∧ (s_.1 ≠ gb217) ∧ (s_.2 ≠ s_.1) ∧ (s_.1 ≠ s_.2) ∧ (w.heap.size ≤ s_.2) ∧ (w.heap.size ≤ s_.2) ∧ (gb198 ≠ s_.2) ∧ (s_.2 ≠ gb198) ∧ (gb199 ≠ s_.2) ∧ (s_.2 ≠ gb199) ∧ (gb216 ≠ s_.2) ∧ (s_.2 ≠ gb216) ∧ (gb217 ≠ s_.2) ∧ (s_.2 ≠ gb217) ∧ (Below w.heap.size w w')) ?f23 ?c23
      case' c23 =>
       intro hJ1_9_10
       refine join_ (σ := Unit) 10 #[true, true, true, true, false, false, false, false, false, false, false, false, false, false] (fun s_ => [(28, .agg #[.int .i64 t218, .int .i64 t219, .string t220, .bool t221]), (30, .agg #[.int .i64 t222, .int .i64 t223, .int .i64 t224])]) (fun s_ w' => (w'.cell? ⟨gb198, 0, none⟩ = some (.int .i64 a0_0) ∧ w'.cell? ⟨gb198, 1, none⟩ = some (.int .i64 a0_1) ∧ w'.cell? ⟨gb198, 2, none⟩ = some (.string a0_2) ∧ w'.cell? ⟨gb198, 3, none⟩ = some (.bool a0_3) ∧ w'.cell? ⟨gb199, 0, none⟩ = some (.int .i64 a1_0) ∧ w'.cell? ⟨gb199, 1, none⟩ = some (.int .i64 a1_1) ∧ w'.cell? ⟨gb199, 2, none⟩ = some (.int .i64 a1_2)) ∧ (w'.heap[gb198]? = some (.cells #[.int .i64 a0_0, .int .i64 a0_1, .string a0_2, .bool a0_3] 23 (0, 0))) ∧ (w'.heap[gb199]? = some (.cells #[.int .i64 a1_0, .int .i64 a1_1, .int .i64 a1_2] 25 (0, 0))) ∧ (w'.heap[gb216]? = some (.cells #[.int .i64 t208, .int .i64 t209, .string t210, .bool t211] 27 (0, 0))) ∧ (w'.heap[gb217]? = some (.cells #[.int .i64 t212, .int .i64 t213, .int .i64 t214] 28 (0, 0))) ∧ (Below w.heap.size w w')) ?f24 ?c24
      case' c24 =>
       intro hJ1_3
       refine join_ (σ := Nat) 10 #[true, true, true, false, false, false, false, false, false, true, false, false, false, false] (fun s_ => [(28, .agg #[.int .i64 t218, .int .i64 t219, .string t220, .bool t221]), (9, .pointer (some ⟨s_, 0, none⟩))]) (fun s_ w' => (w'.cell? ⟨gb198, 0, none⟩ = some (.int .i64 a0_0) ∧ w'.cell? ⟨gb198, 1, none⟩ = some (.int .i64 a0_1) ∧ w'.cell? ⟨gb198, 2, none⟩ = some (.string a0_2) ∧ w'.cell? ⟨gb198, 3, none⟩ = some (.bool a0_3) ∧ w'.cell? ⟨gb199, 0, none⟩ = some (.int .i64 a1_0) ∧ w'.cell? ⟨gb199, 1, none⟩ = some (.int .i64 a1_1) ∧ w'.cell? ⟨gb199, 2, none⟩ = some (.int .i64 a1_2)) ∧ (w'.heap[gb198]? = some (.cells #[.int .i64 a0_0, .int .i64 a0_1, .string a0_2, .bool a0_3] 23 (0, 0))) ∧ (w'.heap[gb199]? = some (.cells #[.int .i64 a1_0, .int .i64 a1_1, .int .i64 a1_2] 25 (0, 0))) ∧ (w'.heap[gb216]? = some (.cells #[.int .i64 t208, .int .i64 t209, .string t210, .bool t211] 27 (0, 0))) ∧ (w'.heap[gb217]? = some (.cells #[.int .i64 t212, .int .i64 t213, .int .i64 t214] 28 (0, 0))) ∧ (w'.heap[s_]? = some (.cells #[.int .i64 0, .int .i64 0, .string (⟨#[]⟩ : ByteArray), .bool false] 27 (0, 0))) ∧ (w.heap.size ≤ s_) ∧ (w.heap.size ≤ s_) ∧ (gb198 ≠ s_) ∧ (s_ ≠ gb198) ∧ (gb199 ≠ s_) ∧ (s_ ≠ gb199) ∧ (gb216 ≠ s_) ∧ (s_ ≠ gb216) ∧ (gb217 ≠ s_) ∧ (s_ ≠ gb217) ∧ (Below w.heap.size w w')) ?f25 ?c25
      case' c25 =>
       intro hJ1_9
       refine join_ (σ := Nat) 10 #[true, true, true, false, false, false, false, false, false, false, true, false, false, false] (fun s_ => [(28, .agg #[.int .i64 t218, .int .i64 t219, .string t220, .bool t221]), (10, .pointer (some ⟨s_, 0, none⟩))]) (fun s_ w' => (w'.cell? ⟨gb198, 0, none⟩ = some (.int .i64 a0_0) ∧ w'.cell? ⟨gb198, 1, none⟩ = some (.int .i64 a0_1) ∧ w'.cell? ⟨gb198, 2, none⟩ = some (.string a0_2) ∧ w'.cell? ⟨gb198, 3, none⟩ = some (.bool a0_3) ∧ w'.cell? ⟨gb199, 0, none⟩ = some (.int .i64 a1_0) ∧ w'.cell? ⟨gb199, 1, none⟩ = some (.int .i64 a1_1) ∧ w'.cell? ⟨gb199, 2, none⟩ = some (.int .i64 a1_2)) ∧ (w'.heap[gb198]? = some (.cells #[.int .i64 a0_0, .int .i64 a0_1, .string a0_2, .bool a0_3] 23 (0, 0))) ∧ (w'.heap[gb199]? = some (.cells #[.int .i64 a1_0, .int .i64 a1_1, .int .i64 a1_2] 25 (0, 0))) ∧ (w'.heap[gb216]? = some (.cells #[.int .i64 t208, .int .i64 t209, .string t210, .bool t211] 27 (0, 0))) ∧ (w'.heap[gb217]? = some (.cells #[.int .i64 t212, .int .i64 t213, .int .i64 t214] 28 (0, 0))) ∧ (w'.heap[s_]? = some (.cells #[.int .i64 0, .int .i64 0, .int .i64 0] 28 (0, 0))) ∧ (w.heap.size ≤ s_) ∧ (w.heap.size ≤ s_) ∧ (gb198 ≠ s_) ∧ (s_ ≠ gb198) ∧ (gb199 ≠ s_) ∧ (s_ ≠ gb199) ∧ (gb216 ≠ s_) ∧ (s_ ≠ gb216) ∧ (gb217 ≠ s_) ∧ (s_ ≠ gb217) ∧ (Below w.heap.size w w')) ?f26 ?c26
      case' c26 =>
       intro hJ1_10
       refine join_ (σ := Nat × Nat) 10 #[true, false, true, false, false, false, false, false, false, true, true, false, false, false] (fun s_ => [(9, .pointer (some ⟨s_.1, 0, none⟩)), (10, .pointer (some ⟨s_.2, 0, none⟩))]) (fun s_ w' => (w'.cell? ⟨gb198, 0, none⟩ = some (.int .i64 a0_0) ∧ w'.cell? ⟨gb198, 1, none⟩ = some (.int .i64 a0_1) ∧ w'.cell? ⟨gb198, 2, none⟩ = some (.string a0_2) ∧ w'.cell? ⟨gb198, 3, none⟩ = some (.bool a0_3) ∧ w'.cell? ⟨gb199, 0, none⟩ = some (.int .i64 a1_0) ∧ w'.cell? ⟨gb199, 1, none⟩ = some (.int .i64 a1_1) ∧ w'.cell? ⟨gb199, 2, none⟩ = some (.int .i64 a1_2)) ∧ (w'.heap[gb198]? = some (.cells #[.int .i64 a0_0, .int .i64 a0_1, .string a0_2, .bool a0_3] 23 (0, 0))) ∧ (w'.heap[gb199]? = some (.cells #[.int .i64 a1_0, .int .i64 a1_1, .int .i64 a1_2] 25 (0, 0))) ∧ (w'.heap[gb216]? = some (.cells #[.int .i64 t208, .int .i64 t209, .string t210, .bool t211] 27 (0, 0))) ∧ (w'.heap[gb217]? = some (.cells #[.int .i64 t212, .int .i64 t213, .int .i64 t214] 28 (0, 0))) ∧ (w'.heap[s_.1]? = some (.cells #[.int .i64 0, .int .i64 0, .string (⟨#[]⟩ : ByteArray), .bool false] 27 (0, 0))) ∧ (w'.heap[s_.2]? = some (.cells #[.int .i64 0, .int .i64 0, .int .i64 0] 28 (0, 0))) ∧ (w.heap.size ≤ s_.1) ∧ (w.heap.size ≤ s_.1) ∧ (gb198 ≠ s_.1) ∧ (s_.1 ≠ gb198) ∧ (gb199 ≠ s_.1) ∧ (s_.1 ≠ gb199) ∧ (gb216 ≠ s_.1) ∧ (s_.1 ≠ gb216) ∧ (gb217 ≠ s_.1) ∧ (s_.1 ≠ gb217) ∧ (s_.2 ≠ s_.1) ∧ (s_.1 ≠ s_.2) ∧ (w.heap.size ≤ s_.2) ∧ (w.heap.size ≤ s_.2) ∧ (gb198 ≠ s_.2) ∧ (s_.2 ≠ gb198) ∧ (gb199 ≠ s_.2) ∧ (s_.2 ≠ gb199) ∧ (gb216 ≠ s_.2) ∧ (s_.2 ≠ gb216) ∧ (gb217 ≠ s_.2) ∧ (s_.2 ≠ gb217) ∧ (Below w.heap.size w w')) ?f27 ?c27
      case' c27 =>
       intro hJ9_10
       refine join_ (σ := Unit) 11 #[true, true, true, false, false, false, false, false, false, false, false, false, false, false] (fun s_ => [(28, .agg #[.int .i64 t218, .int .i64 t219, .string t220, .bool t221])]) (fun s_ w' => (w'.cell? ⟨gb198, 0, none⟩ = some (.int .i64 a0_0) ∧ w'.cell? ⟨gb198, 1, none⟩ = some (.int .i64 a0_1) ∧ w'.cell? ⟨gb198, 2, none⟩ = some (.string a0_2) ∧ w'.cell? ⟨gb198, 3, none⟩ = some (.bool a0_3) ∧ w'.cell? ⟨gb199, 0, none⟩ = some (.int .i64 a1_0) ∧ w'.cell? ⟨gb199, 1, none⟩ = some (.int .i64 a1_1) ∧ w'.cell? ⟨gb199, 2, none⟩ = some (.int .i64 a1_2)) ∧ (w'.heap[gb198]? = some (.cells #[.int .i64 a0_0, .int .i64 a0_1, .string a0_2, .bool a0_3] 23 (0, 0))) ∧ (w'.heap[gb199]? = some (.cells #[.int .i64 a1_0, .int .i64 a1_1, .int .i64 a1_2] 25 (0, 0))) ∧ (w'.heap[gb216]? = some (.cells #[.int .i64 t208, .int .i64 t209, .string t210, .bool t211] 27 (0, 0))) ∧ (w'.heap[gb217]? = some (.cells #[.int .i64 t212, .int .i64 t213, .int .i64 t214] 28 (0, 0))) ∧ (Below w.heap.size w w')) ?f28 ?c28
      case' c28 =>
       intro hJ1
       refine join_ (σ := Nat) 11 #[true, false, true, false, false, false, false, false, false, true, false, false, false, false] (fun s_ => [(9, .pointer (some ⟨s_, 0, none⟩))]) (fun s_ w' => (w'.cell? ⟨gb198, 0, none⟩ = some (.int .i64 a0_0) ∧ w'.cell? ⟨gb198, 1, none⟩ = some (.int .i64 a0_1) ∧ w'.cell? ⟨gb198, 2, none⟩ = some (.string a0_2) ∧ w'.cell? ⟨gb198, 3, none⟩ = some (.bool a0_3) ∧ w'.cell? ⟨gb199, 0, none⟩ = some (.int .i64 a1_0) ∧ w'.cell? ⟨gb199, 1, none⟩ = some (.int .i64 a1_1) ∧ w'.cell? ⟨gb199, 2, none⟩ = some (.int .i64 a1_2)) ∧ (w'.heap[gb198]? = some (.cells #[.int .i64 a0_0, .int .i64 a0_1, .string a0_2, .bool a0_3] 23 (0, 0))) ∧ (w'.heap[gb199]? = some (.cells #[.int .i64 a1_0, .int .i64 a1_1, .int .i64 a1_2] 25 (0, 0))) ∧ (w'.heap[gb216]? = some (.cells #[.int .i64 t208, .int .i64 t209, .string t210, .bool t211] 27 (0, 0))) ∧ (w'.heap[gb217]? = some (.cells #[.int .i64 t212, .int .i64 t213, .int .i64 t214] 28 (0, 0))) ∧ (w'.heap[s_]? = some (.cells #[.int .i64 0, .int .i64 0, .string (⟨#[]⟩ : ByteArray), .bool false] 27 (0, 0))) ∧ (w.heap.size ≤ s_) ∧ (w.heap.size ≤ s_) ∧ (gb198 ≠ s_) ∧ (s_ ≠ gb198) ∧ (gb199 ≠ s_) ∧ (s_ ≠ gb199) ∧ (gb216 ≠ s_) ∧ (s_ ≠ gb216) ∧ (gb217 ≠ s_) ∧ (s_ ≠ gb217) ∧ (Below w.heap.size w w')) ?f29 ?c29
      case' c29 =>
       intro hJ9
       refine join_ (σ := Nat) 11 #[true, false, true, false, false, false, false, false, false, false, true, false, false, false] (fun s_ => [(10, .pointer (some ⟨s_, 0, none⟩))]) (fun s_ w' => (w'.cell? ⟨gb198, 0, none⟩ = some (.int .i64 a0_0) ∧ w'.cell? ⟨gb198, 1, none⟩ = some (.int .i64 a0_1) ∧ w'.cell? ⟨gb198, 2, none⟩ = some (.string a0_2) ∧ w'.cell? ⟨gb198, 3, none⟩ = some (.bool a0_3) ∧ w'.cell? ⟨gb199, 0, none⟩ = some (.int .i64 a1_0) ∧ w'.cell? ⟨gb199, 1, none⟩ = some (.int .i64 a1_1) ∧ w'.cell? ⟨gb199, 2, none⟩ = some (.int .i64 a1_2)) ∧ (w'.heap[gb198]? = some (.cells #[.int .i64 a0_0, .int .i64 a0_1, .string a0_2, .bool a0_3] 23 (0, 0))) ∧ (w'.heap[gb199]? = some (.cells #[.int .i64 a1_0, .int .i64 a1_1, .int .i64 a1_2] 25 (0, 0))) ∧ (w'.heap[gb216]? = some (.cells #[.int .i64 t208, .int .i64 t209, .string t210, .bool t211] 27 (0, 0))) ∧ (w'.heap[gb217]? = some (.cells #[.int .i64 t212, .int .i64 t213, .int .i64 t214] 28 (0, 0))) ∧ (w'.heap[s_]? = some (.cells #[.int .i64 0, .int .i64 0, .int .i64 0] 28 (0, 0))) ∧ (w.heap.size ≤ s_) ∧ (w.heap.size ≤ s_) ∧ (gb198 ≠ s_) ∧ (s_ ≠ gb198) ∧ (gb199 ≠ s_) ∧ (s_ ≠ gb199) ∧ (gb216 ≠ s_) ∧ (s_ ≠ gb216) ∧ (gb217 ≠ s_) ∧ (s_ ≠ gb217) ∧ (Below w.heap.size w w')) ?f30 ?c30
      case c30 =>
       intro hJ10
       refine three_ (i := 1) (j := 9) (k := 10) (Ni := some 28) (Nj := some 9) (Nk := some 10) #[true, true, true, false, false, false, false, false, false, false, false, false, false, false] #[true, false, true, false, false, false, false, false, false, true, false, false, false, false] #[true, false, true, false, false, false, false, false, false, false, true, false, false, false] rfl rfl rfl rfl rfl rfl (three_of HT_.out (by kernel_rfl)) (by decide) (by decide) (by decide) (fun K hK => ?_) (fun K hK => ?_) (fun K hK => ?_)
       ·
        refine goes_ Tryd.func9 (by kernel_rfl) rfl #[.agg #[.int .i64 a0_0, .int .i64 a0_1, .string a0_2, .bool a0_3]] (by rfl) rfl rfl (by (try simp only [List.map_toArray, List.map_cons, List.map_nil]); first | done | rfl | (simp only [List.length_drop, List.length_take]; rfl)) ?_
        with_reducible refine (laws_toMaze.calls a0_0 a0_1 a0_2 a0_3 t218 t219 t220 t221 _ A13.out).mono ?_
        rintro e w42 ⟨rfl, hb⟩
        refine ⟨_, rfl, ?_⟩
        replace BK198 := XSq.bb BK198 hb
        replace BK199 := XSq.bb BK199 hb
        replace BK216 := XSq.bb BK216 hb
        replace BK217 := XSq.bb BK217 hb
        replace HB := Aside0.mk (below_step (XSq.bB HB) hb)
        clear hb
        refine hK.out _ _ (laws_FnExactHitCell.cs BK198.out BK199.out) (fun hHeld => ?_)
        clear hK K
        refine norm_ (a' := ?_) ?_ ?_
        rotate_left
        ·
         show Act.put _ (some 28) _ = _
         simp only [Act.put, List.setIfInBounds_toArray, List.set_cons_zero, List.set_cons_succ, i64_w, i32_w]
         rfl
        exact norm_ (by simp only [putAll, Act.put, List.setIfInBounds_toArray, List.set_cons_zero, List.set_cons_succ] <;> rfl) (hJ1 () _ ⟨hHeld, (XSq.bq BK198), (XSq.bq BK199), (XSq.bq BK216), (XSq.bq BK217), (XSq.bB HB)⟩)
       ·
        refine box_step ?hg (N := 9) ?hd (cs := #[.int .i64 0, .int .i64 0, .string (⟨#[]⟩ : ByteArray), .bool false]) (t := 27) ?hr ?_; (case hd => rfl); (case hg => rfl); (case hr => first | (go_simp; done) | (go_simp; rfl))
        intro gb233 hg w42 hbox hb
        have BK233 := Aside0.mk (hbox)
        have GW233 := XSq.gw hg (XSq.bB HB)
        have GE233 := XSq.gw hg (XSq.bB HB)
        have NB198_233 := XSq.nl hg (XSq.bq BK198)
        have NB233_198 := XSq.nr hg (XSq.bq BK198)
        have NB199_233 := XSq.nl hg (XSq.bq BK199)
        have NB233_199 := XSq.nr hg (XSq.bq BK199)
        have NB216_233 := XSq.nl hg (XSq.bq BK216)
        have NB233_216 := XSq.nr hg (XSq.bq BK216)
        have NB217_233 := XSq.nl hg (XSq.bq BK217)
        have NB233_217 := XSq.nr hg (XSq.bq BK217)
        replace BK198 := XSq.bb BK198 hb
        replace BK199 := XSq.bb BK199 hb
        replace BK216 := XSq.bb BK216 hb
        replace BK217 := XSq.bb BK217 hb
        replace HB := Aside0.mk (below_step (XSq.bB HB) hb)
        clear hb hbox hg
        refine hK.out _ _ (laws_FnExactHitCell.cs BK198.out BK199.out) (fun hHeld => ?_)
        clear hK K
        refine norm_ (a' := ?_) ?_ ?_
        rotate_left
        ·
         show Act.put _ (some 9) _ = _
         simp only [Act.put, List.setIfInBounds_toArray, List.set_cons_zero, List.set_cons_succ, i64_w, i32_w]
         rfl
        exact norm_ (by simp only [putAll, Act.put, List.setIfInBounds_toArray, List.set_cons_zero, List.set_cons_succ] <;> rfl) (hJ9 (gb233) _ ⟨hHeld, (XSq.bq BK198), (XSq.bq BK199), (XSq.bq BK216), (XSq.bq BK217), (XSq.bq BK233), GW233.out, GE233.out, NB198_233.out, NB233_198.out, NB199_233.out, NB233_199.out, NB216_233.out, NB233_216.out, NB217_233.out, NB233_217.out, (XSq.bB HB)⟩)
       ·
        refine box_step ?hg (N := 10) ?hd (cs := #[.int .i64 0, .int .i64 0, .int .i64 0]) (t := 28) ?hr ?_; (case hd => rfl); (case hg => rfl); (case hr => first | (go_simp; done) | (go_simp; rfl))
        intro gb234 hg w42 hbox hb
        have BK234 := Aside0.mk (hbox)
        have GW234 := XSq.gw hg (XSq.bB HB)
        have GE234 := XSq.gw hg (XSq.bB HB)
        have NB198_234 := XSq.nl hg (XSq.bq BK198)
        have NB234_198 := XSq.nr hg (XSq.bq BK198)
        have NB199_234 := XSq.nl hg (XSq.bq BK199)
        have NB234_199 := XSq.nr hg (XSq.bq BK199)
        have NB216_234 := XSq.nl hg (XSq.bq BK216)
        have NB234_216 := XSq.nr hg (XSq.bq BK216)
        have NB217_234 := XSq.nl hg (XSq.bq BK217)
        have NB234_217 := XSq.nr hg (XSq.bq BK217)
        replace BK198 := XSq.bb BK198 hb
        replace BK199 := XSq.bb BK199 hb
        replace BK216 := XSq.bb BK216 hb
        replace BK217 := XSq.bb BK217 hb
        replace HB := Aside0.mk (below_step (XSq.bB HB) hb)
        clear hb hbox hg
        refine hK.out _ _ (laws_FnExactHitCell.cs BK198.out BK199.out) (fun hHeld => ?_)
        clear hK K
        refine norm_ (a' := ?_) ?_ ?_
        rotate_left
        ·
         show Act.put _ (some 10) _ = _
         simp only [Act.put, List.setIfInBounds_toArray, List.set_cons_zero, List.set_cons_succ, i64_w, i32_w]
         rfl
        exact norm_ (by simp only [putAll, Act.put, List.setIfInBounds_toArray, List.set_cons_zero, List.set_cons_succ] <;> rfl) (hJ10 (gb234) _ ⟨hHeld, (XSq.bq BK198), (XSq.bq BK199), (XSq.bq BK216), (XSq.bq BK217), (XSq.bq BK234), GW234.out, GE234.out, NB198_234.out, NB234_198.out, NB199_234.out, NB234_199.out, NB216_234.out, NB234_216.out, NB217_234.out, NB234_217.out, (XSq.bB HB)⟩)
      case f30 =>
       ·
        rintro gb234 w43 ⟨hS_, h0_, h1_, h2_, h3_, h4_, h5_, h6_, h7_, h8_, h9_, h10_, h11_, h12_, h13_, h14_, h15_⟩
        replace BK198 : Aside0 (w43.heap[gb198]? = some (.cells #[.int .i64 a0_0, .int .i64 a0_1, .string a0_2, .bool a0_3] 23 (0, 0))) := ⟨h0_⟩
        replace BK199 : Aside0 (w43.heap[gb199]? = some (.cells #[.int .i64 a1_0, .int .i64 a1_1, .int .i64 a1_2] 25 (0, 0))) := ⟨h1_⟩
        replace BK216 : Aside0 (w43.heap[gb216]? = some (.cells #[.int .i64 t208, .int .i64 t209, .string t210, .bool t211] 27 (0, 0))) := ⟨h2_⟩
        replace BK217 : Aside0 (w43.heap[gb217]? = some (.cells #[.int .i64 t212, .int .i64 t213, .int .i64 t214] 28 (0, 0))) := ⟨h3_⟩
        have BK234 : Aside0 (w43.heap[gb234]? = some (.cells #[.int .i64 0, .int .i64 0, .int .i64 0] 28 (0, 0))) := ⟨h4_⟩
        have GW234 : Aside0 (w.heap.size ≤ gb234) := ⟨h5_⟩
        have GE234 : Aside0 (w.heap.size ≤ gb234) := ⟨h6_⟩
        have NB198_234 : Aside0 (gb198 ≠ gb234) := ⟨h7_⟩
        have NB234_198 : Aside0 (gb234 ≠ gb198) := ⟨h8_⟩
        have NB199_234 : Aside0 (gb199 ≠ gb234) := ⟨h9_⟩
        have NB234_199 : Aside0 (gb234 ≠ gb199) := ⟨h10_⟩
        have NB216_234 : Aside0 (gb216 ≠ gb234) := ⟨h11_⟩
        have NB234_216 : Aside0 (gb234 ≠ gb216) := ⟨h12_⟩
        have NB217_234 : Aside0 (gb217 ≠ gb234) := ⟨h13_⟩
        have NB234_217 : Aside0 (gb234 ≠ gb217) := ⟨h14_⟩
        replace HB : Aside0 (Below w.heap.size w w43) := ⟨h15_⟩
        clear h0_ h1_ h2_ h3_ h4_ h5_ h6_ h7_ h8_ h9_ h10_ h11_ h12_ h13_ h14_ h15_
        have hHeld : w43.cell? ⟨gb198, 0, none⟩ = some (.int .i64 a0_0) ∧ w43.cell? ⟨gb198, 1, none⟩ = some (.int .i64 a0_1) ∧ w43.cell? ⟨gb198, 2, none⟩ = some (.string a0_2) ∧ w43.cell? ⟨gb198, 3, none⟩ = some (.bool a0_3) ∧ w43.cell? ⟨gb199, 0, none⟩ = some (.int .i64 a1_0) ∧ w43.cell? ⟨gb199, 1, none⟩ = some (.int .i64 a1_1) ∧ w43.cell? ⟨gb199, 2, none⟩ = some (.int .i64 a1_2) := hS_
        refine norm_ (a' := ?_) ?_ ?_
        rotate_left
        ·
         simp only [putAll, Act.put, List.setIfInBounds_toArray, List.set_cons_zero, List.set_cons_succ]
         rfl
        refine two_ (i := 1) (j := 9) (Ni := some 28) (Nj := some 9) #[true, true, true, false, false, false, false, false, false, false, true, false, false, false] #[true, false, true, false, false, false, false, false, false, true, true, false, false, false] rfl rfl rfl rfl (two_of HT_.out (by kernel_rfl)) (by decide) (by decide) (fun K hK => ?_) (fun K hK => ?_)
        ·
         refine goes_ Tryd.func9 (by kernel_rfl) rfl #[.agg #[.int .i64 a0_0, .int .i64 a0_1, .string a0_2, .bool a0_3]] (by rfl) rfl rfl (by (try simp only [List.map_toArray, List.map_cons, List.map_nil]); first | done | rfl | (simp only [List.length_drop, List.length_take]; rfl)) ?_
         with_reducible refine (laws_toMaze.calls a0_0 a0_1 a0_2 a0_3 t218 t219 t220 t221 _ A13.out).mono ?_
         rintro e w44 ⟨rfl, hb⟩
         refine ⟨_, rfl, ?_⟩
         replace BK198 := XSq.bb BK198 hb
         replace BK199 := XSq.bb BK199 hb
         replace BK216 := XSq.bb BK216 hb
         replace BK217 := XSq.bb BK217 hb
         replace BK234 := XSq.bb BK234 hb
         replace HB := Aside0.mk (below_step (XSq.bB HB) hb)
         clear hb
         refine hK.out _ _ (laws_FnExactHitCell.cs BK198.out BK199.out) (fun hHeld => ?_)
         clear hK K
         refine norm_ (a' := ?_) ?_ ?_
         rotate_left
         ·
          show Act.put _ (some 28) _ = _
          simp only [Act.put, List.setIfInBounds_toArray, List.set_cons_zero, List.set_cons_succ, i64_w, i32_w]
          rfl
         exact norm_ (by simp only [putAll, Act.put, List.setIfInBounds_toArray, List.set_cons_zero, List.set_cons_succ] <;> rfl) (hJ1_10 (gb234) _ ⟨hHeld, (XSq.bq BK198), (XSq.bq BK199), (XSq.bq BK216), (XSq.bq BK217), (XSq.bq BK234), GW234.out, GE234.out, NB198_234.out, NB234_198.out, NB199_234.out, NB234_199.out, NB216_234.out, NB234_216.out, NB217_234.out, NB234_217.out, (XSq.bB HB)⟩)
        ·
         refine box_step ?hg (N := 9) ?hd (cs := #[.int .i64 0, .int .i64 0, .string (⟨#[]⟩ : ByteArray), .bool false]) (t := 27) ?hr ?_; (case hd => rfl); (case hg => rfl); (case hr => first | (go_simp; done) | (go_simp; rfl))
         intro gb233 hg w44 hbox hb
         have BK233 := Aside0.mk (hbox)
         have GW233 := XSq.gw hg (XSq.bB HB)
         have GE233 := XSq.gw hg (XSq.bB HB)
         have NB198_233 := XSq.nl hg (XSq.bq BK198)
         have NB233_198 := XSq.nr hg (XSq.bq BK198)
         have NB199_233 := XSq.nl hg (XSq.bq BK199)
         have NB233_199 := XSq.nr hg (XSq.bq BK199)
         have NB216_233 := XSq.nl hg (XSq.bq BK216)
         have NB233_216 := XSq.nr hg (XSq.bq BK216)
         have NB217_233 := XSq.nl hg (XSq.bq BK217)
         have NB233_217 := XSq.nr hg (XSq.bq BK217)
         have NB234_233 := XSq.nl hg (XSq.bq BK234)
         have NB233_234 := XSq.nr hg (XSq.bq BK234)
         replace BK198 := XSq.bb BK198 hb
         replace BK199 := XSq.bb BK199 hb
         replace BK216 := XSq.bb BK216 hb
         replace BK217 := XSq.bb BK217 hb
         replace BK234 := XSq.bb BK234 hb
         replace HB := Aside0.mk (below_step (XSq.bB HB) hb)
         clear hb hbox hg
         refine hK.out _ _ (laws_FnExactHitCell.cs BK198.out BK199.out) (fun hHeld => ?_)
         clear hK K
         refine norm_ (a' := ?_) ?_ ?_
         rotate_left
         ·
          show Act.put _ (some 9) _ = _
          simp only [Act.put, List.setIfInBounds_toArray, List.set_cons_zero, List.set_cons_succ, i64_w, i32_w]
          rfl
         exact norm_ (by simp only [putAll, Act.put, List.setIfInBounds_toArray, List.set_cons_zero, List.set_cons_succ] <;> rfl) (hJ9_10 (gb233, gb234) _ ⟨hHeld, (XSq.bq BK198), (XSq.bq BK199), (XSq.bq BK216), (XSq.bq BK217), (XSq.bq BK233), (XSq.bq BK234), GW233.out, GE233.out, NB198_233.out, NB233_198.out, NB199_233.out, NB233_199.out, NB216_233.out, NB233_216.out, NB217_233.out, NB233_217.out, NB234_233.out, NB233_234.out, GW234.out, GE234.out, NB198_234.out, NB234_198.out, NB199_234.out, NB234_199.out, NB216_234.out, NB234_216.out, NB217_234.out, NB234_217.out, (XSq.bB HB)⟩)
      case f29 =>
       ·
        rintro gb233 w43 ⟨hS_, h0_, h1_, h2_, h3_, h4_, h5_, h6_, h7_, h8_, h9_, h10_, h11_, h12_, h13_, h14_, h15_⟩
        replace BK198 : Aside0 (w43.heap[gb198]? = some (.cells #[.int .i64 a0_0, .int .i64 a0_1, .string a0_2, .bool a0_3] 23 (0, 0))) := ⟨h0_⟩
        replace BK199 : Aside0 (w43.heap[gb199]? = some (.cells #[.int .i64 a1_0, .int .i64 a1_1, .int .i64 a1_2] 25 (0, 0))) := ⟨h1_⟩
        replace BK216 : Aside0 (w43.heap[gb216]? = some (.cells #[.int .i64 t208, .int .i64 t209, .string t210, .bool t211] 27 (0, 0))) := ⟨h2_⟩
        replace BK217 : Aside0 (w43.heap[gb217]? = some (.cells #[.int .i64 t212, .int .i64 t213, .int .i64 t214] 28 (0, 0))) := ⟨h3_⟩
        have BK233 : Aside0 (w43.heap[gb233]? = some (.cells #[.int .i64 0, .int .i64 0, .string (⟨#[]⟩ : ByteArray), .bool false] 27 (0, 0))) := ⟨h4_⟩
        have GW233 : Aside0 (w.heap.size ≤ gb233) := ⟨h5_⟩
        have GE233 : Aside0 (w.heap.size ≤ gb233) := ⟨h6_⟩
        have NB198_233 : Aside0 (gb198 ≠ gb233) := ⟨h7_⟩
        have NB233_198 : Aside0 (gb233 ≠ gb198) := ⟨h8_⟩
        have NB199_233 : Aside0 (gb199 ≠ gb233) := ⟨h9_⟩
        have NB233_199 : Aside0 (gb233 ≠ gb199) := ⟨h10_⟩
        have NB216_233 : Aside0 (gb216 ≠ gb233) := ⟨h11_⟩
        have NB233_216 : Aside0 (gb233 ≠ gb216) := ⟨h12_⟩
        have NB217_233 : Aside0 (gb217 ≠ gb233) := ⟨h13_⟩
        have NB233_217 : Aside0 (gb233 ≠ gb217) := ⟨h14_⟩
        replace HB : Aside0 (Below w.heap.size w w43) := ⟨h15_⟩
        clear h0_ h1_ h2_ h3_ h4_ h5_ h6_ h7_ h8_ h9_ h10_ h11_ h12_ h13_ h14_ h15_
        have hHeld : w43.cell? ⟨gb198, 0, none⟩ = some (.int .i64 a0_0) ∧ w43.cell? ⟨gb198, 1, none⟩ = some (.int .i64 a0_1) ∧ w43.cell? ⟨gb198, 2, none⟩ = some (.string a0_2) ∧ w43.cell? ⟨gb198, 3, none⟩ = some (.bool a0_3) ∧ w43.cell? ⟨gb199, 0, none⟩ = some (.int .i64 a1_0) ∧ w43.cell? ⟨gb199, 1, none⟩ = some (.int .i64 a1_1) ∧ w43.cell? ⟨gb199, 2, none⟩ = some (.int .i64 a1_2) := hS_
        refine norm_ (a' := ?_) ?_ ?_
        rotate_left
        ·
         simp only [putAll, Act.put, List.setIfInBounds_toArray, List.set_cons_zero, List.set_cons_succ]
         rfl
        refine two_ (i := 1) (j := 10) (Ni := some 28) (Nj := some 10) #[true, true, true, false, false, false, false, false, false, true, false, false, false, false] #[true, false, true, false, false, false, false, false, false, true, true, false, false, false] rfl rfl rfl rfl (two_of HT_.out (by kernel_rfl)) (by decide) (by decide) (fun K hK => ?_) (fun K hK => ?_)
        ·
         refine goes_ Tryd.func9 (by kernel_rfl) rfl #[.agg #[.int .i64 a0_0, .int .i64 a0_1, .string a0_2, .bool a0_3]] (by rfl) rfl rfl (by (try simp only [List.map_toArray, List.map_cons, List.map_nil]); first | done | rfl | (simp only [List.length_drop, List.length_take]; rfl)) ?_
         with_reducible refine (laws_toMaze.calls a0_0 a0_1 a0_2 a0_3 t218 t219 t220 t221 _ A13.out).mono ?_
         rintro e w44 ⟨rfl, hb⟩
         refine ⟨_, rfl, ?_⟩
         replace BK198 := XSq.bb BK198 hb
         replace BK199 := XSq.bb BK199 hb
         replace BK216 := XSq.bb BK216 hb
         replace BK217 := XSq.bb BK217 hb
         replace BK233 := Aside0.mk (blk_below (g := gb233) (o := .cells #[.int .i64 0, .int .i64 0, .string (⟨#[]⟩ : ByteArray), .bool false] 27 (0, 0)) (XSq.bq BK233) hb)
         replace HB := Aside0.mk (below_step (XSq.bB HB) hb)
         clear hb
         refine hK.out _ _ (laws_FnExactHitCell.cs BK198.out BK199.out) (fun hHeld => ?_)
         clear hK K
         refine norm_ (a' := ?_) ?_ ?_
         rotate_left
         ·
          show Act.put _ (some 28) _ = _
          simp only [Act.put, List.setIfInBounds_toArray, List.set_cons_zero, List.set_cons_succ, i64_w, i32_w]
          rfl
         exact norm_ (by simp only [putAll, Act.put, List.setIfInBounds_toArray, List.set_cons_zero, List.set_cons_succ] <;> rfl) (hJ1_9 (gb233) _ ⟨hHeld, (XSq.bq BK198), (XSq.bq BK199), (XSq.bq BK216), (XSq.bq BK217), (XSq.bq BK233), GW233.out, GE233.out, NB198_233.out, NB233_198.out, NB199_233.out, NB233_199.out, NB216_233.out, NB233_216.out, NB217_233.out, NB233_217.out, (XSq.bB HB)⟩)
        ·
         refine box_step ?hg (N := 10) ?hd (cs := #[.int .i64 0, .int .i64 0, .int .i64 0]) (t := 28) ?hr ?_; (case hd => rfl); (case hg => rfl); (case hr => first | (go_simp; done) | (go_simp; rfl))
         intro gb234 hg w44 hbox hb
         have BK234 := Aside0.mk (hbox)
         have GW234 := XSq.gw hg (XSq.bB HB)
         have GE234 := XSq.gw hg (XSq.bB HB)
         have NB198_234 := XSq.nl hg (XSq.bq BK198)
         have NB234_198 := XSq.nr hg (XSq.bq BK198)
         have NB199_234 := XSq.nl hg (XSq.bq BK199)
         have NB234_199 := XSq.nr hg (XSq.bq BK199)
         have NB216_234 := XSq.nl hg (XSq.bq BK216)
         have NB234_216 := XSq.nr hg (XSq.bq BK216)
         have NB217_234 := XSq.nl hg (XSq.bq BK217)
         have NB234_217 := XSq.nr hg (XSq.bq BK217)
         have NB233_234 := Aside0.mk ((by rw [hg]; exact Nat.ne_of_lt (blk_lt (g := gb233) (o := .cells #[.int .i64 0, .int .i64 0, .string (⟨#[]⟩ : ByteArray), .bool false] 27 (0, 0)) (XSq.bq BK233)) : gb233 ≠ gb234))
         have NB234_233 := Aside0.mk ((by rw [hg]; exact Nat.ne_of_gt (blk_lt (g := gb233) (o := .cells #[.int .i64 0, .int .i64 0, .string (⟨#[]⟩ : ByteArray), .bool false] 27 (0, 0)) (XSq.bq BK233)) : gb234 ≠ gb233))
         replace BK198 := XSq.bb BK198 hb
         replace BK199 := XSq.bb BK199 hb
         replace BK216 := XSq.bb BK216 hb
         replace BK217 := XSq.bb BK217 hb
         replace BK233 := Aside0.mk (blk_below (g := gb233) (o := .cells #[.int .i64 0, .int .i64 0, .string (⟨#[]⟩ : ByteArray), .bool false] 27 (0, 0)) (XSq.bq BK233) hb)
         replace HB := Aside0.mk (below_step (XSq.bB HB) hb)
         clear hb hbox hg
         refine hK.out _ _ (laws_FnExactHitCell.cs BK198.out BK199.out) (fun hHeld => ?_)
         clear hK K
         refine norm_ (a' := ?_) ?_ ?_
         rotate_left
         ·
          show Act.put _ (some 10) _ = _
          simp only [Act.put, List.setIfInBounds_toArray, List.set_cons_zero, List.set_cons_succ, i64_w, i32_w]
          rfl
         exact norm_ (by simp only [putAll, Act.put, List.setIfInBounds_toArray, List.set_cons_zero, List.set_cons_succ] <;> rfl) (hJ9_10 (gb233, gb234) _ ⟨hHeld, (XSq.bq BK198), (XSq.bq BK199), (XSq.bq BK216), (XSq.bq BK217), (XSq.bq BK233), (XSq.bq BK234), GW233.out, GE233.out, NB198_233.out, NB233_198.out, NB199_233.out, NB233_199.out, NB216_233.out, NB233_216.out, NB217_233.out, NB233_217.out, NB234_233.out, NB233_234.out, GW234.out, GE234.out, NB198_234.out, NB234_198.out, NB199_234.out, NB234_199.out, NB216_234.out, NB234_216.out, NB217_234.out, NB234_217.out, (XSq.bB HB)⟩)
      case f28 =>
       ·
        rintro _ w43 ⟨hS_, h0_, h1_, h2_, h3_, h4_⟩
        replace BK198 : Aside0 (w43.heap[gb198]? = some (.cells #[.int .i64 a0_0, .int .i64 a0_1, .string a0_2, .bool a0_3] 23 (0, 0))) := ⟨h0_⟩
        replace BK199 : Aside0 (w43.heap[gb199]? = some (.cells #[.int .i64 a1_0, .int .i64 a1_1, .int .i64 a1_2] 25 (0, 0))) := ⟨h1_⟩
        replace BK216 : Aside0 (w43.heap[gb216]? = some (.cells #[.int .i64 t208, .int .i64 t209, .string t210, .bool t211] 27 (0, 0))) := ⟨h2_⟩
        replace BK217 : Aside0 (w43.heap[gb217]? = some (.cells #[.int .i64 t212, .int .i64 t213, .int .i64 t214] 28 (0, 0))) := ⟨h3_⟩
        replace HB : Aside0 (Below w.heap.size w w43) := ⟨h4_⟩
        clear h0_ h1_ h2_ h3_ h4_
        have hHeld : w43.cell? ⟨gb198, 0, none⟩ = some (.int .i64 a0_0) ∧ w43.cell? ⟨gb198, 1, none⟩ = some (.int .i64 a0_1) ∧ w43.cell? ⟨gb198, 2, none⟩ = some (.string a0_2) ∧ w43.cell? ⟨gb198, 3, none⟩ = some (.bool a0_3) ∧ w43.cell? ⟨gb199, 0, none⟩ = some (.int .i64 a1_0) ∧ w43.cell? ⟨gb199, 1, none⟩ = some (.int .i64 a1_1) ∧ w43.cell? ⟨gb199, 2, none⟩ = some (.int .i64 a1_2) := hS_
        refine norm_ (a' := ?_) ?_ ?_
        rotate_left
        ·
         simp only [putAll, Act.put, List.setIfInBounds_toArray, List.set_cons_zero, List.set_cons_succ]
         rfl
        refine three_ (i := 3) (j := 9) (k := 10) (Ni := some 30) (Nj := some 9) (Nk := some 10) #[true, true, true, true, false, false, false, false, false, false, false, false, false, false] #[true, true, true, false, false, false, false, false, false, true, false, false, false, false] #[true, true, true, false, false, false, false, false, false, false, true, false, false, false] rfl rfl rfl rfl rfl rfl (three_of HT_.out (by kernel_rfl)) (by decide) (by decide) (by decide) (fun K hK => ?_) (fun K hK => ?_) (fun K hK => ?_)
        ·
         refine goes_ Tryd.func10 (by kernel_rfl) rfl #[.agg #[.int .i64 a1_0, .int .i64 a1_1, .int .i64 a1_2]] (by rfl) rfl rfl (by (try simp only [List.map_toArray, List.map_cons, List.map_nil]); first | done | rfl | (simp only [List.length_drop, List.length_take]; rfl)) ?_
         with_reducible refine (laws_toBall.calls a1_0 a1_1 a1_2 t222 t223 t224 _ A14.out).mono ?_
         rintro e w44 ⟨rfl, hb⟩
         refine ⟨_, rfl, ?_⟩
         replace BK198 := XSq.bb BK198 hb
         replace BK199 := XSq.bb BK199 hb
         replace BK216 := XSq.bb BK216 hb
         replace BK217 := XSq.bb BK217 hb
         replace HB := Aside0.mk (below_step (XSq.bB HB) hb)
         clear hb
         refine hK.out _ _ (laws_FnExactHitCell.cs BK198.out BK199.out) (fun hHeld => ?_)
         clear hK K
         refine norm_ (a' := ?_) ?_ ?_
         rotate_left
         ·
          show Act.put _ (some 30) _ = _
          simp only [Act.put, List.setIfInBounds_toArray, List.set_cons_zero, List.set_cons_succ, i64_w, i32_w]
          rfl
         exact norm_ (by simp only [putAll, Act.put, List.setIfInBounds_toArray, List.set_cons_zero, List.set_cons_succ] <;> rfl) (hJ1_3 () _ ⟨hHeld, (XSq.bq BK198), (XSq.bq BK199), (XSq.bq BK216), (XSq.bq BK217), (XSq.bB HB)⟩)
        ·
         refine box_step ?hg (N := 9) ?hd (cs := #[.int .i64 0, .int .i64 0, .string (⟨#[]⟩ : ByteArray), .bool false]) (t := 27) ?hr ?_; (case hd => rfl); (case hg => rfl); (case hr => first | (go_simp; done) | (go_simp; rfl))
         intro gb233 hg w44 hbox hb
         have BK233 := Aside0.mk (hbox)
         have GW233 := XSq.gw hg (XSq.bB HB)
         have GE233 := XSq.gw hg (XSq.bB HB)
         have NB198_233 := XSq.nl hg (XSq.bq BK198)
         have NB233_198 := XSq.nr hg (XSq.bq BK198)
         have NB199_233 := XSq.nl hg (XSq.bq BK199)
         have NB233_199 := XSq.nr hg (XSq.bq BK199)
         have NB216_233 := XSq.nl hg (XSq.bq BK216)
         have NB233_216 := XSq.nr hg (XSq.bq BK216)
         have NB217_233 := XSq.nl hg (XSq.bq BK217)
         have NB233_217 := XSq.nr hg (XSq.bq BK217)
         replace BK198 := XSq.bb BK198 hb
         replace BK199 := XSq.bb BK199 hb
         replace BK216 := XSq.bb BK216 hb
         replace BK217 := XSq.bb BK217 hb
         replace HB := Aside0.mk (below_step (XSq.bB HB) hb)
         clear hb hbox hg
         refine hK.out _ _ (laws_FnExactHitCell.cs BK198.out BK199.out) (fun hHeld => ?_)
         clear hK K
         refine norm_ (a' := ?_) ?_ ?_
         rotate_left
         ·
          show Act.put _ (some 9) _ = _
          simp only [Act.put, List.setIfInBounds_toArray, List.set_cons_zero, List.set_cons_succ, i64_w, i32_w]
          rfl
         exact norm_ (by simp only [putAll, Act.put, List.setIfInBounds_toArray, List.set_cons_zero, List.set_cons_succ] <;> rfl) (hJ1_9 (gb233) _ ⟨hHeld, (XSq.bq BK198), (XSq.bq BK199), (XSq.bq BK216), (XSq.bq BK217), (XSq.bq BK233), GW233.out, GE233.out, NB198_233.out, NB233_198.out, NB199_233.out, NB233_199.out, NB216_233.out, NB233_216.out, NB217_233.out, NB233_217.out, (XSq.bB HB)⟩)
        ·
         refine box_step ?hg (N := 10) ?hd (cs := #[.int .i64 0, .int .i64 0, .int .i64 0]) (t := 28) ?hr ?_; (case hd => rfl); (case hg => rfl); (case hr => first | (go_simp; done) | (go_simp; rfl))
         intro gb234 hg w44 hbox hb
         have BK234 := Aside0.mk (hbox)
         have GW234 := XSq.gw hg (XSq.bB HB)
         have GE234 := XSq.gw hg (XSq.bB HB)
         have NB198_234 := XSq.nl hg (XSq.bq BK198)
         have NB234_198 := XSq.nr hg (XSq.bq BK198)
         have NB199_234 := XSq.nl hg (XSq.bq BK199)
         have NB234_199 := XSq.nr hg (XSq.bq BK199)
         have NB216_234 := XSq.nl hg (XSq.bq BK216)
         have NB234_216 := XSq.nr hg (XSq.bq BK216)
         have NB217_234 := XSq.nl hg (XSq.bq BK217)
         have NB234_217 := XSq.nr hg (XSq.bq BK217)
         replace BK198 := XSq.bb BK198 hb
         replace BK199 := XSq.bb BK199 hb
         replace BK216 := XSq.bb BK216 hb
         replace BK217 := XSq.bb BK217 hb
         replace HB := Aside0.mk (below_step (XSq.bB HB) hb)
         clear hb hbox hg
         refine hK.out _ _ (laws_FnExactHitCell.cs BK198.out BK199.out) (fun hHeld => ?_)
         clear hK K
         refine norm_ (a' := ?_) ?_ ?_
         rotate_left
         ·
          show Act.put _ (some 10) _ = _
          simp only [Act.put, List.setIfInBounds_toArray, List.set_cons_zero, List.set_cons_succ, i64_w, i32_w]
          rfl
         exact norm_ (by simp only [putAll, Act.put, List.setIfInBounds_toArray, List.set_cons_zero, List.set_cons_succ] <;> rfl) (hJ1_10 (gb234) _ ⟨hHeld, (XSq.bq BK198), (XSq.bq BK199), (XSq.bq BK216), (XSq.bq BK217), (XSq.bq BK234), GW234.out, GE234.out, NB198_234.out, NB234_198.out, NB199_234.out, NB234_199.out, NB216_234.out, NB234_216.out, NB217_234.out, NB234_217.out, (XSq.bB HB)⟩)
      case f27 =>
       ·
        rintro ⟨gb233, gb234⟩ w44 ⟨hS_, h0_, h1_, h2_, h3_, h4_, h5_, h6_, h7_, h8_, h9_, h10_, h11_, h12_, h13_, h14_, h15_, h16_, h17_, h18_, h19_, h20_, h21_, h22_, h23_, h24_, h25_, h26_, h27_, h28_⟩
        replace BK198 : Aside0 (w44.heap[gb198]? = some (.cells #[.int .i64 a0_0, .int .i64 a0_1, .string a0_2, .bool a0_3] 23 (0, 0))) := ⟨h0_⟩
        replace BK199 : Aside0 (w44.heap[gb199]? = some (.cells #[.int .i64 a1_0, .int .i64 a1_1, .int .i64 a1_2] 25 (0, 0))) := ⟨h1_⟩
        replace BK216 : Aside0 (w44.heap[gb216]? = some (.cells #[.int .i64 t208, .int .i64 t209, .string t210, .bool t211] 27 (0, 0))) := ⟨h2_⟩
        replace BK217 : Aside0 (w44.heap[gb217]? = some (.cells #[.int .i64 t212, .int .i64 t213, .int .i64 t214] 28 (0, 0))) := ⟨h3_⟩
        have BK233 : Aside0 (w44.heap[gb233]? = some (.cells #[.int .i64 0, .int .i64 0, .string (⟨#[]⟩ : ByteArray), .bool false] 27 (0, 0))) := ⟨h4_⟩
        have BK234 : Aside0 (w44.heap[gb234]? = some (.cells #[.int .i64 0, .int .i64 0, .int .i64 0] 28 (0, 0))) := ⟨h5_⟩
        have GW233 : Aside0 (w.heap.size ≤ gb233) := ⟨h6_⟩
        have GE233 : Aside0 (w.heap.size ≤ gb233) := ⟨h7_⟩
        have NB198_233 : Aside0 (gb198 ≠ gb233) := ⟨h8_⟩
        have NB233_198 : Aside0 (gb233 ≠ gb198) := ⟨h9_⟩
        have NB199_233 : Aside0 (gb199 ≠ gb233) := ⟨h10_⟩
        have NB233_199 : Aside0 (gb233 ≠ gb199) := ⟨h11_⟩
        have NB216_233 : Aside0 (gb216 ≠ gb233) := ⟨h12_⟩
        have NB233_216 : Aside0 (gb233 ≠ gb216) := ⟨h13_⟩
        have NB217_233 : Aside0 (gb217 ≠ gb233) := ⟨h14_⟩
        have NB233_217 : Aside0 (gb233 ≠ gb217) := ⟨h15_⟩
        have NB234_233 : Aside0 (gb234 ≠ gb233) := ⟨h16_⟩
        have NB233_234 : Aside0 (gb233 ≠ gb234) := ⟨h17_⟩
        have GW234 : Aside0 (w.heap.size ≤ gb234) := ⟨h18_⟩
        have GE234 : Aside0 (w.heap.size ≤ gb234) := ⟨h19_⟩
        have NB198_234 : Aside0 (gb198 ≠ gb234) := ⟨h20_⟩
        have NB234_198 : Aside0 (gb234 ≠ gb198) := ⟨h21_⟩
        have NB199_234 : Aside0 (gb199 ≠ gb234) := ⟨h22_⟩
        have NB234_199 : Aside0 (gb234 ≠ gb199) := ⟨h23_⟩
        have NB216_234 : Aside0 (gb216 ≠ gb234) := ⟨h24_⟩
        have NB234_216 : Aside0 (gb234 ≠ gb216) := ⟨h25_⟩
        have NB217_234 : Aside0 (gb217 ≠ gb234) := ⟨h26_⟩
        have NB234_217 : Aside0 (gb234 ≠ gb217) := ⟨h27_⟩
        replace HB : Aside0 (Below w.heap.size w w44) := ⟨h28_⟩
        clear h0_ h1_ h2_ h3_ h4_ h5_ h6_ h7_ h8_ h9_ h10_ h11_ h12_ h13_ h14_ h15_ h16_ h17_ h18_ h19_ h20_ h21_ h22_ h23_ h24_ h25_ h26_ h27_ h28_
        have hHeld : w44.cell? ⟨gb198, 0, none⟩ = some (.int .i64 a0_0) ∧ w44.cell? ⟨gb198, 1, none⟩ = some (.int .i64 a0_1) ∧ w44.cell? ⟨gb198, 2, none⟩ = some (.string a0_2) ∧ w44.cell? ⟨gb198, 3, none⟩ = some (.bool a0_3) ∧ w44.cell? ⟨gb199, 0, none⟩ = some (.int .i64 a1_0) ∧ w44.cell? ⟨gb199, 1, none⟩ = some (.int .i64 a1_1) ∧ w44.cell? ⟨gb199, 2, none⟩ = some (.int .i64 a1_2) := hS_
        refine norm_ (a' := ?_) ?_ ?_
        rotate_left
        ·
         simp only [putAll, Act.put, List.setIfInBounds_toArray, List.set_cons_zero, List.set_cons_succ]
         rfl
        refine one_ (i := 1) (N := some 28) #[true, true, true, false, false, false, false, false, false, true, true, false, false, false] rfl rfl (one_of HT_.out (by kernel_rfl)) (by decide) (fun K hK => ?_)
        refine goes_ Tryd.func9 (by kernel_rfl) rfl #[.agg #[.int .i64 a0_0, .int .i64 a0_1, .string a0_2, .bool a0_3]] (by rfl) rfl rfl (by (try simp only [List.map_toArray, List.map_cons, List.map_nil]); first | done | rfl | (simp only [List.length_drop, List.length_take]; rfl)) ?_
        with_reducible refine (laws_toMaze.calls a0_0 a0_1 a0_2 a0_3 t218 t219 t220 t221 _ A13.out).mono ?_
        rintro e w45 ⟨rfl, hb⟩
        refine ⟨_, rfl, ?_⟩
        replace BK198 := XSq.bb BK198 hb
        replace BK199 := XSq.bb BK199 hb
        replace BK216 := XSq.bb BK216 hb
        replace BK217 := XSq.bb BK217 hb
        replace BK233 := Aside0.mk (blk_below (g := gb233) (o := .cells #[.int .i64 0, .int .i64 0, .string (⟨#[]⟩ : ByteArray), .bool false] 27 (0, 0)) (XSq.bq BK233) hb)
        replace BK234 := XSq.bb BK234 hb
        replace HB := Aside0.mk (below_step (XSq.bB HB) hb)
        clear hb
        refine hK.out _ _ (laws_FnExactHitCell.cs BK198.out BK199.out) (fun hHeld => ?_)
        clear hK K
        refine norm_ (a' := ?_) ?_ ?_
        rotate_left
        ·
         show Act.put _ (some 28) _ = _
         simp only [Act.put, List.setIfInBounds_toArray, List.set_cons_zero, List.set_cons_succ, i64_w, i32_w]
         rfl
        exact norm_ (by simp only [putAll, Act.put, List.setIfInBounds_toArray, List.set_cons_zero, List.set_cons_succ] <;> rfl) (hJ1_9_10 (gb233, gb234) _ ⟨hHeld, (XSq.bq BK198), (XSq.bq BK199), (XSq.bq BK216), (XSq.bq BK217), (XSq.bq BK233), (XSq.bq BK234), GW233.out, GE233.out, NB198_233.out, NB233_198.out, NB199_233.out, NB233_199.out, NB216_233.out, NB233_216.out, NB217_233.out, NB233_217.out, NB234_233.out, NB233_234.out, GW234.out, GE234.out, NB198_234.out, NB234_198.out, NB199_234.out, NB234_199.out, NB216_234.out, NB234_216.out, NB217_234.out, NB234_217.out, (XSq.bB HB)⟩)
      case f26 =>
       ·
        rintro gb234 w44 ⟨hS_, h0_, h1_, h2_, h3_, h4_, h5_, h6_, h7_, h8_, h9_, h10_, h11_, h12_, h13_, h14_, h15_⟩
        replace BK198 : Aside0 (w44.heap[gb198]? = some (.cells #[.int .i64 a0_0, .int .i64 a0_1, .string a0_2, .bool a0_3] 23 (0, 0))) := ⟨h0_⟩
        replace BK199 : Aside0 (w44.heap[gb199]? = some (.cells #[.int .i64 a1_0, .int .i64 a1_1, .int .i64 a1_2] 25 (0, 0))) := ⟨h1_⟩
        replace BK216 : Aside0 (w44.heap[gb216]? = some (.cells #[.int .i64 t208, .int .i64 t209, .string t210, .bool t211] 27 (0, 0))) := ⟨h2_⟩
        replace BK217 : Aside0 (w44.heap[gb217]? = some (.cells #[.int .i64 t212, .int .i64 t213, .int .i64 t214] 28 (0, 0))) := ⟨h3_⟩
        have BK234 : Aside0 (w44.heap[gb234]? = some (.cells #[.int .i64 0, .int .i64 0, .int .i64 0] 28 (0, 0))) := ⟨h4_⟩
        have GW234 : Aside0 (w.heap.size ≤ gb234) := ⟨h5_⟩
        have GE234 : Aside0 (w.heap.size ≤ gb234) := ⟨h6_⟩
        have NB198_234 : Aside0 (gb198 ≠ gb234) := ⟨h7_⟩
        have NB234_198 : Aside0 (gb234 ≠ gb198) := ⟨h8_⟩
        have NB199_234 : Aside0 (gb199 ≠ gb234) := ⟨h9_⟩
        have NB234_199 : Aside0 (gb234 ≠ gb199) := ⟨h10_⟩
        have NB216_234 : Aside0 (gb216 ≠ gb234) := ⟨h11_⟩
        have NB234_216 : Aside0 (gb234 ≠ gb216) := ⟨h12_⟩
        have NB217_234 : Aside0 (gb217 ≠ gb234) := ⟨h13_⟩
        have NB234_217 : Aside0 (gb234 ≠ gb217) := ⟨h14_⟩
        replace HB : Aside0 (Below w.heap.size w w44) := ⟨h15_⟩
        clear h0_ h1_ h2_ h3_ h4_ h5_ h6_ h7_ h8_ h9_ h10_ h11_ h12_ h13_ h14_ h15_
        have hHeld : w44.cell? ⟨gb198, 0, none⟩ = some (.int .i64 a0_0) ∧ w44.cell? ⟨gb198, 1, none⟩ = some (.int .i64 a0_1) ∧ w44.cell? ⟨gb198, 2, none⟩ = some (.string a0_2) ∧ w44.cell? ⟨gb198, 3, none⟩ = some (.bool a0_3) ∧ w44.cell? ⟨gb199, 0, none⟩ = some (.int .i64 a1_0) ∧ w44.cell? ⟨gb199, 1, none⟩ = some (.int .i64 a1_1) ∧ w44.cell? ⟨gb199, 2, none⟩ = some (.int .i64 a1_2) := hS_
        refine norm_ (a' := ?_) ?_ ?_
        rotate_left
        ·
         simp only [putAll, Act.put, List.setIfInBounds_toArray, List.set_cons_zero, List.set_cons_succ]
         rfl
        refine two_ (i := 3) (j := 9) (Ni := some 30) (Nj := some 9) #[true, true, true, true, false, false, false, false, false, false, true, false, false, false] #[true, true, true, false, false, false, false, false, false, true, true, false, false, false] rfl rfl rfl rfl (two_of HT_.out (by kernel_rfl)) (by decide) (by decide) (fun K hK => ?_) (fun K hK => ?_)
        ·
         refine goes_ Tryd.func10 (by kernel_rfl) rfl #[.agg #[.int .i64 a1_0, .int .i64 a1_1, .int .i64 a1_2]] (by rfl) rfl rfl (by (try simp only [List.map_toArray, List.map_cons, List.map_nil]); first | done | rfl | (simp only [List.length_drop, List.length_take]; rfl)) ?_
         with_reducible refine (laws_toBall.calls a1_0 a1_1 a1_2 t222 t223 t224 _ A14.out).mono ?_
         rintro e w45 ⟨rfl, hb⟩
         refine ⟨_, rfl, ?_⟩
         replace BK198 := XSq.bb BK198 hb
         replace BK199 := XSq.bb BK199 hb
         replace BK216 := XSq.bb BK216 hb
         replace BK217 := XSq.bb BK217 hb
         replace BK234 := XSq.bb BK234 hb
         replace HB := Aside0.mk (below_step (XSq.bB HB) hb)
         clear hb
         refine hK.out _ _ (laws_FnExactHitCell.cs BK198.out BK199.out) (fun hHeld => ?_)
         clear hK K
         refine norm_ (a' := ?_) ?_ ?_
         rotate_left
         ·
          show Act.put _ (some 30) _ = _
          simp only [Act.put, List.setIfInBounds_toArray, List.set_cons_zero, List.set_cons_succ, i64_w, i32_w]
          rfl
         exact norm_ (by simp only [putAll, Act.put, List.setIfInBounds_toArray, List.set_cons_zero, List.set_cons_succ] <;> rfl) (hJ1_3_10 (gb234) _ ⟨hHeld, (XSq.bq BK198), (XSq.bq BK199), (XSq.bq BK216), (XSq.bq BK217), (XSq.bq BK234), GW234.out, GE234.out, NB198_234.out, NB234_198.out, NB199_234.out, NB234_199.out, NB216_234.out, NB234_216.out, NB217_234.out, NB234_217.out, (XSq.bB HB)⟩)
        ·
         refine box_step ?hg (N := 9) ?hd (cs := #[.int .i64 0, .int .i64 0, .string (⟨#[]⟩ : ByteArray), .bool false]) (t := 27) ?hr ?_; (case hd => rfl); (case hg => rfl); (case hr => first | (go_simp; done) | (go_simp; rfl))
         intro gb233 hg w45 hbox hb
         have BK233 := Aside0.mk (hbox)
         have GW233 := XSq.gw hg (XSq.bB HB)
         have GE233 := XSq.gw hg (XSq.bB HB)
         have NB198_233 := XSq.nl hg (XSq.bq BK198)
         have NB233_198 := XSq.nr hg (XSq.bq BK198)
         have NB199_233 := XSq.nl hg (XSq.bq BK199)
         have NB233_199 := XSq.nr hg (XSq.bq BK199)
         have NB216_233 := XSq.nl hg (XSq.bq BK216)
         have NB233_216 := XSq.nr hg (XSq.bq BK216)
         have NB217_233 := XSq.nl hg (XSq.bq BK217)
         have NB233_217 := XSq.nr hg (XSq.bq BK217)
         have NB234_233 := XSq.nl hg (XSq.bq BK234)
         have NB233_234 := XSq.nr hg (XSq.bq BK234)
         replace BK198 := XSq.bb BK198 hb
         replace BK199 := XSq.bb BK199 hb
         replace BK216 := XSq.bb BK216 hb
         replace BK217 := XSq.bb BK217 hb
         replace BK234 := XSq.bb BK234 hb
         replace HB := Aside0.mk (below_step (XSq.bB HB) hb)
         clear hb hbox hg
         refine hK.out _ _ (laws_FnExactHitCell.cs BK198.out BK199.out) (fun hHeld => ?_)
         clear hK K
         refine norm_ (a' := ?_) ?_ ?_
         rotate_left
         ·
          show Act.put _ (some 9) _ = _
          simp only [Act.put, List.setIfInBounds_toArray, List.set_cons_zero, List.set_cons_succ, i64_w, i32_w]
          rfl
         exact norm_ (by simp only [putAll, Act.put, List.setIfInBounds_toArray, List.set_cons_zero, List.set_cons_succ] <;> rfl) (hJ1_9_10 (gb233, gb234) _ ⟨hHeld, (XSq.bq BK198), (XSq.bq BK199), (XSq.bq BK216), (XSq.bq BK217), (XSq.bq BK233), (XSq.bq BK234), GW233.out, GE233.out, NB198_233.out, NB233_198.out, NB199_233.out, NB233_199.out, NB216_233.out, NB233_216.out, NB217_233.out, NB233_217.out, NB234_233.out, NB233_234.out, GW234.out, GE234.out, NB198_234.out, NB234_198.out, NB199_234.out, NB234_199.out, NB216_234.out, NB234_216.out, NB217_234.out, NB234_217.out, (XSq.bB HB)⟩)
      case f25 =>
       ·
        rintro gb233 w44 ⟨hS_, h0_, h1_, h2_, h3_, h4_, h5_, h6_, h7_, h8_, h9_, h10_, h11_, h12_, h13_, h14_, h15_⟩
        replace BK198 : Aside0 (w44.heap[gb198]? = some (.cells #[.int .i64 a0_0, .int .i64 a0_1, .string a0_2, .bool a0_3] 23 (0, 0))) := ⟨h0_⟩
        replace BK199 : Aside0 (w44.heap[gb199]? = some (.cells #[.int .i64 a1_0, .int .i64 a1_1, .int .i64 a1_2] 25 (0, 0))) := ⟨h1_⟩
        replace BK216 : Aside0 (w44.heap[gb216]? = some (.cells #[.int .i64 t208, .int .i64 t209, .string t210, .bool t211] 27 (0, 0))) := ⟨h2_⟩
        replace BK217 : Aside0 (w44.heap[gb217]? = some (.cells #[.int .i64 t212, .int .i64 t213, .int .i64 t214] 28 (0, 0))) := ⟨h3_⟩
        have BK233 : Aside0 (w44.heap[gb233]? = some (.cells #[.int .i64 0, .int .i64 0, .string (⟨#[]⟩ : ByteArray), .bool false] 27 (0, 0))) := ⟨h4_⟩
        have GW233 : Aside0 (w.heap.size ≤ gb233) := ⟨h5_⟩
        have GE233 : Aside0 (w.heap.size ≤ gb233) := ⟨h6_⟩
        have NB198_233 : Aside0 (gb198 ≠ gb233) := ⟨h7_⟩
        have NB233_198 : Aside0 (gb233 ≠ gb198) := ⟨h8_⟩
        have NB199_233 : Aside0 (gb199 ≠ gb233) := ⟨h9_⟩
        have NB233_199 : Aside0 (gb233 ≠ gb199) := ⟨h10_⟩
        have NB216_233 : Aside0 (gb216 ≠ gb233) := ⟨h11_⟩
        have NB233_216 : Aside0 (gb233 ≠ gb216) := ⟨h12_⟩
        have NB217_233 : Aside0 (gb217 ≠ gb233) := ⟨h13_⟩
        have NB233_217 : Aside0 (gb233 ≠ gb217) := ⟨h14_⟩
        replace HB : Aside0 (Below w.heap.size w w44) := ⟨h15_⟩
        clear h0_ h1_ h2_ h3_ h4_ h5_ h6_ h7_ h8_ h9_ h10_ h11_ h12_ h13_ h14_ h15_
        have hHeld : w44.cell? ⟨gb198, 0, none⟩ = some (.int .i64 a0_0) ∧ w44.cell? ⟨gb198, 1, none⟩ = some (.int .i64 a0_1) ∧ w44.cell? ⟨gb198, 2, none⟩ = some (.string a0_2) ∧ w44.cell? ⟨gb198, 3, none⟩ = some (.bool a0_3) ∧ w44.cell? ⟨gb199, 0, none⟩ = some (.int .i64 a1_0) ∧ w44.cell? ⟨gb199, 1, none⟩ = some (.int .i64 a1_1) ∧ w44.cell? ⟨gb199, 2, none⟩ = some (.int .i64 a1_2) := hS_
        refine norm_ (a' := ?_) ?_ ?_
        rotate_left
        ·
         simp only [putAll, Act.put, List.setIfInBounds_toArray, List.set_cons_zero, List.set_cons_succ]
         rfl
        refine two_ (i := 3) (j := 10) (Ni := some 30) (Nj := some 10) #[true, true, true, true, false, false, false, false, false, true, false, false, false, false] #[true, true, true, false, false, false, false, false, false, true, true, false, false, false] rfl rfl rfl rfl (two_of HT_.out (by kernel_rfl)) (by decide) (by decide) (fun K hK => ?_) (fun K hK => ?_)
        ·
         refine goes_ Tryd.func10 (by kernel_rfl) rfl #[.agg #[.int .i64 a1_0, .int .i64 a1_1, .int .i64 a1_2]] (by rfl) rfl rfl (by (try simp only [List.map_toArray, List.map_cons, List.map_nil]); first | done | rfl | (simp only [List.length_drop, List.length_take]; rfl)) ?_
         with_reducible refine (laws_toBall.calls a1_0 a1_1 a1_2 t222 t223 t224 _ A14.out).mono ?_
         rintro e w45 ⟨rfl, hb⟩
         refine ⟨_, rfl, ?_⟩
         replace BK198 := XSq.bb BK198 hb
         replace BK199 := XSq.bb BK199 hb
         replace BK216 := XSq.bb BK216 hb
         replace BK217 := XSq.bb BK217 hb
         replace BK233 := Aside0.mk (blk_below (g := gb233) (o := .cells #[.int .i64 0, .int .i64 0, .string (⟨#[]⟩ : ByteArray), .bool false] 27 (0, 0)) (XSq.bq BK233) hb)
         replace HB := Aside0.mk (below_step (XSq.bB HB) hb)
         clear hb
         refine hK.out _ _ (laws_FnExactHitCell.cs BK198.out BK199.out) (fun hHeld => ?_)
         clear hK K
         refine norm_ (a' := ?_) ?_ ?_
         rotate_left
         ·
          show Act.put _ (some 30) _ = _
          simp only [Act.put, List.setIfInBounds_toArray, List.set_cons_zero, List.set_cons_succ, i64_w, i32_w]
          rfl
         exact norm_ (by simp only [putAll, Act.put, List.setIfInBounds_toArray, List.set_cons_zero, List.set_cons_succ] <;> rfl) (hJ1_3_9 (gb233) _ ⟨hHeld, (XSq.bq BK198), (XSq.bq BK199), (XSq.bq BK216), (XSq.bq BK217), (XSq.bq BK233), GW233.out, GE233.out, NB198_233.out, NB233_198.out, NB199_233.out, NB233_199.out, NB216_233.out, NB233_216.out, NB217_233.out, NB233_217.out, (XSq.bB HB)⟩)
        ·
         refine box_step ?hg (N := 10) ?hd (cs := #[.int .i64 0, .int .i64 0, .int .i64 0]) (t := 28) ?hr ?_; (case hd => rfl); (case hg => rfl); (case hr => first | (go_simp; done) | (go_simp; rfl))
         intro gb234 hg w45 hbox hb
         have BK234 := Aside0.mk (hbox)
         have GW234 := XSq.gw hg (XSq.bB HB)
         have GE234 := XSq.gw hg (XSq.bB HB)
         have NB198_234 := XSq.nl hg (XSq.bq BK198)
         have NB234_198 := XSq.nr hg (XSq.bq BK198)
         have NB199_234 := XSq.nl hg (XSq.bq BK199)
         have NB234_199 := XSq.nr hg (XSq.bq BK199)
         have NB216_234 := XSq.nl hg (XSq.bq BK216)
         have NB234_216 := XSq.nr hg (XSq.bq BK216)
         have NB217_234 := XSq.nl hg (XSq.bq BK217)
         have NB234_217 := XSq.nr hg (XSq.bq BK217)
         have NB233_234 := Aside0.mk ((by rw [hg]; exact Nat.ne_of_lt (blk_lt (g := gb233) (o := .cells #[.int .i64 0, .int .i64 0, .string (⟨#[]⟩ : ByteArray), .bool false] 27 (0, 0)) (XSq.bq BK233)) : gb233 ≠ gb234))
         have NB234_233 := Aside0.mk ((by rw [hg]; exact Nat.ne_of_gt (blk_lt (g := gb233) (o := .cells #[.int .i64 0, .int .i64 0, .string (⟨#[]⟩ : ByteArray), .bool false] 27 (0, 0)) (XSq.bq BK233)) : gb234 ≠ gb233))
         replace BK198 := XSq.bb BK198 hb
         replace BK199 := XSq.bb BK199 hb
         replace BK216 := XSq.bb BK216 hb
         replace BK217 := XSq.bb BK217 hb
         replace BK233 := Aside0.mk (blk_below (g := gb233) (o := .cells #[.int .i64 0, .int .i64 0, .string (⟨#[]⟩ : ByteArray), .bool false] 27 (0, 0)) (XSq.bq BK233) hb)
         replace HB := Aside0.mk (below_step (XSq.bB HB) hb)
         clear hb hbox hg
         refine hK.out _ _ (laws_FnExactHitCell.cs BK198.out BK199.out) (fun hHeld => ?_)
         clear hK K
         refine norm_ (a' := ?_) ?_ ?_
         rotate_left
         ·
          show Act.put _ (some 10) _ = _
          simp only [Act.put, List.setIfInBounds_toArray, List.set_cons_zero, List.set_cons_succ, i64_w, i32_w]
          rfl
         exact norm_ (by simp only [putAll, Act.put, List.setIfInBounds_toArray, List.set_cons_zero, List.set_cons_succ] <;> rfl) (hJ1_9_10 (gb233, gb234) _ ⟨hHeld, (XSq.bq BK198), (XSq.bq BK199), (XSq.bq BK216), (XSq.bq BK217), (XSq.bq BK233), (XSq.bq BK234), GW233.out, GE233.out, NB198_233.out, NB233_198.out, NB199_233.out, NB233_199.out, NB216_233.out, NB233_216.out, NB217_233.out, NB233_217.out, NB234_233.out, NB233_234.out, GW234.out, GE234.out, NB198_234.out, NB234_198.out, NB199_234.out, NB234_199.out, NB216_234.out, NB234_216.out, NB217_234.out, NB234_217.out, (XSq.bB HB)⟩)
      case f24 =>
       ·
        rintro _ w44 ⟨hS_, h0_, h1_, h2_, h3_, h4_⟩
        replace BK198 : Aside0 (w44.heap[gb198]? = some (.cells #[.int .i64 a0_0, .int .i64 a0_1, .string a0_2, .bool a0_3] 23 (0, 0))) := ⟨h0_⟩
        replace BK199 : Aside0 (w44.heap[gb199]? = some (.cells #[.int .i64 a1_0, .int .i64 a1_1, .int .i64 a1_2] 25 (0, 0))) := ⟨h1_⟩
        replace BK216 : Aside0 (w44.heap[gb216]? = some (.cells #[.int .i64 t208, .int .i64 t209, .string t210, .bool t211] 27 (0, 0))) := ⟨h2_⟩
        replace BK217 : Aside0 (w44.heap[gb217]? = some (.cells #[.int .i64 t212, .int .i64 t213, .int .i64 t214] 28 (0, 0))) := ⟨h3_⟩
        replace HB : Aside0 (Below w.heap.size w w44) := ⟨h4_⟩
        clear h0_ h1_ h2_ h3_ h4_
        have hHeld : w44.cell? ⟨gb198, 0, none⟩ = some (.int .i64 a0_0) ∧ w44.cell? ⟨gb198, 1, none⟩ = some (.int .i64 a0_1) ∧ w44.cell? ⟨gb198, 2, none⟩ = some (.string a0_2) ∧ w44.cell? ⟨gb198, 3, none⟩ = some (.bool a0_3) ∧ w44.cell? ⟨gb199, 0, none⟩ = some (.int .i64 a1_0) ∧ w44.cell? ⟨gb199, 1, none⟩ = some (.int .i64 a1_1) ∧ w44.cell? ⟨gb199, 2, none⟩ = some (.int .i64 a1_2) := hS_
        refine norm_ (a' := ?_) ?_ ?_
        rotate_left
        ·
         simp only [putAll, Act.put, List.setIfInBounds_toArray, List.set_cons_zero, List.set_cons_succ]
         rfl
        refine three_ (i := 4) (j := 9) (k := 10) (Ni := some 31) (Nj := some 9) (Nk := some 10) #[true, true, true, true, true, false, false, false, false, false, false, false, false, false] #[true, true, true, true, false, false, false, false, false, true, false, false, false, false] #[true, true, true, true, false, false, false, false, false, false, true, false, false, false] rfl rfl rfl rfl rfl rfl (three_of HT_.out (by kernel_rfl)) (by decide) (by decide) (by decide) (fun K hK => ?_) (fun K hK => ?_) (fun K hK => ?_)
        ·
         refine goes_ Tryd.func11 (by kernel_rfl) rfl #[.agg #[.int .i64 t218, .int .i64 t219, .string t220, .bool t221], .agg #[.int .i64 t222, .int .i64 t223, .int .i64 t224]] (by rfl) rfl rfl (by (try simp only [List.map_toArray, List.map_cons, List.map_nil]); first | done | rfl | (simp only [List.length_drop, List.length_take]; rfl)) ?_
         with_reducible refine (impl_HitCell.calls k t218 t219 t220 t221 t222 t223 t224 t225 t226 t227 t228 t229 t230 t231 t232 _ A15.out).mono ?_
         rintro e w45 ⟨rfl, hb⟩
         refine ⟨_, rfl, ?_⟩
         replace BK198 := XSq.bb BK198 hb
         replace BK199 := XSq.bb BK199 hb
         replace BK216 := XSq.bb BK216 hb
         replace BK217 := XSq.bb BK217 hb
         replace HB := Aside0.mk (below_step (XSq.bB HB) hb)
         clear hb
         refine hK.out _ _ (laws_FnExactHitCell.cs BK198.out BK199.out) (fun hHeld => ?_)
         clear hK K
         refine norm_ (a' := ?_) ?_ ?_
         rotate_left
         ·
          show Act.put _ (some 31) _ = _
          simp only [Act.put, List.setIfInBounds_toArray, List.set_cons_zero, List.set_cons_succ, i64_w, i32_w]
          rfl
         refine pure_ (i := 5) (N := some 26) (v := ?_) (a' := ?_) #[true, true, true, true, true, true, false, false, false, false, false, false, false, false] rfl rfl (any_of HT_.out (by kernel_rfl)) (fun _ _ _ h => h) (Or.inl ⟨by rfl, ?_⟩) ?_ ?_
         rotate_left
         ·
          intro w'
          go_simp
          with_reducible rfl
         rotate_left
         ·
          simp only [Act.put, List.setIfInBounds_toArray, List.set_cons_zero, List.set_cons_succ, i64_w, i32_w]
          rfl
         refine pure_ (i := 6) (N := some 32) (v := ?_) (a' := ?_) #[true, true, true, true, true, true, true, false, false, false, false, false, false, false] rfl rfl (any_of HT_.out (by kernel_rfl)) (fun _ _ _ h => h) (Or.inl ⟨by rfl, ?_⟩) ?_ ?_
         rotate_left
         ·
          intro w'
          go_simp
          with_reducible rfl
         rotate_left
         ·
          simp only [Act.put, List.setIfInBounds_toArray, List.set_cons_zero, List.set_cons_succ, i64_w, i32_w]
          rfl
         refine pure_ (i := 7) (N := some 33) (v := ?_) (a' := ?_) #[true, true, true, true, true, true, true, true, false, false, false, false, false, false] rfl rfl (any_of HT_.out (by kernel_rfl)) (fun _ _ _ h => h) (Or.inl ⟨by rfl, ?_⟩) ?_ ?_
         rotate_left
         ·
          intro w'
          go_simp
          with_reducible rfl
         rotate_left
         ·
          simp only [Act.put, List.setIfInBounds_toArray, List.set_cons_zero, List.set_cons_succ, i64_w, i32_w]
          rfl
         refine pure_ (i := 8) (N := some 34) (v := ?_) (a' := ?_) #[true, true, true, true, true, true, true, true, true, false, false, false, false, false] rfl rfl (any_of HT_.out (by kernel_rfl)) (fun _ _ _ h => h) (Or.inl ⟨by rfl, ?_⟩) ?_ ?_
         rotate_left
         ·
          intro w'
          go_simp
          with_reducible rfl
         rotate_left
         ·
          simp only [Act.put, List.setIfInBounds_toArray, List.set_cons_zero, List.set_cons_succ, i64_w, i32_w]
          rfl
         exact norm_ (by simp only [putAll, Act.put, List.setIfInBounds_toArray, List.set_cons_zero, List.set_cons_succ] <;> rfl) (hJ1_3_4 () _ ⟨hHeld, (XSq.bq BK198), (XSq.bq BK199), (XSq.bq BK216), (XSq.bq BK217), (XSq.bB HB)⟩)
        ·
         refine box_step ?hg (N := 9) ?hd (cs := #[.int .i64 0, .int .i64 0, .string (⟨#[]⟩ : ByteArray), .bool false]) (t := 27) ?hr ?_; (case hd => rfl); (case hg => rfl); (case hr => first | (go_simp; done) | (go_simp; rfl))
         intro gb233 hg w45 hbox hb
         have BK233 := Aside0.mk (hbox)
         have GW233 := XSq.gw hg (XSq.bB HB)
         have GE233 := XSq.gw hg (XSq.bB HB)
         have NB198_233 := XSq.nl hg (XSq.bq BK198)
         have NB233_198 := XSq.nr hg (XSq.bq BK198)
         have NB199_233 := XSq.nl hg (XSq.bq BK199)
         have NB233_199 := XSq.nr hg (XSq.bq BK199)
         have NB216_233 := XSq.nl hg (XSq.bq BK216)
         have NB233_216 := XSq.nr hg (XSq.bq BK216)
         have NB217_233 := XSq.nl hg (XSq.bq BK217)
         have NB233_217 := XSq.nr hg (XSq.bq BK217)
         replace BK198 := XSq.bb BK198 hb
         replace BK199 := XSq.bb BK199 hb
         replace BK216 := XSq.bb BK216 hb
         replace BK217 := XSq.bb BK217 hb
         replace HB := Aside0.mk (below_step (XSq.bB HB) hb)
         clear hb hbox hg
         refine hK.out _ _ (laws_FnExactHitCell.cs BK198.out BK199.out) (fun hHeld => ?_)
         clear hK K
         refine norm_ (a' := ?_) ?_ ?_
         rotate_left
         ·
          show Act.put _ (some 9) _ = _
          simp only [Act.put, List.setIfInBounds_toArray, List.set_cons_zero, List.set_cons_succ, i64_w, i32_w]
          rfl
         exact norm_ (by simp only [putAll, Act.put, List.setIfInBounds_toArray, List.set_cons_zero, List.set_cons_succ] <;> rfl) (hJ1_3_9 (gb233) _ ⟨hHeld, (XSq.bq BK198), (XSq.bq BK199), (XSq.bq BK216), (XSq.bq BK217), (XSq.bq BK233), GW233.out, GE233.out, NB198_233.out, NB233_198.out, NB199_233.out, NB233_199.out, NB216_233.out, NB233_216.out, NB217_233.out, NB233_217.out, (XSq.bB HB)⟩)
        ·
         refine box_step ?hg (N := 10) ?hd (cs := #[.int .i64 0, .int .i64 0, .int .i64 0]) (t := 28) ?hr ?_; (case hd => rfl); (case hg => rfl); (case hr => first | (go_simp; done) | (go_simp; rfl))
         intro gb234 hg w45 hbox hb
         have BK234 := Aside0.mk (hbox)
         have GW234 := XSq.gw hg (XSq.bB HB)
         have GE234 := XSq.gw hg (XSq.bB HB)
         have NB198_234 := XSq.nl hg (XSq.bq BK198)
         have NB234_198 := XSq.nr hg (XSq.bq BK198)
         have NB199_234 := XSq.nl hg (XSq.bq BK199)
         have NB234_199 := XSq.nr hg (XSq.bq BK199)
         have NB216_234 := XSq.nl hg (XSq.bq BK216)
         have NB234_216 := XSq.nr hg (XSq.bq BK216)
         have NB217_234 := XSq.nl hg (XSq.bq BK217)
         have NB234_217 := XSq.nr hg (XSq.bq BK217)
         replace BK198 := XSq.bb BK198 hb
         replace BK199 := XSq.bb BK199 hb
         replace BK216 := XSq.bb BK216 hb
         replace BK217 := XSq.bb BK217 hb
         replace HB := Aside0.mk (below_step (XSq.bB HB) hb)
         clear hb hbox hg
         refine hK.out _ _ (laws_FnExactHitCell.cs BK198.out BK199.out) (fun hHeld => ?_)
         clear hK K
         refine norm_ (a' := ?_) ?_ ?_
         rotate_left
         ·
          show Act.put _ (some 10) _ = _
          simp only [Act.put, List.setIfInBounds_toArray, List.set_cons_zero, List.set_cons_succ, i64_w, i32_w]
          rfl
         exact norm_ (by simp only [putAll, Act.put, List.setIfInBounds_toArray, List.set_cons_zero, List.set_cons_succ] <;> rfl) (hJ1_3_10 (gb234) _ ⟨hHeld, (XSq.bq BK198), (XSq.bq BK199), (XSq.bq BK216), (XSq.bq BK217), (XSq.bq BK234), GW234.out, GE234.out, NB198_234.out, NB234_198.out, NB199_234.out, NB234_199.out, NB216_234.out, NB234_216.out, NB217_234.out, NB234_217.out, (XSq.bB HB)⟩)
      case f23 =>
       ·
        rintro ⟨gb233, gb234⟩ w45 ⟨hS_, h0_, h1_, h2_, h3_, h4_, h5_, h6_, h7_, h8_, h9_, h10_, h11_, h12_, h13_, h14_, h15_, h16_, h17_, h18_, h19_, h20_, h21_, h22_, h23_, h24_, h25_, h26_, h27_, h28_⟩
        replace BK198 : Aside0 (w45.heap[gb198]? = some (.cells #[.int .i64 a0_0, .int .i64 a0_1, .string a0_2, .bool a0_3] 23 (0, 0))) := ⟨h0_⟩
        replace BK199 : Aside0 (w45.heap[gb199]? = some (.cells #[.int .i64 a1_0, .int .i64 a1_1, .int .i64 a1_2] 25 (0, 0))) := ⟨h1_⟩
        replace BK216 : Aside0 (w45.heap[gb216]? = some (.cells #[.int .i64 t208, .int .i64 t209, .string t210, .bool t211] 27 (0, 0))) := ⟨h2_⟩
        replace BK217 : Aside0 (w45.heap[gb217]? = some (.cells #[.int .i64 t212, .int .i64 t213, .int .i64 t214] 28 (0, 0))) := ⟨h3_⟩
        have BK233 : Aside0 (w45.heap[gb233]? = some (.cells #[.int .i64 0, .int .i64 0, .string (⟨#[]⟩ : ByteArray), .bool false] 27 (0, 0))) := ⟨h4_⟩
        have BK234 : Aside0 (w45.heap[gb234]? = some (.cells #[.int .i64 0, .int .i64 0, .int .i64 0] 28 (0, 0))) := ⟨h5_⟩
        have GW233 : Aside0 (w.heap.size ≤ gb233) := ⟨h6_⟩
        have GE233 : Aside0 (w.heap.size ≤ gb233) := ⟨h7_⟩
        have NB198_233 : Aside0 (gb198 ≠ gb233) := ⟨h8_⟩
        have NB233_198 : Aside0 (gb233 ≠ gb198) := ⟨h9_⟩
        have NB199_233 : Aside0 (gb199 ≠ gb233) := ⟨h10_⟩
        have NB233_199 : Aside0 (gb233 ≠ gb199) := ⟨h11_⟩
        have NB216_233 : Aside0 (gb216 ≠ gb233) := ⟨h12_⟩
        have NB233_216 : Aside0 (gb233 ≠ gb216) := ⟨h13_⟩
        have NB217_233 : Aside0 (gb217 ≠ gb233) := ⟨h14_⟩
        have NB233_217 : Aside0 (gb233 ≠ gb217) := ⟨h15_⟩
        have NB234_233 : Aside0 (gb234 ≠ gb233) := ⟨h16_⟩
        have NB233_234 : Aside0 (gb233 ≠ gb234) := ⟨h17_⟩
        have GW234 : Aside0 (w.heap.size ≤ gb234) := ⟨h18_⟩
        have GE234 : Aside0 (w.heap.size ≤ gb234) := ⟨h19_⟩
        have NB198_234 : Aside0 (gb198 ≠ gb234) := ⟨h20_⟩
        have NB234_198 : Aside0 (gb234 ≠ gb198) := ⟨h21_⟩
        have NB199_234 : Aside0 (gb199 ≠ gb234) := ⟨h22_⟩
        have NB234_199 : Aside0 (gb234 ≠ gb199) := ⟨h23_⟩
        have NB216_234 : Aside0 (gb216 ≠ gb234) := ⟨h24_⟩
        have NB234_216 : Aside0 (gb234 ≠ gb216) := ⟨h25_⟩
        have NB217_234 : Aside0 (gb217 ≠ gb234) := ⟨h26_⟩
        have NB234_217 : Aside0 (gb234 ≠ gb217) := ⟨h27_⟩
        replace HB : Aside0 (Below w.heap.size w w45) := ⟨h28_⟩
        clear h0_ h1_ h2_ h3_ h4_ h5_ h6_ h7_ h8_ h9_ h10_ h11_ h12_ h13_ h14_ h15_ h16_ h17_ h18_ h19_ h20_ h21_ h22_ h23_ h24_ h25_ h26_ h27_ h28_
        have hHeld : w45.cell? ⟨gb198, 0, none⟩ = some (.int .i64 a0_0) ∧ w45.cell? ⟨gb198, 1, none⟩ = some (.int .i64 a0_1) ∧ w45.cell? ⟨gb198, 2, none⟩ = some (.string a0_2) ∧ w45.cell? ⟨gb198, 3, none⟩ = some (.bool a0_3) ∧ w45.cell? ⟨gb199, 0, none⟩ = some (.int .i64 a1_0) ∧ w45.cell? ⟨gb199, 1, none⟩ = some (.int .i64 a1_1) ∧ w45.cell? ⟨gb199, 2, none⟩ = some (.int .i64 a1_2) := hS_
        refine norm_ (a' := ?_) ?_ ?_
        rotate_left
        ·
         simp only [putAll, Act.put, List.setIfInBounds_toArray, List.set_cons_zero, List.set_cons_succ]
         rfl
        refine one_ (i := 3) (N := some 30) #[true, true, true, true, false, false, false, false, false, true, true, false, false, false] rfl rfl (one_of HT_.out (by kernel_rfl)) (by decide) (fun K hK => ?_)
        refine goes_ Tryd.func10 (by kernel_rfl) rfl #[.agg #[.int .i64 a1_0, .int .i64 a1_1, .int .i64 a1_2]] (by rfl) rfl rfl (by (try simp only [List.map_toArray, List.map_cons, List.map_nil]); first | done | rfl | (simp only [List.length_drop, List.length_take]; rfl)) ?_
        with_reducible refine (laws_toBall.calls a1_0 a1_1 a1_2 t222 t223 t224 _ A14.out).mono ?_
        rintro e w46 ⟨rfl, hb⟩
        refine ⟨_, rfl, ?_⟩
        replace BK198 := XSq.bb BK198 hb
        replace BK199 := XSq.bb BK199 hb
        replace BK216 := XSq.bb BK216 hb
        replace BK217 := XSq.bb BK217 hb
        replace BK233 := Aside0.mk (blk_below (g := gb233) (o := .cells #[.int .i64 0, .int .i64 0, .string (⟨#[]⟩ : ByteArray), .bool false] 27 (0, 0)) (XSq.bq BK233) hb)
        replace BK234 := XSq.bb BK234 hb
        replace HB := Aside0.mk (below_step (XSq.bB HB) hb)
        clear hb
        refine hK.out _ _ (laws_FnExactHitCell.cs BK198.out BK199.out) (fun hHeld => ?_)
        clear hK K
        refine norm_ (a' := ?_) ?_ ?_
        rotate_left
        ·
         show Act.put _ (some 30) _ = _
         simp only [Act.put, List.setIfInBounds_toArray, List.set_cons_zero, List.set_cons_succ, i64_w, i32_w]
         rfl
        exact norm_ (by simp only [putAll, Act.put, List.setIfInBounds_toArray, List.set_cons_zero, List.set_cons_succ] <;> rfl) (hJ1_3_9_10 (gb233, gb234) _ ⟨hHeld, (XSq.bq BK198), (XSq.bq BK199), (XSq.bq BK216), (XSq.bq BK217), (XSq.bq BK233), (XSq.bq BK234), GW233.out, GE233.out, NB198_233.out, NB233_198.out, NB199_233.out, NB233_199.out, NB216_233.out, NB233_216.out, NB217_233.out, NB233_217.out, NB234_233.out, NB233_234.out, GW234.out, GE234.out, NB198_234.out, NB234_198.out, NB199_234.out, NB234_199.out, NB216_234.out, NB234_216.out, NB217_234.out, NB234_217.out, (XSq.bB HB)⟩)
      case f22 =>
       ·
        rintro gb234 w45 ⟨hS_, h0_, h1_, h2_, h3_, h4_, h5_, h6_, h7_, h8_, h9_, h10_, h11_, h12_, h13_, h14_, h15_⟩
        replace BK198 : Aside0 (w45.heap[gb198]? = some (.cells #[.int .i64 a0_0, .int .i64 a0_1, .string a0_2, .bool a0_3] 23 (0, 0))) := ⟨h0_⟩
        replace BK199 : Aside0 (w45.heap[gb199]? = some (.cells #[.int .i64 a1_0, .int .i64 a1_1, .int .i64 a1_2] 25 (0, 0))) := ⟨h1_⟩
        replace BK216 : Aside0 (w45.heap[gb216]? = some (.cells #[.int .i64 t208, .int .i64 t209, .string t210, .bool t211] 27 (0, 0))) := ⟨h2_⟩
        replace BK217 : Aside0 (w45.heap[gb217]? = some (.cells #[.int .i64 t212, .int .i64 t213, .int .i64 t214] 28 (0, 0))) := ⟨h3_⟩
        have BK234 : Aside0 (w45.heap[gb234]? = some (.cells #[.int .i64 0, .int .i64 0, .int .i64 0] 28 (0, 0))) := ⟨h4_⟩
        have GW234 : Aside0 (w.heap.size ≤ gb234) := ⟨h5_⟩
        have GE234 : Aside0 (w.heap.size ≤ gb234) := ⟨h6_⟩
        have NB198_234 : Aside0 (gb198 ≠ gb234) := ⟨h7_⟩
        have NB234_198 : Aside0 (gb234 ≠ gb198) := ⟨h8_⟩
        have NB199_234 : Aside0 (gb199 ≠ gb234) := ⟨h9_⟩
        have NB234_199 : Aside0 (gb234 ≠ gb199) := ⟨h10_⟩
        have NB216_234 : Aside0 (gb216 ≠ gb234) := ⟨h11_⟩
        have NB234_216 : Aside0 (gb234 ≠ gb216) := ⟨h12_⟩
        have NB217_234 : Aside0 (gb217 ≠ gb234) := ⟨h13_⟩
        have NB234_217 : Aside0 (gb234 ≠ gb217) := ⟨h14_⟩
        replace HB : Aside0 (Below w.heap.size w w45) := ⟨h15_⟩
        clear h0_ h1_ h2_ h3_ h4_ h5_ h6_ h7_ h8_ h9_ h10_ h11_ h12_ h13_ h14_ h15_
        have hHeld : w45.cell? ⟨gb198, 0, none⟩ = some (.int .i64 a0_0) ∧ w45.cell? ⟨gb198, 1, none⟩ = some (.int .i64 a0_1) ∧ w45.cell? ⟨gb198, 2, none⟩ = some (.string a0_2) ∧ w45.cell? ⟨gb198, 3, none⟩ = some (.bool a0_3) ∧ w45.cell? ⟨gb199, 0, none⟩ = some (.int .i64 a1_0) ∧ w45.cell? ⟨gb199, 1, none⟩ = some (.int .i64 a1_1) ∧ w45.cell? ⟨gb199, 2, none⟩ = some (.int .i64 a1_2) := hS_
        refine norm_ (a' := ?_) ?_ ?_
        rotate_left
        ·
         simp only [putAll, Act.put, List.setIfInBounds_toArray, List.set_cons_zero, List.set_cons_succ]
         rfl
        refine two_ (i := 4) (j := 9) (Ni := some 31) (Nj := some 9) #[true, true, true, true, true, false, false, false, false, false, true, false, false, false] #[true, true, true, true, false, false, false, false, false, true, true, false, false, false] rfl rfl rfl rfl (two_of HT_.out (by kernel_rfl)) (by decide) (by decide) (fun K hK => ?_) (fun K hK => ?_)
        ·
         refine goes_ Tryd.func11 (by kernel_rfl) rfl #[.agg #[.int .i64 t218, .int .i64 t219, .string t220, .bool t221], .agg #[.int .i64 t222, .int .i64 t223, .int .i64 t224]] (by rfl) rfl rfl (by (try simp only [List.map_toArray, List.map_cons, List.map_nil]); first | done | rfl | (simp only [List.length_drop, List.length_take]; rfl)) ?_
         with_reducible refine (impl_HitCell.calls k t218 t219 t220 t221 t222 t223 t224 t225 t226 t227 t228 t229 t230 t231 t232 _ A15.out).mono ?_
         rintro e w46 ⟨rfl, hb⟩
         refine ⟨_, rfl, ?_⟩
         replace BK198 := XSq.bb BK198 hb
         replace BK199 := XSq.bb BK199 hb
         replace BK216 := XSq.bb BK216 hb
         replace BK217 := XSq.bb BK217 hb
         replace BK234 := XSq.bb BK234 hb
         replace HB := Aside0.mk (below_step (XSq.bB HB) hb)
         clear hb
         refine hK.out _ _ (laws_FnExactHitCell.cs BK198.out BK199.out) (fun hHeld => ?_)
         clear hK K
         refine norm_ (a' := ?_) ?_ ?_
         rotate_left
         ·
          show Act.put _ (some 31) _ = _
          simp only [Act.put, List.setIfInBounds_toArray, List.set_cons_zero, List.set_cons_succ, i64_w, i32_w]
          rfl
         refine pure_ (i := 5) (N := some 26) (v := ?_) (a' := ?_) #[true, true, true, true, true, true, false, false, false, false, true, false, false, false] rfl rfl (any_of HT_.out (by kernel_rfl)) (fun _ _ _ h => h) (Or.inl ⟨by rfl, ?_⟩) ?_ ?_
         rotate_left
         ·
          intro w'
          go_simp
          with_reducible rfl
         rotate_left
         ·
          simp only [Act.put, List.setIfInBounds_toArray, List.set_cons_zero, List.set_cons_succ, i64_w, i32_w]
          rfl
         refine pure_ (i := 6) (N := some 32) (v := ?_) (a' := ?_) #[true, true, true, true, true, true, true, false, false, false, true, false, false, false] rfl rfl (any_of HT_.out (by kernel_rfl)) (fun _ _ _ h => h) (Or.inl ⟨by rfl, ?_⟩) ?_ ?_
         rotate_left
         ·
          intro w'
          go_simp
          with_reducible rfl
         rotate_left
         ·
          simp only [Act.put, List.setIfInBounds_toArray, List.set_cons_zero, List.set_cons_succ, i64_w, i32_w]
          rfl
         refine pure_ (i := 7) (N := some 33) (v := ?_) (a' := ?_) #[true, true, true, true, true, true, true, true, false, false, true, false, false, false] rfl rfl (any_of HT_.out (by kernel_rfl)) (fun _ _ _ h => h) (Or.inl ⟨by rfl, ?_⟩) ?_ ?_
         rotate_left
         ·
          intro w'
          go_simp
          with_reducible rfl
         rotate_left
         ·
          simp only [Act.put, List.setIfInBounds_toArray, List.set_cons_zero, List.set_cons_succ, i64_w, i32_w]
          rfl
         refine pure_ (i := 8) (N := some 34) (v := ?_) (a' := ?_) #[true, true, true, true, true, true, true, true, true, false, true, false, false, false] rfl rfl (any_of HT_.out (by kernel_rfl)) (fun _ _ _ h => h) (Or.inl ⟨by rfl, ?_⟩) ?_ ?_
         rotate_left
         ·
          intro w'
          go_simp
          with_reducible rfl
         rotate_left
         ·
          simp only [Act.put, List.setIfInBounds_toArray, List.set_cons_zero, List.set_cons_succ, i64_w, i32_w]
          rfl
         exact norm_ (by simp only [putAll, Act.put, List.setIfInBounds_toArray, List.set_cons_zero, List.set_cons_succ] <;> rfl) (hJ1_3_4_10 (gb234) _ ⟨hHeld, (XSq.bq BK198), (XSq.bq BK199), (XSq.bq BK216), (XSq.bq BK217), (XSq.bq BK234), GW234.out, GE234.out, NB198_234.out, NB234_198.out, NB199_234.out, NB234_199.out, NB216_234.out, NB234_216.out, NB217_234.out, NB234_217.out, (XSq.bB HB)⟩)
        ·
         refine box_step ?hg (N := 9) ?hd (cs := #[.int .i64 0, .int .i64 0, .string (⟨#[]⟩ : ByteArray), .bool false]) (t := 27) ?hr ?_; (case hd => rfl); (case hg => rfl); (case hr => first | (go_simp; done) | (go_simp; rfl))
         intro gb233 hg w46 hbox hb
         have BK233 := Aside0.mk (hbox)
         have GW233 := XSq.gw hg (XSq.bB HB)
         have GE233 := XSq.gw hg (XSq.bB HB)
         have NB198_233 := XSq.nl hg (XSq.bq BK198)
         have NB233_198 := XSq.nr hg (XSq.bq BK198)
         have NB199_233 := XSq.nl hg (XSq.bq BK199)
         have NB233_199 := XSq.nr hg (XSq.bq BK199)
         have NB216_233 := XSq.nl hg (XSq.bq BK216)
         have NB233_216 := XSq.nr hg (XSq.bq BK216)
         have NB217_233 := XSq.nl hg (XSq.bq BK217)
         have NB233_217 := XSq.nr hg (XSq.bq BK217)
         have NB234_233 := XSq.nl hg (XSq.bq BK234)
         have NB233_234 := XSq.nr hg (XSq.bq BK234)
         replace BK198 := XSq.bb BK198 hb
         replace BK199 := XSq.bb BK199 hb
         replace BK216 := XSq.bb BK216 hb
         replace BK217 := XSq.bb BK217 hb
         replace BK234 := XSq.bb BK234 hb
         replace HB := Aside0.mk (below_step (XSq.bB HB) hb)
         clear hb hbox hg
         refine hK.out _ _ (laws_FnExactHitCell.cs BK198.out BK199.out) (fun hHeld => ?_)
         clear hK K
         refine norm_ (a' := ?_) ?_ ?_
         rotate_left
         ·
          show Act.put _ (some 9) _ = _
          simp only [Act.put, List.setIfInBounds_toArray, List.set_cons_zero, List.set_cons_succ, i64_w, i32_w]
          rfl
         exact norm_ (by simp only [putAll, Act.put, List.setIfInBounds_toArray, List.set_cons_zero, List.set_cons_succ] <;> rfl) (hJ1_3_9_10 (gb233, gb234) _ ⟨hHeld, (XSq.bq BK198), (XSq.bq BK199), (XSq.bq BK216), (XSq.bq BK217), (XSq.bq BK233), (XSq.bq BK234), GW233.out, GE233.out, NB198_233.out, NB233_198.out, NB199_233.out, NB233_199.out, NB216_233.out, NB233_216.out, NB217_233.out, NB233_217.out, NB234_233.out, NB233_234.out, GW234.out, GE234.out, NB198_234.out, NB234_198.out, NB199_234.out, NB234_199.out, NB216_234.out, NB234_216.out, NB217_234.out, NB234_217.out, (XSq.bB HB)⟩)
      case f21 =>
       ·
        rintro gb233 w45 ⟨hS_, h0_, h1_, h2_, h3_, h4_, h5_, h6_, h7_, h8_, h9_, h10_, h11_, h12_, h13_, h14_, h15_⟩
        replace BK198 : Aside0 (w45.heap[gb198]? = some (.cells #[.int .i64 a0_0, .int .i64 a0_1, .string a0_2, .bool a0_3] 23 (0, 0))) := ⟨h0_⟩
        replace BK199 : Aside0 (w45.heap[gb199]? = some (.cells #[.int .i64 a1_0, .int .i64 a1_1, .int .i64 a1_2] 25 (0, 0))) := ⟨h1_⟩
        replace BK216 : Aside0 (w45.heap[gb216]? = some (.cells #[.int .i64 t208, .int .i64 t209, .string t210, .bool t211] 27 (0, 0))) := ⟨h2_⟩
        replace BK217 : Aside0 (w45.heap[gb217]? = some (.cells #[.int .i64 t212, .int .i64 t213, .int .i64 t214] 28 (0, 0))) := ⟨h3_⟩
        have BK233 : Aside0 (w45.heap[gb233]? = some (.cells #[.int .i64 0, .int .i64 0, .string (⟨#[]⟩ : ByteArray), .bool false] 27 (0, 0))) := ⟨h4_⟩
        have GW233 : Aside0 (w.heap.size ≤ gb233) := ⟨h5_⟩
        have GE233 : Aside0 (w.heap.size ≤ gb233) := ⟨h6_⟩
        have NB198_233 : Aside0 (gb198 ≠ gb233) := ⟨h7_⟩
        have NB233_198 : Aside0 (gb233 ≠ gb198) := ⟨h8_⟩
        have NB199_233 : Aside0 (gb199 ≠ gb233) := ⟨h9_⟩
        have NB233_199 : Aside0 (gb233 ≠ gb199) := ⟨h10_⟩
        have NB216_233 : Aside0 (gb216 ≠ gb233) := ⟨h11_⟩
        have NB233_216 : Aside0 (gb233 ≠ gb216) := ⟨h12_⟩
        have NB217_233 : Aside0 (gb217 ≠ gb233) := ⟨h13_⟩
        have NB233_217 : Aside0 (gb233 ≠ gb217) := ⟨h14_⟩
        replace HB : Aside0 (Below w.heap.size w w45) := ⟨h15_⟩
        clear h0_ h1_ h2_ h3_ h4_ h5_ h6_ h7_ h8_ h9_ h10_ h11_ h12_ h13_ h14_ h15_
        have hHeld : w45.cell? ⟨gb198, 0, none⟩ = some (.int .i64 a0_0) ∧ w45.cell? ⟨gb198, 1, none⟩ = some (.int .i64 a0_1) ∧ w45.cell? ⟨gb198, 2, none⟩ = some (.string a0_2) ∧ w45.cell? ⟨gb198, 3, none⟩ = some (.bool a0_3) ∧ w45.cell? ⟨gb199, 0, none⟩ = some (.int .i64 a1_0) ∧ w45.cell? ⟨gb199, 1, none⟩ = some (.int .i64 a1_1) ∧ w45.cell? ⟨gb199, 2, none⟩ = some (.int .i64 a1_2) := hS_
        refine norm_ (a' := ?_) ?_ ?_
        rotate_left
        ·
         simp only [putAll, Act.put, List.setIfInBounds_toArray, List.set_cons_zero, List.set_cons_succ]
         rfl
        refine two_ (i := 4) (j := 10) (Ni := some 31) (Nj := some 10) #[true, true, true, true, true, false, false, false, false, true, false, false, false, false] #[true, true, true, true, false, false, false, false, false, true, true, false, false, false] rfl rfl rfl rfl (two_of HT_.out (by kernel_rfl)) (by decide) (by decide) (fun K hK => ?_) (fun K hK => ?_)
        ·
         refine goes_ Tryd.func11 (by kernel_rfl) rfl #[.agg #[.int .i64 t218, .int .i64 t219, .string t220, .bool t221], .agg #[.int .i64 t222, .int .i64 t223, .int .i64 t224]] (by rfl) rfl rfl (by (try simp only [List.map_toArray, List.map_cons, List.map_nil]); first | done | rfl | (simp only [List.length_drop, List.length_take]; rfl)) ?_
         with_reducible refine (impl_HitCell.calls k t218 t219 t220 t221 t222 t223 t224 t225 t226 t227 t228 t229 t230 t231 t232 _ A15.out).mono ?_
         rintro e w46 ⟨rfl, hb⟩
         refine ⟨_, rfl, ?_⟩
         replace BK198 := XSq.bb BK198 hb
         replace BK199 := XSq.bb BK199 hb
         replace BK216 := XSq.bb BK216 hb
         replace BK217 := XSq.bb BK217 hb
         replace BK233 := Aside0.mk (blk_below (g := gb233) (o := .cells #[.int .i64 0, .int .i64 0, .string (⟨#[]⟩ : ByteArray), .bool false] 27 (0, 0)) (XSq.bq BK233) hb)
         replace HB := Aside0.mk (below_step (XSq.bB HB) hb)
         clear hb
         refine hK.out _ _ (laws_FnExactHitCell.cs BK198.out BK199.out) (fun hHeld => ?_)
         clear hK K
         refine norm_ (a' := ?_) ?_ ?_
         rotate_left
         ·
          show Act.put _ (some 31) _ = _
          simp only [Act.put, List.setIfInBounds_toArray, List.set_cons_zero, List.set_cons_succ, i64_w, i32_w]
          rfl
         refine pure_ (i := 5) (N := some 26) (v := ?_) (a' := ?_) #[true, true, true, true, true, true, false, false, false, true, false, false, false, false] rfl rfl (any_of HT_.out (by kernel_rfl)) (fun _ _ _ h => h) (Or.inl ⟨by rfl, ?_⟩) ?_ ?_
         rotate_left
         ·
          intro w'
          go_simp
          with_reducible rfl
         rotate_left
         ·
          simp only [Act.put, List.setIfInBounds_toArray, List.set_cons_zero, List.set_cons_succ, i64_w, i32_w]
          rfl
         refine pure_ (i := 6) (N := some 32) (v := ?_) (a' := ?_) #[true, true, true, true, true, true, true, false, false, true, false, false, false, false] rfl rfl (any_of HT_.out (by kernel_rfl)) (fun _ _ _ h => h) (Or.inl ⟨by rfl, ?_⟩) ?_ ?_
         rotate_left
         ·
          intro w'
          go_simp
          with_reducible rfl
         rotate_left
         ·
          simp only [Act.put, List.setIfInBounds_toArray, List.set_cons_zero, List.set_cons_succ, i64_w, i32_w]
          rfl
         refine pure_ (i := 7) (N := some 33) (v := ?_) (a' := ?_) #[true, true, true, true, true, true, true, true, false, true, false, false, false, false] rfl rfl (any_of HT_.out (by kernel_rfl)) (fun _ _ _ h => h) (Or.inl ⟨by rfl, ?_⟩) ?_ ?_
         rotate_left
         ·
          intro w'
          go_simp
          with_reducible rfl
         rotate_left
         ·
          simp only [Act.put, List.setIfInBounds_toArray, List.set_cons_zero, List.set_cons_succ, i64_w, i32_w]
          rfl
         refine pure_ (i := 8) (N := some 34) (v := ?_) (a' := ?_) #[true, true, true, true, true, true, true, true, true, true, false, false, false, false] rfl rfl (any_of HT_.out (by kernel_rfl)) (fun _ _ _ h => h) (Or.inl ⟨by rfl, ?_⟩) ?_ ?_
         rotate_left
         ·
          intro w'
          go_simp
          with_reducible rfl
         rotate_left
         ·
          simp only [Act.put, List.setIfInBounds_toArray, List.set_cons_zero, List.set_cons_succ, i64_w, i32_w]
          rfl
         exact norm_ (by simp only [putAll, Act.put, List.setIfInBounds_toArray, List.set_cons_zero, List.set_cons_succ] <;> rfl) (hJ1_3_4_9 (gb233) _ ⟨hHeld, (XSq.bq BK198), (XSq.bq BK199), (XSq.bq BK216), (XSq.bq BK217), (XSq.bq BK233), GW233.out, GE233.out, NB198_233.out, NB233_198.out, NB199_233.out, NB233_199.out, NB216_233.out, NB233_216.out, NB217_233.out, NB233_217.out, (XSq.bB HB)⟩)
        ·
         refine box_step ?hg (N := 10) ?hd (cs := #[.int .i64 0, .int .i64 0, .int .i64 0]) (t := 28) ?hr ?_; (case hd => rfl); (case hg => rfl); (case hr => first | (go_simp; done) | (go_simp; rfl))
         intro gb234 hg w46 hbox hb
         have BK234 := Aside0.mk (hbox)
         have GW234 := XSq.gw hg (XSq.bB HB)
         have GE234 := XSq.gw hg (XSq.bB HB)
         have NB198_234 := XSq.nl hg (XSq.bq BK198)
         have NB234_198 := XSq.nr hg (XSq.bq BK198)
         have NB199_234 := XSq.nl hg (XSq.bq BK199)
         have NB234_199 := XSq.nr hg (XSq.bq BK199)
         have NB216_234 := XSq.nl hg (XSq.bq BK216)
         have NB234_216 := XSq.nr hg (XSq.bq BK216)
         have NB217_234 := XSq.nl hg (XSq.bq BK217)
         have NB234_217 := XSq.nr hg (XSq.bq BK217)
         have NB233_234 := Aside0.mk ((by rw [hg]; exact Nat.ne_of_lt (blk_lt (g := gb233) (o := .cells #[.int .i64 0, .int .i64 0, .string (⟨#[]⟩ : ByteArray), .bool false] 27 (0, 0)) (XSq.bq BK233)) : gb233 ≠ gb234))
         have NB234_233 := Aside0.mk ((by rw [hg]; exact Nat.ne_of_gt (blk_lt (g := gb233) (o := .cells #[.int .i64 0, .int .i64 0, .string (⟨#[]⟩ : ByteArray), .bool false] 27 (0, 0)) (XSq.bq BK233)) : gb234 ≠ gb233))
         replace BK198 := XSq.bb BK198 hb
         replace BK199 := XSq.bb BK199 hb
         replace BK216 := XSq.bb BK216 hb
         replace BK217 := XSq.bb BK217 hb
         replace BK233 := Aside0.mk (blk_below (g := gb233) (o := .cells #[.int .i64 0, .int .i64 0, .string (⟨#[]⟩ : ByteArray), .bool false] 27 (0, 0)) (XSq.bq BK233) hb)
         replace HB := Aside0.mk (below_step (XSq.bB HB) hb)
         clear hb hbox hg
         refine hK.out _ _ (laws_FnExactHitCell.cs BK198.out BK199.out) (fun hHeld => ?_)
         clear hK K
         refine norm_ (a' := ?_) ?_ ?_
         rotate_left
         ·
          show Act.put _ (some 10) _ = _
          simp only [Act.put, List.setIfInBounds_toArray, List.set_cons_zero, List.set_cons_succ, i64_w, i32_w]
          rfl
         exact norm_ (by simp only [putAll, Act.put, List.setIfInBounds_toArray, List.set_cons_zero, List.set_cons_succ] <;> rfl) (hJ1_3_9_10 (gb233, gb234) _ ⟨hHeld, (XSq.bq BK198), (XSq.bq BK199), (XSq.bq BK216), (XSq.bq BK217), (XSq.bq BK233), (XSq.bq BK234), GW233.out, GE233.out, NB198_233.out, NB233_198.out, NB199_233.out, NB233_199.out, NB216_233.out, NB233_216.out, NB217_233.out, NB233_217.out, NB234_233.out, NB233_234.out, GW234.out, GE234.out, NB198_234.out, NB234_198.out, NB199_234.out, NB234_199.out, NB216_234.out, NB234_216.out, NB217_234.out, NB234_217.out, (XSq.bB HB)⟩)
      case f20 =>
       ·
        rintro _ w45 ⟨hS_, h0_, h1_, h2_, h3_, h4_⟩
        replace BK198 : Aside0 (w45.heap[gb198]? = some (.cells #[.int .i64 a0_0, .int .i64 a0_1, .string a0_2, .bool a0_3] 23 (0, 0))) := ⟨h0_⟩
        replace BK199 : Aside0 (w45.heap[gb199]? = some (.cells #[.int .i64 a1_0, .int .i64 a1_1, .int .i64 a1_2] 25 (0, 0))) := ⟨h1_⟩
        replace BK216 : Aside0 (w45.heap[gb216]? = some (.cells #[.int .i64 t208, .int .i64 t209, .string t210, .bool t211] 27 (0, 0))) := ⟨h2_⟩
        replace BK217 : Aside0 (w45.heap[gb217]? = some (.cells #[.int .i64 t212, .int .i64 t213, .int .i64 t214] 28 (0, 0))) := ⟨h3_⟩
        replace HB : Aside0 (Below w.heap.size w w45) := ⟨h4_⟩
        clear h0_ h1_ h2_ h3_ h4_
        have hHeld : w45.cell? ⟨gb198, 0, none⟩ = some (.int .i64 a0_0) ∧ w45.cell? ⟨gb198, 1, none⟩ = some (.int .i64 a0_1) ∧ w45.cell? ⟨gb198, 2, none⟩ = some (.string a0_2) ∧ w45.cell? ⟨gb198, 3, none⟩ = some (.bool a0_3) ∧ w45.cell? ⟨gb199, 0, none⟩ = some (.int .i64 a1_0) ∧ w45.cell? ⟨gb199, 1, none⟩ = some (.int .i64 a1_1) ∧ w45.cell? ⟨gb199, 2, none⟩ = some (.int .i64 a1_2) := hS_
        refine norm_ (a' := ?_) ?_ ?_
        rotate_left
        ·
         simp only [putAll, Act.put, List.setIfInBounds_toArray, List.set_cons_zero, List.set_cons_succ]
         rfl
        refine two_ (i := 9) (j := 10) (Ni := some 9) (Nj := some 10) #[true, true, true, true, true, true, true, true, true, true, false, false, false, false] #[true, true, true, true, true, true, true, true, true, false, true, false, false, false] rfl rfl rfl rfl (two_of HT_.out (by kernel_rfl)) (by decide) (by decide) (fun K hK => ?_) (fun K hK => ?_)
        ·
         refine box_step ?hg (N := 9) ?hd (cs := #[.int .i64 0, .int .i64 0, .string (⟨#[]⟩ : ByteArray), .bool false]) (t := 27) ?hr ?_; (case hd => rfl); (case hg => rfl); (case hr => first | (go_simp; done) | (go_simp; rfl))
         intro gb233 hg w46 hbox hb
         have BK233 := Aside0.mk (hbox)
         have GW233 := XSq.gw hg (XSq.bB HB)
         have GE233 := XSq.gw hg (XSq.bB HB)
         have NB198_233 := XSq.nl hg (XSq.bq BK198)
         have NB233_198 := XSq.nr hg (XSq.bq BK198)
         have NB199_233 := XSq.nl hg (XSq.bq BK199)
         have NB233_199 := XSq.nr hg (XSq.bq BK199)
         have NB216_233 := XSq.nl hg (XSq.bq BK216)
         have NB233_216 := XSq.nr hg (XSq.bq BK216)
         have NB217_233 := XSq.nl hg (XSq.bq BK217)
         have NB233_217 := XSq.nr hg (XSq.bq BK217)
         replace BK198 := XSq.bb BK198 hb
         replace BK199 := XSq.bb BK199 hb
         replace BK216 := XSq.bb BK216 hb
         replace BK217 := XSq.bb BK217 hb
         replace HB := Aside0.mk (below_step (XSq.bB HB) hb)
         clear hb hbox hg
         refine hK.out _ _ (laws_FnExactHitCell.cs BK198.out BK199.out) (fun hHeld => ?_)
         clear hK K
         refine norm_ (a' := ?_) ?_ ?_
         rotate_left
         ·
          show Act.put _ (some 9) _ = _
          simp only [Act.put, List.setIfInBounds_toArray, List.set_cons_zero, List.set_cons_succ, i64_w, i32_w]
          rfl
         exact norm_ (by simp only [putAll, Act.put, List.setIfInBounds_toArray, List.set_cons_zero, List.set_cons_succ] <;> rfl) (hJ1_3_4_9 (gb233) _ ⟨hHeld, (XSq.bq BK198), (XSq.bq BK199), (XSq.bq BK216), (XSq.bq BK217), (XSq.bq BK233), GW233.out, GE233.out, NB198_233.out, NB233_198.out, NB199_233.out, NB233_199.out, NB216_233.out, NB233_216.out, NB217_233.out, NB233_217.out, (XSq.bB HB)⟩)
        ·
         refine box_step ?hg (N := 10) ?hd (cs := #[.int .i64 0, .int .i64 0, .int .i64 0]) (t := 28) ?hr ?_; (case hd => rfl); (case hg => rfl); (case hr => first | (go_simp; done) | (go_simp; rfl))
         intro gb234 hg w46 hbox hb
         have BK234 := Aside0.mk (hbox)
         have GW234 := XSq.gw hg (XSq.bB HB)
         have GE234 := XSq.gw hg (XSq.bB HB)
         have NB198_234 := XSq.nl hg (XSq.bq BK198)
         have NB234_198 := XSq.nr hg (XSq.bq BK198)
         have NB199_234 := XSq.nl hg (XSq.bq BK199)
         have NB234_199 := XSq.nr hg (XSq.bq BK199)
         have NB216_234 := XSq.nl hg (XSq.bq BK216)
         have NB234_216 := XSq.nr hg (XSq.bq BK216)
         have NB217_234 := XSq.nl hg (XSq.bq BK217)
         have NB234_217 := XSq.nr hg (XSq.bq BK217)
         replace BK198 := XSq.bb BK198 hb
         replace BK199 := XSq.bb BK199 hb
         replace BK216 := XSq.bb BK216 hb
         replace BK217 := XSq.bb BK217 hb
         replace HB := Aside0.mk (below_step (XSq.bB HB) hb)
         clear hb hbox hg
         refine hK.out _ _ (laws_FnExactHitCell.cs BK198.out BK199.out) (fun hHeld => ?_)
         clear hK K
         refine norm_ (a' := ?_) ?_ ?_
         rotate_left
         ·
          show Act.put _ (some 10) _ = _
          simp only [Act.put, List.setIfInBounds_toArray, List.set_cons_zero, List.set_cons_succ, i64_w, i32_w]
          rfl
         exact norm_ (by simp only [putAll, Act.put, List.setIfInBounds_toArray, List.set_cons_zero, List.set_cons_succ] <;> rfl) (hJ1_3_4_10 (gb234) _ ⟨hHeld, (XSq.bq BK198), (XSq.bq BK199), (XSq.bq BK216), (XSq.bq BK217), (XSq.bq BK234), GW234.out, GE234.out, NB198_234.out, NB234_198.out, NB199_234.out, NB234_199.out, NB216_234.out, NB234_216.out, NB217_234.out, NB234_217.out, (XSq.bB HB)⟩)
      case f19 =>
       ·
        rintro ⟨gb233, gb234⟩ w46 ⟨hS_, h0_, h1_, h2_, h3_, h4_, h5_, h6_, h7_, h8_, h9_, h10_, h11_, h12_, h13_, h14_, h15_, h16_, h17_, h18_, h19_, h20_, h21_, h22_, h23_, h24_, h25_, h26_, h27_, h28_⟩
        replace BK198 : Aside0 (w46.heap[gb198]? = some (.cells #[.int .i64 a0_0, .int .i64 a0_1, .string a0_2, .bool a0_3] 23 (0, 0))) := ⟨h0_⟩
        replace BK199 : Aside0 (w46.heap[gb199]? = some (.cells #[.int .i64 a1_0, .int .i64 a1_1, .int .i64 a1_2] 25 (0, 0))) := ⟨h1_⟩
        replace BK216 : Aside0 (w46.heap[gb216]? = some (.cells #[.int .i64 t208, .int .i64 t209, .string t210, .bool t211] 27 (0, 0))) := ⟨h2_⟩
        replace BK217 : Aside0 (w46.heap[gb217]? = some (.cells #[.int .i64 t212, .int .i64 t213, .int .i64 t214] 28 (0, 0))) := ⟨h3_⟩
        have BK233 : Aside0 (w46.heap[gb233]? = some (.cells #[.int .i64 0, .int .i64 0, .string (⟨#[]⟩ : ByteArray), .bool false] 27 (0, 0))) := ⟨h4_⟩
        have BK234 : Aside0 (w46.heap[gb234]? = some (.cells #[.int .i64 0, .int .i64 0, .int .i64 0] 28 (0, 0))) := ⟨h5_⟩
        have GW233 : Aside0 (w.heap.size ≤ gb233) := ⟨h6_⟩
        have GE233 : Aside0 (w.heap.size ≤ gb233) := ⟨h7_⟩
        have NB198_233 : Aside0 (gb198 ≠ gb233) := ⟨h8_⟩
        have NB233_198 : Aside0 (gb233 ≠ gb198) := ⟨h9_⟩
        have NB199_233 : Aside0 (gb199 ≠ gb233) := ⟨h10_⟩
        have NB233_199 : Aside0 (gb233 ≠ gb199) := ⟨h11_⟩
        have NB216_233 : Aside0 (gb216 ≠ gb233) := ⟨h12_⟩
        have NB233_216 : Aside0 (gb233 ≠ gb216) := ⟨h13_⟩
        have NB217_233 : Aside0 (gb217 ≠ gb233) := ⟨h14_⟩
        have NB233_217 : Aside0 (gb233 ≠ gb217) := ⟨h15_⟩
        have NB234_233 : Aside0 (gb234 ≠ gb233) := ⟨h16_⟩
        have NB233_234 : Aside0 (gb233 ≠ gb234) := ⟨h17_⟩
        have GW234 : Aside0 (w.heap.size ≤ gb234) := ⟨h18_⟩
        have GE234 : Aside0 (w.heap.size ≤ gb234) := ⟨h19_⟩
        have NB198_234 : Aside0 (gb198 ≠ gb234) := ⟨h20_⟩
        have NB234_198 : Aside0 (gb234 ≠ gb198) := ⟨h21_⟩
        have NB199_234 : Aside0 (gb199 ≠ gb234) := ⟨h22_⟩
        have NB234_199 : Aside0 (gb234 ≠ gb199) := ⟨h23_⟩
        have NB216_234 : Aside0 (gb216 ≠ gb234) := ⟨h24_⟩
        have NB234_216 : Aside0 (gb234 ≠ gb216) := ⟨h25_⟩
        have NB217_234 : Aside0 (gb217 ≠ gb234) := ⟨h26_⟩
        have NB234_217 : Aside0 (gb234 ≠ gb217) := ⟨h27_⟩
        replace HB : Aside0 (Below w.heap.size w w46) := ⟨h28_⟩
        clear h0_ h1_ h2_ h3_ h4_ h5_ h6_ h7_ h8_ h9_ h10_ h11_ h12_ h13_ h14_ h15_ h16_ h17_ h18_ h19_ h20_ h21_ h22_ h23_ h24_ h25_ h26_ h27_ h28_
        have hHeld : w46.cell? ⟨gb198, 0, none⟩ = some (.int .i64 a0_0) ∧ w46.cell? ⟨gb198, 1, none⟩ = some (.int .i64 a0_1) ∧ w46.cell? ⟨gb198, 2, none⟩ = some (.string a0_2) ∧ w46.cell? ⟨gb198, 3, none⟩ = some (.bool a0_3) ∧ w46.cell? ⟨gb199, 0, none⟩ = some (.int .i64 a1_0) ∧ w46.cell? ⟨gb199, 1, none⟩ = some (.int .i64 a1_1) ∧ w46.cell? ⟨gb199, 2, none⟩ = some (.int .i64 a1_2) := hS_
        refine norm_ (a' := ?_) ?_ ?_
        rotate_left
        ·
         simp only [putAll, Act.put, List.setIfInBounds_toArray, List.set_cons_zero, List.set_cons_succ]
         rfl
        refine one_ (i := 4) (N := some 31) #[true, true, true, true, true, false, false, false, false, true, true, false, false, false] rfl rfl (one_of HT_.out (by kernel_rfl)) (by decide) (fun K hK => ?_)
        refine goes_ Tryd.func11 (by kernel_rfl) rfl #[.agg #[.int .i64 t218, .int .i64 t219, .string t220, .bool t221], .agg #[.int .i64 t222, .int .i64 t223, .int .i64 t224]] (by rfl) rfl rfl (by (try simp only [List.map_toArray, List.map_cons, List.map_nil]); first | done | rfl | (simp only [List.length_drop, List.length_take]; rfl)) ?_
        with_reducible refine (impl_HitCell.calls k t218 t219 t220 t221 t222 t223 t224 t225 t226 t227 t228 t229 t230 t231 t232 _ A15.out).mono ?_
        rintro e w47 ⟨rfl, hb⟩
        refine ⟨_, rfl, ?_⟩
        replace BK198 := XSq.bb BK198 hb
        replace BK199 := XSq.bb BK199 hb
        replace BK216 := XSq.bb BK216 hb
        replace BK217 := XSq.bb BK217 hb
        replace BK233 := Aside0.mk (blk_below (g := gb233) (o := .cells #[.int .i64 0, .int .i64 0, .string (⟨#[]⟩ : ByteArray), .bool false] 27 (0, 0)) (XSq.bq BK233) hb)
        replace BK234 := XSq.bb BK234 hb
        replace HB := Aside0.mk (below_step (XSq.bB HB) hb)
        clear hb
        refine hK.out _ _ (laws_FnExactHitCell.cs BK198.out BK199.out) (fun hHeld => ?_)
        clear hK K
        refine norm_ (a' := ?_) ?_ ?_
        rotate_left
        ·
         show Act.put _ (some 31) _ = _
         simp only [Act.put, List.setIfInBounds_toArray, List.set_cons_zero, List.set_cons_succ, i64_w, i32_w]
         rfl
        refine pure_ (i := 5) (N := some 26) (v := ?_) (a' := ?_) #[true, true, true, true, true, true, false, false, false, true, true, false, false, false] rfl rfl (any_of HT_.out (by kernel_rfl)) (fun _ _ _ h => h) (Or.inl ⟨by rfl, ?_⟩) ?_ ?_
        rotate_left
        ·
         intro w'
         go_simp
         with_reducible rfl
        rotate_left
        ·
         simp only [Act.put, List.setIfInBounds_toArray, List.set_cons_zero, List.set_cons_succ, i64_w, i32_w]
         rfl
        refine pure_ (i := 6) (N := some 32) (v := ?_) (a' := ?_) #[true, true, true, true, true, true, true, false, false, true, true, false, false, false] rfl rfl (any_of HT_.out (by kernel_rfl)) (fun _ _ _ h => h) (Or.inl ⟨by rfl, ?_⟩) ?_ ?_
        rotate_left
        ·
         intro w'
         go_simp
         with_reducible rfl
        rotate_left
        ·
         simp only [Act.put, List.setIfInBounds_toArray, List.set_cons_zero, List.set_cons_succ, i64_w, i32_w]
         rfl
        refine pure_ (i := 7) (N := some 33) (v := ?_) (a' := ?_) #[true, true, true, true, true, true, true, true, false, true, true, false, false, false] rfl rfl (any_of HT_.out (by kernel_rfl)) (fun _ _ _ h => h) (Or.inl ⟨by rfl, ?_⟩) ?_ ?_
        rotate_left
        ·
         intro w'
         go_simp
         with_reducible rfl
        rotate_left
        ·
         simp only [Act.put, List.setIfInBounds_toArray, List.set_cons_zero, List.set_cons_succ, i64_w, i32_w]
         rfl
        refine pure_ (i := 8) (N := some 34) (v := ?_) (a' := ?_) #[true, true, true, true, true, true, true, true, true, true, true, false, false, false] rfl rfl (any_of HT_.out (by kernel_rfl)) (fun _ _ _ h => h) (Or.inl ⟨by rfl, ?_⟩) ?_ ?_
        rotate_left
        ·
         intro w'
         go_simp
         with_reducible rfl
        rotate_left
        ·
         simp only [Act.put, List.setIfInBounds_toArray, List.set_cons_zero, List.set_cons_succ, i64_w, i32_w]
         rfl
        exact norm_ (by simp only [putAll, Act.put, List.setIfInBounds_toArray, List.set_cons_zero, List.set_cons_succ] <;> rfl) (hJ1_3_4_9_10 (gb233, gb234) _ ⟨hHeld, (XSq.bq BK198), (XSq.bq BK199), (XSq.bq BK216), (XSq.bq BK217), (XSq.bq BK233), (XSq.bq BK234), GW233.out, GE233.out, NB198_233.out, NB233_198.out, NB199_233.out, NB233_199.out, NB216_233.out, NB233_216.out, NB217_233.out, NB233_217.out, NB234_233.out, NB233_234.out, GW234.out, GE234.out, NB198_234.out, NB234_198.out, NB199_234.out, NB234_199.out, NB216_234.out, NB234_216.out, NB217_234.out, NB234_217.out, (XSq.bB HB)⟩)
      case f18 =>
       ·
        rintro gb234 w46 ⟨hS_, h0_, h1_, h2_, h3_, h4_, h5_, h6_, h7_, h8_, h9_, h10_, h11_, h12_, h13_, h14_, h15_⟩
        replace BK198 : Aside0 (w46.heap[gb198]? = some (.cells #[.int .i64 a0_0, .int .i64 a0_1, .string a0_2, .bool a0_3] 23 (0, 0))) := ⟨h0_⟩
        replace BK199 : Aside0 (w46.heap[gb199]? = some (.cells #[.int .i64 a1_0, .int .i64 a1_1, .int .i64 a1_2] 25 (0, 0))) := ⟨h1_⟩
        replace BK216 : Aside0 (w46.heap[gb216]? = some (.cells #[.int .i64 t208, .int .i64 t209, .string t210, .bool t211] 27 (0, 0))) := ⟨h2_⟩
        replace BK217 : Aside0 (w46.heap[gb217]? = some (.cells #[.int .i64 t212, .int .i64 t213, .int .i64 t214] 28 (0, 0))) := ⟨h3_⟩
        have BK234 : Aside0 (w46.heap[gb234]? = some (.cells #[.int .i64 0, .int .i64 0, .int .i64 0] 28 (0, 0))) := ⟨h4_⟩
        have GW234 : Aside0 (w.heap.size ≤ gb234) := ⟨h5_⟩
        have GE234 : Aside0 (w.heap.size ≤ gb234) := ⟨h6_⟩
        have NB198_234 : Aside0 (gb198 ≠ gb234) := ⟨h7_⟩
        have NB234_198 : Aside0 (gb234 ≠ gb198) := ⟨h8_⟩
        have NB199_234 : Aside0 (gb199 ≠ gb234) := ⟨h9_⟩
        have NB234_199 : Aside0 (gb234 ≠ gb199) := ⟨h10_⟩
        have NB216_234 : Aside0 (gb216 ≠ gb234) := ⟨h11_⟩
        have NB234_216 : Aside0 (gb234 ≠ gb216) := ⟨h12_⟩
        have NB217_234 : Aside0 (gb217 ≠ gb234) := ⟨h13_⟩
        have NB234_217 : Aside0 (gb234 ≠ gb217) := ⟨h14_⟩
        replace HB : Aside0 (Below w.heap.size w w46) := ⟨h15_⟩
        clear h0_ h1_ h2_ h3_ h4_ h5_ h6_ h7_ h8_ h9_ h10_ h11_ h12_ h13_ h14_ h15_
        have hHeld : w46.cell? ⟨gb198, 0, none⟩ = some (.int .i64 a0_0) ∧ w46.cell? ⟨gb198, 1, none⟩ = some (.int .i64 a0_1) ∧ w46.cell? ⟨gb198, 2, none⟩ = some (.string a0_2) ∧ w46.cell? ⟨gb198, 3, none⟩ = some (.bool a0_3) ∧ w46.cell? ⟨gb199, 0, none⟩ = some (.int .i64 a1_0) ∧ w46.cell? ⟨gb199, 1, none⟩ = some (.int .i64 a1_1) ∧ w46.cell? ⟨gb199, 2, none⟩ = some (.int .i64 a1_2) := hS_
        refine norm_ (a' := ?_) ?_ ?_
        rotate_left
        ·
         simp only [putAll, Act.put, List.setIfInBounds_toArray, List.set_cons_zero, List.set_cons_succ]
         rfl
        refine one_ (i := 9) (N := some 9) #[true, true, true, true, true, true, true, true, true, true, true, false, false, false] rfl rfl (one_of HT_.out (by kernel_rfl)) (by decide) (fun K hK => ?_)
        refine box_step ?hg (N := 9) ?hd (cs := #[.int .i64 0, .int .i64 0, .string (⟨#[]⟩ : ByteArray), .bool false]) (t := 27) ?hr ?_; (case hd => rfl); (case hg => rfl); (case hr => first | (go_simp; done) | (go_simp; rfl))
        intro gb233 hg w47 hbox hb
        have BK233 := Aside0.mk (hbox)
        have GW233 := XSq.gw hg (XSq.bB HB)
        have GE233 := XSq.gw hg (XSq.bB HB)
        have NB198_233 := XSq.nl hg (XSq.bq BK198)
        have NB233_198 := XSq.nr hg (XSq.bq BK198)
        have NB199_233 := XSq.nl hg (XSq.bq BK199)
        have NB233_199 := XSq.nr hg (XSq.bq BK199)
        have NB216_233 := XSq.nl hg (XSq.bq BK216)
        have NB233_216 := XSq.nr hg (XSq.bq BK216)
        have NB217_233 := XSq.nl hg (XSq.bq BK217)
        have NB233_217 := XSq.nr hg (XSq.bq BK217)
        have NB234_233 := XSq.nl hg (XSq.bq BK234)
        have NB233_234 := XSq.nr hg (XSq.bq BK234)
        replace BK198 := XSq.bb BK198 hb
        replace BK199 := XSq.bb BK199 hb
        replace BK216 := XSq.bb BK216 hb
        replace BK217 := XSq.bb BK217 hb
        replace BK234 := XSq.bb BK234 hb
        replace HB := Aside0.mk (below_step (XSq.bB HB) hb)
        clear hb hbox hg
        refine hK.out _ _ (laws_FnExactHitCell.cs BK198.out BK199.out) (fun hHeld => ?_)
        clear hK K
        refine norm_ (a' := ?_) ?_ ?_
        rotate_left
        ·
         show Act.put _ (some 9) _ = _
         simp only [Act.put, List.setIfInBounds_toArray, List.set_cons_zero, List.set_cons_succ, i64_w, i32_w]
         rfl
        exact norm_ (by simp only [putAll, Act.put, List.setIfInBounds_toArray, List.set_cons_zero, List.set_cons_succ] <;> rfl) (hJ1_3_4_9_10 (gb233, gb234) _ ⟨hHeld, (XSq.bq BK198), (XSq.bq BK199), (XSq.bq BK216), (XSq.bq BK217), (XSq.bq BK233), (XSq.bq BK234), GW233.out, GE233.out, NB198_233.out, NB233_198.out, NB199_233.out, NB233_199.out, NB216_233.out, NB233_216.out, NB217_233.out, NB233_217.out, NB234_233.out, NB233_234.out, GW234.out, GE234.out, NB198_234.out, NB234_198.out, NB199_234.out, NB234_199.out, NB216_234.out, NB234_216.out, NB217_234.out, NB234_217.out, (XSq.bB HB)⟩)
      case f17 =>
       ·
        rintro gb233 w46 ⟨hS_, h0_, h1_, h2_, h3_, h4_, h5_, h6_, h7_, h8_, h9_, h10_, h11_, h12_, h13_, h14_, h15_⟩
        replace BK198 : Aside0 (w46.heap[gb198]? = some (.cells #[.int .i64 a0_0, .int .i64 a0_1, .string a0_2, .bool a0_3] 23 (0, 0))) := ⟨h0_⟩
        replace BK199 : Aside0 (w46.heap[gb199]? = some (.cells #[.int .i64 a1_0, .int .i64 a1_1, .int .i64 a1_2] 25 (0, 0))) := ⟨h1_⟩
        replace BK216 : Aside0 (w46.heap[gb216]? = some (.cells #[.int .i64 t208, .int .i64 t209, .string t210, .bool t211] 27 (0, 0))) := ⟨h2_⟩
        replace BK217 : Aside0 (w46.heap[gb217]? = some (.cells #[.int .i64 t212, .int .i64 t213, .int .i64 t214] 28 (0, 0))) := ⟨h3_⟩
        have BK233 : Aside0 (w46.heap[gb233]? = some (.cells #[.int .i64 0, .int .i64 0, .string (⟨#[]⟩ : ByteArray), .bool false] 27 (0, 0))) := ⟨h4_⟩
        have GW233 : Aside0 (w.heap.size ≤ gb233) := ⟨h5_⟩
        have GE233 : Aside0 (w.heap.size ≤ gb233) := ⟨h6_⟩
        have NB198_233 : Aside0 (gb198 ≠ gb233) := ⟨h7_⟩
        have NB233_198 : Aside0 (gb233 ≠ gb198) := ⟨h8_⟩
        have NB199_233 : Aside0 (gb199 ≠ gb233) := ⟨h9_⟩
        have NB233_199 : Aside0 (gb233 ≠ gb199) := ⟨h10_⟩
        have NB216_233 : Aside0 (gb216 ≠ gb233) := ⟨h11_⟩
        have NB233_216 : Aside0 (gb233 ≠ gb216) := ⟨h12_⟩
        have NB217_233 : Aside0 (gb217 ≠ gb233) := ⟨h13_⟩
        have NB233_217 : Aside0 (gb233 ≠ gb217) := ⟨h14_⟩
        replace HB : Aside0 (Below w.heap.size w w46) := ⟨h15_⟩
        clear h0_ h1_ h2_ h3_ h4_ h5_ h6_ h7_ h8_ h9_ h10_ h11_ h12_ h13_ h14_ h15_
        have hHeld : w46.cell? ⟨gb198, 0, none⟩ = some (.int .i64 a0_0) ∧ w46.cell? ⟨gb198, 1, none⟩ = some (.int .i64 a0_1) ∧ w46.cell? ⟨gb198, 2, none⟩ = some (.string a0_2) ∧ w46.cell? ⟨gb198, 3, none⟩ = some (.bool a0_3) ∧ w46.cell? ⟨gb199, 0, none⟩ = some (.int .i64 a1_0) ∧ w46.cell? ⟨gb199, 1, none⟩ = some (.int .i64 a1_1) ∧ w46.cell? ⟨gb199, 2, none⟩ = some (.int .i64 a1_2) := hS_
        refine norm_ (a' := ?_) ?_ ?_
        rotate_left
        ·
         simp only [putAll, Act.put, List.setIfInBounds_toArray, List.set_cons_zero, List.set_cons_succ]
         rfl
        refine one_ (i := 10) (N := some 10) #[true, true, true, true, true, true, true, true, true, true, true, false, false, false] rfl rfl (one_of HT_.out (by kernel_rfl)) (by decide) (fun K hK => ?_)
        refine box_step ?hg (N := 10) ?hd (cs := #[.int .i64 0, .int .i64 0, .int .i64 0]) (t := 28) ?hr ?_; (case hd => rfl); (case hg => rfl); (case hr => first | (go_simp; done) | (go_simp; rfl))
        intro gb234 hg w47 hbox hb
        have BK234 := Aside0.mk (hbox)
        have GW234 := XSq.gw hg (XSq.bB HB)
        have GE234 := XSq.gw hg (XSq.bB HB)
        have NB198_234 := XSq.nl hg (XSq.bq BK198)
        have NB234_198 := XSq.nr hg (XSq.bq BK198)
        have NB199_234 := XSq.nl hg (XSq.bq BK199)
        have NB234_199 := XSq.nr hg (XSq.bq BK199)
        have NB216_234 := XSq.nl hg (XSq.bq BK216)
        have NB234_216 := XSq.nr hg (XSq.bq BK216)
        have NB217_234 := XSq.nl hg (XSq.bq BK217)
        have NB234_217 := XSq.nr hg (XSq.bq BK217)
        have NB233_234 := Aside0.mk ((by rw [hg]; exact Nat.ne_of_lt (blk_lt (g := gb233) (o := .cells #[.int .i64 0, .int .i64 0, .string (⟨#[]⟩ : ByteArray), .bool false] 27 (0, 0)) (XSq.bq BK233)) : gb233 ≠ gb234))
        have NB234_233 := Aside0.mk ((by rw [hg]; exact Nat.ne_of_gt (blk_lt (g := gb233) (o := .cells #[.int .i64 0, .int .i64 0, .string (⟨#[]⟩ : ByteArray), .bool false] 27 (0, 0)) (XSq.bq BK233)) : gb234 ≠ gb233))
        replace BK198 := XSq.bb BK198 hb
        replace BK199 := XSq.bb BK199 hb
        replace BK216 := XSq.bb BK216 hb
        replace BK217 := XSq.bb BK217 hb
        replace BK233 := Aside0.mk (blk_below (g := gb233) (o := .cells #[.int .i64 0, .int .i64 0, .string (⟨#[]⟩ : ByteArray), .bool false] 27 (0, 0)) (XSq.bq BK233) hb)
        replace HB := Aside0.mk (below_step (XSq.bB HB) hb)
        clear hb hbox hg
        refine hK.out _ _ (laws_FnExactHitCell.cs BK198.out BK199.out) (fun hHeld => ?_)
        clear hK K
        refine norm_ (a' := ?_) ?_ ?_
        rotate_left
        ·
         show Act.put _ (some 10) _ = _
         simp only [Act.put, List.setIfInBounds_toArray, List.set_cons_zero, List.set_cons_succ, i64_w, i32_w]
         rfl
        exact norm_ (by simp only [putAll, Act.put, List.setIfInBounds_toArray, List.set_cons_zero, List.set_cons_succ] <;> rfl) (hJ1_3_4_9_10 (gb233, gb234) _ ⟨hHeld, (XSq.bq BK198), (XSq.bq BK199), (XSq.bq BK216), (XSq.bq BK217), (XSq.bq BK233), (XSq.bq BK234), GW233.out, GE233.out, NB198_233.out, NB233_198.out, NB199_233.out, NB233_199.out, NB216_233.out, NB233_216.out, NB217_233.out, NB233_217.out, NB234_233.out, NB233_234.out, GW234.out, GE234.out, NB198_234.out, NB234_198.out, NB199_234.out, NB234_199.out, NB216_234.out, NB234_216.out, NB217_234.out, NB234_217.out, (XSq.bB HB)⟩)
      case f16 =>
       rintro ⟨gb233, gb234⟩ w47 ⟨hS_, h0_, h1_, h2_, h3_, h4_, h5_, h6_, h7_, h8_, h9_, h10_, h11_, h12_, h13_, h14_, h15_, h16_, h17_, h18_, h19_, h20_, h21_, h22_, h23_, h24_, h25_, h26_, h27_, h28_⟩
       replace BK198 : Aside0 (w47.heap[gb198]? = some (.cells #[.int .i64 a0_0, .int .i64 a0_1, .string a0_2, .bool a0_3] 23 (0, 0))) := ⟨h0_⟩
       replace BK199 : Aside0 (w47.heap[gb199]? = some (.cells #[.int .i64 a1_0, .int .i64 a1_1, .int .i64 a1_2] 25 (0, 0))) := ⟨h1_⟩
       replace BK216 : Aside0 (w47.heap[gb216]? = some (.cells #[.int .i64 t208, .int .i64 t209, .string t210, .bool t211] 27 (0, 0))) := ⟨h2_⟩
       replace BK217 : Aside0 (w47.heap[gb217]? = some (.cells #[.int .i64 t212, .int .i64 t213, .int .i64 t214] 28 (0, 0))) := ⟨h3_⟩
       have BK233 : Aside0 (w47.heap[gb233]? = some (.cells #[.int .i64 0, .int .i64 0, .string (⟨#[]⟩ : ByteArray), .bool false] 27 (0, 0))) := ⟨h4_⟩
       have BK234 : Aside0 (w47.heap[gb234]? = some (.cells #[.int .i64 0, .int .i64 0, .int .i64 0] 28 (0, 0))) := ⟨h5_⟩
       have GW233 : Aside0 (w.heap.size ≤ gb233) := ⟨h6_⟩
       have GE233 : Aside0 (w.heap.size ≤ gb233) := ⟨h7_⟩
       have NB198_233 : Aside0 (gb198 ≠ gb233) := ⟨h8_⟩
       have NB233_198 : Aside0 (gb233 ≠ gb198) := ⟨h9_⟩
       have NB199_233 : Aside0 (gb199 ≠ gb233) := ⟨h10_⟩
       have NB233_199 : Aside0 (gb233 ≠ gb199) := ⟨h11_⟩
       have NB216_233 : Aside0 (gb216 ≠ gb233) := ⟨h12_⟩
       have NB233_216 : Aside0 (gb233 ≠ gb216) := ⟨h13_⟩
       have NB217_233 : Aside0 (gb217 ≠ gb233) := ⟨h14_⟩
       have NB233_217 : Aside0 (gb233 ≠ gb217) := ⟨h15_⟩
       have NB234_233 : Aside0 (gb234 ≠ gb233) := ⟨h16_⟩
       have NB233_234 : Aside0 (gb233 ≠ gb234) := ⟨h17_⟩
       have GW234 : Aside0 (w.heap.size ≤ gb234) := ⟨h18_⟩
       have GE234 : Aside0 (w.heap.size ≤ gb234) := ⟨h19_⟩
       have NB198_234 : Aside0 (gb198 ≠ gb234) := ⟨h20_⟩
       have NB234_198 : Aside0 (gb234 ≠ gb198) := ⟨h21_⟩
       have NB199_234 : Aside0 (gb199 ≠ gb234) := ⟨h22_⟩
       have NB234_199 : Aside0 (gb234 ≠ gb199) := ⟨h23_⟩
       have NB216_234 : Aside0 (gb216 ≠ gb234) := ⟨h24_⟩
       have NB234_216 : Aside0 (gb234 ≠ gb216) := ⟨h25_⟩
       have NB217_234 : Aside0 (gb217 ≠ gb234) := ⟨h26_⟩
       have NB234_217 : Aside0 (gb234 ≠ gb217) := ⟨h27_⟩
       replace HB : Aside0 (Below w.heap.size w w47) := ⟨h28_⟩
       clear h0_ h1_ h2_ h3_ h4_ h5_ h6_ h7_ h8_ h9_ h10_ h11_ h12_ h13_ h14_ h15_ h16_ h17_ h18_ h19_ h20_ h21_ h22_ h23_ h24_ h25_ h26_ h27_ h28_
       have hHeld : w47.cell? ⟨gb198, 0, none⟩ = some (.int .i64 a0_0) ∧ w47.cell? ⟨gb198, 1, none⟩ = some (.int .i64 a0_1) ∧ w47.cell? ⟨gb198, 2, none⟩ = some (.string a0_2) ∧ w47.cell? ⟨gb198, 3, none⟩ = some (.bool a0_3) ∧ w47.cell? ⟨gb199, 0, none⟩ = some (.int .i64 a1_0) ∧ w47.cell? ⟨gb199, 1, none⟩ = some (.int .i64 a1_1) ∧ w47.cell? ⟨gb199, 2, none⟩ = some (.int .i64 a1_2) := hS_
       refine norm_ (a' := ?_) ?_ ?_
       rotate_left
       ·
        simp only [putAll, Act.put, List.setIfInBounds_toArray, List.set_cons_zero, List.set_cons_succ]
        rfl
       refine one_ (i := 11) (N := none) #[true, true, true, true, true, true, true, true, true, true, true, true, false, false] rfl rfl (one_of HT_.out (by kernel_rfl)) (by decide) (fun K hK => ?_)
       have hs48 : w47.cell? ⟨gb233, 0, none⟩ = some (.int .i64 0) := (blk_cell BK233.out 0).trans rfl
       have hfs48 := blk_frozen BK233.out 0
       have hns48_0 := NB198_233.out
       have hns48_1 := NB199_233.out
       have hns48_2 := NB216_233.out
       have hns48_3 := NB217_233.out
       have hns48_5 := NB234_233.out
       have hms48_0 := NB233_198.out
       have hms48_1 := NB233_199.out
       have hms48_2 := NB233_216.out
       have hms48_3 := NB233_217.out
       have hms48_5 := NB233_234.out
       have hs49 : w47.cell? ⟨gb233, 1, none⟩ = some (.int .i64 0) := (blk_cell BK233.out 1).trans rfl
       have hfs49 := blk_frozen BK233.out 1
       have hns49_0 := NB198_233.out
       have hns49_1 := NB199_233.out
       have hns49_2 := NB216_233.out
       have hns49_3 := NB217_233.out
       have hns49_5 := NB234_233.out
       have hms49_0 := NB233_198.out
       have hms49_1 := NB233_199.out
       have hms49_2 := NB233_216.out
       have hms49_3 := NB233_217.out
       have hms49_5 := NB233_234.out
       have hs50 : w47.cell? ⟨gb233, 2, none⟩ = some (.string (⟨#[]⟩ : ByteArray)) := (blk_cell BK233.out 2).trans rfl
       have hfs50 := blk_frozen BK233.out 2
       have hns50_0 := NB198_233.out
       have hns50_1 := NB199_233.out
       have hns50_2 := NB216_233.out
       have hns50_3 := NB217_233.out
       have hns50_5 := NB234_233.out
       have hms50_0 := NB233_198.out
       have hms50_1 := NB233_199.out
       have hms50_2 := NB233_216.out
       have hms50_3 := NB233_217.out
       have hms50_5 := NB233_234.out
       have hs51 : w47.cell? ⟨gb233, 3, none⟩ = some (.bool false) := (blk_cell BK233.out 3).trans rfl
       have hfs51 := blk_frozen BK233.out 3
       have hns51_0 := NB198_233.out
       have hns51_1 := NB199_233.out
       have hns51_2 := NB216_233.out
       have hns51_3 := NB217_233.out
       have hns51_5 := NB234_233.out
       have hms51_0 := NB233_198.out
       have hms51_1 := NB233_199.out
       have hms51_2 := NB233_216.out
       have hms51_3 := NB233_217.out
       have hms51_5 := NB233_234.out
       refine skip_ (w1 := ?_) (by rfl) rfl ?_ ?_
       rotate_left
       ·
        go_simp
        rfl
       refine hK.out _ _ ⟨((cell_far (p := ⟨gb233, _, none⟩) NB198_233.out _).trans (((cell_far (p := ⟨gb233, _, none⟩) NB198_233.out _).trans (((cell_far (p := ⟨gb233, _, none⟩) NB198_233.out _).trans (((cell_far (p := ⟨gb233, _, none⟩) NB198_233.out _).trans (hHeld.1)))))))), ((cell_far (p := ⟨gb233, _, none⟩) NB198_233.out _).trans (((cell_far (p := ⟨gb233, _, none⟩) NB198_233.out _).trans (((cell_far (p := ⟨gb233, _, none⟩) NB198_233.out _).trans (((cell_far (p := ⟨gb233, _, none⟩) NB198_233.out _).trans (hHeld.2.1)))))))), ((cell_far (p := ⟨gb233, _, none⟩) NB198_233.out _).trans (((cell_far (p := ⟨gb233, _, none⟩) NB198_233.out _).trans (((cell_far (p := ⟨gb233, _, none⟩) NB198_233.out _).trans (((cell_far (p := ⟨gb233, _, none⟩) NB198_233.out _).trans (hHeld.2.2.1)))))))), ((cell_far (p := ⟨gb233, _, none⟩) NB198_233.out _).trans (((cell_far (p := ⟨gb233, _, none⟩) NB198_233.out _).trans (((cell_far (p := ⟨gb233, _, none⟩) NB198_233.out _).trans (((cell_far (p := ⟨gb233, _, none⟩) NB198_233.out _).trans (hHeld.2.2.2.1)))))))), ((cell_far (p := ⟨gb233, _, none⟩) NB199_233.out _).trans (((cell_far (p := ⟨gb233, _, none⟩) NB199_233.out _).trans (((cell_far (p := ⟨gb233, _, none⟩) NB199_233.out _).trans (((cell_far (p := ⟨gb233, _, none⟩) NB199_233.out _).trans (hHeld.2.2.2.2.1)))))))), ((cell_far (p := ⟨gb233, _, none⟩) NB199_233.out _).trans (((cell_far (p := ⟨gb233, _, none⟩) NB199_233.out _).trans (((cell_far (p := ⟨gb233, _, none⟩) NB199_233.out _).trans (((cell_far (p := ⟨gb233, _, none⟩) NB199_233.out _).trans (hHeld.2.2.2.2.2.1)))))))), ((cell_far (p := ⟨gb233, _, none⟩) NB199_233.out _).trans (((cell_far (p := ⟨gb233, _, none⟩) NB199_233.out _).trans (((cell_far (p := ⟨gb233, _, none⟩) NB199_233.out _).trans (((cell_far (p := ⟨gb233, _, none⟩) NB199_233.out _).trans (hHeld.2.2.2.2.2.2))))))))⟩ (fun hHeld => ?_)
       clear hK K
       refine one_ (i := 12) (N := none) #[true, true, true, true, true, true, true, true, true, true, true, true, true, false] rfl rfl (one_of HT_.out (by kernel_rfl)) (by decide) (fun K hK => ?_)
       have hs52 : w47.cell? ⟨gb234, 0, none⟩ = some (.int .i64 0) := (blk_cell BK234.out 0).trans rfl
       have hfs52 := blk_frozen BK234.out 0
       have hns52_0 := NB198_234.out
       have hns52_1 := NB199_234.out
       have hns52_2 := NB216_234.out
       have hns52_3 := NB217_234.out
       have hns52_4 := NB233_234.out
       have hms52_0 := NB234_198.out
       have hms52_1 := NB234_199.out
       have hms52_2 := NB234_216.out
       have hms52_3 := NB234_217.out
       have hms52_4 := NB234_233.out
       have hs53 : w47.cell? ⟨gb234, 1, none⟩ = some (.int .i64 0) := (blk_cell BK234.out 1).trans rfl
       have hfs53 := blk_frozen BK234.out 1
       have hns53_0 := NB198_234.out
       have hns53_1 := NB199_234.out
       have hns53_2 := NB216_234.out
       have hns53_3 := NB217_234.out
       have hns53_4 := NB233_234.out
       have hms53_0 := NB234_198.out
       have hms53_1 := NB234_199.out
       have hms53_2 := NB234_216.out
       have hms53_3 := NB234_217.out
       have hms53_4 := NB234_233.out
       have hs54 : w47.cell? ⟨gb234, 2, none⟩ = some (.int .i64 0) := (blk_cell BK234.out 2).trans rfl
       have hfs54 := blk_frozen BK234.out 2
       have hns54_0 := NB198_234.out
       have hns54_1 := NB199_234.out
       have hns54_2 := NB216_234.out
       have hns54_3 := NB217_234.out
       have hns54_4 := NB233_234.out
       have hms54_0 := NB234_198.out
       have hms54_1 := NB234_199.out
       have hms54_2 := NB234_216.out
       have hms54_3 := NB234_217.out
       have hms54_4 := NB234_233.out
       refine skip_ (w1 := ?_) (by rfl) rfl ?_ ?_
       rotate_left
       ·
        go_simp
        rfl
       refine hK.out _ _ ⟨((cell_far (p := ⟨gb234, _, none⟩) NB198_234.out _).trans (((cell_far (p := ⟨gb234, _, none⟩) NB198_234.out _).trans (((cell_far (p := ⟨gb234, _, none⟩) NB198_234.out _).trans (hHeld.1)))))), ((cell_far (p := ⟨gb234, _, none⟩) NB198_234.out _).trans (((cell_far (p := ⟨gb234, _, none⟩) NB198_234.out _).trans (((cell_far (p := ⟨gb234, _, none⟩) NB198_234.out _).trans (hHeld.2.1)))))), ((cell_far (p := ⟨gb234, _, none⟩) NB198_234.out _).trans (((cell_far (p := ⟨gb234, _, none⟩) NB198_234.out _).trans (((cell_far (p := ⟨gb234, _, none⟩) NB198_234.out _).trans (hHeld.2.2.1)))))), ((cell_far (p := ⟨gb234, _, none⟩) NB198_234.out _).trans (((cell_far (p := ⟨gb234, _, none⟩) NB198_234.out _).trans (((cell_far (p := ⟨gb234, _, none⟩) NB198_234.out _).trans (hHeld.2.2.2.1)))))), ((cell_far (p := ⟨gb234, _, none⟩) NB199_234.out _).trans (((cell_far (p := ⟨gb234, _, none⟩) NB199_234.out _).trans (((cell_far (p := ⟨gb234, _, none⟩) NB199_234.out _).trans (hHeld.2.2.2.2.1)))))), ((cell_far (p := ⟨gb234, _, none⟩) NB199_234.out _).trans (((cell_far (p := ⟨gb234, _, none⟩) NB199_234.out _).trans (((cell_far (p := ⟨gb234, _, none⟩) NB199_234.out _).trans (hHeld.2.2.2.2.2.1)))))), ((cell_far (p := ⟨gb234, _, none⟩) NB199_234.out _).trans (((cell_far (p := ⟨gb234, _, none⟩) NB199_234.out _).trans (((cell_far (p := ⟨gb234, _, none⟩) NB199_234.out _).trans (hHeld.2.2.2.2.2.2))))))⟩ (fun hHeld => ?_)
       clear hK K
       refine pure_ (i := 13) (N := some 11) (v := ?_) (a' := ?_) #[true, true, true, true, true, true, true, true, true, true, true, true, true, true] rfl rfl (any_of HT_.out (by kernel_rfl)) (fun _ _ _ h => h) (Or.inl ⟨by rfl, ?_⟩) ?_ ?_
       rotate_left
       ·
        intro w'
        go_simp
        with_reducible rfl
       rotate_left
       ·
        simp only [Act.put, List.setIfInBounds_toArray, List.set_cons_zero, List.set_cons_succ, i64_w, i32_w]
        rfl
       refine done_ (done_of HT_.out (by kernel_rfl)) ?_
       have hnb55 := NB233_198.out
       have hnc55 := NB198_233.out
       have hnb56 := NB233_199.out
       have hnc56 := NB199_233.out
       have hnb57 := NB233_216.out
       have hnc57 := NB216_233.out
       have hnb58 := NB233_217.out
       have hnc58 := NB217_233.out
       have hnb59 := NB233_234.out
       have hnc59 := NB234_233.out
       have hcz60_0 : w47.cell? ⟨gb233, 0, none⟩ = some (.int .i64 0) := (blk_cell BK233.out 0).trans rfl
       have hcz60_1 : w47.cell? ⟨gb233, 1, none⟩ = some (.int .i64 0) := (blk_cell BK233.out 1).trans rfl
       have hcz60_2 : w47.cell? ⟨gb233, 2, none⟩ = some (.string (⟨#[]⟩ : ByteArray)) := (blk_cell BK233.out 2).trans rfl
       have hcz60_3 : w47.cell? ⟨gb233, 3, none⟩ = some (.bool false) := (blk_cell BK233.out 3).trans rfl
       have hfz60_0 := blk_frozen BK233.out 0
       have hfz60_1 := blk_frozen BK233.out 1
       have hfz60_2 := blk_frozen BK233.out 2
       have hfz60_3 := blk_frozen BK233.out 3
       have hnb61 := NB216_198.out
       have hnc61 := NB198_216.out
       have hnb62 := NB216_199.out
       have hnc62 := NB199_216.out
       have hnb63 := NB216_217.out
       have hnc63 := NB217_216.out
       have hnb64 := NB216_234.out
       have hnc64 := NB234_216.out
       have hcz65_0 : w47.cell? ⟨gb216, 0, none⟩ = some (.int .i64 t208) := (blk_cell BK216.out 0).trans rfl
       have hcz65_1 : w47.cell? ⟨gb216, 1, none⟩ = some (.int .i64 t209) := (blk_cell BK216.out 1).trans rfl
       have hcz65_2 : w47.cell? ⟨gb216, 2, none⟩ = some (.string t210) := (blk_cell BK216.out 2).trans rfl
       have hcz65_3 : w47.cell? ⟨gb216, 3, none⟩ = some (.bool t211) := (blk_cell BK216.out 3).trans rfl
       have hfz65_0 := blk_frozen BK216.out 0
       have hfz65_1 := blk_frozen BK216.out 1
       have hfz65_2 := blk_frozen BK216.out 2
       have hfz65_3 := blk_frozen BK216.out 3
       try go_wp2_with (first | ((with_reducible refine gate_callee (f := 12) rfl ?_); refine goesL_ (some 37) rfl rfl Tryd.func12 (by kernel_rfl) rfl #[.agg #[.int .i64 t225, .int .i64 t226, .string t227, .bool t228], .agg #[.int .i64 t208, .int .i64 t209, .string t210, .bool t211]] rfl (by (try simp only [List.map_toArray, List.map_cons, List.map_nil]); first | done | rfl | (simp only [List.length_drop, List.length_take]; rfl)) ?_; (with_reducible refine (laws_eqMaze.calls t225 t226 t227 t228 t208 t209 t210 t211 true _ A16.out).mono ?_); rintro e w66 ⟨rfl, hb⟩; refine ⟨_, rfl, ?_⟩; have n0_ := Aside0.mk (blk_below (g := gb198) (o := .cells #[.int .i64 a0_0, .int .i64 a0_1, .string a0_2, .bool a0_3] 23 (0, 0)) (by (with_reducible repeat (first | refine blk_drewN ?_ _ | refine blk_drew ?_ | refine blk_alloc ?_ _)); refine blk_far ?_ NB198_234.out _; (with_reducible repeat (first | refine blk_drewN ?_ _ | refine blk_drew ?_ | refine blk_alloc ?_ _)); refine blk_far ?_ NB198_234.out _; (with_reducible repeat (first | refine blk_drewN ?_ _ | refine blk_drew ?_ | refine blk_alloc ?_ _)); refine blk_far ?_ NB198_234.out _; (with_reducible repeat (first | refine blk_drewN ?_ _ | refine blk_drew ?_ | refine blk_alloc ?_ _)); refine blk_far ?_ NB198_233.out _; (with_reducible repeat (first | refine blk_drewN ?_ _ | refine blk_drew ?_ | refine blk_alloc ?_ _)); refine blk_far ?_ NB198_233.out _; (with_reducible repeat (first | refine blk_drewN ?_ _ | refine blk_drew ?_ | refine blk_alloc ?_ _)); refine blk_far ?_ NB198_233.out _; (with_reducible repeat (first | refine blk_drewN ?_ _ | refine blk_drew ?_ | refine blk_alloc ?_ _)); refine blk_far ?_ NB198_233.out _; (with_reducible repeat (first | refine blk_drewN ?_ _ | refine blk_drew ?_ | refine blk_alloc ?_ _)); exact BK198.out) hb); have n1_ := Aside0.mk (blk_below (g := gb199) (o := .cells #[.int .i64 a1_0, .int .i64 a1_1, .int .i64 a1_2] 25 (0, 0)) (by (with_reducible repeat (first | refine blk_drewN ?_ _ | refine blk_drew ?_ | refine blk_alloc ?_ _)); refine blk_far ?_ NB199_234.out _; (with_reducible repeat (first | refine blk_drewN ?_ _ | refine blk_drew ?_ | refine blk_alloc ?_ _)); refine blk_far ?_ NB199_234.out _; (with_reducible repeat (first | refine blk_drewN ?_ _ | refine blk_drew ?_ | refine blk_alloc ?_ _)); refine blk_far ?_ NB199_234.out _; (with_reducible repeat (first | refine blk_drewN ?_ _ | refine blk_drew ?_ | refine blk_alloc ?_ _)); refine blk_far ?_ NB199_233.out _; (with_reducible repeat (first | refine blk_drewN ?_ _ | refine blk_drew ?_ | refine blk_alloc ?_ _)); refine blk_far ?_ NB199_233.out _; (with_reducible repeat (first | refine blk_drewN ?_ _ | refine blk_drew ?_ | refine blk_alloc ?_ _)); refine blk_far ?_ NB199_233.out _; (with_reducible repeat (first | refine blk_drewN ?_ _ | refine blk_drew ?_ | refine blk_alloc ?_ _)); refine blk_far ?_ NB199_233.out _; (with_reducible repeat (first | refine blk_drewN ?_ _ | refine blk_drew ?_ | refine blk_alloc ?_ _)); exact BK199.out) hb); have n2_ := Aside0.mk (blk_below (g := gb216) (o := .cells #[.int .i64 t208, .int .i64 t209, .string t210, .bool t211] 27 (0, 0)) (by (with_reducible repeat (first | refine blk_drewN ?_ _ | refine blk_drew ?_ | refine blk_alloc ?_ _)); refine blk_far ?_ NB216_234.out _; (with_reducible repeat (first | refine blk_drewN ?_ _ | refine blk_drew ?_ | refine blk_alloc ?_ _)); refine blk_far ?_ NB216_234.out _; (with_reducible repeat (first | refine blk_drewN ?_ _ | refine blk_drew ?_ | refine blk_alloc ?_ _)); refine blk_far ?_ NB216_234.out _; (with_reducible repeat (first | refine blk_drewN ?_ _ | refine blk_drew ?_ | refine blk_alloc ?_ _)); refine blk_far ?_ NB216_233.out _; (with_reducible repeat (first | refine blk_drewN ?_ _ | refine blk_drew ?_ | refine blk_alloc ?_ _)); refine blk_far ?_ NB216_233.out _; (with_reducible repeat (first | refine blk_drewN ?_ _ | refine blk_drew ?_ | refine blk_alloc ?_ _)); refine blk_far ?_ NB216_233.out _; (with_reducible repeat (first | refine blk_drewN ?_ _ | refine blk_drew ?_ | refine blk_alloc ?_ _)); refine blk_far ?_ NB216_233.out _; (with_reducible repeat (first | refine blk_drewN ?_ _ | refine blk_drew ?_ | refine blk_alloc ?_ _)); exact BK216.out) hb); have n3_ := Aside0.mk (blk_below (g := gb217) (o := .cells #[.int .i64 t212, .int .i64 t213, .int .i64 t214] 28 (0, 0)) (by (with_reducible repeat (first | refine blk_drewN ?_ _ | refine blk_drew ?_ | refine blk_alloc ?_ _)); refine blk_far ?_ NB217_234.out _; (with_reducible repeat (first | refine blk_drewN ?_ _ | refine blk_drew ?_ | refine blk_alloc ?_ _)); refine blk_far ?_ NB217_234.out _; (with_reducible repeat (first | refine blk_drewN ?_ _ | refine blk_drew ?_ | refine blk_alloc ?_ _)); refine blk_far ?_ NB217_234.out _; (with_reducible repeat (first | refine blk_drewN ?_ _ | refine blk_drew ?_ | refine blk_alloc ?_ _)); refine blk_far ?_ NB217_233.out _; (with_reducible repeat (first | refine blk_drewN ?_ _ | refine blk_drew ?_ | refine blk_alloc ?_ _)); refine blk_far ?_ NB217_233.out _; (with_reducible repeat (first | refine blk_drewN ?_ _ | refine blk_drew ?_ | refine blk_alloc ?_ _)); refine blk_far ?_ NB217_233.out _; (with_reducible repeat (first | refine blk_drewN ?_ _ | refine blk_drew ?_ | refine blk_alloc ?_ _)); refine blk_far ?_ NB217_233.out _; (with_reducible repeat (first | refine blk_drewN ?_ _ | refine blk_drew ?_ | refine blk_alloc ?_ _)); exact BK217.out) hb); have n4_ := Aside0.mk (blk_below (g := gb233) (o := .cells #[.int .i64 t225, .int .i64 t226, .string t227, .bool t228] 27 (0, 0)) (by (with_reducible repeat (first | refine blk_drewN ?_ _ | refine blk_drew ?_ | refine blk_alloc ?_ _)); refine blk_far ?_ NB233_234.out _; (with_reducible repeat (first | refine blk_drewN ?_ _ | refine blk_drew ?_ | refine blk_alloc ?_ _)); refine blk_far ?_ NB233_234.out _; (with_reducible repeat (first | refine blk_drewN ?_ _ | refine blk_drew ?_ | refine blk_alloc ?_ _)); refine blk_far ?_ NB233_234.out _; (with_reducible repeat (first | refine blk_drewN ?_ _ | refine blk_drew ?_ | refine blk_alloc ?_ _)); refine blk_put (cs := #[.int .i64 t225, .int .i64 t226, .string t227, .bool false]) ?_ 3 _ rfl; (with_reducible repeat (first | refine blk_drewN ?_ _ | refine blk_drew ?_ | refine blk_alloc ?_ _)); refine blk_put (cs := #[.int .i64 t225, .int .i64 t226, .string (⟨#[]⟩ : ByteArray), .bool false]) ?_ 2 _ rfl; (with_reducible repeat (first | refine blk_drewN ?_ _ | refine blk_drew ?_ | refine blk_alloc ?_ _)); refine blk_put (cs := #[.int .i64 t225, .int .i64 0, .string (⟨#[]⟩ : ByteArray), .bool false]) ?_ 1 _ rfl; (with_reducible repeat (first | refine blk_drewN ?_ _ | refine blk_drew ?_ | refine blk_alloc ?_ _)); refine blk_put (cs := #[.int .i64 0, .int .i64 0, .string (⟨#[]⟩ : ByteArray), .bool false]) ?_ 0 _ rfl; (with_reducible repeat (first | refine blk_drewN ?_ _ | refine blk_drew ?_ | refine blk_alloc ?_ _)); exact BK233.out) hb); have n5_ := Aside0.mk (blk_below (g := gb234) (o := .cells #[.int .i64 t229, .int .i64 t230, .int .i64 t231] 28 (0, 0)) (by (with_reducible repeat (first | refine blk_drewN ?_ _ | refine blk_drew ?_ | refine blk_alloc ?_ _)); refine blk_put (cs := #[.int .i64 t229, .int .i64 t230, .int .i64 0]) ?_ 2 _ rfl; (with_reducible repeat (first | refine blk_drewN ?_ _ | refine blk_drew ?_ | refine blk_alloc ?_ _)); refine blk_put (cs := #[.int .i64 t229, .int .i64 0, .int .i64 0]) ?_ 1 _ rfl; (with_reducible repeat (first | refine blk_drewN ?_ _ | refine blk_drew ?_ | refine blk_alloc ?_ _)); refine blk_put (cs := #[.int .i64 0, .int .i64 0, .int .i64 0]) ?_ 0 _ rfl; (with_reducible repeat (first | refine blk_drewN ?_ _ | refine blk_drew ?_ | refine blk_alloc ?_ _)); refine blk_far ?_ NB234_233.out _; (with_reducible repeat (first | refine blk_drewN ?_ _ | refine blk_drew ?_ | refine blk_alloc ?_ _)); refine blk_far ?_ NB234_233.out _; (with_reducible repeat (first | refine blk_drewN ?_ _ | refine blk_drew ?_ | refine blk_alloc ?_ _)); refine blk_far ?_ NB234_233.out _; (with_reducible repeat (first | refine blk_drewN ?_ _ | refine blk_drew ?_ | refine blk_alloc ?_ _)); refine blk_far ?_ NB234_233.out _; (with_reducible repeat (first | refine blk_drewN ?_ _ | refine blk_drew ?_ | refine blk_alloc ?_ _)); exact BK234.out) hb); have n6_ := Aside0.mk (below_step (XSq.bB HB) hb); clear BK198; clear BK199; clear BK216; clear BK217; clear BK233; clear BK234; clear HB; have BK198 := n0_; have BK199 := n1_; have BK216 := n2_; have BK217 := n3_; have BK233 := n4_; have BK234 := n5_; have HB := n6_; clear n0_ n1_ n2_ n3_ n4_ n5_ n6_; clear hb; (try clear hb2); (try clear hk); (try clear hi); have hnb67 := NB234_198.out; have hnc67 := NB198_234.out; have hnb68 := NB234_199.out; have hnc68 := NB199_234.out; have hnb69 := NB234_217.out; have hnc69 := NB217_234.out; have hcz70_0 : w66.cell? ⟨gb234, 0, none⟩ = some (.int .i64 t229) := (blk_cell BK234.out 0).trans rfl; have hcz70_1 : w66.cell? ⟨gb234, 1, none⟩ = some (.int .i64 t230) := (blk_cell BK234.out 1).trans rfl; have hcz70_2 : w66.cell? ⟨gb234, 2, none⟩ = some (.int .i64 t231) := (blk_cell BK234.out 2).trans rfl; have hfz70_0 := blk_frozen BK234.out 0; have hfz70_1 := blk_frozen BK234.out 1; have hfz70_2 := blk_frozen BK234.out 2; have hnb71 := NB217_198.out; have hnc71 := NB198_217.out; have hnb72 := NB217_199.out; have hnc72 := NB199_217.out; have hcz73_0 : w66.cell? ⟨gb217, 0, none⟩ = some (.int .i64 t212) := (blk_cell BK217.out 0).trans rfl; have hcz73_1 : w66.cell? ⟨gb217, 1, none⟩ = some (.int .i64 t213) := (blk_cell BK217.out 1).trans rfl; have hcz73_2 : w66.cell? ⟨gb217, 2, none⟩ = some (.int .i64 t214) := (blk_cell BK217.out 2).trans rfl; have hfz73_0 := blk_frozen BK217.out 0; have hfz73_1 := blk_frozen BK217.out 1; have hfz73_2 := blk_frozen BK217.out 2) | (go_at_call 13; (with_reducible refine (laws_eqBall.calls t229 t230 t231 t212 t213 t214 true _ A18.out).mono ?_); rintro e w74 ⟨rfl, hb⟩; have n0_ := XSq.bb BK198 hb; have n1_ := XSq.bb BK199 hb; have n2_ := XSq.bb BK216 hb; have n3_ := XSq.bb BK217 hb; have n4_ := XSq.bb BK233 hb; have n5_ := XSq.bb BK234 hb; have n6_ := Aside0.mk (below_step (XSq.bB HB) hb); clear BK198; clear BK199; clear BK216; clear BK217; clear BK233; clear BK234; clear HB; have BK198 := n0_; have BK199 := n1_; have BK216 := n2_; have BK217 := n3_; have BK233 := n4_; have BK234 := n5_; have HB := n6_; clear n0_ n1_ n2_ n3_ n4_ n5_ n6_; clear hb; (try clear hb2); (try clear hk); (try clear hi)))
       go_ret
       exact ⟨by first | rfl | (simp [errW_none, errW_some] <;> rfl) | (simp [*, errW_none, errW_some] <;> rfl), by repeat (first | (with_reducible first | exact HB.out | apply below_alloc | apply pw_below_drewN | apply below_drew1 | refine below_set ?_ GE198.out | refine below_set ?_ GE199.out | refine below_set ?_ GE216.out | refine below_set ?_ GE217.out | refine below_set ?_ GE233.out | refine below_set ?_ GE234.out) | exact HB.out)⟩
   ·
    replace c19 := Bool.eq_false_iff.mpr c19
    subst c19
    have H1 : (none) = some r := by rw [if_neg (show ¬ (false = true) by decide)] at H; exact H
    clear H
    have H := H1
    clear H1
    exact absurd H (by simp)
  ·
   replace c17 := Bool.eq_false_iff.mpr c17
   subst c17
   have H1 : (none) = some r := by rw [if_neg (show ¬ (false = true) by decide)] at H; exact H
   clear H
   have H := H1
   clear H1
   exact absurd H (by simp)

end Go.Proofs.YtjmimgfgafdnnaaDoor.PFnExactHitCell
