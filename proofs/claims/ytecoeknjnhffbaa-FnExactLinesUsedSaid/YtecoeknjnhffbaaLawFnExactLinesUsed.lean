/- The law FnExactLinesUsed: for every input that can be read, the law's function returns true and leaves its arguments as they read before. Conditions: those of the given row alone. -/
import Derived.Test.YtecoeknjnhffbaaRows
import Derived.Test.YtecoeknjnhffbaaQFnExactLinesUsed
import Derived.Test.YtecoeknjnhffbaaPureFnExactLinesUsed
import Derived.Test.YtecoeknjnhffbaaTLinesUsedXOpen
import Derived.WalkKit
import Derived.ProofKit
import Derived.OpenShut
import Derived.ShutString
import Derived.ChangeOld
import Derived.Below
import Derived.SizedLaws
import Derived.Lib.SmallJoins
namespace Go.Proofs.Ytecoeknjnhffbaa.fnExactLinesUsed
open Go.ChangeShapes Go.WideShapes Go.ChangeAt Go.RowKit Go.Proofs.Ytecoeknjnhffbaa Go.Proofs.Ytecoeknjnhffbaa.PFnExactLinesUsed Go.Proofs.YtecoeknjnhffbaaW.PrintWords
open Go.ChangeMaps (open_string shut_string)
set_option linter.unusedVariables false
set_option linter.unusedSimpArgs false
theorem own : ownKnob Try.prog.godebug = none := by kernel_rfl
theorem laidOut : laidOutB Try.prog = true := by kernel_rfl
set_option maxRecDepth 100000 in
theorem lifted (os : Os) (started : os.Started) (H : Type) (enc : TypeId × Value → H) :
    ReturnsInHanded {} Try.checked os 13 .any (Rows.fnExactLinesUsedSpec.pre6 enc Try.prog Try.f13 Rows.fnExactLinesUsedRow.domain false) (Rows.fnExactLinesUsedSpec.post enc Try.prog Try.f13 false true false false) := by
  refine returnsInHanded_of_change_sized (C := Try.checked) own started (by kernel_rfl) Try.func13
    (ChangeSpec.witness6 (enc := enc) (C := Try.checked) false ⟨#[], #[.agg #[.slice none 0 0, .slice none 0 0], .int .i64 0, .int .i64 0], []⟩ 8 (by kernel_rfl) (by kernel_rfl) (by kernel_rfl) (by kernel_rfl)) ?_
  intro W base args ds gs before hval0 hW hcnd hsz0 _
  have hsz : (DataW.weightsEach Try.prog (Try.f13.params.toList ++ Rows.fnExactLinesUsedSpec.plain.varTypes Try.prog) (ds ++ gs)).all (· ≤ reachBytes) = true := hsz0
  have hval : ∀ (j : Nat) t v, Try.f13.params[j]? = some t → args[j]? = some v → Value.okWide Try.prog W .any base t v := hval0
  have hW' := hW
  obtain ⟨p, q, hA0, hV, rfl, hfz, hnd⟩ := hW
  have hA : DataW.TrodAll enc Try.prog W 0 (fun _ => true) true Try.f13.params.toList args.toList ds p := hA0
  rw [Try.params13] at hA hval hsz
  obtain ⟨v0, vs0, d0, ds0, p0, q0, hargs, rfl, rfl, h0, r0⟩ := trodAll_cons hA
  obtain ⟨v1, vs1, d1, ds1, p1, q1, rfl, rfl, rfl, h1, r1⟩ := trodAll_cons r0
  obtain ⟨v2, vs2, d2, ds2, p2, q2, rfl, rfl, rfl, h2, r2⟩ := trodAll_cons r1
  obtain ⟨rfl, rfl, rfl⟩ := trodAll_nil r2
  obtain rfl : args = #[v0, v1, v2] := by cases args; simp_all
  obtain ⟨rfl, rfl⟩ := trodVars_none hV
  have k0 := h0
  have lt0 : ∀ x ∈ p0, x.block < W.heap.size := by obtain ⟨m, hm⟩ := k0; exact DataW.trod_lt m _ _ _ hm
  obtain ⟨y0, K0, T0⟩ := XOpen.arg (XOpen.Op_struct enc Try.prog W (fun x : S25 => (x.f0, x.f1)) (fun p => ⟨p.1, p.2⟩) (fun _ => rfl) Try.underlying25 (by kernel_rfl) (XOpen.OpFs_cons enc Try.prog W rfl (by kernel_rfl) (XOpen.Op_slice enc Try.prog W Try.underlying22 (by kernel_rfl) (XOpen.Op_slice enc Try.prog W Try.underlying23 (by kernel_rfl) (XOpen.Op_int enc Try.prog W Try.underlying3))) (XOpen.OpFs_one enc Try.prog W rfl (by kernel_rfl) (XOpen.Op_slice enc Try.prog W Try.underlying23 (by kernel_rfl) (XOpen.Op_int enc Try.prog W Try.underlying3))))) h0 hsz (j := 0) rfl rfl
  obtain ⟨cs0, rfl, _⟩ := okWide_struct Try.underlying25 (hval 0 25 v0 rfl rfl)
  obtain ⟨A0_0, c0_0, A0_1, c0_1, e0, hc0_0, hr0_0, hc0_1, hr0_1⟩ := k25_open K0
  obtain ⟨a0_0, a0_1⟩ := y0
  obtain ⟨t0_0, t0_1⟩ := T0
  obtain rfl : cs0 = #[.slice A0_0 a0_0.length c0_0, .slice A0_1 a0_1.length c0_1] := Array.ext' (by exact e0)
  clear e0 K0
  have k1 := h1
  have lt1 : ∀ x ∈ p1, x.block < W.heap.size := by obtain ⟨m, hm⟩ := k1; exact DataW.trod_lt m _ _ _ hm
  obtain ⟨a1, rfl, rfl, rfl, w1⟩ := open_int Try.underlying3 (hval 1 3 v1 rfl rfl) h1
  have k2 := h2
  have lt2 : ∀ x ∈ p2, x.block < W.heap.size := by obtain ⟨m, hm⟩ := k2; exact DataW.trod_lt m _ _ _ hm
  obtain ⟨a2, rfl, rfl, rfl, w2⟩ := open_int Try.underlying3 (hval 2 3 v2 rfl rfl) h2
  obtain ⟨k, hk⟩ := Pure.FnExactLinesUsed a0_0 a0_1 a1 a2 t0_0 t0_1 w1 w2
  refine (laws_FnExactLinesUsed.calls k _ _ a0_0 _ _ a0_1 a1 a2 true W hr0_0 hc0_0 hr0_1 hc0_1 hk).mono fun e W' ⟨he, hd⟩ => ?_
  have bel : Below W.heap.size W W' := hd
  subst he
  exact ⟨_, rfl, _, _, _, [], _, [], hW', trodAll_mk1 (shut_bool Try.underlying4 _), (trodAll_cons_mk (Below.trod laidOut (by kernel_rfl) (of_decide_eq_true (by kernel_rfl)) k0 bel lt0) (trodAll_cons_mk (Below.trod laidOut (by kernel_rfl) (of_decide_eq_true (by kernel_rfl)) k1 bel lt1) (trodAll_cons_mk (Below.trod laidOut (by kernel_rfl) (of_decide_eq_true (by kernel_rfl)) k2 bel lt2) trodAll_mk0))), rfl, bel.frame _, fun h => by cases h⟩
theorem over : Rows.fnExactLinesUsedRow.holds Try.pinned (OpenSpec.ofChange Rows.fnExactLinesUsedSpec) :=
  OpenClaim.holds_of_wide 13 Try.f13 rfl rfl rfl rfl rfl rfl rfl ⟨rfl, rfl, rfl, rfl, rfl⟩ rfl rfl rfl rfl rfl (by kernel_rfl) Try.func13 (by kernel_rfl)
    (of_decide_eq_true (by kernel_rfl)) (by unfold Func.isWrapper; first | (rw [if_pos (by decide +kernel)]; kernel_rfl) | (rw [if_neg (by decide +kernel)]; exact ⟨rfl, rfl⟩))
    (fun os started H enc _ => lifted os started H enc)
theorem proved : Rows.FnExactLinesUsedSaid := over
#print axioms proved
end Go.Proofs.Ytecoeknjnhffbaa.fnExactLinesUsed
namespace Go.Proofs.Ytecoeknjnhffbaa
/-- The row, under a short name, for the claim. -/
theorem fnExactLinesUsed_holds : Rows.FnExactLinesUsedSaid := fnExactLinesUsed.proved
end Go.Proofs.Ytecoeknjnhffbaa
