/- The law FnExactIsTable: for every input that can be read, the law's function returns true and leaves its arguments as they read before. Conditions: those of the given row alone. -/
import Derived.Test.YtnmaidjbnjhmbaaRows
import Derived.Test.YtnmaidjbnjhmbaaQFnExactIsTable
import Derived.Test.YtnmaidjbnjhmbaaPureFnExactIsTable
import Derived.Test.YtnmaidjbnjhmbaaTIsTableXOpen
import Derived.WalkKit
import Derived.ProofKit
import Derived.OpenShut
import Derived.ShutString
import Derived.ChangeOld
import Derived.Below
import Derived.SizedLaws
import Derived.Lib.SmallJoins
namespace Go.Proofs.Ytnmaidjbnjhmbaa.fnExactIsTable
open Go.ChangeShapes Go.WideShapes Go.ChangeAt Go.RowKit Go.Proofs.Ytnmaidjbnjhmbaa Go.Proofs.Ytnmaidjbnjhmbaa.PFnExactIsTable Go.Proofs.YtnmaidjbnjhmbaaW.PrintWords
open Go.ChangeMaps (open_string shut_string)
set_option linter.unusedVariables false
set_option linter.unusedSimpArgs false
theorem own : ownKnob Try.prog.godebug = none := by kernel_rfl
theorem laidOut : laidOutB Try.prog = true := by kernel_rfl
set_option maxRecDepth 100000 in
theorem lifted (os : Os) (started : os.Started) (H : Type) (enc : TypeId × Value → H) :
    ReturnsInHanded {} Try.checked os 3 .any (Rows.fnExactIsTableSpec.pre6 enc Try.prog Try.f3 Rows.fnExactIsTableRow.domain false) (Rows.fnExactIsTableSpec.post enc Try.prog Try.f3 false true false false) := by
  refine returnsInHanded_of_change_sized (C := Try.checked) own started (by kernel_rfl) Try.func3
    (ChangeSpec.witness6 (enc := enc) (C := Try.checked) false ⟨#[], #[.agg #[.int .i64 0, .int .i64 0, .slice none 0 0]], []⟩ 8 (by kernel_rfl) (by kernel_rfl) (by kernel_rfl) (by kernel_rfl)) ?_
  intro W base args ds gs before hval0 hW hcnd hsz0 _
  have hsz : (DataW.weightsEach Try.prog (Try.f3.params.toList ++ Rows.fnExactIsTableSpec.plain.varTypes Try.prog) (ds ++ gs)).all (· ≤ reachBytes) = true := hsz0
  have hval : ∀ (j : Nat) t v, Try.f3.params[j]? = some t → args[j]? = some v → Value.okWide Try.prog W .any base t v := hval0
  have hW' := hW
  obtain ⟨p, q, hA0, hV, rfl, hfz, hnd⟩ := hW
  have hA : DataW.TrodAll enc Try.prog W 0 (fun _ => true) true Try.f3.params.toList args.toList ds p := hA0
  rw [Try.params3] at hA hval hsz
  obtain ⟨v0, vs0, d0, ds0, p0, q0, hargs, rfl, rfl, h0, r0⟩ := trodAll_cons hA
  obtain ⟨rfl, rfl, rfl⟩ := trodAll_nil r0
  obtain rfl : args = #[v0] := by cases args; simp_all
  obtain ⟨rfl, rfl⟩ := trodVars_none hV
  have k0 := h0
  have lt0 : ∀ x ∈ p0, x.block < W.heap.size := by obtain ⟨m, hm⟩ := k0; exact DataW.trod_lt m _ _ _ hm
  obtain ⟨y0, K0, T0⟩ := XOpen.arg (XOpen.Op_struct enc Try.prog W (fun x : S24 => (x.f0, x.f1, x.f2)) (fun p => ⟨p.1, p.2.1, p.2.2⟩) (fun _ => rfl) Try.underlying24 (by kernel_rfl) (XOpen.OpFs_cons enc Try.prog W rfl (by kernel_rfl) (XOpen.Op_int enc Try.prog W Try.underlying3) (XOpen.OpFs_cons enc Try.prog W rfl (by kernel_rfl) (XOpen.Op_int enc Try.prog W Try.underlying3) (XOpen.OpFs_one enc Try.prog W rfl (by kernel_rfl) (XOpen.Op_slice enc Try.prog W Try.underlying22 (by kernel_rfl) (XOpen.Op_struct enc Try.prog W (fun x : S44 => (x.f0, x.f1, x.f2)) (fun p => ⟨p.1, p.2.1, p.2.2⟩) (fun _ => rfl) Try.underlying44 (by kernel_rfl) (XOpen.OpFs_cons enc Try.prog W rfl (by kernel_rfl) (XOpen.Op_int enc Try.prog W Try.underlying3) (XOpen.OpFs_cons enc Try.prog W rfl (by kernel_rfl) (XOpen.Op_str enc Try.prog W Try.underlying9) (XOpen.OpFs_one enc Try.prog W rfl (by kernel_rfl) (XOpen.Op_int enc Try.prog W Try.underlying3)))))))))) h0 hsz (j := 0) rfl rfl
  obtain ⟨cs0, rfl, _⟩ := okWide_struct Try.underlying24 (hval 0 24 v0 rfl rfl)
  obtain ⟨A0_2, c0_2, e0, hc0_2, hr0_2⟩ := k24_open K0
  obtain ⟨a0_0, a0_1, a0_2⟩ := y0
  obtain ⟨t0_0, t0_1, t0_2⟩ := T0
  obtain rfl : cs0 = #[.int .i64 a0_0, .int .i64 a0_1, .slice A0_2 a0_2.length c0_2] := Array.ext' (by exact e0)
  clear e0 K0
  obtain ⟨k, hk⟩ := Pure.FnExactIsTable a0_0 a0_1 a0_2 t0_0 t0_1 t0_2
  refine (laws_FnExactIsTable.calls k a0_0 a0_1 _ _ a0_2 true W hr0_2 hc0_2 hk).mono fun e W' ⟨he, hd⟩ => ?_
  have bel : Below W.heap.size W W' := hd
  subst he
  exact ⟨_, rfl, _, _, _, [], _, [], hW', trodAll_mk1 (shut_bool Try.underlying4 _), (trodAll_cons_mk (Below.trod laidOut (by kernel_rfl) (of_decide_eq_true (by kernel_rfl)) k0 bel lt0) trodAll_mk0), rfl, bel.frame _, fun h => by cases h⟩
theorem over : Rows.fnExactIsTableRow.holds Try.pinned (OpenSpec.ofChange Rows.fnExactIsTableSpec) :=
  OpenClaim.holds_of_wide 3 Try.f3 rfl rfl rfl rfl rfl rfl rfl ⟨rfl, rfl, rfl, rfl, rfl⟩ rfl rfl rfl rfl rfl (by kernel_rfl) Try.func3 (by kernel_rfl)
    (of_decide_eq_true (by kernel_rfl)) (by unfold Func.isWrapper; first | (rw [if_pos (by decide +kernel)]; kernel_rfl) | (rw [if_neg (by decide +kernel)]; exact ⟨rfl, rfl⟩))
    (fun os started H enc _ => lifted os started H enc)
theorem proved : Rows.FnExactIsTableSaid := over
#print axioms proved
end Go.Proofs.Ytnmaidjbnjhmbaa.fnExactIsTable
namespace Go.Proofs.Ytnmaidjbnjhmbaa
/-- The row, under a short name, for the claim. -/
theorem fnExactIsTable_holds : Rows.FnExactIsTableSaid := fnExactIsTable.proved
end Go.Proofs.Ytnmaidjbnjhmbaa
