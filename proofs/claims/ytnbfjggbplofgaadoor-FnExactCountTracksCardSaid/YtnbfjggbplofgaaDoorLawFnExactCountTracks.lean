/- The law FnExactCountTracks: for every input that can be read, the law's function returns true and leaves its arguments as they read before. Conditions: those of the given row alone. -/
import Derived.Test.YtnbfjggbplofgaaDoorCards
import Derived.Test.YtnbfjggbplofgaaDoorTie
import Derived.Test.YtnbfjggbplofgaaDoorQFnExactCountTracks
import Derived.Test.YtnbfjggbplofgaaDoorPureFnExactCountTracks
import Derived.Test.YtnbfjggbplofgaaDoorTCountTracksXOpen
import Derived.WalkKit
import Derived.ProofKit
import Derived.OpenShut
import Derived.ShutString
import Derived.ChangeOld
import Derived.Below
import Derived.SizedLaws
import Derived.Lib.SmallJoins
import Derived.Deep.DeepHandedRow
import Derived.Lib.LaidTab
namespace Go.Proofs.YtnbfjggbplofgaaDoor.fnExactCountTracks
open Go.ChangeShapes Go.WideShapes Go.ChangeAt Go.RowKit Go.Proofs.YtnbfjggbplofgaaDoor Go.Proofs.YtnbfjggbplofgaaDoor.PFnExactCountTracks Go.Proofs.YtnbfjggbplofgaaDoorW.PrintWords
open Go.ChangeMaps (open_string shut_string)
set_option linter.unusedVariables false
set_option linter.unusedSimpArgs false
theorem own : ownKnob Tryd.prog.godebug = none := by kernel_rfl
theorem laidOut : laidOutB Tryd.prog = true := by kernel_rfl
/-- The cell of a number. -/
def leafCell : DataW Unit → List Value
  | .lit (.int k n) => [.int k n]
  | .lit (.bool b) => [.bool b]
  | .lit (.string l) => [.string ⟨l.toArray⟩]
  | _ => []
/-- The cells of a row of numbers, or of a number. -/
def rowCells : DataW Unit → List Value
  | .agg ps => ps.flatMap leafCell
  | d => leafCell d
/-- The cells that a table of numbers lays. -/
def flatCells : DataW Unit → List Value
  | .agg ps => ps.flatMap rowCells
  | d => leafCell d
/-- A world for the witness: the settled one, the listed tables holding what their initialisers lay. -/
noncomputable def laidWorld (os : Os) : World :=
  { World.holding Tryd.prog os ⟨#[], #[], []⟩ with heap := (((World.holding Tryd.prog os ⟨#[], #[], []⟩).heap.modify 1 fun | .cells _ t frozen => .cells (flatCells Rows.laid_unicode_utf8_acceptRanges).toArray t frozen | o => o).modify 0 fun | .cells _ t frozen => .cells (flatCells Rows.laid_unicode_utf8_first).toArray t frozen | o => o) }
theorem laid_met (os : Os) : laidMet Tryd.prog Rows.fnExactCountTracksRow.laid ((laidWorld os).forCall (fun _ _ => 0) ⟨#[], #[.agg #[.int .i64 0, .int .i64 0, .string ByteArray.empty, .bool false]], []⟩).memory :=
  laidMet_of_run' 8 (by kernel_rfl) (by kernel_rfl)
theorem reads (os : Os) {H : Type} (enc : TypeId × Value → H) : ∃ places, DataW.whole enc Tryd.prog ((laidWorld os).forCall (fun _ _ => 0) ⟨#[], #[.agg #[.int .i64 0, .int .i64 0, .string ByteArray.empty, .bool false]], []⟩).memory Tryd.f3.params.toList Rows.fnExactCountTracksSpec.vars false (#[.agg #[.int .i64 0, .int .i64 0, .string ByteArray.empty, .bool false]] : Array Value).toList 8 = some ([.agg [.lit (.int .i64 0), .lit (.int .i64 0), .lit (.string []), .lit (.bool false)]], [], places) :=
  ⟨[], by kernel_rfl⟩
set_option maxRecDepth 100000 in
theorem contract (H : Type) (enc : TypeId × Value → H) (W : World) (base : Nat) (args : Array Value) (ds gs : List (DataW H)) (before : List MemPlace)
    (hval : ∀ (j : Nat) t v, Tryd.f3.params[j]? = some t → args[j]? = some v → Value.okWide Tryd.prog W .any base t v)
    (hW : DataW.Whole enc Tryd.prog Tryd.f3.params.toList Rows.fnExactCountTracksSpec.vars false W args.toList ds gs before)
    (hsz : (DataW.weightsEach Tryd.prog (Tryd.f3.params.toList ++ Rows.fnExactCountTracksSpec.plain.varTypes Tryd.prog) (ds ++ gs)).all (· ≤ reachBytes) = true) :
    Calls Tryd.prog 3 args W fun e W' => ∃ v, e = .returned v ∧ Rows.fnExactCountTracksSpec.post enc Tryd.prog Tryd.f3 false true false false W args v W' := by
  have hW' := hW
  obtain ⟨p, q, hA0, hV, rfl, hfz, hnd⟩ := hW
  have hA : DataW.TrodAll enc Tryd.prog W 0 (fun _ => true) true Tryd.f3.params.toList args.toList ds p := hA0
  rw [Tryd.params3] at hA hval hsz
  obtain ⟨v0, vs0, d0, ds0, p0, q0, hargs, rfl, rfl, h0, r0⟩ := trodAll_cons hA
  obtain ⟨rfl, rfl, rfl⟩ := trodAll_nil r0
  obtain rfl : args = #[v0] := by cases args; simp_all
  obtain ⟨rfl, rfl⟩ := trodVars_none hV
  have k0 := h0
  have lt0 : ∀ x ∈ p0, x.block < W.heap.size := by obtain ⟨m, hm⟩ := k0; exact DataW.trod_lt m _ _ _ hm
  obtain ⟨y0, K0, T0⟩ := XOpen.arg (XOpen.Op_struct enc Tryd.prog W (fun x : S23 => (x.f0, x.f1, x.f2, x.f3)) (fun p => ⟨p.1, p.2.1, p.2.2.1, p.2.2.2⟩) (fun _ => rfl) Tryd.underlying23 (by kernel_rfl) (XOpen.OpFs_cons enc Tryd.prog W rfl (by kernel_rfl) (XOpen.Op_int enc Tryd.prog W Tryd.underlying3) (XOpen.OpFs_cons enc Tryd.prog W rfl (by kernel_rfl) (XOpen.Op_int enc Tryd.prog W Tryd.underlying3) (XOpen.OpFs_cons enc Tryd.prog W rfl (by kernel_rfl) (XOpen.Op_str enc Tryd.prog W Tryd.underlying9) (XOpen.OpFs_one enc Tryd.prog W rfl (by kernel_rfl) (XOpen.Op_bool enc Tryd.prog W Tryd.underlying4)))))) h0 hsz (j := 0) rfl rfl
  obtain ⟨cs0, rfl, _⟩ := okWide_struct Tryd.underlying23 (hval 0 23 v0 rfl rfl)
  have e0 := k23_open K0
  obtain ⟨a0_0, a0_1, a0_2, a0_3⟩ := y0
  obtain ⟨t0_0, t0_1, t0_2, t0_3⟩ := T0
  obtain rfl : cs0 = #[.int .i64 a0_0, .int .i64 a0_1, .string a0_2, .bool a0_3] := Array.ext' (by exact e0)
  clear e0 K0
  obtain ⟨k, hk⟩ := Pure.FnExactCountTracks a0_0 a0_1 a0_2 a0_3 t0_0 t0_1 t0_2 t0_3
  refine (laws_FnExactCountTracks.calls k a0_0 a0_1 a0_2 a0_3 true W  hk).mono fun e W' ⟨he, hd⟩ => ?_
  have bel : Below W.heap.size W W' := hd
  subst he
  exact ⟨_, rfl, _, _, _, [], _, [], hW', trodAll_mk1 (shut_bool Tryd.underlying4 _), (trodAll_cons_mk (Below.trod laidOut (by kernel_rfl) (of_decide_eq_true (by kernel_rfl)) k0 bel lt0) trodAll_mk0), rfl, bel.frame _, fun h => by cases h⟩
set_option maxRecDepth 100000 in
theorem lifted (os : Os) (started : os.Started) (H : Type) (enc : TypeId × Value → H) (F : Stop.Interp) :
    ReturnsInHanded {} Tryd.checked os 3 .any ((OpenSpec.ofChange Rows.fnExactCountTracksSpec).preRow enc Tryd.prog Tryd.f3 Rows.fnExactCountTracksRow.domain false Rows.fnExactCountTracksRow.laid) (((OpenSpec.ofChange Rows.fnExactCountTracksSpec).at F).post enc Tryd.prog Tryd.f3 false true false false) := by
  obtain ⟨places, hx⟩ := reads os enc
  refine returnsInHanded_of_row (C := Tryd.checked) (s := OpenSpec.ofChange Rows.fnExactCountTracksSpec) own started (by kernel_rfl) Tryd.func3
    (witness_row_at (enc := enc) (C := Tryd.checked) false (laidWorld os) #[.agg #[.int .i64 0, .int .i64 0, .string ByteArray.empty, .bool false]] rfl (by kernel_rfl) (by kernel_rfl) (by kernel_rfl)
      (OpenSpec.preRow_of_cond 8 hx (by kernel_rfl) (fun k hk => by cases hk) (by kernel_rfl) (laid_met os))) ?_
  intro W base args ds gs before hval hW XX1 XX2 XX3 hL XX4 XX5
  exact contract H enc W base args ds gs before hval hW (by first | exact XX1 | exact XX2 | exact XX3 | exact XX4 | exact XX5)
theorem said : Rows.FnExactCountTracksSaid :=
  OpenClaim.holds_of_cond 3 Tryd.f3 rfl rfl rfl rfl rfl rfl rfl ⟨rfl, rfl, rfl, rfl, rfl⟩ rfl rfl rfl rfl rfl (by kernel_rfl) Tryd.func3 (by kernel_rfl)
    (of_decide_eq_true (by kernel_rfl)) (by unfold Func.isWrapper; first | (rw [if_pos (by decide +kernel)]; kernel_rfl) | (rw [if_neg (by decide +kernel)]; exact ⟨rfl, rfl⟩))
    (fun os started H enc _ F => by rw [OpenClaim.pre_eq_preRow]; exact lifted os started H enc F)
theorem plain (f : FuncId) (fn : Func) (hf : Tryd.pinned.checked.prog.funcNamed "loop.example/g01276/laws.FnExactCountTracks" = some f) (hfn : Tryd.pinned.checked.prog.funcs[f]? = some fn) :
    false = Tryd.pinned.checked.prog.looks [] ∧ ∀ (j : Nat) t, fn.params[j]? = some t → Tryd.pinned.checked.prog.wantsStandIn t = false := by
  obtain rfl : f = 3 := Option.some.inj ((show Tryd.prog.funcNamed "loop.example/g01276/laws.FnExactCountTracks" = some 3 by kernel_rfl).symm.trans hf) |>.symm
  obtain rfl : fn = Tryd.f3 := (Option.some.inj (Tryd.func3.symm.trans hfn)).symm
  refine ⟨by kernel_rfl, fun j t ht => ?_⟩
  rw [Tryd.params3] at ht
  have hm := Array.mem_of_getElem? ht
  simp only [List.mem_toArray, List.mem_cons, List.not_mem_nil, or_false] at hm
  subst hm
  exact (show Tryd.prog.wantsStandIn 23 = false by kernel_rfl)
theorem proved : Rows.FnExactCountTracksCardSaid :=
  Claim7.holds_tied_plain_at .later [] _ _ _ _ said (fun _ h => by cases h) (by kernel_rfl) (fun _ h => by cases h) fnExactCountTracks_row_tie rfl ⟨rfl, rfl⟩ (by kernel_rfl) rfl plain (by kernel_rfl)
#print axioms proved
end Go.Proofs.YtnbfjggbplofgaaDoor.fnExactCountTracks
namespace Go.Proofs.YtnbfjggbplofgaaDoor
/-- The row, under a short name, for the claim. -/
theorem fnExactCountTracks_holds : Rows.FnExactCountTracksCardSaid := fnExactCountTracks.proved
end Go.Proofs.YtnbfjggbplofgaaDoor
