/- A map of whole numbers of a call's own, keyed by pairs of whole numbers, told as a function of its keys: what a look-up gives, what a store makes of it. Plain theorems. Conditions: none. -/
import Derived.Maps.OwnSet
import Derived.DeepKeys4
import Derived.ChangeKeys
import Derived.Below
import Derived.KernelRfl
import Derived.Test.YtfhplgiblknfcaaDoorTPlainBeforeW
namespace Go.Proofs.YtfhplgiblknfcaaDoor.XMapP
open Go.RowKit Go.Maps Go.Proofs.YtfhplgiblknfcaaDoorW.PrintWords
set_option linter.unusedVariables false
def In64 (x : Int) : Prop := -9223372036854775808 ≤ x ∧ x ≤ 9223372036854775807
instance (x : Int) : Decidable (In64 x) := by unfold In64; infer_instance
theorem wf64 {x : Int} (h : In64 x) : (Lit.int .i64 x).wf = true := WalkArith.wf_i64 h
def kp (x y : Int) : Lit := .string (keyBytes [.int .i64 x, .int .i64 y])
theorem kp_inj {x y x' y' : Int} (h1 : In64 x) (h2 : In64 y) (h3 : In64 x') (h4 : In64 y') (h : kp x y = kp x' y') : x = x' ∧ y = y' := by
  injection h with h
  have := keyBytes_inj (l := [.int .i64 x, .int .i64 y]) (l' := [.int .i64 x', .int .i64 y']) ⟨rfl, rfl, trivial⟩ (by
    intro a ha
    simp only [List.mem_cons, List.not_mem_nil, or_false] at ha
    rcases ha with rfl | rfl
    · exact wf64 h1
    · exact wf64 h2) (by
    intro a ha
    simp only [List.mem_cons, List.not_mem_nil, or_false] at ha
    rcases ha with rfl | rfl
    · exact wf64 h3
    · exact wf64 h4) h
  simp only [List.cons.injEq, Lit.int.injEq, true_and, and_true] at this
  exact this
/-- A type of two whole numbers. -/
structure PairKey (P : Program) (k e : TypeId) : Prop where
  fields : ∃ f0 f1, P.underlying k = some (.struct #[f0, f1]) ∧ f0.type = e ∧ f0.offset = 0 ∧ f0.name ≠ "_" ∧ f1.type = e ∧ f1.offset = 1 ∧ f1.name ≠ "_"
  he : P.underlying e = some (.int .i64)
  kt : P.keyType k = true
  c : P.cellsOf k = 2
  ce : P.cellsOf e = 1
  sz : ∃ m, P.types.size = m + 1
theorem kpOf {P : Program} {k e : TypeId} (A : PairKey P k e) {a b : Int} (ha : In64 a) (hb : In64 b) : keyOf P k (.agg #[.int .i64 a, .int .i64 b]) = some (kp a b) := by
  obtain ⟨⟨f0, f1, hu, t0, o0, n0, t1, o1, n1⟩, he, hkt, hc, hce, m, hm⟩ := A
  have wa := wf64 ha
  have wb := wf64 hb
  unfold keyOf
  simp only [hu]
  rw [if_pos (by simp [hkt, Value.formed, hu, hc]), hm]
  unfold Program.keyLits
  simp only [hu, Value.cells]
  rw [if_pos (by constructor <;> simp [hc, n0, n1])]
  simp [t0, t1, o0, o1, hce, Program.keyLits, he, wa, wb, kp]
section
variable {P : Program} {K E : TypeId}
/-- Block b of w is a map of at most n entries that says F. -/
def IsMapP (P : Program) (K E : TypeId) (w : World) (b n : Nat) (F : Int → Int → Int) : Prop :=
  ∃ D : DataW Unit, w.ownsMap P K (plainElem P E) b n D ∧ ∀ x y, In64 x → In64 y → D.atKey (kp x y) (.lit (.int .i64 0)) = .lit (.int .i64 (F x y))
theorem IsMapP.made (P : Program) (K E : TypeId) (w : World) : IsMapP P K E (w.alloc (.map #[] 0)) w.heap.size 0 (fun _ _ => 0) :=
  ⟨.map [], World.ownsMap_made w P K _, fun _ _ _ _ => rfl⟩
theorem IsMapP.kept {w w' : World} {b n : Nat} {F : Int → Int → Int} (h : IsMapP P K E w b n F) {row : Option Nat} (hg : w.grownBy w' row) (hne : some b ≠ row) : IsMapP P K E w' b n F := by
  obtain ⟨D, h1, h2⟩ := h
  exact ⟨D, h1.kept hg hne, h2⟩
theorem IsMapP.below {w w' : World} {b n : Nat} {F : Int → Int → Int} (h : IsMapP P K E w b n F) (hg : Below w.heap.size w w') : IsMapP P K E w' b n F := by
  obtain ⟨D, ⟨es, clock, hb, r⟩, h2⟩ := h
  have hlt := (Array.getElem?_eq_some_iff.1 hb).1
  exact ⟨D, ⟨es, clock, (hg.block b hlt).trans hb, r⟩, h2⟩
theorem IsMapP.drew {w : World} {b n : Nat} {F : Int → Int → Int} (h : IsMapP P K E w b n F) : IsMapP P K E w.drew b n F := h
theorem IsMapP.drewN {w : World} {b n : Nat} {F : Int → Int → Int} (h : IsMapP P K E w b n F) (m : Nat) : IsMapP P K E (w.drewN m) b n F := h
theorem IsMapP.set {w : World} {b n : Nat} {F : Int → Int → Int} (h : IsMapP P K E w b n F) {p : Addr} (hp : b ≠ p.block) (v : Value) : IsMapP P K E (w.setCell p v) b n F := by
  obtain ⟨D, ⟨es, clock, hb, r⟩, h2⟩ := h
  exact ⟨D, ⟨es, clock, (Below.heap_setCell w p v b hp).trans hb, r⟩, h2⟩
theorem IsMapP.mono {w : World} {b n n' : Nat} {F : Int → Int → Int} (h : IsMapP P K E w b n F) (hn : n ≤ n') : IsMapP P K E w b n' F := by
  obtain ⟨D, h1, h2⟩ := h
  exact ⟨D, h1.mono hn, h2⟩
theorem IsMapP.lt {w : World} {b n : Nat} {F : Int → Int → Int} (h : IsMapP P K E w b n F) : b < w.heap.size := h.choose_spec.1.lt
theorem far {w : World} {b n e : Nat} {F : Int → Int → Int} {v : Value} (h : IsMapP P K E w b n F) (hty : ∀ k, v.ownBlock = some k → ∃ cells, w.heap[k]? = some (.cells cells e (0, 0))) : some b ≠ v.ownBlock := by
  intro hv
  obtain ⟨cells, hc⟩ := hty b hv.symm
  obtain ⟨D, ⟨es, clock, hb, r⟩, h2⟩ := h
  rw [hb] at hc
  cases hc
variable {ops : Array Oper} {rest : List Oper} {o : Oper} {a : Act} {Q : Exit → Act → World → Prop} {Kc : Act → World → Prop}
/-- 'make(map[..]..)', one event. -/
theorem made_event {w : World} (K E : TypeId) (hg : o.guard = none) {T : TypeId} (hop : o.op = Op.makeMap T none)
    (h : ∀ b, b = w.heap.size → ∀ w', IsMapP P K E w' b 0 (fun _ _ => 0) → Below w.heap.size w w' → wpList P ops Q rest (a.put o.dst (.map (some b))) w') : wpList P ops Q (o :: rest) a w := by
  refine wpList_plain hg fun K' hK' => ?_
  unfold Oper.wp
  simp [execOp, hop, run_makeMap, Result.andThen]
  exact hK' _ _ (h _ rfl _ (IsMapP.made P K E w) (below_alloc (Below.refl _ _) _))
theorem look_run {w : World} {b n : Nat} {F : Int → Int → Int} (hM : IsMapP P K E w b n F) {x y : Int} (hx : In64 x) (hy : In64 y) (A : PairKey P K E) (L : Keyed P K) {T : TypeId} (ht : P.underlying T = some (.map K E)) (hz : (zeroValue E).run P w = .ok (.int .i64 0) w) :
    (Instr.lookup T (.map (some b)) (.agg #[.int .i64 x, .int .i64 y]) false).run P w = .ok (.int .i64 (F x y)) w := by
  obtain ⟨D, hown, hD⟩ := hM
  obtain ⟨c, hrun, hat, _⟩ := hown.lookup_int L ht A.he hz (kpOf A hx hy)
  rw [hD x y hx hy] at hat
  injection hat with hat
  injection hat with _ hat
  rw [hat]
  exact hrun
def upd (F : Int → Int → Int) (p q c : Int) : Int → Int → Int := fun x y => if x = p ∧ y = q then c else F x y
theorem put_run {w : World} {b n : Nat} {F : Int → Int → Int} (hM : IsMapP P K E w b n F) {p q c : Int} (hp : In64 p) (hq : In64 q) (hc : In64 c) (hn : n < 9223372036854775807) (A : PairKey P K E) (L : Keyed P K) {T : TypeId} (ht : P.underlying T = some (.map K E)) :
    ∃ w', (Instr.mapUpdate T (.map (some b)) (.agg #[.int .i64 p, .int .i64 q]) (.int .i64 c)).run P w = .ok () w' ∧ IsMapP P K E w' b (n + 1) (upd F p q c) ∧ w.grownBy w' (some b) := by
  obtain ⟨D, hown, hD⟩ := hM
  have hkey := kpOf A hp hq
  obtain ⟨w', hrun, h1, h2⟩ := hown.update L ht hn hkey (plainElem_int A.he (wf64 hc))
  refine ⟨w', hrun, ⟨_, h1, fun x y hx hy => ?_⟩, h2⟩
  unfold upd
  by_cases hz : x = p ∧ y = q
  · rw [if_pos hz, hz.1, hz.2]
    obtain ⟨es, clock, _, _, _, hDm⟩ := hown
    exact atKey_put_same ⟨_, hDm⟩ (L.key hkey) _ _
  · rw [if_neg hz, atKey_put_other (fun e => hz (kp_inj hx hy hp hq e))]
    exact hD x y hx hy
/-- 'm[k] = v' in a region that draws. -/
theorem put_step {w : World} {b n : Nat} {F : Int → Int → Int} (hM : IsMapP P K E w b n F) {p q c : Int} (hp : In64 p) (hq : In64 q) (hc : In64 c) (hn : n < 9223372036854775807) (A : PairKey P K E) (L : Keyed P K) {T : TypeId} (ht : P.underlying T = some (.map K E))
    (hw : Region.wanted o (yielded ops a.tmps) = true) (hN : o.dst = none) (m y u : Operand) (hop : o.op = Op.mapUpdate T m y u) (hm : a.eval m = .map (some b)) (hy : a.eval y = .agg #[.int .i64 p, .int .i64 q]) (hu : a.eval u = .int .i64 c)
    (h : ∀ w', IsMapP P K E w' b (n + 1) (upd F p q c) → w.grownBy w' (some b) → Kc a w') : if Region.wanted o (yielded ops a.tmps) = true then Oper.wp P o a w Kc Q else Kc (a.put none undef) w := by
  rw [if_pos hw]
  obtain ⟨w', hrun, h1, h2⟩ := put_run hM hp hq hc hn A L ht
  unfold Oper.wp
  simp [execOp, hop, hm, hy, hu, hrun, Result.andThen]
  show Kc (a.put o.dst undef) w'
  rw [hN]
  exact h _ h1 h2
end
end Go.Proofs.YtfhplgiblknfcaaDoor.XMapP
