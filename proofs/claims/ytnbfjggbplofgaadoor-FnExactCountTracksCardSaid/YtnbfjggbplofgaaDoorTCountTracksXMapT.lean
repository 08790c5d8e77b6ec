/- A map of bools of a call's own, keyed by triples of whole numbers, told as a function of its keys: what a look-up gives, what a store makes of it. Plain theorems. Conditions: none. -/
import Derived.Maps.OwnSet
import Derived.DeepKeys4
import Derived.ChangeKeys
import Derived.Below
import Derived.KernelRfl
import Derived.Test.YtnbfjggbplofgaaDoorTCountTracksW
import Derived.Test.YtnbfjggbplofgaaDoorTCountTracksXMap
namespace Go.Proofs.YtnbfjggbplofgaaDoor.XMapT
open Go.RowKit Go.Maps Go.Proofs.YtnbfjggbplofgaaDoorW.PrintWords Go.Proofs.YtnbfjggbplofgaaDoor.XMap
set_option linter.unusedVariables false
def In64 (x : Int) : Prop := -9223372036854775808 ≤ x ∧ x ≤ 9223372036854775807
instance (x : Int) : Decidable (In64 x) := by unfold In64; infer_instance
theorem wf64 {x : Int} (h : In64 x) : (Lit.int .i64 x).wf = true := WalkArith.wf_i64 h
def kt (x y d : Int) : Lit := .string (keyBytes [.int .i64 x, .int .i64 y, .int .i64 d])
theorem kt_inj {x y d x' y' d' : Int} (h1 : In64 x) (h2 : In64 y) (h3 : In64 d) (h4 : In64 x') (h5 : In64 y') (h6 : In64 d') (h : kt x y d = kt x' y' d') : x = x' ∧ y = y' ∧ d = d' := by
  injection h with h
  have := keyBytes_inj (l := [.int .i64 x, .int .i64 y, .int .i64 d]) (l' := [.int .i64 x', .int .i64 y', .int .i64 d']) ⟨rfl, rfl, rfl, trivial⟩ (by
    intro a ha
    simp only [List.mem_cons, List.not_mem_nil, or_false] at ha
    rcases ha with rfl | rfl | rfl
    · exact wf64 h1
    · exact wf64 h2
    · exact wf64 h3) (by
    intro a ha
    simp only [List.mem_cons, List.not_mem_nil, or_false] at ha
    rcases ha with rfl | rfl | rfl
    · exact wf64 h4
    · exact wf64 h5
    · exact wf64 h6) h
  simp only [List.cons.injEq, Lit.int.injEq, true_and, and_true] at this
  exact this
/-- A type of three whole numbers. -/
structure TripKey (P : Program) (k e : TypeId) : Prop where
  fields : ∃ f0 f1 f2, P.underlying k = some (.struct #[f0, f1, f2]) ∧ f0.type = e ∧ f0.offset = 0 ∧ f0.name ≠ "_" ∧ f1.type = e ∧ f1.offset = 1 ∧ f1.name ≠ "_" ∧ f2.type = e ∧ f2.offset = 2 ∧ f2.name ≠ "_"
  he : P.underlying e = some (.int .i64)
  kt : P.keyType k = true
  c : P.cellsOf k = 3
  ce : P.cellsOf e = 1
  sz : ∃ m, P.types.size = m + 1
theorem ktOf {P : Program} {k e : TypeId} (A : TripKey P k e) {a b d : Int} (ha : In64 a) (hb : In64 b) (hd : In64 d) : keyOf P k (.agg #[.int .i64 a, .int .i64 b, .int .i64 d]) = some (kt a b d) := by
  obtain ⟨⟨f0, f1, f2, hu, t0, o0, n0, t1, o1, n1, t2, o2, n2⟩, he, hkt, hc, hce, m, hm⟩ := A
  have wa := wf64 ha
  have wb := wf64 hb
  have wd := wf64 hd
  unfold keyOf
  simp only [hu]
  rw [if_pos (by simp [hkt, Value.formed, hu, hc]), hm]
  unfold Program.keyLits
  simp only [hu, Value.cells]
  rw [if_pos (by constructor <;> simp [hc, n0, n1, n2])]
  simp [t0, t1, t2, o0, o1, o2, hce, Program.keyLits, he, wa, wb, wd, XMapT.kt]
abbrev T64 := { t : Int × Int × Int // In64 t.1 ∧ In64 t.2.1 ∧ In64 t.2.2 }
def key (t : T64) : Lit := kt t.1.1 t.1.2.1 t.1.2.2
theorem key_inj : ∀ p q, key p = key q → p = q := by
  rintro ⟨⟨x, y, d⟩, h1, h2, h3⟩ ⟨⟨x', y', d'⟩, h4, h5, h6⟩ h
  obtain ⟨rfl, rfl, rfl⟩ := kt_inj h1 h2 h3 h4 h5 h6 h
  rfl
def upd (F : Int → Int → Int → Bool) (x y d : Int) : Int → Int → Int → Bool := fun p q r => if p = x ∧ q = y ∧ r = d then true else F p q r
section
variable {P : Program} {K E : TypeId}
/-- Block b of w is a map of at most n entries that says F. -/
def IsMapT (P : Program) (K E : TypeId) (w : World) (b n : Nat) (F : Int → Int → Int → Bool) : Prop := IsMapB P K E key w b n (fun t => F t.1.1 t.1.2.1 t.1.2.2)
theorem IsMapT.made (P : Program) (K E : TypeId) (w : World) : IsMapT P K E (w.alloc (.map #[] 0)) w.heap.size 0 (fun _ _ _ => false) := IsMapB.made P K E key w
theorem IsMapT.below {w w' : World} {b n : Nat} {F : Int → Int → Int → Bool} (h : IsMapT P K E w b n F) (hg : Below w.heap.size w w') : IsMapT P K E w' b n F := IsMapB.below h hg
theorem IsMapT.drewN {w : World} {b n : Nat} {F : Int → Int → Int → Bool} (h : IsMapT P K E w b n F) (m : Nat) : IsMapT P K E (w.drewN m) b n F := h
theorem IsMapT.drew {w : World} {b n : Nat} {F : Int → Int → Int → Bool} (h : IsMapT P K E w b n F) : IsMapT P K E w.drew b n F := h
theorem IsMapT.mono {w : World} {b n n' : Nat} {F : Int → Int → Int → Bool} (h : IsMapT P K E w b n F) (hn : n ≤ n') : IsMapT P K E w b n' F := IsMapB.mono h hn
theorem IsMapT.lt {w : World} {b n : Nat} {F : Int → Int → Int → Bool} (h : IsMapT P K E w b n F) : b < w.heap.size := IsMapB.lt h
theorem IsMapT.set {w : World} {b n : Nat} {F : Int → Int → Int → Bool} (h : IsMapT P K E w b n F) {p : Addr} (hp : b ≠ p.block) (v : Value) : IsMapT P K E (w.setCell p v) b n F := by
  obtain ⟨D, ⟨es, clock, hb, r⟩, h2⟩ := h
  exact ⟨D, ⟨es, clock, (Below.heap_setCell w p v b hp).trans hb, r⟩, h2⟩
variable {ops : Array Oper} {rest : List Oper} {o : Oper} {a : Act} {Q : Exit → Act → World → Prop}
/-- 'make(map[..]..)', one event. -/
theorem made_event {w : World} (K E : TypeId) (hg : o.guard = none) {T : TypeId} (hop : o.op = Op.makeMap T none)
    (h : ∀ b, b = w.heap.size → ∀ w', IsMapT P K E w' b 0 (fun _ _ _ => false) → Below w.heap.size w w' → wpList P ops Q rest (a.put o.dst (.map (some b))) w') : wpList P ops Q (o :: rest) a w := by
  refine wpList_plain hg fun K' hK' => ?_
  unfold Oper.wp
  simp [execOp, hop, run_makeMap, Result.andThen]
  exact hK' _ _ (h _ rfl _ (IsMapT.made P K E w) (below_alloc (Below.refl _ _) _))
/-- 'm[k]', one event. -/
theorem look {w : World} {b n : Nat} {F : Int → Int → Int → Bool} (hM : IsMapT P K E w b n F) {x y d : Int} (hx : In64 x) (hy : In64 y) (hd : In64 d) {I : TypeId} (A : TripKey P K I) (L : Keyed P K) {T : TypeId} (ht : P.underlying T = some (.map K E)) (he : P.underlying E = some .bool) (hz : (zeroValue E).run P w = .ok (.bool false) w)
    {c : Bool} (hc : F x y d = c) (hg : o.guard = none) (m u : Operand) (hop : o.op = Op.lookup T m u false) (hm : a.eval m = .map (some b)) (hu : a.eval u = .agg #[.int .i64 x, .int .i64 y, .int .i64 d])
    (hK : wpList P ops Q rest (a.put o.dst (.bool c)) w) : wpList P ops Q (o :: rest) a w :=
  look_event hM ⟨(x, y, d), hx, hy, hd⟩ T L ht he hz hg m u hop hm _ hu (ktOf A hx hy hd) (by
    show wpList P ops Q rest (a.put o.dst (.bool (F x y d))) w
    rw [hc]
    exact hK)
/-- 'm[k] = true', one event. -/
theorem put {w : World} {b n : Nat} {F : Int → Int → Int → Bool} (hM : IsMapT P K E w b n F) {x y d : Int} (hx : In64 x) (hy : In64 y) (hd : In64 d) {I : TypeId} (A : TripKey P K I) (L : Keyed P K) {T : TypeId} (ht : P.underlying T = some (.map K E)) (he : P.underlying E = some .bool) (hn : n < 9223372036854775807)
    (hg : o.guard = none) (m y' u : Operand) (hop : o.op = Op.mapUpdate T m y' u) (hm : a.eval m = .map (some b)) (hy' : a.eval y' = .agg #[.int .i64 x, .int .i64 y, .int .i64 d]) (hu : a.eval u = .bool true)
    (hK : ∀ w', IsMapT P K E w' b (n + 1) (upd F x y d) → w.grownBy w' (some b) → wpList P ops Q rest (a.put o.dst undef) w') : wpList P ops Q (o :: rest) a w :=
  put_event hM key_inj ⟨(x, y, d), hx, hy, hd⟩ T L ht he hn true hg m y' u hop hm _ hy' hu (ktOf A hx hy hd) (fun w' h1 h2 => hK w' (by
    have e : (fun z : T64 => if z = ⟨(x, y, d), hx, hy, hd⟩ then true else F z.1.1 z.1.2.1 z.1.2.2) = (fun z : T64 => upd F x y d z.1.1 z.1.2.1 z.1.2.2) := by
      funext z
      obtain ⟨⟨p, q, r⟩, hz⟩ := z
      unfold upd
      by_cases c : p = x ∧ q = y ∧ r = d
      · obtain ⟨rfl, rfl, rfl⟩ := c
        rw [if_pos rfl, if_pos ⟨rfl, rfl, rfl⟩]
      · rw [if_neg (fun e => c (by
          have := congrArg Subtype.val e
          simp only [Prod.mk.injEq] at this
          exact this)), if_neg c]
    rw [e] at h1
    exact h1) h2)
end
end Go.Proofs.YtnbfjggbplofgaaDoor.XMapT
