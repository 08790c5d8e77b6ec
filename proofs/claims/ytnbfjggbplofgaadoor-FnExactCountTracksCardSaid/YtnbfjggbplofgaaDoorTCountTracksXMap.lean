/- A map of bools of a call's own, told as a function of its keys: what a look-up gives, what a store makes of it. Plain theorems. Conditions: none. -/
import Derived.Maps.OwnSet
import Derived.Below
import Derived.Test.YtnbfjggbplofgaaDoorTCountTracksW
namespace Go.Proofs.YtnbfjggbplofgaaDoor.XMap
open Go.RowKit Go.Maps
set_option linter.unusedVariables false
section
variable {P : Program} {K E : TypeId}
theorem bool_inv (he : P.underlying E = some .bool) {v : Value} {z : DataW Unit × List MemPlace} (h : plainElem P E v = some z) : ∃ b, v = .bool b ∧ z = (.lit (.bool b), []) := by
  unfold plainElem at h
  rw [he] at h
  cases v <;> simp at h
  subst h
  exact ⟨_, rfl, rfl⟩
/-- Block b of w is a map from keys (told by key) to bools, of at most n entries, that says F. -/
def IsMapB {α : Type} (P : Program) (K E : TypeId) (key : α → Lit) (w : World) (b n : Nat) (F : α → Bool) : Prop :=
  ∃ D : DataW Unit, w.ownsMap P K (plainElem P E) b n D ∧ ∀ x, D.atKey (key x) (.lit (.bool false)) = .lit (.bool (F x))
theorem IsMapB.made {α : Type} (P : Program) (K E : TypeId) (key : α → Lit) (w : World) : IsMapB P K E key (w.alloc (.map #[] 0)) w.heap.size 0 (fun _ => false) :=
  ⟨.map [], World.ownsMap_made w P K _, fun _ => rfl⟩
theorem IsMapB.kept {α : Type} {key : α → Lit} {w w' : World} {b n : Nat} {F : α → Bool} (h : IsMapB P K E key w b n F) {row : Option Nat} (hg : w.grownBy w' row) (hne : some b ≠ row) : IsMapB P K E key w' b n F := by
  obtain ⟨D, h1, h2⟩ := h
  exact ⟨D, h1.kept hg hne, h2⟩
theorem IsMapB.alloc {α : Type} {key : α → Lit} {w : World} {b n : Nat} {F : α → Bool} (h : IsMapB P K E key w b n F) (o : Obj) : IsMapB P K E key (w.alloc o) b n F := h.kept (World.grownBy_alloc w o none) (by simp)
theorem IsMapB.below {α : Type} {key : α → Lit} {w w' : World} {b n : Nat} {F : α → Bool} (h : IsMapB P K E key w b n F) (hg : Below w.heap.size w w') : IsMapB P K E key w' b n F := by
  obtain ⟨D, ⟨es, clock, hb, r⟩, h2⟩ := h
  have hlt := (Array.getElem?_eq_some_iff.1 hb).1
  exact ⟨D, ⟨es, clock, (hg.block b hlt).trans hb, r⟩, h2⟩
theorem IsMapB.drewN {α : Type} {key : α → Lit} {w : World} {b n : Nat} {F : α → Bool} (h : IsMapB P K E key w b n F) (m : Nat) : IsMapB P K E key (w.drewN m) b n F := h
theorem IsMapB.mono {α : Type} {key : α → Lit} {w : World} {b n n' : Nat} {F : α → Bool} (h : IsMapB P K E key w b n F) (hn : n ≤ n') : IsMapB P K E key w b n' F := by
  obtain ⟨D, h1, h2⟩ := h
  exact ⟨D, h1.mono hn, h2⟩
theorem IsMapB.lt {α : Type} {key : α → Lit} {w : World} {b n : Nat} {F : α → Bool} (h : IsMapB P K E key w b n F) : b < w.heap.size := h.choose_spec.1.lt
variable {ops : Array Oper} {rest : List Oper} {o : Oper} {a : Act} {Q : Exit → Act → World → Prop}
/-- 'm[k]', one event. -/
theorem look_event {α : Type} {key : α → Lit} {w : World} {b n : Nat} {F : α → Bool} (hM : IsMapB P K E key w b n F) (x : α) (T : TypeId) (L : Keyed P K) (ht : P.underlying T = some (.map K E)) (he : P.underlying E = some .bool) (hz : (zeroValue E).run P w = .ok (.bool false) w)
    (hg : o.guard = none) (m y : Operand) (hop : o.op = Op.lookup T m y false) (hm : a.eval m = .map (some b)) (v : Value) (hy : a.eval y = v) (hkey : keyOf P K v = some (key x))
    (hK : wpList P ops Q rest (a.put o.dst (.bool (F x))) w) : wpList P ops Q (o :: rest) a w := by
  obtain ⟨D, hown, hD⟩ := hM
  refine wpList_plain hg fun K' hK' => ?_
  obtain ⟨c, ps, hrun, hat⟩ := hown.lookup L ht hz (plainElem_bool he false) hkey
  obtain ⟨c', rfl, hc⟩ := bool_inv he hat
  have hc' : F x = c' := by
    have e := hD x
    simp only [Prod.mk.injEq] at hc
    rw [hc.1] at e
    injection e with e
    injection e with e
    exact e.symm
  subst hc'
  unfold Oper.wp
  simp [execOp, hop, hm, hy, hrun, Result.andThen]
  exact hK' _ _ hK
/-- 'm[k] = v', one event. -/
theorem put_event {α : Type} [DecidableEq α] {key : α → Lit} {w : World} {b n : Nat} {F : α → Bool} (hM : IsMapB P K E key w b n F) (hinj : ∀ p q, key p = key q → p = q) (x : α) (T : TypeId) (L : Keyed P K) (ht : P.underlying T = some (.map K E)) (he : P.underlying E = some .bool) (hn : n < 9223372036854775807) (c : Bool)
    (hg : o.guard = none) (m y u : Operand) (hop : o.op = Op.mapUpdate T m y u) (hm : a.eval m = .map (some b)) (v : Value) (hy : a.eval y = v) (hu : a.eval u = .bool c) (hkey : keyOf P K v = some (key x))
    (hK : ∀ w', IsMapB P K E key w' b (n + 1) (fun z => if z = x then c else F z) → w.grownBy w' (some b) → wpList P ops Q rest (a.put o.dst undef) w') : wpList P ops Q (o :: rest) a w := by
  obtain ⟨D, hown, hD⟩ := hM
  refine wpList_mapUpdate_own w hg m y u T hop K E L ht (plainElem P E) b n D hm hown hn v (.bool c) (key x) hy hu hkey (.lit (.bool c)) [] (plainElem_bool he c) fun w' h1 h2 => hK w' ⟨_, h1, fun z => ?_⟩ h2
  by_cases hz : z = x
  · subst hz
    show _ = DataW.lit (Lit.bool (if z = z then c else F z))
    rw [if_pos rfl]
    obtain ⟨es, clock, _, _, _, hDm⟩ := hown
    exact atKey_put_same ⟨_, hDm⟩ (L.key hkey) _ _
  · show _ = DataW.lit (Lit.bool (if z = x then c else F z))
    rw [if_neg hz, atKey_put_other (fun e => hz (hinj _ _ e))]
    exact hD z
end
end Go.Proofs.YtnbfjggbplofgaaDoor.XMap
