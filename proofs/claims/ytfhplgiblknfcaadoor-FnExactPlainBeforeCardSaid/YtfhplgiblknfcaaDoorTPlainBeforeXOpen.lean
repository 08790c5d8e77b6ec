/- What an argument of a law reads as, kind by kind: from the form's reading of an argument to the kinds' own words. Conditions: none beyond those that each lemma states. -/
import Derived.Test.YtfhplgiblknfcaaDoorTPlainBeforeW
import Derived.ChangeArms
import Derived.Deep.Slices
import Derived.DataElems
import Derived.SizedLaws
import Derived.Below
namespace Go.Proofs.YtfhplgiblknfcaaDoor.XOpen
open Go.RowKit Go.Proofs.YtfhplgiblknfcaaDoorW.PrintWords Go.ChangeShapes Go.WideShapes Go.Deep
set_option linter.unusedVariables false

section
variable {H : Type} (enc : TypeId × Value → H) (P : Program) (W : World)

/-- What reads at type t is a value of the kind d of which T holds. -/
def Op {α : Type} (t : TypeId) (d : Kd α) (T : α → Prop) : Prop :=
  ∀ (fuel : Nat) (cs : List Value) (x : DataW H × List MemPlace), DataW.trod enc P W 0 (fun _ => true) true fuel t cs = some x →
    (∀ n ∈ DataW.weights P t x.1, n ≤ reachBytes) → ∃ a : α, d.K W a cs ∧ T a

theorem Op_int {t : TypeId} {k : IntKind} (ht : P.underlying t = some (.int k)) : Op enc P W t (Kd.int k) (fun a => (Lit.int k a).wf = true) := by
  intro fuel cs x h _
  obtain ⟨n, rfl, rfl, hw⟩ := DataW.trod_int ht h
  exact ⟨n, rfl, hw⟩
theorem Op_str {t : TypeId} (ht : P.underlying t = some .string) : Op enc P W t Kd.string (fun s => s.size ≤ 140737488351232) := by
  intro fuel cs x h hw
  obtain ⟨s, rfl, rfl, _⟩ := DataW.trod_string ht h
  refine ⟨s, rfl, ?_⟩
  have := hw s.data.toList.length (by simp [DataW.weights])
  simpa [reachBytes] using this

theorem choose_list {α : Type} {p : Nat → α → Prop} : ∀ {n : Nat}, (∀ i, i < n → ∃ x, p i x) → ∃ l : List α, l.length = n ∧ ∀ i y, l[i]? = some y → p i y
  | 0, _ => ⟨[], rfl, fun i y h => by simp at h⟩
  | n + 1, h => by
    obtain ⟨l, hl, hp⟩ := choose_list (n := n) (fun i hi => h i (by omega))
    obtain ⟨x, hx⟩ := h n (by omega)
    refine ⟨l ++ [x], by simp [hl], fun i y hy => ?_⟩
    rcases Nat.lt_or_ge i l.length with hi | hi
    · rw [List.getElem?_append_left hi] at hy
      exact hp i y hy
    · have hi' : i = n := by
        have := (List.getElem?_eq_some_iff.1 hy).1
        rw [List.length_append, List.length_singleton] at this
        omega
      subst hi'
      obtain rfl : x = y := by
        rw [List.getElem?_append_right hi, hl, Nat.sub_self] at hy
        simpa using hy
      exact hx
theorem mem_weightsAll {e : TypeId} {d : DataW H} {ds : List (DataW H)} (hd : d ∈ ds) {n : Nat} (hn : n ∈ DataW.weights P e d) : n ∈ DataW.weightsAll P e ds := by
  induction ds with
  | nil => cases hd
  | cons y r ih =>
    rw [DataW.weightsAll]
    rcases List.mem_cons.1 hd with rfl | h
    · exact List.mem_append_left _ hn
    · exact List.mem_append_right _ (ih h)

theorem Op_slice {α : Type} {t e : TypeId} {d : Kd α} {T : α → Prop} (ht : P.underlying t = some (.slice e)) (hc : P.cellsOf e = d.sz) (he : Op enc P W e d T) :
    Op enc P W t (Kd.slice e d) (fun l => l.length ≤ maxLen ∧ l.length * P.bytesOf e ≤ 140737488351232 ∧ ∀ y ∈ l, T y) := by
  intro fuel cs x h hw
  rcases open_slice ht h with ⟨rfl, rfl⟩ | ⟨a, len, cap, m, n, D, Pl, rfl, _, hl, hm, hmm, rfl, hx⟩
  · exact ⟨[], ⟨none, 0, rfl, Nat.le_refl _, rfl, by simp, fun hp => absurd hp (by simp)⟩, by simp, by simp, by simp⟩
  · have hlm : len ≤ m := by rw [hmm]; split <;> omega
    rw [show DataW.weights P t ((DataW.slice ((List.range len).map D) ((List.range (m - len)).map fun j => D (len + j)), MemPlace.row a (m * P.cellsOf e) ++ (List.range m).flatMap Pl) : DataW H × List MemPlace).1 = _ from by
      show DataW.weights P t (DataW.slice _ _) = _
      rw [DataW.weights, ht]] at hw
    simp only [List.length_map, List.length_range] at hw
    have each : ∀ i, i < len → ∃ y : α, (∃ c, c.length = d.sz ∧ d.K W y c ∧ ∀ j u, c[j]? = some u → W.cell? (a.add (i * d.sz + j)) = some u) ∧ T y := by
      intro i hi
      obtain ⟨c, h1, h2⟩ := hx i (by omega)
      rw [hc] at h1
      obtain ⟨y, hK, hT⟩ := he n c _ h2 (fun q hq => hw q (by
        refine List.mem_cons_of_mem _ (List.mem_append_left _ (mem_weightsAll P ?_ hq))
        exact List.mem_map.2 ⟨i, List.mem_range.2 hi, rfl⟩))
      refine ⟨y, ⟨c, d.K_len hK, hK, fun j u hu => ?_⟩, hT⟩
      obtain ⟨_, hlen, hcell⟩ := World.cells?_some h1
      have := hcell j (by have := (List.getElem?_eq_some_iff.1 hu).1; omega)
      rw [Addr.add_add] at this
      exact this.trans hu
    obtain ⟨Y, hYl, hY⟩ := choose_list each
    refine ⟨Y, ⟨some a, cap, by simp [hYl], by rw [hYl]; exact hl, rfl, ?_, fun _ => ⟨a, rfl, fun j p hj => (hY j p hj).1⟩⟩, ?_, ?_, ?_⟩
    · simp only [maxLen] at hm
      omega
    · omega
    · have z := hw _ (List.mem_cons_self)
      simp only [reachBytes] at z
      refine Nat.le_trans (Nat.mul_le_mul_right _ ?_) z
      omega
    · intro y hy
      obtain ⟨i, hi⟩ := List.getElem?_of_mem hy
      exact (hY i y hi).2

/-- The fields of a struct, from one on. -/
def OpFs {α : Type} (fs : List Field) (off : Nat) (d : Kd α) (T : α → Prop) : Prop :=
  ∀ (fuel : Nat) (cs : List Value) (xs : List (DataW H × List MemPlace)), xs.length = fs.length →
    (∀ (i : Nat) (f : Field), fs[i]? = some f → DataW.trod enc P W 0 (fun _ => true) true fuel f.type ((cs.drop f.offset).take (P.cellsOf f.type)) = xs[i]?) →
    (∀ n ∈ DataW.weightsEach P (fs.map (·.type)) (xs.map (·.1)), n ≤ reachBytes) → ∃ a : α, d.K W a ((cs.drop off).take d.sz) ∧ T a
theorem OpFs_one {α : Type} {f : Field} {off : Nat} {d : Kd α} {T : α → Prop} (ho : f.offset = off) (hc : P.cellsOf f.type = d.sz) (h : Op enc P W f.type d T) : OpFs enc P W [f] off d T := by
  intro fuel cs xs hl hx hw
  match xs, hl with
  | [x], _ =>
    have h0 := hx 0 f rfl
    rw [hc, ho] at h0
    exact h fuel _ x h0 (fun n hn => hw n (by simpa [DataW.weightsEach] using hn))
theorem OpFs_cons {α β : Type} {f : Field} {fs : List Field} {off : Nat} {d : Kd α} {T : α → Prop} {d2 : Kd β} {T2 : β → Prop} (ho : f.offset = off) (hc : P.cellsOf f.type = d.sz) (h : Op enc P W f.type d T)
    (h2 : OpFs enc P W fs (off + d.sz) d2 T2) : OpFs enc P W (f :: fs) off (Kd.pair d d2) (fun a => T a.1 ∧ T2 a.2) := by
  intro fuel cs xs hl hx hw
  match xs, hl with
  | x :: xs, hl =>
    have h0 := hx 0 f rfl
    rw [hc, ho] at h0
    obtain ⟨a, hK, hT⟩ := h fuel _ x h0 (fun n hn => hw n (by simp only [List.map_cons, DataW.weightsEach]; exact List.mem_append_left _ hn))
    obtain ⟨b, hK2, hT2⟩ := h2 fuel cs xs (by simpa using hl) (fun i g hg => by simpa using hx (i + 1) g (by simpa using hg)) (fun n hn => hw n (by simp only [List.map_cons, DataW.weightsEach]; exact List.mem_append_right _ hn))
    refine ⟨(a, b), ⟨_, _, ?_, hK, hK2⟩, hT, hT2⟩
    show (cs.drop off).take (d.sz + d2.sz) = _
    rw [List.take_add, List.drop_drop]
theorem Op_struct {α β : Type} {t : TypeId} {fs : Array Field} {d : Kd α} {T : α → Prop} (f : β → α) (g : α → β) (hfg : ∀ a, f (g a) = a) (ht : P.underlying t = some (.struct fs)) (hc : P.cellsOf t = d.sz)
    (h : OpFs enc P W fs.toList 0 d T) : Op enc P W t (Kd.iso d f) (fun b => T (f b)) := by
  intro fuel cs x hx hw
  obtain ⟨xs, n, rfl, rfl, hl, hlen, hf⟩ := DataW.trod_struct ht hx
  obtain ⟨a, hK, hT⟩ := h n cs xs (by simpa using hlen) (fun i fl hfl => hf i fl (by simpa using hfl)) (fun q hq => hw q (by
    rw [DataW.weights, ht]
    exact hq))
  rw [List.drop_zero, List.take_of_length_le (by omega)] at hK
  refine ⟨g a, ?_, ?_⟩
  · show d.K W (f (g a)) cs
    rw [hfg]; exact hK
  · show T (f (g a))
    rw [hfg]; exact hT

/-- What one argument weighs. -/
theorem weight_arg {ts : List TypeId} {ds : List (DataW H)} (h : (DataW.weightsEach P ts ds).all (· ≤ reachBytes) = true) {j : Nat} {t : TypeId} {d : DataW H} (ht : ts[j]? = some t) (hd : ds[j]? = some d) : ∀ n ∈ DataW.weights P t d, n ≤ reachBytes := by
  have h' : ∀ n ∈ DataW.weightsEach P ts ds, n ≤ reachBytes := fun n hn => by simpa using List.all_eq_true.1 h n hn
  clear h
  induction ts generalizing j ds with
  | nil => cases ht
  | cons t0 ts ih =>
    cases ds with
    | nil => cases hd
    | cons d0 ds =>
      rw [DataW.weightsEach] at h'
      cases j with
      | zero =>
        obtain rfl : t0 = t := by simpa using ht
        obtain rfl : d0 = d := by simpa using hd
        exact fun n hn => h' n (List.mem_append_left _ hn)
      | succ j => exact ih (by simpa using ht) (by simpa using hd) (fun n hn => h' n (List.mem_append_right _ hn))
end
/-- An argument: its cells, and what is told of it. -/
theorem arg {H : Type} {enc : TypeId × Value → H} {P : Program} {W : World} {α : Type} {t : TypeId} {d : Kd α} {T : α → Prop} (h : Op enc P W t d T) {v : Value} {x : DataW H} {ps : List MemPlace}
    (hv : DataW.Trod enc P W 0 (fun _ => true) true t v x ps) {ts : List TypeId} {ds : List (DataW H)} (hsz : (DataW.weightsEach P ts ds).all (· ≤ reachBytes) = true) {j : Nat} (ht : ts[j]? = some t) (hd : ds[j]? = some x) :
    ∃ a : α, d.K W a v.cells.toList ∧ T a := by
  obtain ⟨fuel, hf⟩ := hv
  exact h fuel _ _ hf (weight_arg P hsz ht hd)
end Go.Proofs.YtfhplgiblknfcaaDoor.XOpen
