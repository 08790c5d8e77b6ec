/- A map of whole numbers of a call's own, keyed by pairs of whole numbers, told as the list of its entries (in whatever order): what a look-up gives, what delete, a store at a new key, len and a range loop make of it. Plain theorems. Conditions: none. -/
import Derived.Maps.RangeWalk
import Derived.Test.YtfhplgiblknfcaaDoorTPlainBeforeXMapP
namespace Go.Proofs.YtfhplgiblknfcaaDoor.XMapL
open Go.RowKit Go.Maps Go.Proofs.YtfhplgiblknfcaaDoorW.PrintWords Go.Proofs.YtfhplgiblknfcaaDoor.XMapP
set_option linter.unusedVariables false
abbrev Sp := Int × Int × Int
def at_ (p q : Int) (s : Sp) : Bool := s.1 == p && s.2.1 == q
theorem at_iff {p q : Int} {s : Sp} : at_ p q s = true ↔ s.1 = p ∧ s.2.1 = q := by simp [at_]
def kS (s : Sp) : Lit := kp s.1 s.2.1
structure Says (D : DataW Unit) (L : List Sp) : Prop where
  sz : Maps.size D = L.length
  has : ∀ kl, Maps.has D kl = true ↔ ∃ s ∈ L, kl = kS s
  val : ∀ s ∈ L, ∀ zd, D.atKey (kS s) zd = .lit (.int .i64 s.2.2)
  in64 : ∀ s ∈ L, In64 s.1 ∧ In64 s.2.1 ∧ In64 s.2.2
  apart : L.Pairwise fun s t => ¬ (s.1 = t.1 ∧ s.2.1 = t.2.1)
theorem Says.inj {D : DataW Unit} {L : List Sp} (h : Says D L) {s t : Sp} (hs : s ∈ L) (ht : t ∈ L) (e : kS s = kS t) : s = t := by
  obtain ⟨a, b⟩ := kp_inj (h.in64 s hs).1 (h.in64 s hs).2.1 (h.in64 t ht).1 (h.in64 t ht).2.1 e
  have key : ∀ (l : List Sp), l.Pairwise (fun s t => ¬ (s.1 = t.1 ∧ s.2.1 = t.2.1)) → s ∈ l → t ∈ l → s = t := by
    intro l
    induction l with
    | nil => intro _ h; cases h
    | cons x r ih =>
      intro hp h1 h2
      obtain ⟨p1, p2⟩ := List.pairwise_cons.1 hp
      rcases List.mem_cons.1 h1 with rfl | h1'
      · rcases List.mem_cons.1 h2 with rfl | h2'
        · rfl
        · exact absurd ⟨a, b⟩ (p1 _ h2')
      · rcases List.mem_cons.1 h2 with rfl | h2'
        · exact absurd ⟨a.symm, b.symm⟩ (p1 _ h1')
        · exact ih p2 h1' h2'
  exact key L h.apart hs ht
theorem Says.nodup {D : DataW Unit} {L : List Sp} (h : Says D L) : L.Nodup := by
  refine h.apart.imp ?_
  intro s t hn e
  subst e
  exact hn ⟨rfl, rfl⟩
/-- The colour of a cell. -/
def look (L : List Sp) (p q : Int) : Int := match L.find? (at_ p q) with | some s => s.2.2 | none => 0
theorem has_false {D : DataW Unit} {L : List Sp} (h : Says D L) {kl : Lit} (hn : ∀ s ∈ L, kl ≠ kS s) : Maps.has D kl = false := by
  cases hb : Maps.has D kl with
  | false => rfl
  | true =>
    obtain ⟨s, hs, e⟩ := (h.has kl).1 hb
    exact absurd e (hn s hs)
theorem not_at {L : List Sp} {D : DataW Unit} (h : Says D L) {p q : Int} (hp : In64 p) (hq : In64 q) (hn : ∀ s ∈ L, at_ p q s = false) : ∀ s ∈ L, kp p q ≠ kS s := by
  intro s hs e
  obtain ⟨a, b⟩ := kp_inj hp hq (h.in64 s hs).1 (h.in64 s hs).2.1 e
  have := hn s hs
  rw [show at_ p q s = true from at_iff.2 ⟨a.symm, b.symm⟩] at this
  cases this
theorem Says.look {D : DataW Unit} {L : List Sp} (h : Says D L) (hm : IsMap D) {p q : Int} (hp : In64 p) (hq : In64 q) (hnone : Maps.has D (kp p q) = false → D.atKey (kp p q) (.lit (.int .i64 0)) = .lit (.int .i64 0)) : D.atKey (kp p q) (.lit (.int .i64 0)) = .lit (.int .i64 (look L p q)) := by
  unfold XMapL.look
  cases hf : L.find? (at_ p q) with
  | some s =>
    have hs := List.mem_of_find?_eq_some hf
    obtain ⟨a, b⟩ := at_iff.1 (List.find?_some hf)
    have := h.val s hs (.lit (.int .i64 0))
    unfold kS at this
    rw [a, b] at this
    exact this
  | none =>
    refine hnone (has_false h (not_at h hp hq fun s hs => ?_))
    have := List.find?_eq_none.1 hf s hs
    simpa using this
theorem Says.del {D : DataW Unit} {L : List Sp} (h : Says D L) (ht : Tidy D) {p q : Int} (hp : In64 p) (hq : In64 q) : Says (D.del (kp p q)) (L.filter fun s => !at_ p q s) := by
  have ne_of : ∀ s ∈ L, at_ p q s = false → kS s ≠ kp p q := by
    intro s hs hn e
    obtain ⟨a, b⟩ := kp_inj (h.in64 s hs).1 (h.in64 s hs).2.1 hp hq e
    rw [show at_ p q s = true from at_iff.2 ⟨a, b⟩] at hn
    cases hn
  refine ⟨?_, fun kl => ?_, fun s hs zd => ?_, fun s hs => h.in64 s ((List.mem_filter.1 hs).1), h.apart.sublist List.filter_sublist⟩
  · have hs := size_del (k := kp p q) ht
    cases hb : Maps.has D (kp p q) with
    | false =>
      rw [hb] at hs
      have : ∀ s ∈ L, (!at_ p q s) = true := by
        intro s hs'
        cases ha : at_ p q s with
        | false => rfl
        | true =>
          obtain ⟨a, b⟩ := at_iff.1 ha
          have := (h.has (kp p q)).2 ⟨s, hs', by unfold kS; rw [a, b]⟩
          rw [hb] at this
          cases this
      rw [List.filter_eq_self.2 this]
      have h2 := h.sz
      simp at hs
      omega
    | true =>
      rw [hb] at hs
      obtain ⟨s, hs', e⟩ := (h.has _).1 hb
      obtain ⟨a, b⟩ := kp_inj hp hq (h.in64 s hs').1 (h.in64 s hs').2.1 e
      have key : ∀ l : List Sp, l.Pairwise (fun s t => ¬ (s.1 = t.1 ∧ s.2.1 = t.2.1)) → s ∈ l → (l.filter fun s => !at_ p q s).length + 1 = l.length := by
        intro l
        induction l with
        | nil => intro _ h; cases h
        | cons x r ih =>
          intro hp h1
          obtain ⟨p1, p2⟩ := List.pairwise_cons.1 hp
          rcases List.mem_cons.1 h1 with rfl | h1'
          · have : ∀ t ∈ r, (!at_ p q t) = true := by
              intro t ht'
              cases ha : at_ p q t with
              | false => rfl
              | true =>
                obtain ⟨a', b'⟩ := at_iff.1 ha
                exact absurd ⟨a.symm.trans a'.symm, b.symm.trans b'.symm⟩ (p1 t ht')
            rw [List.filter_cons, if_neg (by simp [at_, a, b]), List.filter_eq_self.2 this]
            rfl
          · have hx : at_ p q x = false := by
              cases ha : at_ p q x with
              | false => rfl
              | true =>
                obtain ⟨a', b'⟩ := at_iff.1 ha
                exact absurd ⟨a'.trans a, b'.trans b⟩ (p1 s h1')
            rw [List.filter_cons, if_pos (by simp [hx]), List.length_cons, List.length_cons, ih p2 h1']
      have h2 := key L h.apart hs'
      have h3 := h.sz
      simp at hs
      omega
  · by_cases e : kl = kp p q
    · subst e
      rw [has_del_same]
      constructor
      · intro h'; cases h'
      · rintro ⟨s, hs, e⟩
        have := List.mem_filter.1 hs
        exact absurd e.symm (ne_of s this.1 (by simpa using this.2))
    · rw [has_del_other e, h.has]
      constructor
      · rintro ⟨s, hs, rfl⟩
        refine ⟨s, List.mem_filter.2 ⟨hs, ?_⟩, rfl⟩
        cases ha : at_ p q s with
        | false => rfl
        | true =>
          obtain ⟨a, b⟩ := at_iff.1 ha
          exact absurd (by unfold kS; rw [a, b]) e
      · rintro ⟨s, hs, rfl⟩
        exact ⟨s, (List.mem_filter.1 hs).1, rfl⟩
  · obtain ⟨h1, h2⟩ := List.mem_filter.1 hs
    rw [atKey_del_other (ne_of s h1 (by simpa using h2))]
    exact h.val s h1 zd
theorem Says.put {D : DataW Unit} {L : List Sp} (h : Says D L) (ht : Tidy D) (hm : IsMap D) {p q c : Int} (hp : In64 p) (hq : In64 q) (hc : In64 c) (hk : WideAt.IsKeyLit (kp p q)) (hn : ∀ s ∈ L, at_ p q s = false) : Says (D.put (kp p q) (.lit (.int .i64 c))) (L ++ [(p, q, c)]) := by
  have hno := not_at h hp hq hn
  refine ⟨?_, fun kl => ?_, fun s hs zd => ?_, fun s hs => ?_, ?_⟩
  · rw [size_put ht, has_false h hno, if_neg (by simp), h.sz]
    simp
  · by_cases e : kl = kp p q
    · subst e
      rw [has_put_same hm hk]
      exact ⟨fun _ => ⟨(p, q, c), by simp, rfl⟩, fun _ => rfl⟩
    · rw [has_put_other e, h.has]
      constructor
      · rintro ⟨s, hs, rfl⟩
        exact ⟨s, List.mem_append_left _ hs, rfl⟩
      · rintro ⟨s, hs, rfl⟩
        rcases List.mem_append.1 hs with hs | hs
        · exact ⟨s, hs, rfl⟩
        · rw [List.mem_singleton] at hs
          subst hs
          exact absurd rfl e
  · rcases List.mem_append.1 hs with hs | hs
    · rw [atKey_put_other (fun e => hno s hs e.symm)]
      exact h.val s hs zd
    · rw [List.mem_singleton] at hs
      subst hs
      exact atKey_put_same hm hk _ _
  · rcases List.mem_append.1 hs with hs | hs
    · exact h.in64 s hs
    · rw [List.mem_singleton] at hs
      subst hs
      exact ⟨hp, hq, hc⟩
  · refine List.pairwise_append.2 ⟨h.apart, by simp, fun s hs t ht' e => ?_⟩
    rw [List.mem_singleton] at ht'
    subst ht'
    have := hn s hs
    rw [show at_ p q s = true from at_iff.2 e] at this
    cases this
section
variable {P : Program} {K E : TypeId}
/-- Block b of w is a map of these entries, of at most n. -/
def IsMapL (P : Program) (K E : TypeId) (w : World) (b n : Nat) (L : List Sp) : Prop := ∃ D : DataW Unit, w.ownsMap P K (plainElem P E) b n D ∧ Says D L
theorem IsMapL.made (P : Program) (K E : TypeId) (w : World) : IsMapL P K E (w.alloc (.map #[] 0)) w.heap.size 0 [] :=
  ⟨.map [], World.ownsMap_made w P K _, rfl, fun kl => ⟨fun h => (by cases h), fun ⟨_, h, _⟩ => (by cases h)⟩, fun _ h => (by cases h), fun _ h => (by cases h), List.Pairwise.nil⟩
theorem IsMapL.below {w w' : World} {b n : Nat} {L : List Sp} (h : IsMapL P K E w b n L) (hg : Below w.heap.size w w') : IsMapL P K E w' b n L := by
  obtain ⟨D, ⟨es, clock, hb, r⟩, h2⟩ := h
  have hlt := (Array.getElem?_eq_some_iff.1 hb).1
  exact ⟨D, ⟨es, clock, (hg.block b hlt).trans hb, r⟩, h2⟩
theorem IsMapL.drew {w : World} {b n : Nat} {L : List Sp} (h : IsMapL P K E w b n L) : IsMapL P K E w.drew b n L := h
theorem IsMapL.drewN {w : World} {b n : Nat} {L : List Sp} (h : IsMapL P K E w b n L) (m : Nat) : IsMapL P K E (w.drewN m) b n L := h
theorem IsMapL.set {w : World} {b n : Nat} {L : List Sp} (h : IsMapL P K E w b n L) {p : Addr} (hp : b ≠ p.block) (v : Value) : IsMapL P K E (w.setCell p v) b n L := by
  obtain ⟨D, ⟨es, clock, hb, r⟩, h2⟩ := h
  exact ⟨D, ⟨es, clock, (Below.heap_setCell w p v b hp).trans hb, r⟩, h2⟩
theorem IsMapL.mono {w : World} {b n n' : Nat} {L : List Sp} (h : IsMapL P K E w b n L) (hn : n ≤ n') : IsMapL P K E w b n' L := by
  obtain ⟨D, h1, h2⟩ := h
  exact ⟨D, h1.mono hn, h2⟩
theorem IsMapL.lt {w : World} {b n : Nat} {L : List Sp} (h : IsMapL P K E w b n L) : b < w.heap.size := h.choose_spec.1.lt
theorem IsMapL.apart {w : World} {b n : Nat} {L : List Sp} (h : IsMapL P K E w b n L) : L.Pairwise fun s t => ¬ (s.1 = t.1 ∧ s.2.1 = t.2.1) := h.choose_spec.2.apart
variable {ops : Array Oper} {rest : List Oper} {o : Oper} {a : Act} {Q : Exit → Act → World → Prop} {Kc : Act → World → Prop}
/-- 'make(map[..]..)', one event. -/
theorem made_event {w : World} (K E : TypeId) (hg : o.guard = none) {T : TypeId} (hop : o.op = Op.makeMap T none)
    (h : ∀ b, b = w.heap.size → ∀ w', IsMapL P K E w' b 0 [] → Below w.heap.size w w' → wpList P ops Q rest (a.put o.dst (.map (some b))) w') : wpList P ops Q (o :: rest) a w := by
  refine wpList_plain hg fun K' hK' => ?_
  unfold Oper.wp
  simp [execOp, hop, run_makeMap, Result.andThen]
  exact hK' _ _ (h _ rfl _ (IsMapL.made P K E w) (below_alloc (Below.refl _ _) _))
theorem look_run {w : World} {b n : Nat} {L : List Sp} (hM : IsMapL P K E w b n L) {x y : Int} (hx : In64 x) (hy : In64 y) (A : PairKey P K E) (L' : Keyed P K) {T : TypeId} (ht : P.underlying T = some (.map K E)) (hz : (zeroValue E).run P w = .ok (.int .i64 0) w) :
    (Instr.lookup T (.map (some b)) (.agg #[.int .i64 x, .int .i64 y]) false).run P w = .ok (.int .i64 (look L x y)) w := by
  obtain ⟨D, hown, hD⟩ := hM
  obtain ⟨c, hrun, hat, _⟩ := hown.lookup_int L' ht A.he hz (kpOf A hx hy)
  have hl := hD.look hown.isMap hx hy (fun hn => by
    obtain ⟨es, rfl⟩ := hown.isMap
    unfold Maps.has at hn
    simp only [DataW.atKey]
    have : es.find? (fun p => p.1.sameKey (kp x y)) = none := by
      rw [List.find?_eq_none]
      intro p hp hs
      rw [List.any_eq_false] at hn
      exact hn p hp hs
    rw [this])
  rw [hl] at hat
  injection hat with hat
  injection hat with _ hat
  rw [hat]
  exact hrun
theorem put_run {w : World} {b n : Nat} {L : List Sp} (hM : IsMapL P K E w b n L) {p q c : Int} (hp : In64 p) (hq : In64 q) (hc : In64 c) (hnew : ∀ s ∈ L, at_ p q s = false) (hn : n < 9223372036854775807) (A : PairKey P K E) (L' : Keyed P K) {T : TypeId} (ht : P.underlying T = some (.map K E)) :
    ∃ w', (Instr.mapUpdate T (.map (some b)) (.agg #[.int .i64 p, .int .i64 q]) (.int .i64 c)).run P w = .ok () w' ∧ IsMapL P K E w' b (n + 1) (L ++ [(p, q, c)]) ∧ w.mapTurned w' b := by
  obtain ⟨D, hown, hD⟩ := hM
  have hkey := kpOf A hp hq
  obtain ⟨w', hrun, h1, h2⟩ := hown.store L' ht hn hkey (plainElem_int A.he (wf64 hc))
  exact ⟨w', hrun, ⟨_, h1, hD.put (hown.tidy L') hown.isMap hp hq hc (L'.key hkey) hnew⟩, h2⟩
/-- 'm[k] = v' at a new key, in a region that draws. -/
theorem put_step {w : World} {b n : Nat} {L : List Sp} (hM : IsMapL P K E w b n L) {p q c : Int} (hp : In64 p) (hq : In64 q) (hc : In64 c) (hnew : ∀ s ∈ L, at_ p q s = false) (hn : n < 9223372036854775807) (A : PairKey P K E) (L' : Keyed P K) {T : TypeId} (ht : P.underlying T = some (.map K E))
    (hw : Region.wanted o (yielded ops a.tmps) = true) (hN : o.dst = none) (m y u : Operand) (hop : o.op = Op.mapUpdate T m y u) (hm : a.eval m = .map (some b)) (hy : a.eval y = .agg #[.int .i64 p, .int .i64 q]) (hu : a.eval u = .int .i64 c)
    (h : ∀ w', IsMapL P K E w' b (n + 1) (L ++ [(p, q, c)]) → w.grownBy w' (some b) → Kc a w') : if Region.wanted o (yielded ops a.tmps) = true then Oper.wp P o a w Kc Q else Kc (a.put none undef) w := by
  rw [if_pos hw]
  obtain ⟨w', hrun, h1, h2⟩ := put_run hM hp hq hc hnew hn A L' ht
  unfold Oper.wp
  simp [execOp, hop, hm, hy, hu, hrun, Result.andThen]
  show Kc (a.put o.dst undef) w'
  rw [hN]
  exact h _ h1 h2.grown
/-- 'm[k] = v' at a new key, one event. -/
theorem put_event {w : World} {b n : Nat} {L : List Sp} (hM : IsMapL P K E w b n L) {p q c : Int} (hp : In64 p) (hq : In64 q) (hc : In64 c) (hnew : ∀ s ∈ L, at_ p q s = false) (hn : n < 9223372036854775807) (A : PairKey P K E) (L' : Keyed P K) {T : TypeId} (ht : P.underlying T = some (.map K E))
    (hg : o.guard = none) (m y u : Operand) (hop : o.op = Op.mapUpdate T m y u) (hm : a.eval m = .map (some b)) (hy : a.eval y = .agg #[.int .i64 p, .int .i64 q]) (hu : a.eval u = .int .i64 c)
    (h : ∀ w', IsMapL P K E w' b (n + 1) (L ++ [(p, q, c)]) → w.mapTurned w' b → wpList P ops Q rest (a.put o.dst undef) w') : wpList P ops Q (o :: rest) a w := by
  refine wpList_plain hg fun K' hK' => ?_
  obtain ⟨w', hrun, h1, h2⟩ := put_run hM hp hq hc hnew hn A L' ht
  unfold Oper.wp
  simp [execOp, hop, hm, hy, hu, hrun, Result.andThen]
  exact hK' _ _ (h _ h1 h2)
/-- 'delete(m, k)', one event. -/
theorem del_event {w : World} {b n : Nat} {L : List Sp} (hM : IsMapL P K E w b n L) {p q : Int} (hp : In64 p) (hq : In64 q) (A : PairKey P K E) (L' : Keyed P K) {T : TypeId} (ht : P.underlying T = some (.map K E))
    (hg : o.guard = none) (m x : Operand) (hop : o.op = Op.call { callee := Callee.builtin Builtin.delete, args := #[m, x], argTypes := #[T, K] }) (hm : a.eval m = .map (some b)) (hx : a.eval x = .agg #[.int .i64 p, .int .i64 q])
    (h : ∀ w', IsMapL P K E w' b n (L.filter fun s => !at_ p q s) → w.mapTurned w' b → wpList P ops Q rest (a.put o.dst (.tuple #[])) w') : wpList P ops Q (o :: rest) a w := by
  obtain ⟨D, hown, hD⟩ := hM
  exact wpList_delete_own w hg m x T K hop E L' ht _ b n D hm hown _ _ hx (kpOf A hp hq) (fun w' h1 h2 => h w' ⟨_, h1, hD.del (hown.tidy L') hp hq⟩ h2)
/-- A range loop over such a map under way: what has come out, what is still to come. -/
def RangeL (P : Program) (K E : TypeId) (w : World) (b r n : Nat) (L done todo : List Sp) (cnt : Nat) : Prop :=
  ∃ (D : DataW Unit) (left : Lit → Bool), w.ranges P K (plainElem P E) b r n D left cnt ∧ Says D L ∧ (∀ kl, left kl = true ↔ ∃ s ∈ todo, kl = kS s) ∧ (done ++ todo).Perm L
theorem RangeL.blocks {w w' : World} {b r n : Nat} {L done todo : List Sp} {cnt : Nat} (h : RangeL P K E w b r n L done todo cnt) (e1 : w'.heap[b]? = w.heap[b]?) (e2 : w'.heap[r]? = w.heap[r]?) : RangeL P K E w' b r n L done todo cnt := by
  obtain ⟨D, left, ⟨es, clock, since, seen, c0, hb, F, hs, hD, hr, rest⟩, h2⟩ := h
  exact ⟨D, left, ⟨es, clock, since, seen, c0, e1.trans hb, F, hs, hD, e2.trans hr, rest⟩, h2⟩
theorem RangeL.lt {w : World} {b r n : Nat} {L done todo : List Sp} {cnt : Nat} (h : RangeL P K E w b r n L done todo cnt) : b < w.heap.size ∧ r < w.heap.size := by
  obtain ⟨D, left, h1, _⟩ := h
  exact ⟨h1.owns.lt, h1.lt⟩
theorem RangeL.below {w w' : World} {b r n : Nat} {L done todo : List Sp} {cnt : Nat} (h : RangeL P K E w b r n L done todo cnt) (hb : Below w.heap.size w w') : RangeL P K E w' b r n L done todo cnt :=
  h.blocks (hb.block b h.lt.1) (hb.block r h.lt.2)
theorem RangeL.drew {w : World} {b r n : Nat} {L done todo : List Sp} {cnt : Nat} (h : RangeL P K E w b r n L done todo cnt) : RangeL P K E w.drew b r n L done todo cnt := h
theorem RangeL.drewN {w : World} {b r n : Nat} {L done todo : List Sp} {cnt : Nat} (h : RangeL P K E w b r n L done todo cnt) (m : Nat) : RangeL P K E (w.drewN m) b r n L done todo cnt := h
theorem RangeL.set {w : World} {b r n : Nat} {L done todo : List Sp} {cnt : Nat} (h : RangeL P K E w b r n L done todo cnt) {p : Addr} (h1 : b ≠ p.block) (h2 : r ≠ p.block) (v : Value) : RangeL P K E (w.setCell p v) b r n L done todo cnt :=
  h.blocks (Below.heap_setCell w p v b h1) (Below.heap_setCell w p v r h2)
/-- 'range m', one event. -/
theorem range_event {w : World} {b n : Nat} {L : List Sp} (hM : IsMapL P K E w b n L) (L' : Keyed P K) {T : TypeId} (ht : P.underlying T = some (.map K E)) (hg : o.guard = none) (m : Operand) (hop : o.op = Op.range T m) (hm : a.eval m = .map (some b))
    (h : ∀ r w' cnt, r = w.heap.size → RangeL P K E w' b r n L [] L cnt → cnt = L.length → Below w.heap.size w w' → wpList P ops Q rest (a.put o.dst (.pointer (some ⟨r, 0, none⟩))) w') : wpList P ops Q (o :: rest) a w := by
  obtain ⟨D, hown, hD⟩ := hM
  refine wpList_range_own w hg m T hop K E L' ht _ b n D hm hown (fun w' h1 h2 h3 => h _ w' _ rfl ⟨D, _, h1, hD, hD.has, List.Perm.refl _⟩ hD.sz ⟨h2.os, h2.tape, h2.output, h2.size, fun i hi => h2.block i hi (by simp)⟩)
/-- The step of the loop, one event: two ways. -/
theorem next_event {w : World} {b r n : Nat} {L done todo : List Sp} {cnt : Nat} (h : RangeL P K E w b r n L done todo cnt) (A : PairKey P K E) (L' : Keyed P K) (hg : o.guard = none) (it : Operand) (hop : o.op = Op.next it false) (hit : a.eval it = .pointer (some ⟨r, 0, none⟩))
    (hDone : todo = [] → wpList P ops Q rest (a.put o.dst (.tuple #[.bool false])) w)
    (hMore : ∀ (x y c : Int) (w' : World) (cnt' : Nat), (x, y, c) ∈ todo → In64 x → In64 y → In64 c → RangeL P K E w' b r n L (done ++ [(x, y, c)]) (todo.erase (x, y, c)) cnt' → cnt' < cnt → Below r w w' → w'.heap.size = w.heap.size → (∀ i, i ≠ r → w'.heap[i]? = w.heap[i]?) →
      (Instr.entry (.pointer (some ⟨r, 0, none⟩))).run P w' = .ok (.tuple #[.agg #[.int .i64 x, .int .i64 y], .int .i64 c]) w' → wpList P ops Q rest (a.put o.dst (.tuple #[.bool true, .agg #[.int .i64 x, .int .i64 y], .int .i64 c])) w') :
    wpList P ops Q (o :: rest) a w := by
  obtain ⟨D, left, hr, hD, hl, hp⟩ := h
  refine wpList_plain hg fun K' hK' => ?_
  unfold Oper.wp
  rcases hr.next L' o.type with ⟨h0, hlf, hrun⟩ | ⟨key, v, kl, y, w', cnt', hkey, hlk, hv, hat, hrun, hrg, hlt, hgr, hsz, hen⟩
  · simp [execOp, hop, hit, hrun, Result.andThen]
    refine hK' _ _ (hDone ?_)
    cases todo with
    | nil => rfl
    | cons s t =>
      have := (hl (kS s)).2 ⟨s, by simp, rfl⟩
      rw [hlf] at this
      cases this
  · obtain ⟨s, hs, rfl⟩ := (hl kl).1 hlk
    have hsL : s ∈ L := hp.mem_iff.1 (List.mem_append_right _ hs)
    obtain ⟨i1, i2, i3⟩ := hD.in64 s hsL
    have ek : key = .agg #[.int .i64 s.1, .int .i64 s.2.1] := L'.inj hkey (kpOf A i1 i2)
    subst ek
    obtain ⟨c, rfl, rfl, hwc⟩ := plainElem_int_inv A.he hv
    have hc := (hat (.lit (.int .i64 0))).symm.trans (hD.val s hsL _)
    injection hc with hc
    injection hc with _ hc
    subst hc
    simp [execOp, hop, hit, hrun, Result.andThen]
    have nd : (done ++ todo).Nodup := hp.nodup_iff.2 hD.nodup
    have ndt : todo.Nodup := (List.nodup_append.1 nd).2.1
    have hset : ∀ i, i ≠ r → w'.heap[i]? = w.heap[i]? := fun i hi => by
      by_cases h' : i < w.heap.size
      · exact hgr.block i h' (by simpa using hi)
      · rw [Array.getElem?_eq_none (by omega), Array.getElem?_eq_none (by omega)]
    refine hK' _ _ (hMore s.1 s.2.1 s.2.2 w' cnt' hs i1 i2 i3 ⟨D, _, hrg, hD, fun kl => ?_, ?_⟩ hlt ⟨hgr.os, hgr.tape, hgr.output, hgr.size, fun i hi => hset i (Nat.ne_of_lt hi)⟩ hsz hset hen)
    · simp only [Bool.and_eq_true, Bool.not_eq_true']
      rw [hl]
      constructor
      · rintro ⟨⟨t, ht, rfl⟩, hne⟩
        refine ⟨t, (List.Nodup.mem_erase_iff ndt).2 ⟨?_, ht⟩, rfl⟩
        rintro rfl
        rw [WideAt.sameKey_self (L'.key hkey)] at hne
        cases hne
      · rintro ⟨t, ht, rfl⟩
        obtain ⟨hne, ht'⟩ := (List.Nodup.mem_erase_iff ndt).1 ht
        refine ⟨⟨t, ht', rfl⟩, ?_⟩
        cases hsk : (kS t).sameKey (kS s) with
        | false => rfl
        | true => exact absurd (hD.inj (hp.mem_iff.1 (List.mem_append_right _ ht')) hsL (WideAt.sameKey_eq hsk)) hne
    · have : (s :: todo.erase s).Perm todo := (List.perm_cons_erase hs).symm
      rw [List.append_assoc]
      exact ((List.Perm.append_left done this)).trans hp
end
end Go.Proofs.YtfhplgiblknfcaaDoor.XMapL
