/- A row of bytes that a conversion has made: what a walk reads there, what it may write, what it reads behind that. Plain theorems. Conditions: none. -/
import Derived.Lib.ConvBytes
import Derived.Below
import Derived.Test.YtnbfjggbplofgaaDoorTCountTracksW
namespace Go.Proofs.YtnbfjggbplofgaaDoor.XBytes
open Go.RowKit Go.Proofs.YtnbfjggbplofgaaDoorW.PrintWords
set_option linter.unusedVariables false
/-- Row g holds the bytes xs in front, none of them frozen. -/
def BRow (g : Nat) (xs : List Int) (w : World) : Prop :=
  ∃ cs t lo hi, w.heap[g]? = some (.cells cs t (lo, hi)) ∧ xs.length ≤ lo ∧ xs.length ≤ 9223372036854775807 ∧ ∀ j, j < xs.length → cs[j]? = some (.int .u8 (xs.getD j 0))
theorem BRow.cell {g : Nat} {xs : List Int} {w : World} (h : BRow g xs w) (j : Nat) (hj : j < xs.length) : w.cell? ⟨g, j, none⟩ = some (.int .u8 (rd xs (j : Int))) := by
  obtain ⟨cs, t, lo, hi, hb, _, _, hc⟩ := h
  have e := hc j hj
  simp [World.cell?, hb, e, rd]
theorem BRow.free {g : Nat} {xs : List Int} {w : World} (h : BRow g xs w) (j : Nat) (hj : j < xs.length) : w.frozen? ⟨g, j, none⟩ = false := by
  obtain ⟨cs, t, lo, hi, hb, hl, _, hc⟩ := h
  simp only [World.frozen?, hb, Bool.and_eq_false_iff, decide_eq_false_iff_not]
  left
  omega
theorem BRow.put {g : Nat} {xs : List Int} {w : World} (h : BRow g xs w) (j : Nat) (v : Int) : BRow g (xs.set j v) (w.setCell ⟨g, j, none⟩ (.int .u8 v)) := by
  obtain ⟨cs, t, lo, hi, hb, hl, hm, hc⟩ := h
  refine ⟨cs.setIfInBounds j (.int .u8 v), t, lo, hi, ?_, by rw [List.length_set]; exact hl, by rw [List.length_set]; exact hm, fun i hi' => ?_⟩
  · simp only [World.setCell, Array.getElem?_modify]
    rw [hb]
    simp
  · rw [List.length_set] at hi'
    have e := hc i hi'
    have hlt : i < cs.size := by
      rcases Nat.lt_or_ge i cs.size with h' | h'
      · exact h'
      · rw [Array.getElem?_eq_none h'] at e
        cases e
    by_cases hij : j = i
    · subst hij
      rw [Array.getElem?_setIfInBounds_self_of_lt hlt]
      simp [List.getD_eq_getElem?_getD, hi']
    · rw [Array.getElem?_setIfInBounds_ne hij, e]
      simp [List.getD_eq_getElem?_getD, List.getElem?_set_ne hij]
theorem BRow.reads {g : Nat} {xs : List Int} {w : World} (h : BRow g xs w) : ReadsInt w .u8 (some ⟨g, 0, none⟩) xs.length xs := by
  refine ⟨rfl, ?_, fun _ => ⟨_, rfl, fun j hj => ?_⟩⟩
  · obtain ⟨_, _, _, _, _, _, hm, _⟩ := h
    exact hm
  · have := h.cell j hj
    rw [add_plain]
    simpa [rd] using this
theorem BRow.drewN {g : Nat} {xs : List Int} {w : World} (h : BRow g xs w) (m : Nat) : BRow g xs (w.drewN m) := h
theorem BRow.below {g : Nat} {xs : List Int} {w w' : World} (h : BRow g xs w) (hb : Below w.heap.size w w') : BRow g xs w' := by
  obtain ⟨cs, t, lo, hi, he, r⟩ := h
  have hg : g < w.heap.size := by
    rcases Nat.lt_or_ge g w.heap.size with h' | h'
    · exact h'
    · rw [Array.getElem?_eq_none h'] at he
      cases he
  exact ⟨cs, t, lo, hi, by rw [hb.block g hg]; exact he, r⟩
theorem BRow.far {g : Nat} {xs : List Int} {w : World} (h : BRow g xs w) {p : Addr} (hp : g ≠ p.block) (u : Value) : BRow g xs (w.setCell p u) := by
  obtain ⟨cs, t, lo, hi, he, r⟩ := h
  exact ⟨cs, t, lo, hi, by rw [Below.heap_setCell w p u g hp]; exact he, r⟩
theorem BRow.made (w : World) (e : TypeId) (s : ByteArray) (hs : s.size ≤ 9223372036854775807) : BRow w.heap.size (bytesOf s) (Lib.bytesWorld w e s) := by
  have hcs : s.size ≤ (Lib.bytesCells w e s).size := by
    unfold Lib.bytesCells
    rw [Array.size_append, Array.size_map]
    show s.size ≤ s.data.size + _
    have : s.data.size = s.size := rfl
    omega
  refine ⟨_, _, _, _, Lib.bytesWorld_at_new w e s, by rw [bytesOf_length]; exact hcs, by rw [bytesOf_length]; exact hs, fun j hj => ?_⟩
  rw [bytesOf_length] at hj
  have h1 := Lib.bytesWorld_cell w e s j hj
  have h2 := (bytes_reads w e s hs).2.2 (by omega)
  obtain ⟨ad, e1, h3⟩ := h2
  cases e1
  have h4 := h3 j hj
  rw [add_plain] at h4
  simp only [World.cell?, Lib.bytesWorld_at_new] at h4
  simpa using h4
section
variable {P : Program} {ops : Array Oper} {rest : List Oper} {o : Oper} {a : Act} {Q : Exit → Act → World → Prop} {W : World}
/-- []byte(s), one event. -/
theorem conv_event (src dst e : TypeId) {u : TypeDesc} (hs : P.underlying src = some u) (hd : P.underlying dst = some (.slice e)) (he : P.underlying e = some (.int .u8)) (s : ByteArray) (hz : s.size ≤ 9223372036854775807)
    (hgd : o.guard = none) (x : Operand) (ho : o.op = .convert src dst x) (hx : a.eval x = .string s)
    (h : ∀ g cap w1, BRow g (bytesOf s) w1 → W.heap.size ≤ g → Below W.heap.size W w1 → wpList P ops Q rest (a.put o.dst (.slice (some ⟨g, 0, none⟩) s.size cap)) w1) : wpList P ops Q (o :: rest) a W := by
  refine Kd.event_run (w1 := Lib.bytesWorld W e s) (v := .slice (some ⟨W.heap.size, 0, none⟩) s.size (grownCap W s.size 0 e)) hgd ?_ (h _ _ _ (BRow.made W e s hz) (Nat.le_refl _) (bytes_below (Below.refl _ _) (Nat.le_refl _) e s))
  unfold execOp
  rw [ho]
  simp only [hx, Sem.run_bind, print_bytes (P := P) src dst e hs hd he s W, Result.andThen_ok]
  rfl
/-- string(b), one event. -/
theorem back_event (src dst e : TypeId) (hs : P.underlying src = some (.slice e)) (he : P.underlying e = some (.int .u8)) (hd : P.underlying dst = some .string)
    (hgd : o.guard = none) (x : Operand) (ho : o.op = .convert src dst x) {g n cap : Nat} {xs : List Int} (hx : a.eval x = .slice (some ⟨g, 0, none⟩) n cap) (hn : n = xs.length) (hB : BRow g xs W)
    (h : ∀ t w1, t = strOfNums xs → w1 = W → wpList P ops Q rest (a.put o.dst (.string t)) w1) : wpList P ops Q (o :: rest) a W := by
  subst hn
  refine Kd.event_run (w1 := W) (v := .string (strOfNums xs)) hgd ?_ (h _ _ rfl rfl)
  unfold execOp
  rw [ho]
  simp only [hx, Sem.run_bind, string_of_reads (P := P) (src := src) (dst := dst) (c := cap) hs he hd hB.reads, Result.andThen_ok]
  rfl
end
/-- A byte of a text is another one. -/
def setB (s : ByteArray) (k v : Int) : Option ByteArray := if s.size ≤ 9223372036854775807 then (if 0 ≤ k then (if k < (s.size : Int) then some (strOfNums ((bytesOf s).set k.toNat v)) else none) else none) else none
theorem setB_some {s r : ByteArray} {k v : Int} (h : setB s k v = some r) : s.size ≤ 9223372036854775807 ∧ 0 ≤ k ∧ k < (s.size : Int) ∧ r = strOfNums ((bytesOf s).set k.toNat v) := by
  unfold setB at h
  by_cases h1 : s.size ≤ 9223372036854775807
  · rw [if_pos h1] at h
    by_cases h2 : 0 ≤ k
    · rw [if_pos h2] at h
      by_cases h3 : k < (s.size : Int)
      · rw [if_pos h3] at h
        exact ⟨h1, h2, h3, (Option.some.inj h).symm⟩
      · rw [if_neg h3] at h; cases h
    · rw [if_neg h2] at h; cases h
  · rw [if_neg h1] at h; cases h
end Go.Proofs.YtnbfjggbplofgaaDoor.XBytes
