/- FillSteps of the program and of the reference agree at all whole numbers of the machine. Conditions: none beyond that. -/
import Derived.Test.YtjidpcfedlekoaaQFnExactFillSteps
namespace Go.Proofs.Ytjidpcfedlekoaa.Pure
open Go.RowKit Go.Proofs.Ytjidpcfedlekoaa.PFnExactFillSteps Go.Proofs.YtjidpcfedlekoaaW.PrintWords Go.Proofs.YtjidpcfedlekoaaW.PrintLast
set_option linter.unusedVariables false
set_option linter.unusedSimpArgs false
theorem ev_succ {α : Type} {g : Nat → Option α} {r : α} (h : Ev (fun k => g (k + 1)) r) : Ev g r := by
  obtain ⟨K, h⟩ := h
  refine ⟨K + 1, fun k hk => ?_⟩
  obtain ⟨j, rfl⟩ : ∃ j, k = j + 1 := ⟨k - 1, by omega⟩
  exact h j (by omega)
theorem ev_some {α : Type} (r : α) : Ev (fun _ => some r) r := ⟨0, fun _ _ => rfl⟩
theorem ev_const {α : Type} {x : Option α} {r : α} (h : x = some r) : Ev (fun _ => x) r := ⟨0, fun _ _ => h⟩
theorem ev_bind {α β : Type} {g : Nat → Option α} {f : Nat → α → Option β} {a : α} {r : β} (h : Ev g a) (k : Ev (fun n => f n a) r) : Ev (fun n => (g n).bind (f n)) r := by
  obtain ⟨K, h⟩ := h
  obtain ⟨L, k⟩ := k
  exact ⟨max K L, fun n hn => by show (g n).bind (f n) = some r; rw [h n (by omega)]; exact k n (by omega)⟩
theorem ev_pos {α : Type} {c : Prop} [Decidable c] {f g : Nat → Option α} {r : α} (hc : c) (h : Ev f r) : Ev (fun k => if c then f k else g k) r := by
  obtain ⟨K, h⟩ := h
  exact ⟨K, fun n hn => by show (if c then f n else g n) = some r; rw [if_pos hc]; exact h n hn⟩
theorem ev_neg {α : Type} {c : Prop} [Decidable c] {f g : Nat → Option α} {r : α} (hc : ¬ c) (h : Ev g r) : Ev (fun k => if c then f k else g k) r := by
  obtain ⟨K, h⟩ := h
  exact ⟨K, fun n hn => by show (if c then f n else g n) = some r; rw [if_neg hc]; exact h n hn⟩
theorem ev_ite {α : Type} {c : Prop} [Decidable c] {f g : Nat → Option α} {r : α} (h1 : c → Ev f r) (h2 : ¬ c → Ev g r) : Ev (fun k => if c then f k else g k) r := by
  by_cases hc : c
  · exact ev_pos hc (h1 hc)
  · exact ev_neg hc (h2 hc)
theorem ev_out {α : Type} {g : Nat → Option α} {r : α} (h : Ev g r) : ∃ k, g k = some r := by
  obtain ⟨K, h⟩ := h
  exact ⟨K, h K (Nat.le_refl _)⟩
theorem ev_uni {α : Type} {g : Nat → Option α} {r r' : α} (h : Ev g r) (h' : Ev g r') : r = r' := by
  obtain ⟨K, h⟩ := h
  obtain ⟨L, h'⟩ := h'
  have := (h (max K L) (by omega)).symm.trans (h' (max K L) (by omega))
  exact Option.some.inj this
theorem w64 {x : Int} (h1 : -9223372036854775808 ≤ x) (h2 : x ≤ 9223372036854775807) : wrap64 x = x := by
  unfold wrap64
  omega
theorem i64_range {x : Int} (h : (Lit.int .i64 x).wf = true) : -9223372036854775808 ≤ x ∧ x ≤ 9223372036854775807 := by
  have e1 : IntKind.i64.min = -9223372036854775808 := by decide
  have e2 : IntKind.i64.max = 9223372036854775807 := by decide
  have h' : IntKind.i64.min ≤ x ∧ x ≤ IntKind.i64.max := by simpa [Lit.wf] using h
  omega
theorem maxLen_eq : maxLen = 9223372036854775807 := rfl
theorem in_eq (n lo hi : Int) : spec_l1In.f n lo hi = some (decide (lo ≤ n) && decide (n ≤ hi)) := by
  unfold spec_l1In.f
  by_cases h : n ≥ lo
  · rw [if_pos h]
    simp [show lo ≤ n from h]
  · rw [if_neg h]
    simp [show ¬ lo ≤ n from h]
theorem within_eq (n lo hi : Int) : impl_within.f n lo hi = some (decide (lo ≤ n) && decide (n ≤ hi)) := by
  unfold impl_within.f
  by_cases h : lo ≤ n
  · rw [if_pos h]
    simp [h]
  · rw [if_neg h]
    simp [h]
def inB (n lo hi : Int) : Bool := decide (lo ≤ n) && decide (n ≤ hi)
theorem inB_iff {n lo hi : Int} : inB n lo hi = true ↔ lo ≤ n ∧ n ≤ hi := by unfold inB; simp
theorem l1In_eq (n lo hi : Int) : spec_l1In.f n lo hi = some (inB n lo hi) := in_eq n lo hi
theorem wi_eq (n lo hi : Int) : impl_within.f n lo hi = some (inB n lo hi) := within_eq n lo hi
theorem ev_and {b r : Bool} {g : Nat → Option Bool} {f : Nat → Option Bool} (h : Ev g b) (k : b = true → Ev f r) : Ev (fun n => (g n).bind fun t => if t = true then f n else some false) (b && r) := by
  refine ev_bind h ?_
  cases b with
  | true => exact ev_pos rfl (k rfl)
  | false => exact ev_neg (by decide) (ev_some _)
theorem ev_and2 {b r : Bool} {g : Nat → Option Bool} {f E : Nat → Option Bool} (hE : Ev E false) (h : Ev g b) (k : b = true → Ev f r) : Ev (fun n => (g n).bind fun t => if t = true then f n else E n) (b && r) := by
  refine ev_bind h ?_
  cases b with
  | true => exact ev_pos rfl (k rfl)
  | false => exact ev_neg (by decide) hE
theorem ev_id {b : Bool} {g : Nat → Option Bool} (h : Ev g b) : Ev (fun n => (g n).bind fun t => some t) b := ev_bind h (ev_some _)
def fM : Nat → Bool → Nat → Nat → Nat → Nat → Nat → Nat → Nat → Option (Nat × Nat × Nat)
  | 0, _, _, _, _, _, _, _, _ => none
  | _ + 1, false, 0, _, _, lo, hi, st, _ => some (lo, hi, st)
  | k + 1, false, n + 1, F, R, lo, hi, st, _ => fM k true n F R lo hi st 50
  | k + 1, true, n, F, R, lo, hi, st, p => bif Nat.ble 1 p && (Nat.ble p 99 && Nat.ble st 5000) then
      (bif F.testBit p then (bif R.testBit p then fM k true n F (R ^^^ 2 ^ p) lo hi (st + 1) (p + 1) else fM k true n F (R ^^^ 2 ^ p) lo hi (st + 1) (p - 1))
       else fM k false n (F ||| 2 ^ p) R (bif Nat.blt p lo then p else lo) (bif Nat.blt hi p then p else hi) st p) else none
def fOk (n : Nat) : Bool := match fM 6000 false n 0 0 50 50 0 0 with | some (a, b, _) => Nat.ble a 100 && Nat.ble b 100 | none => false
theorem fOk_all : ∀ n : Fin 40, fOk (n.1 + 1) = true := by decide +kernel
def RelL (B : Nat) (xs : List Bool) : Prop := xs.length = 101 ∧ ∀ i, i < 101 → xs.getD i false = B.testBit i
def RelF (B : Nat) (G : Int → Bool) : Prop := ∀ i : Nat, i < 101 → G ((i : Int) - 50) = B.testBit i
theorem bit_or (B p i : Nat) : (B ||| 2 ^ p).testBit i = (B.testBit i || decide (p = i)) := by rw [Nat.testBit_or, Nat.testBit_two_pow]
theorem bit_xor (B p i : Nat) : (B ^^^ 2 ^ p).testBit i = (B.testBit i ^^ decide (p = i)) := by rw [Nat.testBit_xor, Nat.testBit_two_pow]
theorem RelL.or {B : Nat} {xs : List Bool} (h : RelL B xs) (p : Nat) (hp : p < 101) : RelL (B ||| 2 ^ p) (xs.set p true) := by
  refine ⟨by rw [List.length_set]; exact h.1, fun i hi => ?_⟩
  rw [bit_or, ← h.2 i hi]
  have hl := h.1
  by_cases e : p = i
  · subst e; simp [List.getD_eq_getElem?_getD, hl, hp]
  · simp [List.getD_eq_getElem?_getD, List.getElem?_set_ne e, e]
theorem RelL.xor {B : Nat} {xs : List Bool} (h : RelL B xs) (p : Nat) (hp : p < 101) {v : Bool} (hv : B.testBit p = !v) : RelL (B ^^^ 2 ^ p) (xs.set p v) := by
  refine ⟨by rw [List.length_set]; exact h.1, fun i hi => ?_⟩
  rw [bit_xor]
  have hl := h.1
  by_cases e : p = i
  · subst e; rw [hv]; simp [List.getD_eq_getElem?_getD, hl, hp]
  · rw [← h.2 i hi]; simp [List.getD_eq_getElem?_getD, List.getElem?_set_ne e, e]
theorem RelF.or {B : Nat} {G : Int → Bool} (h : RelF B G) (p : Nat) : RelF (B ||| 2 ^ p) (fun z => if z = (p : Int) - 50 then true else G z) := by
  intro i hi
  rw [bit_or, ← h i hi]
  by_cases e : p = i
  · subst e; simp
  · simp only [e, decide_false, Bool.or_false]
    rw [if_neg (by omega)]
theorem RelF.xor {B : Nat} {G : Int → Bool} (h : RelF B G) (p : Nat) {v : Bool} (hv : B.testBit p = !v) : RelF (B ^^^ 2 ^ p) (fun z => if z = (p : Int) - 50 then v else G z) := by
  intro i hi
  rw [bit_xor]
  by_cases e : p = i
  · subst e; rw [hv]; simp
  · rw [← h i hi]
    simp only [e, decide_false, Bool.xor_false]
    rw [if_neg (by omega)]
theorem least_eq (a b : Nat) : spec_l1Least.f (a : Int) (b : Int) = some (((bif Nat.blt b a then b else a : Nat)) : Int) := by
  unfold spec_l1Least.f
  by_cases h : a < b
  · rw [if_pos (by omega), show Nat.blt b a = false by rw [Bool.eq_false_iff, ne_eq, Nat.blt_eq]; omega]; rfl
  · rw [if_neg (by omega)]
    by_cases h2 : b < a
    · rw [show Nat.blt b a = true by rw [Nat.blt_eq]; omega]; rfl
    · rw [show Nat.blt b a = false by rw [Bool.eq_false_iff, ne_eq, Nat.blt_eq]; omega, show a = b by omega]; rfl
theorem most_eq (a b : Nat) : spec_l1Most.f (a : Int) (b : Int) = some (((bif Nat.blt a b then b else a : Nat)) : Int) := by
  unfold spec_l1Most.f
  by_cases h : a < b
  · rw [if_neg (by omega), show Nat.blt a b = true by rw [Nat.blt_eq]; omega]; rfl
  · rw [show Nat.blt a b = false by rw [Bool.eq_false_iff, ne_eq, Nat.blt_eq]; omega]
    by_cases h2 : b < a
    · rw [if_pos (by omega)]; rfl
    · rw [if_neg (by omega), show a = b by omega]; rfl
theorem fM_run (k : Nat) : ∀ (n F R lo hi st p : Nat) (a b c : Nat) (x5 x6 : List Bool) (G H : Int → Bool) (i m : Nat), RelL F x5 → RelL R x6 → RelF F G → RelF R H → st ≤ 5001 →
    (fM k false n F R lo hi st p = some (a, b, c) → i + n = m → m ≤ 40 →
      spec_roFill.l0 k (n : Int) x5 x6 (lo : Int) (hi : Int) (st : Int) = some (wrap64 ((a : Int) - 50), wrap64 ((b : Int) - 50), (c : Int)) ∧
      impl_fill.l0 k (m : Int) (i : Int) G H ((lo : Int) - 50) ((hi : Int) - 50) (st : Int) = some ((a : Int) - 50, (b : Int) - 50, (c : Int))) ∧
    (fM k true n F R lo hi st p = some (a, b, c) → i + 1 + n = m → m ≤ 40 →
      spec_roFill.l1 k ((n : Int) + 1) x5 x6 (lo : Int) (hi : Int) (st : Int) (p : Int) = some (wrap64 ((a : Int) - 50), wrap64 ((b : Int) - 50), (c : Int)) ∧
      impl_fill.l1 k (m : Int) (i : Int) G H ((lo : Int) - 50) ((hi : Int) - 50) (st : Int) ((p : Int) - 50) = some ((a : Int) - 50, (b : Int) - 50, (c : Int))) := by
  induction k with
  | zero => exact fun n F R lo hi st p a b c x5 x6 G H i m _ _ _ _ _ => ⟨fun h => by simp [fM] at h, fun h => by simp [fM] at h⟩
  | succ k ih =>
    intro n F R lo hi st p a b c x5 x6 G H i m r5 r6 rG rH hst
    refine ⟨fun h hm hm2 => ?_, fun h hm hm2 => ?_⟩
    · cases n with
      | zero =>
        simp only [fM, Option.some.injEq, Prod.mk.injEq] at h
        obtain ⟨rfl, rfl, rfl⟩ := h
        constructor
        · rw [spec_roFill.l0, if_neg (by omega)]
        · rw [impl_fill.l0, if_pos (by omega), if_pos (by omega), if_pos (by omega), if_neg (by omega)]
      | succ n =>
        simp only [fM] at h
        obtain ⟨h1, h2⟩ := (ih n F R lo hi st 50 a b c x5 x6 G H i m r5 r6 rG rH hst).2 h (by omega) hm2
        constructor
        · rw [spec_roFill.l0, if_pos (by omega)]
          rw [show ((n + 1 : Nat) : Int) = (n : Int) + 1 by omega]
          exact h1
        · rw [impl_fill.l0, if_pos (by omega), if_pos (by omega), if_pos (by omega), if_pos (by omega)]
          exact h2
    · simp only [fM] at h
      cases hg : (Nat.ble 1 p && (Nat.ble p 99 && Nat.ble st 5000)) with
      | false => rw [hg] at h; simp at h
      | true =>
        rw [hg] at h
        simp only [Bool.and_eq_true, Nat.ble_eq] at hg
        obtain ⟨g1, g2, g3⟩ := hg
        simp only [cond_true] at h
        have l5 := r5.1
        have l6 := r6.1
        have e5 : rdOf false x5 (p : Int) = F.testBit p := r5.2 p (by omega)
        have e6 : rdOf false x6 (p : Int) = R.testBit p := r6.2 p (by omega)
        have eG : G ((p : Int) - 50) = F.testBit p := rG p (by omega)
        have eH : H ((p : Int) - 50) = R.testBit p := rH p (by omega)
        have ws : wrap64 ((st : Int) + 1) = ((st + 1 : Nat) : Int) := by rw [w64 (by omega) (by omega)]; omega
        have wp : wrap64 ((p : Int) + 1) = ((p + 1 : Nat) : Int) := by rw [w64 (by omega) (by omega)]; omega
        have wm : wrap64 ((p : Int) + (-1)) = ((p - 1 : Nat) : Int) := by rw [w64 (by omega) (by omega)]; omega
        have hS : spec_roFill.l1 (k + 1) ((n : Int) + 1) x5 x6 (lo : Int) (hi : Int) (st : Int) (p : Int) = if F.testBit p = true then (if R.testBit p = true then spec_roFill.l1 k ((n : Int) + 1) x5 (x6.set p (!(R.testBit p))) lo hi ((st + 1 : Nat) : Int) ((p + 1 : Nat) : Int) else spec_roFill.l1 k ((n : Int) + 1) x5 (x6.set p (!(R.testBit p))) lo hi ((st + 1 : Nat) : Int) ((p - 1 : Nat) : Int)) else ((spec_l1Least.f (lo : Int) (p : Int)).bind fun t114 => ((spec_l1Most.f (hi : Int) (p : Int)).bind fun t115 => (spec_roFill.l0 k (n : Int) (x5.set p true) x6 t114 t115 (st : Int)))) := by
          rw [spec_roFill.l1, if_pos (by omega), if_pos (by omega), e5, e6, if_pos (show (p : Int) < (x6.length : Int) by omega), ws, wp, wm, show wrap64 ((n : Int) + 1 - 1) = (n : Int) by rw [w64 (by omega) (by omega)]; omega]
          rfl
        have hI : impl_fill.l1 (k + 1) (m : Int) (i : Int) G H ((lo : Int) - 50) ((hi : Int) - 50) (st : Int) ((p : Int) - 50) = if F.testBit p = true then (if R.testBit p = true then impl_fill.l1 k (m : Int) (i : Int) G (fun z => if z = (p : Int) - 50 then false else H z) ((lo : Int) - 50) ((hi : Int) - 50) ((st + 1 : Nat) : Int) (((p + 1 : Nat) : Int) - 50) else impl_fill.l1 k (m : Int) (i : Int) G (fun z => if z = (p : Int) - 50 then true else H z) ((lo : Int) - 50) ((hi : Int) - 50) ((st + 1 : Nat) : Int) (((p - 1 : Nat) : Int) - 50)) else impl_fill.l0 k (m : Int) ((i + 1 : Nat) : Int) (fun z => if z = (p : Int) - 50 then true else G z) H (((bif Nat.blt p lo then p else lo : Nat) : Int) - 50) (((bif Nat.blt hi p then p else hi : Nat) : Int) - 50) (st : Int) := by
          have e1 : (if (p : Int) - 50 < (lo : Int) - 50 then (p : Int) - 50 else (lo : Int) - 50) = ((bif Nat.blt p lo then p else lo : Nat) : Int) - 50 := by
            by_cases q : p < lo
            · rw [if_pos (by omega), show Nat.blt p lo = true by rw [Nat.blt_eq]; exact q]; rfl
            · rw [if_neg (by omega), show Nat.blt p lo = false by rw [Bool.eq_false_iff, ne_eq, Nat.blt_eq]; exact q]; rfl
          have e2 : (if (hi : Int) - 50 < (p : Int) - 50 then (p : Int) - 50 else (hi : Int) - 50) = ((bif Nat.blt hi p then p else hi : Nat) : Int) - 50 := by
            by_cases q : hi < p
            · rw [if_pos (by omega), show Nat.blt hi p = true by rw [Nat.blt_eq]; exact q]; rfl
            · rw [if_neg (by omega), show Nat.blt hi p = false by rw [Bool.eq_false_iff, ne_eq, Nat.blt_eq]; exact q]; rfl
          rw [impl_fill.l1, if_pos (by omega), if_pos (by omega), if_pos (by omega), if_pos (by omega), eG, eH, e1, e2, show (p : Int) - 50 + 1 = ((p + 1 : Nat) : Int) - 50 by omega, show (p : Int) - 50 - 1 = ((p - 1 : Nat) : Int) - 50 by omega, show (st : Int) + 1 = ((st + 1 : Nat) : Int) by omega, show (i : Int) + 1 = ((i + 1 : Nat) : Int) by omega]
        rw [hS, hI]
        cases hF : F.testBit p with
        | true =>
          rw [hF] at h
          simp only [cond_true] at h
          rw [if_pos rfl, if_pos rfl]
          cases hR : R.testBit p with
          | true =>
            rw [hR] at h
            simp only [cond_true] at h
            rw [if_pos rfl, if_pos rfl]
            exact (ih n F _ lo hi (st + 1) (p + 1) a b c x5 _ G _ i m r5 (r6.xor p (by omega) (v := !true) (by rw [hR]; rfl)) rG (rH.xor p (v := false) (by rw [hR]; rfl)) (by omega)).2 h hm hm2
          | false =>
            rw [hR] at h
            simp only [cond_false] at h
            rw [if_neg (by decide), if_neg (by decide)]
            exact (ih n F _ lo hi (st + 1) (p - 1) a b c x5 _ G _ i m r5 (r6.xor p (by omega) (v := !false) (by rw [hR]; rfl)) rG (rH.xor p (v := true) (by rw [hR]; rfl)) (by omega)).2 h hm hm2
        | false =>
          rw [hF] at h
          simp only [cond_false] at h
          rw [if_neg (by decide), if_neg (by decide), least_eq, most_eq]
          simp only [Option.bind_some]
          exact (ih n _ R _ _ st p a b c _ x6 _ H (i + 1) m (r5.or p (by omega)) r6 (rG.or p) rH hst).1 h (by omega) hm2
theorem rel0 : RelL 0 (List.replicate 101 false) ∧ RelF 0 (fun _ => false) := by
  refine ⟨⟨by simp, fun i hi => ?_⟩, fun i hi => ?_⟩
  · rw [Nat.zero_testBit, List.getD_eq_getElem?_getD, List.getElem?_replicate, if_pos hi]; rfl
  · rw [Nat.zero_testBit]
theorem fill_both (n : Nat) (h1 : 1 ≤ n) (h2 : n ≤ 40) : ∃ a b c : Int, spec_roFill.f 6000 (n : Int) = some (a, b, c) ∧ impl_fill.f 6000 (n : Int) = some (a, b, c) := by
  have h := fOk_all ⟨n - 1, by omega⟩
  simp only [show n - 1 + 1 = n by omega] at h
  unfold fOk at h
  cases hm : fM 6000 false n 0 0 50 50 0 0 with
  | none => rw [hm] at h; simp at h
  | some r =>
    obtain ⟨a, b, c⟩ := r
    rw [hm] at h
    simp only [Bool.and_eq_true, Nat.ble_eq] at h
    obtain ⟨q1, q2⟩ := (fM_run 6000 n 0 0 50 50 0 0 a b c _ _ _ _ 0 n rel0.1 rel0.1 rel0.2 rel0.2 (by omega)).1 hm (by omega) h2
    refine ⟨(a : Int) - 50, (b : Int) - 50, (c : Int), ?_, ?_⟩
    · unfold spec_roFill.f
      rw [if_pos (by decide), w64 (x := (a : Int) - 50) (by omega) (by omega), w64 (x := (b : Int) - 50) (by omega) (by omega)] at *
      exact q1
    · unfold impl_fill.f
      rw [if_pos (by omega), if_pos (by omega)]
      exact q2
theorem FnExactFillSteps : LawHolds := by
  intro n hn
  refine ⟨6000, ?_⟩
  unfold laws_FnExactFillSteps.f spec_FillSteps.f impl_FillSteps.f
  rw [l1In_eq, wi_eq]
  cases hi : inB n 1 40 with
  | false => rfl
  | true =>
    obtain ⟨h1, h2⟩ := inB_iff.1 hi
    obtain ⟨a, b, c, e1, e2⟩ := fill_both n.toNat (by omega) (by omega)
    rw [show ((n.toNat : Nat) : Int) = n by omega] at e1 e2
    simp only [Option.bind_some, if_true, e1, e2]
    simp

end Go.Proofs.Ytjidpcfedlekoaa.Pure
