/- LinesUsed of the program and of the reference agree at every route and all numbers. Conditions: those of reading alone. -/
import Derived.Test.YtecoeknjnhffbaaQFnExactLinesUsed
namespace Go.Proofs.Ytecoeknjnhffbaa.Pure
open Go.RowKit Go.Proofs.Ytecoeknjnhffbaa.PFnExactLinesUsed Go.Proofs.YtecoeknjnhffbaaW.PrintWords Go.Proofs.YtecoeknjnhffbaaW.PrintLast
set_option linter.unusedVariables false
set_option linter.unusedSimpArgs false
theorem ev_succ {α : Type} {g : Nat → Option α} {r : α} (h : Ev (fun k => g (k + 1)) r) : Ev g r := by
  obtain ⟨K, h⟩ := h
  refine ⟨K + 1, fun k hk => ?_⟩
  obtain ⟨j, rfl⟩ : ∃ j, k = j + 1 := ⟨k - 1, by omega⟩
  exact h j (by omega)
theorem ev_some {α : Type} (r : α) : Ev (fun _ => some r) r := ⟨0, fun _ _ => rfl⟩
theorem ev_const {α : Type} {x : Option α} {r : α} (h : x = some r) : Ev (fun _ => x) r := ⟨0, fun _ _ => h⟩
theorem ev_bind {α β : Type} {g : Nat → Option α} {f : Nat → α → Option β} {a : α} {r : β} (h : Ev g a) (k : Ev (fun n => f n a) r) : Ev (fun n => (g n).bind (f n)) r := by
  obtain ⟨K, h⟩ := h
  obtain ⟨L, k⟩ := k
  exact ⟨max K L, fun n hn => by show (g n).bind (f n) = some r; rw [h n (by omega)]; exact k n (by omega)⟩
theorem ev_pos {α : Type} {c : Prop} [Decidable c] {f g : Nat → Option α} {r : α} (hc : c) (h : Ev f r) : Ev (fun k => if c then f k else g k) r := by
  obtain ⟨K, h⟩ := h
  exact ⟨K, fun n hn => by show (if c then f n else g n) = some r; rw [if_pos hc]; exact h n hn⟩
theorem ev_neg {α : Type} {c : Prop} [Decidable c] {f g : Nat → Option α} {r : α} (hc : ¬ c) (h : Ev g r) : Ev (fun k => if c then f k else g k) r := by
  obtain ⟨K, h⟩ := h
  exact ⟨K, fun n hn => by show (if c then f n else g n) = some r; rw [if_neg hc]; exact h n hn⟩
theorem ev_ite {α : Type} {c : Prop} [Decidable c] {f g : Nat → Option α} {r : α} (h1 : c → Ev f r) (h2 : ¬ c → Ev g r) : Ev (fun k => if c then f k else g k) r := by
  by_cases hc : c
  · exact ev_pos hc (h1 hc)
  · exact ev_neg hc (h2 hc)
theorem ev_out {α : Type} {g : Nat → Option α} {r : α} (h : Ev g r) : ∃ k, g k = some r := by
  obtain ⟨K, h⟩ := h
  exact ⟨K, h K (Nat.le_refl _)⟩
theorem ev_uni {α : Type} {g : Nat → Option α} {r r' : α} (h : Ev g r) (h' : Ev g r') : r = r' := by
  obtain ⟨K, h⟩ := h
  obtain ⟨L, h'⟩ := h'
  have := (h (max K L) (by omega)).symm.trans (h' (max K L) (by omega))
  exact Option.some.inj this
theorem w64 {x : Int} (h1 : -9223372036854775808 ≤ x) (h2 : x ≤ 9223372036854775807) : wrap64 x = x := by
  unfold wrap64
  omega
theorem i64_range {x : Int} (h : (Lit.int .i64 x).wf = true) : -9223372036854775808 ≤ x ∧ x ≤ 9223372036854775807 := by
  have e1 : IntKind.i64.min = -9223372036854775808 := by decide
  have e2 : IntKind.i64.max = 9223372036854775807 := by decide
  have h' : IntKind.i64.min ≤ x ∧ x ≤ IntKind.i64.max := by simpa [Lit.wf] using h
  omega
theorem maxLen_eq : maxLen = 9223372036854775807 := rfl
theorem rd_nat (l : List Int) (i : Nat) : rd l (i : Int) = l.getD i 0 := by simp [rd]
theorem rdL_nat (l : List (List Int)) (i : Nat) : rd_L1 l (i : Int) = l.getD i [] := by simp [rd_L1]
theorem getD_mem {α : Type} {l : List α} {d : α} {i : Nat} (h : i < l.length) : l.getD i d ∈ l := by
  rw [List.getD_eq_getElem?_getD, List.getElem?_eq_getElem h]
  exact List.getElem_mem h
theorem szIntS_some (l : List Int) (a : Int) : ∃ t, laws_szIntS.f l a = some t := by
  unfold laws_szIntS.f
  split <;> exact ⟨_, rfl⟩
theorem szIntSS_l (l : List (List Int)) (hl : l.length ≤ 140737488351232) (d : Nat) : ∀ (i : Nat) (a : Int), i + d = l.length → ∃ t, Ev (fun k => laws_szIntSS.l0 k l a (i : Int)) t := by
  induction d with
  | zero =>
    intro i a h
    exact ⟨a, ev_succ (by simp only [laws_szIntSS.l0]; exact ev_neg (by omega) (ev_some _))⟩
  | succ d ih =>
    intro i a h
    obtain ⟨t, ht⟩ := szIntS_some (rd_L1 l (i : Int)) a
    by_cases c : t < 0
    · exact ⟨-1, ev_succ (by simp only [laws_szIntSS.l0]; exact ev_pos (by omega) (ev_pos (by omega) (ev_bind (ev_const ht) (ev_pos c (ev_some _)))))⟩
    · obtain ⟨q, hq⟩ := ih (i + 1) t (by omega)
      refine ⟨q, ev_succ ?_⟩
      simp only [laws_szIntSS.l0]
      refine ev_pos (by omega) (ev_pos (by omega) (ev_bind (ev_const ht) (ev_neg c ?_)))
      rw [show wrap64 ((i : Int) + 1) = ((i + 1 : Nat) : Int) from by rw [w64 (by omega) (by omega)]; omega]
      exact hq
theorem szIntSS_ev (l : List (List Int)) (hl : l.length ≤ 140737488351232) (a : Int) : ∃ t, Ev (fun k => laws_szIntSS.f k l a) t := by
  unfold laws_szIntSS.f
  by_cases c : wrap64 (a - (l.length : Int)) < 0
  · exact ⟨-1, ev_pos c (ev_some _)⟩
  · obtain ⟨t, ht⟩ := szIntSS_l l hl l.length 0 (wrap64 (a - (l.length : Int))) (by omega)
    exact ⟨t, ev_neg c ht⟩
theorem szRoute_ev (o : List (List Int)) (r : List Int) (hl : o.length ≤ 140737488351232) (a : Int) : ∃ t, Ev (fun k => laws_szRoute.f k o r a) t := by
  obtain ⟨t, ht⟩ := szIntSS_ev o hl a
  unfold laws_szRoute.f
  by_cases c : t < 0
  · exact ⟨-1, ev_bind ht (ev_pos c (ev_some _))⟩
  · obtain ⟨q, hq⟩ := szIntS_some r t
    by_cases c2 : q < 0
    · exact ⟨-1, ev_bind ht (ev_neg c (ev_bind (ev_const hq) (ev_pos c2 (ev_some _))))⟩
    · exact ⟨q, ev_bind ht (ev_neg c (ev_bind (ev_const hq) (ev_neg c2 (ev_some _))))⟩
theorem set_take {α : Type} (l m : List α) (d : α) (i : Nat) (hi : i < l.length) (hm : m.length = l.length) (h : m.take i = l.take i) : (m.set i (l.getD i d)).take (i + 1) = l.take (i + 1) := by
  rw [List.take_succ_eq_append_getElem (by simpa using by omega), List.take_succ_eq_append_getElem hi, List.take_set_of_le (Nat.le_refl i), h]
  simp [List.getD_eq_getElem?_getD, List.getElem?_eq_getElem hi]
theorem toIntS_l (l : List Int) (hl : l.length ≤ 140737488351232) (d : Nat) : ∀ (i : Nat) (m : List Int), i + d = l.length → m.length = l.length → m.take i = l.take i → Ev (fun k => laws_toIntS.l0 k l m (i : Int)) l := by
  induction d with
  | zero =>
    intro i m h hm ht
    obtain rfl : m = l := by
      rw [List.take_of_length_le (by omega), List.take_of_length_le (by omega)] at ht
      exact ht
    exact ev_succ (by simp only [laws_toIntS.l0]; exact ev_neg (by omega) (ev_some _))
  | succ d ih =>
    intro i m h hm ht
    refine ev_succ ?_
    simp only [laws_toIntS.l0]
    refine ev_pos (by omega) (ev_pos (by omega) (ev_pos (by omega) ?_))
    rw [show wrap64 ((i : Int) + 1) = ((i + 1 : Nat) : Int) from by rw [w64 (by omega) (by omega)]; omega, rd_nat, Int.toNat_natCast]
    exact ih (i + 1) _ (by omega) (by simpa using hm) (set_take l m 0 i (by omega) hm ht)
theorem toIntS_ev (l : List Int) (hl : l.length * 8 ≤ 140737488351232) : Ev (fun k => laws_toIntS.f k l) l := by
  unfold laws_toIntS.f
  refine ev_pos (by omega) (ev_pos (by omega) ?_)
  exact toIntS_l l (by omega) l.length 0 _ (by omega) (by simp) (by simp)
theorem toIntSS_l (l : List (List Int)) (hl : l.length ≤ 140737488351232) (he : ∀ y ∈ l, y.length * 8 ≤ 140737488351232) (d : Nat) : ∀ (i : Nat) (m : List (List Int)), i + d = l.length → m.length = l.length → m.take i = l.take i → Ev (fun k => laws_toIntSS.l0 k l m (i : Int)) l := by
  induction d with
  | zero =>
    intro i m h hm ht
    obtain rfl : m = l := by
      rw [List.take_of_length_le (by omega), List.take_of_length_le (by omega)] at ht
      exact ht
    exact ev_succ (by simp only [laws_toIntSS.l0]; exact ev_neg (by omega) (ev_some _))
  | succ d ih =>
    intro i m h hm ht
    refine ev_succ ?_
    simp only [laws_toIntSS.l0]
    rw [rdL_nat, Int.toNat_natCast]
    refine ev_pos (by omega) (ev_pos (by omega) (ev_bind (toIntS_ev _ (he _ (getD_mem (by omega)))) (ev_pos (by omega) ?_)))
    rw [show wrap64 ((i : Int) + 1) = ((i + 1 : Nat) : Int) from by rw [w64 (by omega) (by omega)]; omega]
    exact ih (i + 1) _ (by omega) (by simpa using hm) (set_take l m [] i (by omega) hm ht)
theorem toIntSS_ev (l : List (List Int)) (hl : l.length * 24 ≤ 140737488351232) (he : ∀ y ∈ l, y.length * 8 ≤ 140737488351232) : Ev (fun k => laws_toIntSS.f k l) l := by
  unfold laws_toIntSS.f
  refine ev_pos (by omega) (ev_pos (by omega) ?_)
  exact toIntSS_l l (by omega) he l.length 0 _ (by omega) (by simp) (by simp)
theorem toRoute_ev (o : List (List Int)) (r : List Int) (hl : o.length * 24 ≤ 140737488351232) (he : ∀ y ∈ o, y.length * 8 ≤ 140737488351232) (hr : r.length * 8 ≤ 140737488351232) : Ev (fun k => laws_toRoute.f k o r) (o, r) := by
  unfold laws_toRoute.f
  exact ev_bind (toIntSS_ev o hl he) (ev_bind (toIntS_ev r hr) (ev_some _))
theorem eqIntS_l (l : List Int) (hl : l.length ≤ 140737488351232) (d : Nat) : ∀ (i : Nat), i + d = l.length → Ev (fun k => laws_eqIntS.l0 k l l (i : Int)) true := by
  induction d with
  | zero => intro i h; exact ev_succ (by simp only [laws_eqIntS.l0]; exact ev_neg (by omega) (ev_some _))
  | succ d ih =>
    intro i h
    refine ev_succ ?_
    simp only [laws_eqIntS.l0]
    refine ev_pos (by omega) (ev_pos (by omega) (ev_pos (by omega) (ev_pos (by first | rfl | trivial) ?_)))
    rw [show wrap64 ((i : Int) + 1) = ((i + 1 : Nat) : Int) from by rw [w64 (by omega) (by omega)]; omega]
    exact ih (i + 1) (by omega)
theorem eqIntS_ev (l : List Int) (hl : l.length ≤ 140737488351232) : Ev (fun k => laws_eqIntS.f k l l) true := by
  unfold laws_eqIntS.f
  exact ev_pos rfl (eqIntS_l l hl l.length 0 (by omega))
theorem eqIntSS_l (l : List (List Int)) (hl : l.length ≤ 140737488351232) (he : ∀ y ∈ l, y.length ≤ 140737488351232) (d : Nat) : ∀ (i : Nat), i + d = l.length → Ev (fun k => laws_eqIntSS.l0 k l l (i : Int)) true := by
  induction d with
  | zero => intro i h; exact ev_succ (by simp only [laws_eqIntSS.l0]; exact ev_neg (by omega) (ev_some _))
  | succ d ih =>
    intro i h
    refine ev_succ ?_
    simp only [laws_eqIntSS.l0]
    rw [rdL_nat]
    refine ev_pos (by omega) (ev_pos (by omega) (ev_pos (by omega) (ev_bind (eqIntS_ev _ (he _ (getD_mem (by omega)))) (ev_pos rfl ?_))))
    rw [show wrap64 ((i : Int) + 1) = ((i + 1 : Nat) : Int) from by rw [w64 (by omega) (by omega)]; omega]
    exact ih (i + 1) (by omega)
theorem eqIntSS_ev (l : List (List Int)) (hl : l.length ≤ 140737488351232) (he : ∀ y ∈ l, y.length ≤ 140737488351232) : Ev (fun k => laws_eqIntSS.f k l l) true := by
  unfold laws_eqIntSS.f
  exact ev_pos rfl (eqIntSS_l l hl he l.length 0 (by omega))
theorem eqRoute_ev (o : List (List Int)) (r : List Int) (hl : o.length ≤ 140737488351232) (he : ∀ y ∈ o, y.length ≤ 140737488351232) (hr : r.length ≤ 140737488351232) : Ev (fun k => laws_eqRoute.f k o r o r) true := by
  unfold laws_eqRoute.f
  exact ev_bind (eqIntSS_ev o hl he) (ev_pos rfl (ev_bind (eqIntS_ev r hr) (ev_pos rfl (ev_some _))))
def inR (x lo hi : Int) : Bool := decide (lo ≤ x) && decide (x ≤ hi)
def rowOk (o : List (List Int)) (r : List Int) (i : Nat) : Bool := inR ((o.getD i []).length : Int) 1 4 && (o.getD i []).all (fun x => inR x 0 ((o.length : Int) - 1)) && inR (r.getD i 0) 0 (((o.getD i []).length : Int) - 1)
def allFrom (P : Nat → Bool) : Nat → Nat → Bool
  | _, 0 => true
  | i, d + 1 => P i && allFrom P (i + 1) d
def routeOk (o : List (List Int)) (r : List Int) : Bool := inR (o.length : Int) 1 10 && (decide (r.length = o.length) && allFrom (rowOk o r) 0 o.length)
theorem l1In_eq (x lo hi : Int) : spec_l1In.f x lo hi = some (inR x lo hi) := by
  unfold spec_l1In.f inR
  by_cases h : x ≥ lo
  · simp [h, show lo ≤ x from h]
  · simp [h, show ¬ lo ≤ x from h]
theorem within_eq (x lo hi : Int) : impl_within.f x lo hi = some (inR x lo hi) := by
  unfold impl_within.f inR
  by_cases h : lo ≤ x <;> simp [h]
theorem l1All_l (l : List Int) (lo hi : Int) (hl : l.length ≤ 140737488351232) (d : Nat) : ∀ (i : Nat), i + d = l.length → Ev (fun k => spec_l1All.l0 k lo hi l (l.length : Int) (i : Int)) ((l.drop i).all (fun x => inR x lo hi)) := by
  induction d with
  | zero =>
    intro i h
    rw [List.drop_of_length_le (by omega)]
    exact ev_succ (by simp only [spec_l1All.l0]; exact ev_neg (by omega) (ev_some _))
  | succ d ih =>
    intro i h
    refine ev_succ ?_
    simp only [spec_l1All.l0]
    rw [List.drop_eq_getElem_cons (show i < l.length by omega), List.all_cons, rd_nat, l1In_eq]
    rw [show l.getD i 0 = l[i]'(by omega) from by simp [List.getD_eq_getElem?_getD, List.getElem?_eq_getElem (show i < l.length by omega)]]
    refine ev_pos (by omega) (ev_pos (by omega) (ev_pos (by omega) (ev_bind (ev_some _) ?_)))
    cases hc : inR (l[i]'(by omega)) lo hi with
    | false => exact ev_neg (by simp) (ev_some _)
    | true =>
      refine ev_pos rfl ?_
      rw [show wrap64 ((i : Int) + 1) = ((i + 1 : Nat) : Int) from by rw [w64 (by omega) (by omega)]; omega, Bool.true_and]
      exact ih (i + 1) (by omega)
theorem l1All_ev (l : List Int) (lo hi : Int) (hl : l.length ≤ 140737488351232) : Ev (fun k => spec_l1All.f k l lo hi) (l.all (fun x => inR x lo hi)) := by
  unfold spec_l1All.f
  have := l1All_l l lo hi hl l.length 0 (by omega)
  rwa [List.drop_zero] at this
theorem roGood_l (o : List (List Int)) (r : List Int) (ho : o.length ≤ 10) (he : ∀ y ∈ o, y.length ≤ 140737488351232) (hr : r.length = o.length) (d : Nat) : ∀ (i : Nat), i + d = o.length → Ev (fun k => spec_roGood.l0 k (o.length : Int) o (o.length : Int) (i : Int) o r) (allFrom (rowOk o r) i d) := by
  induction d with
  | zero => intro i h; exact ev_succ (by simp only [spec_roGood.l0]; exact ev_neg (by omega) (ev_some _))
  | succ d ih =>
    intro i h
    have hlen := he _ (getD_mem (d := []) (show i < o.length by omega))
    refine ev_succ ?_
    simp only [spec_roGood.l0]
    rw [rdL_nat, rd_nat, l1In_eq, l1In_eq, w64 (by omega) (by omega), w64 (x := ((o.getD i []).length : Int) - 1) (by omega) (by omega)]
    refine ev_pos (by omega) (ev_pos (by omega) (ev_pos (by omega) (ev_bind (ev_some _) ?_)))
    rw [show allFrom (rowOk o r) i (d + 1) = (rowOk o r i && allFrom (rowOk o r) (i + 1) d) from rfl, show rowOk o r i = (inR ((o.getD i []).length : Int) 1 4 && (o.getD i []).all (fun x => inR x 0 ((o.length : Int) - 1)) && inR (r.getD i 0) 0 (((o.getD i []).length : Int) - 1)) from rfl]
    cases h1 : inR ((o.getD i []).length : Int) 1 4 with
    | false => exact ev_neg (by simp) (by simpa using ev_some false)
    | true =>
      refine ev_pos rfl (ev_bind (l1All_ev _ _ _ hlen) ?_)
      cases h2 : (o.getD i []).all (fun x => inR x 0 ((o.length : Int) - 1)) with
      | false => exact ev_neg (by simp) (by simpa using ev_some false)
      | true =>
        refine ev_pos rfl (ev_pos (by omega) (ev_bind (ev_some _) ?_))
        cases h3 : inR (r.getD i 0) 0 (((o.getD i []).length : Int) - 1) with
        | false => exact ev_neg (by simp) (by simpa using ev_some false)
        | true =>
          refine ev_pos rfl ?_
          rw [show wrap64 ((i : Int) + 1) = ((i + 1 : Nat) : Int) from by rw [w64 (by omega) (by omega)]; omega]
          simpa using ih (i + 1) (by omega)
theorem roGood_ev (o : List (List Int)) (r : List Int) (he : ∀ y ∈ o, y.length ≤ 140737488351232) : Ev (fun k => spec_roGood.f k o r) (routeOk o r) := by
  unfold spec_roGood.f routeOk
  rw [l1In_eq]
  refine ev_bind (ev_some _) ?_
  cases h1 : inR (o.length : Int) 1 10 with
  | false => exact ev_neg (by simp) (ev_succ (by simp only [spec_roGood.j0]; exact ev_pos (by first | rfl | trivial) (by simpa using ev_some false)))
  | true =>
    have hb : o.length ≤ 10 := by
      unfold inR at h1
      simp at h1
      omega
    refine ev_pos rfl (ev_succ ?_)
    simp only [spec_roGood.j0]
    by_cases h2 : r.length = o.length
    · refine ev_neg (by simp [h2]) ?_
      simpa [h2] using roGood_l o r hb he h2 o.length 0 (by omega)
    · refine ev_pos (by simp; omega) ?_
      simpa [h2] using ev_some false
theorem isNodes_eq (n : Int) : impl_isNodes.f n = some (inR n 1 10) := by
  unfold impl_isNodes.f
  rw [within_eq]
  rfl
theorem implIsRoute_l (o : List (List Int)) (r : List Int) (ho : o.length ≤ 10) (he : ∀ y ∈ o, y.length ≤ 140737488351232) (hr : r.length = o.length) (d : Nat) : ∀ (i : Nat), i + d = o.length → Ev (fun k => impl_IsRoute.l0 k o (o.length : Int) (i : Int) o r) (allFrom (rowOk o r) i d) := by
  induction d with
  | zero => intro i h; exact ev_succ (by simp only [impl_IsRoute.l0]; exact ev_neg (by omega) (ev_some _))
  | succ d ih =>
    intro i h
    have hlen := he _ (getD_mem (d := []) (show i < o.length by omega))
    refine ev_succ ?_
    simp only [impl_IsRoute.l0]
    rw [rdL_nat, rd_nat, within_eq, within_eq, w64 (by omega) (by omega), w64 (x := ((o.getD i []).length : Int) - 1) (by omega) (by omega)]
    refine ev_pos (by omega) (ev_pos (by omega) (ev_pos (by omega) (ev_bind (ev_some _) ?_)))
    rw [show allFrom (rowOk o r) i (d + 1) = (rowOk o r i && allFrom (rowOk o r) (i + 1) d) from rfl, show rowOk o r i = (inR ((o.getD i []).length : Int) 1 4 && (o.getD i []).all (fun x => inR x 0 ((o.length : Int) - 1)) && inR (r.getD i 0) 0 (((o.getD i []).length : Int) - 1)) from rfl]
    cases h1 : inR ((o.getD i []).length : Int) 1 4 with
    | false => exact ev_neg (by simp) (by simpa using ev_some false)
    | true =>
      refine ev_pos rfl (ev_bind (ev_const rfl) ?_)
      cases h2 : (o.getD i []).all (fun x => inR x 0 ((o.length : Int) - 1)) with
      | false => exact ev_neg (by rw [show impl_areWithin.ok 0 ((o.length : Int) - 1) = fun x => inR x 0 ((o.length : Int) - 1) from rfl, h2]; simp) (by simpa using ev_some false)
      | true =>
        refine ev_pos h2 (ev_pos (by omega) (ev_bind (ev_some _) ?_))
        cases h3 : inR (r.getD i 0) 0 (((o.getD i []).length : Int) - 1) with
        | false => exact ev_neg (by simp) (by simpa using ev_some false)
        | true =>
          refine ev_pos rfl ?_
          rw [show wrap64 ((i : Int) + 1) = ((i + 1 : Nat) : Int) from by rw [w64 (by omega) (by omega)]; omega]
          simpa using ih (i + 1) (by omega)
theorem implIsRoute_ev (o : List (List Int)) (r : List Int) (he : ∀ y ∈ o, y.length ≤ 140737488351232) : Ev (fun k => impl_IsRoute.f k o r) (routeOk o r) := by
  unfold impl_IsRoute.f routeOk
  rw [isNodes_eq]
  refine ev_bind (ev_some _) ?_
  cases h1 : inR (o.length : Int) 1 10 with
  | false => exact ev_neg (by simp) (ev_succ (by simp only [impl_IsRoute.j0]; exact ev_pos (by first | rfl | trivial) (by simpa using ev_some false)))
  | true =>
    have hb : o.length ≤ 10 := by
      unfold inR at h1
      simp at h1
      omega
    refine ev_pos rfl (ev_succ ?_)
    simp only [impl_IsRoute.j0]
    by_cases h2 : r.length = o.length
    · refine ev_neg (by simp [h2]) ?_
      simpa [h2] using implIsRoute_l o r hb he h2 o.length 0 (by omega)
    · refine ev_pos (by simp; omega) ?_
      simpa [h2] using ev_some false
theorem allFrom_elim {P : Nat → Bool} {d : Nat} : ∀ {i : Nat}, allFrom P i d = true → ∀ j, i ≤ j → j < i + d → P j = true := by
  induction d with
  | zero => intro i _ j h1 h2; omega
  | succ d ih =>
    intro i h j h1 h2
    unfold allFrom at h
    rw [Bool.and_eq_true] at h
    by_cases e : j = i
    · rw [e]; exact h.1
    · exact ih h.2 j (by omega) (by omega)
theorem inR_iff (x lo hi : Int) : inR x lo hi = true ↔ lo ≤ x ∧ x ≤ hi := by simp [inR]
structure RouteFacts (o : List (List Int)) (r : List Int) : Prop where
  lo : 1 ≤ o.length
  hi : o.length ≤ 10
  same : r.length = o.length
  row : ∀ i, i < o.length → 1 ≤ (o.getD i []).length ∧ (o.getD i []).length ≤ 4
  elem : ∀ i, i < o.length → ∀ x ∈ o.getD i [], 0 ≤ x ∧ x < (o.length : Int)
  rot : ∀ i, i < o.length → 0 ≤ r.getD i 0 ∧ r.getD i 0 < ((o.getD i []).length : Int)
theorem routeOk_facts {o : List (List Int)} {r : List Int} (h : routeOk o r = true) : RouteFacts o r := by
  unfold routeOk at h
  simp only [Bool.and_eq_true, decide_eq_true_eq, inR_iff] at h
  obtain ⟨⟨h1, h2⟩, h3, h4⟩ := h
  have hp : ∀ i, i < o.length → rowOk o r i = true := fun i hi => allFrom_elim h4 i (by omega) (by omega)
  have hq : ∀ i, i < o.length → (1 ≤ (o.getD i []).length ∧ (o.getD i []).length ≤ 4) ∧ (∀ x ∈ o.getD i [], 0 ≤ x ∧ x < (o.length : Int)) ∧ 0 ≤ r.getD i 0 ∧ r.getD i 0 < ((o.getD i []).length : Int) := by
    intro i hi
    have := hp i hi
    unfold rowOk at this
    simp only [Bool.and_eq_true, inR_iff, List.all_eq_true] at this
    obtain ⟨⟨a, b⟩, c⟩ := this
    refine ⟨by omega, fun x hx => ?_, by omega⟩
    have := b x hx
    omega
  exact ⟨by omega, by omega, h3, fun i hi => (hq i hi).1, fun i hi => (hq i hi).2.1, fun i hi => (hq i hi).2.2⟩
theorem nodup_le : ∀ (n : Nat) (l : List Int), l.Nodup → (∀ x ∈ l, 0 ≤ x ∧ x < (n : Int)) → l.length ≤ n
  | 0, l, _, h => by
    cases l with
    | nil => simp
    | cons a l => have := h a (by simp); omega
  | n + 1, l, hn, h => by
    by_cases hm : (n : Int) ∈ l
    · have := nodup_le n (l.erase (n : Int)) (hn.erase _) (fun x hx => by
        have h1 := (hn.mem_erase_iff).1 hx
        have h2 := h x h1.2
        have h3 := h1.1
        omega)
      rw [List.length_erase_of_mem hm] at this
      have : 0 < l.length := List.length_pos_of_mem hm
      omega
    · have := nodup_le n l hn (fun x hx => by
        have h2 := h x hx
        have h3 : x ≠ (n : Int) := fun e => hm (e ▸ hx)
        omega)
      omega
def stepOf (o : List (List Int)) (r : List Int) (a : Int) : Int × List Int := (rd (rd_L1 o a) (rd r a), r.set a.toNat (Int.tmod (wrap64 (rd r a + 1)) ((rd_L1 o a).length : Int)))
theorem RouteFacts.at_ {o : List (List Int)} {r : List Int} (F : RouteFacts o r) {a : Int} (h : 0 ≤ a ∧ a < (o.length : Int)) :
    1 ≤ (rd_L1 o a).length ∧ (rd_L1 o a).length ≤ 4 ∧ 0 ≤ rd r a ∧ rd r a < ((rd_L1 o a).length : Int) ∧ ∀ x ∈ rd_L1 o a, 0 ≤ x ∧ x < (o.length : Int) := by
  obtain ⟨m, rfl⟩ := Int.eq_ofNat_of_zero_le h.1
  have hm : m < o.length := by omega
  rw [rdL_nat, rd_nat]
  exact ⟨(F.row m hm).1, (F.row m hm).2, (F.rot m hm).1, (F.rot m hm).2, F.elem m hm⟩
theorem rd_mem {l : List Int} {i : Int} (h0 : 0 ≤ i) (h : i < (l.length : Int)) : rd l i ∈ l := by
  obtain ⟨m, rfl⟩ := Int.eq_ofNat_of_zero_le h0
  rw [rd_nat]
  exact getD_mem (by omega)
theorem step_in {o : List (List Int)} {r : List Int} (F : RouteFacts o r) {a : Int} (h : 0 ≤ a ∧ a < (o.length : Int)) : 0 ≤ (stepOf o r a).1 ∧ (stepOf o r a).1 < (o.length : Int) := by
  obtain ⟨h1, h2, h3, h4, h5⟩ := F.at_ h
  exact h5 _ (rd_mem h3 h4)
theorem step_facts {o : List (List Int)} {r : List Int} (F : RouteFacts o r) {a : Int} (h : 0 ≤ a ∧ a < (o.length : Int)) : RouteFacts o (stepOf o r a).2 := by
  obtain ⟨h1, h2, h3, h4, h5⟩ := F.at_ h
  refine ⟨F.lo, F.hi, by simp [stepOf, F.same], F.row, F.elem, fun i hi => ?_⟩
  obtain ⟨m, rfl⟩ := Int.eq_ofNat_of_zero_le h.1
  have hm : m < o.length := by omega
  unfold stepOf
  simp only [Int.toNat_natCast]
  by_cases e : i = m
  · subst e
    rw [show ((r.set i (Int.tmod (wrap64 (rd r (i : Int) + 1)) ((rd_L1 o (i : Int)).length : Int))).getD i 0) = Int.tmod (wrap64 (rd r (i : Int) + 1)) ((rd_L1 o (i : Int)).length : Int) from by
      rw [List.getD_eq_getElem?_getD, List.getElem?_set_self (by rw [F.same]; exact hm)]; rfl]
    rw [w64 (by omega) (by omega), rdL_nat] at *
    rw [Int.tmod_eq_emod_of_nonneg (by omega)]
    exact ⟨Int.emod_nonneg _ (by omega), Int.emod_lt_of_pos _ (by omega)⟩
  · rw [show ((r.set m (Int.tmod (wrap64 (rd r (m : Int) + 1)) ((rd_L1 o (m : Int)).length : Int))).getD i 0) = r.getD i 0 from by
      rw [List.getD_eq_getElem?_getD, List.getElem?_set_ne (by omega), List.getD_eq_getElem?_getD]]
    exact F.rot i hi
def walkW (o : List (List Int)) (r : List Int) (a : Int) : Nat → Int × List Int
  | 0 => (a, r)
  | s + 1 => stepOf o (walkW o r a s).2 (walkW o r a s).1
theorem walk_facts {o : List (List Int)} {r : List Int} (F : RouteFacts o r) {a : Int} (h : 0 ≤ a ∧ a < (o.length : Int)) : ∀ s, RouteFacts o (walkW o r a s).2 ∧ 0 ≤ (walkW o r a s).1 ∧ (walkW o r a s).1 < (o.length : Int)
  | 0 => ⟨F, h⟩
  | s + 1 => ⟨step_facts (walk_facts F h s).1 (walk_facts F h s).2, step_in (walk_facts F h s).1 (walk_facts F h s).2⟩
theorem specStep_eq {o : List (List Int)} {r : List Int} (F : RouteFacts o r) {a : Int} (h : 0 ≤ a ∧ a < (o.length : Int)) : spec_roStep.f o r a = some (stepOf o r a) := by
  obtain ⟨h1, h2, h3, h4, h5⟩ := F.at_ h
  have hs := F.same
  unfold spec_roStep.f
  rw [if_pos h.1, if_pos (by omega), if_pos h.2, if_neg (by omega), if_pos h3, if_pos h4]
  rfl
theorem specOwn_eq (l : List Int) (h : l.length ≤ 1000000) : spec_l1Own.f l = some l := by
  unfold spec_l1Own.f
  simp only [Option.bind_some, List.length_nil, List.nil_append]
  rw [if_pos (by omega)]
theorem roOwn_l (o : List (List Int)) (r : List Int) (hn : o.length ≤ 1000000) (he : ∀ y ∈ o, y.length ≤ 1000000) (d : Nat) : ∀ (i : Nat), i + d = o.length → Ev (fun k => spec_roOwn.l0 k o (o.length : Int) (i : Int) (o.take i) r) (o, r) := by
  induction d with
  | zero =>
    intro i h
    rw [List.take_of_length_le (by omega)]
    exact ev_succ (by simp only [spec_roOwn.l0]; exact ev_neg (by omega) (ev_some _))
  | succ d ih =>
    intro i h
    refine ev_succ ?_
    simp only [spec_roOwn.l0]
    rw [rdL_nat, specOwn_eq _ (he _ (getD_mem (by omega)))]
    refine ev_pos (by omega) (ev_pos (by omega) (ev_pos (by omega) (ev_bind (ev_some _) (ev_pos (by rw [List.length_take]; omega) ?_))))
    rw [show wrap64 ((i : Int) + 1) = ((i + 1 : Nat) : Int) from by rw [w64 (by omega) (by omega)]; omega]
    rw [show o.take i ++ [o.getD i []] = o.take (i + 1) from by rw [List.take_succ_eq_append_getElem (by omega)]; simp [List.getD_eq_getElem?_getD, List.getElem?_eq_getElem (show i < o.length by omega)]]
    exact ih (i + 1) (by omega)
theorem roOwn_ev {o : List (List Int)} {r : List Int} (F : RouteFacts o r) : Ev (fun k => spec_roOwn.f k o r) (o, r) := by
  have hn := F.hi
  have hs := F.same
  unfold spec_roOwn.f
  rw [specOwn_eq r (by omega)]
  refine ev_bind (ev_some _) ?_
  exact roOwn_l o r (by omega) (fun y hy => by
    obtain ⟨i, hi, rfl⟩ := List.getElem_of_mem hy
    have := (F.row i hi).2
    rw [List.getD_eq_getElem?_getD, List.getElem?_eq_getElem hi] at this
    exact Nat.le_trans this (by omega)) o.length 0 (by omega)
theorem clone_eq (l : List Int) (h : l.length ≤ 1000000) : slices_Clone_int_int.f l = some l := by
  unfold slices_Clone_int_int.f
  rw [if_pos (by omega)]
theorem implOwn_l (o : List (List Int)) (r : List Int) (hn : o.length ≤ 1000000) (he : ∀ y ∈ o, y.length ≤ 1000000) (d : Nat) : ∀ (i : Nat), i + d = o.length → Ev (fun k => impl_Route_own.l0 k o (o.length : Int) (i : Int) (o.take i) r) (o, r) := by
  induction d with
  | zero =>
    intro i h
    rw [List.take_of_length_le (by omega)]
    exact ev_succ (by simp only [impl_Route_own.l0]; exact ev_neg (by omega) (ev_some _))
  | succ d ih =>
    intro i h
    refine ev_succ ?_
    simp only [impl_Route_own.l0]
    rw [rdL_nat, clone_eq _ (he _ (getD_mem (by omega)))]
    refine ev_pos (by omega) (ev_pos (by omega) (ev_pos (by omega) (ev_bind (ev_some _) (ev_pos (by rw [List.length_take]; omega) ?_))))
    rw [show wrap64 ((i : Int) + 1) = ((i + 1 : Nat) : Int) from by rw [w64 (by omega) (by omega)]; omega]
    rw [show o.take i ++ [o.getD i []] = o.take (i + 1) from by rw [List.take_succ_eq_append_getElem (by omega)]; simp [List.getD_eq_getElem?_getD, List.getElem?_eq_getElem (show i < o.length by omega)]]
    exact ih (i + 1) (by omega)
theorem implOwn_ev {o : List (List Int)} {r : List Int} (F : RouteFacts o r) : Ev (fun k => impl_Route_own.f k o r) (o, r) := by
  have hn := F.hi
  have hs := F.same
  unfold impl_Route_own.f
  rw [clone_eq r (by omega)]
  refine ev_bind (ev_some _) ?_
  exact implOwn_l o r (by omega) (fun y hy => by
    obtain ⟨i, hi, rfl⟩ := List.getElem_of_mem hy
    have := (F.row i hi).2
    rw [List.getD_eq_getElem?_getD, List.getElem?_eq_getElem hi] at this
    exact Nat.le_trans this (by omega)) o.length 0 (by omega)
def nodeOk (o : List (List Int)) (r : List Int) (a : Int) : Bool := routeOk o r && inR a 0 ((o.length : Int) - 1)
theorem roNode_ev (o : List (List Int)) (r : List Int) (a : Int) (he : ∀ y ∈ o, y.length ≤ 140737488351232) : Ev (fun k => spec_roNode.f k o r a) (nodeOk o r a) := by
  unfold spec_roNode.f nodeOk
  refine ev_bind (roGood_ev o r he) ?_
  cases hc : routeOk o r with
  | false => exact ev_neg (by simp) (by simpa using ev_some false)
  | true =>
    have F := routeOk_facts hc
    have hn := F.hi
    rw [w64 (x := (o.length : Int) - 1) (by omega) (by omega), l1In_eq]
    exact ev_pos rfl (ev_bind (ev_some _) (by simpa using ev_some _))
theorem isNode_ev (o : List (List Int)) (r : List Int) (l : List Int) (he : ∀ y ∈ o, y.length ≤ 140737488351232) : Ev (fun k => impl_isNode.f k o r l) (routeOk o r && l.all (fun x => inR x 0 ((o.length : Int) - 1))) := by
  unfold impl_isNode.f
  refine ev_bind (implIsRoute_ev o r he) ?_
  cases hc : routeOk o r with
  | false => exact ev_neg (by simp) (by simpa using ev_some false)
  | true =>
    have F := routeOk_facts hc
    have hn := F.hi
    rw [w64 (x := (o.length : Int) - 1) (by omega) (by omega), show ∀ l lo hi, impl_areWithin.f l lo hi = some (l.all (fun x => inR x lo hi)) from fun _ _ _ => rfl]
    exact ev_pos rfl (ev_bind (ev_some _) (by simpa using ev_some _))
theorem nodeOk_facts {o : List (List Int)} {r : List Int} {a : Int} (h : nodeOk o r a = true) : RouteFacts o r ∧ 0 ≤ a ∧ a < (o.length : Int) := by
  unfold nodeOk at h
  rw [Bool.and_eq_true, inR_iff] at h
  exact ⟨routeOk_facts h.1, by omega, by omega⟩
theorem isNode2 (o : List (List Int)) (r : List Int) (a g : Int) : (routeOk o r && [a, g].all (fun x => inR x 0 ((o.length : Int) - 1))) = (nodeOk o r a && nodeOk o r g) := by
  unfold nodeOk
  simp only [List.all_cons, List.all_nil]
  cases routeOk o r <;> cases inR a 0 ((o.length : Int) - 1) <;> cases inR g 0 ((o.length : Int) - 1) <;> rfl
theorem isNode1 (o : List (List Int)) (r : List Int) (a : Int) : (routeOk o r && [a].all (fun x => inR x 0 ((o.length : Int) - 1))) = nodeOk o r a := by
  unfold nodeOk
  simp only [List.all_cons, List.all_nil, Bool.and_true]
theorem turn_eq {o : List (List Int)} {r : List Int} (F : RouteFacts o r) {a : Int} (h : 0 ≤ a ∧ a < (o.length : Int)) : impl_Route_turn.f o r a = some (stepOf o r a).2 := by
  obtain ⟨h1, h2, h3, h4, h5⟩ := F.at_ h
  have hs := F.same
  unfold impl_Route_turn.f
  rw [if_pos h.1, if_pos (by omega), if_pos h.2, if_neg (by omega)]
  rfl
theorem implStep_eq {o : List (List Int)} {r : List Int} (F : RouteFacts o r) {a : Int} (h : 0 ≤ a ∧ a < (o.length : Int)) : impl_Route_step.f o r a = some (stepOf o r a) := by
  obtain ⟨h1, h2, h3, h4, h5⟩ := F.at_ h
  have hs := F.same
  unfold impl_Route_step.f
  rw [if_pos h.1, if_pos h.2, if_pos (by omega), if_pos h3, if_pos h4, turn_eq F h]
  rfl
def walkOk (o : List (List Int)) (r : List Int) (a n : Int) : Bool := nodeOk o r a && inR n 0 3000
theorem isWalk_ev (o : List (List Int)) (r : List Int) (a n : Int) (he : ∀ y ∈ o, y.length ≤ 140737488351232) : Ev (fun k => impl_isWalk.f k o r a n) (walkOk o r a n) := by
  have h3 := isNode_ev o r [a] he
  rw [isNode1] at h3
  unfold impl_isWalk.f walkOk
  cases hc : nodeOk o r a with
  | false => exact ev_bind (hc ▸ h3) (ev_neg (by simp) (by simpa using ev_some false))
  | true => exact ev_bind (hc ▸ h3) (ev_pos rfl (ev_bind (ev_const (within_eq n 0 3000)) (by simpa using ev_some _)))
theorem walkOk_facts {o : List (List Int)} {r : List Int} {a n : Int} (h : walkOk o r a n = true) : RouteFacts o r ∧ (0 ≤ a ∧ a < (o.length : Int)) ∧ 0 ≤ n ∧ n ≤ 3000 := by
  unfold walkOk at h
  rw [Bool.and_eq_true, inR_iff] at h
  have := nodeOk_facts h.1
  exact ⟨this.1, this.2, h.2⟩
theorem roWalk_ev (o : List (List Int)) (r : List Int) (a n : Int) (he : ∀ y ∈ o, y.length ≤ 140737488351232) : Ev (fun k => spec_roWalk.f k o r a n) (walkOk o r a n) := by
  have h1 := roNode_ev o r a he
  unfold spec_roWalk.f walkOk
  cases hc : nodeOk o r a with
  | false => exact ev_bind (hc ▸ h1) (ev_neg (by simp) (by simpa using ev_some false))
  | true => exact ev_bind (hc ▸ h1) (ev_pos rfl (ev_bind (ev_const (l1In_eq n 0 3000)) (by simpa using ev_some _)))
def tot : List (List Int) → Nat
  | [] => 0
  | y :: l => y.length + tot l
theorem szI_le (l : List Int) (a : Int) (h0 : 0 ≤ a) (h1 : a ≤ 1048576) (hl : l.length ≤ 140737488351232) : ∃ t, laws_szIntS.f l a = some t ∧ (0 ≤ t → t + (l.length : Int) = a) := by
  unfold laws_szIntS.f
  rw [w64 (by omega) (by omega)]
  by_cases c : a - (l.length : Int) < 0
  · exact ⟨-1, if_pos c, by omega⟩
  · exact ⟨_, if_neg c, by omega⟩
theorem szR_l (l : List (List Int)) (hl : l.length ≤ 140737488351232) (he : ∀ y ∈ l, y.length ≤ 140737488351232) : ∀ (R D : List (List Int)) (a : Int), l = D ++ R → 0 ≤ a → a ≤ 1048576 → ∃ t, Ev (fun k => laws_szIntSS.l0 k l a (D.length : Int)) t ∧ (0 ≤ t → t + (tot R : Int) = a) := by
  intro R
  induction R with
  | nil =>
    intro D a h h0 h1
    refine ⟨a, ev_succ ?_, fun _ => by simp [tot]⟩
    simp only [laws_szIntSS.l0]
    exact ev_neg (by rw [h, List.append_nil]; omega) (ev_some _)
  | cons y R ih =>
    intro D a h h0 h1
    have hr : rd_L1 l (D.length : Int) = y := by rw [rdL_nat, h]; simp
    have hk : l.length = D.length + (R.length + 1) := by rw [h]; simp
    obtain ⟨t, ht, hs⟩ := szI_le y a h0 h1 (he y (by rw [h]; simp))
    by_cases c : t < 0
    · refine ⟨-1, ev_succ ?_, by omega⟩
      simp only [laws_szIntSS.l0]
      rw [hr]
      exact ev_pos (by omega) (ev_pos (by omega) (ev_bind (ev_const ht) (ev_pos c (ev_some _))))
    · obtain ⟨q, hq, hz⟩ := ih (D ++ [y]) t (by rw [h]; simp) (by omega) (by omega)
      refine ⟨q, ev_succ ?_, fun hp => by have := hz hp; simp only [tot]; omega⟩
      simp only [laws_szIntSS.l0]
      rw [hr]
      refine ev_pos (by omega) (ev_pos (by omega) (ev_bind (ev_const ht) (ev_neg c ?_)))
      rw [w64 (by omega) (by omega)]
      simpa using hq
theorem szRoute_le (o : List (List Int)) (r : List Int) (hl : o.length ≤ 140737488351232) (he : ∀ y ∈ o, y.length ≤ 140737488351232) (hr : r.length ≤ 140737488351232) : ∃ t, Ev (fun k => laws_szRoute.f k o r 1048576) t ∧ (0 ≤ t → o.length + tot o + r.length ≤ 1048576) := by
  unfold laws_szRoute.f laws_szIntSS.f
  rw [w64 (by omega) (by omega)]
  by_cases c : (1048576 : Int) - (o.length : Int) < 0
  · exact ⟨-1, ev_bind (ev_pos c (ev_some _)) (ev_pos (by omega) (ev_some _)), by omega⟩
  · obtain ⟨t, ht, hz⟩ := szR_l o hl he o [] (1048576 - (o.length : Int)) rfl (by omega) (by omega)
    by_cases c1 : t < 0
    · exact ⟨-1, ev_bind (ev_neg c ht) (ev_pos c1 (ev_some _)), by omega⟩
    · have := hz (by omega)
      obtain ⟨q, hq, hs⟩ := szI_le r t (by omega) (by omega) hr
      by_cases c2 : q < 0
      · exact ⟨-1, ev_bind (ev_neg c ht) (ev_neg c1 (ev_bind (ev_const hq) (ev_pos c2 (ev_some _)))), by omega⟩
      · exact ⟨q, ev_bind (ev_neg c ht) (ev_neg c1 (ev_bind (ev_const hq) (ev_neg c2 (ev_some _)))), fun hp => by have := hs hp; omega⟩
def genI : Nat → Int → List Int
  | 0, _ => []
  | n + 1, m => m :: genI n (m + 1)
theorem genI_length : ∀ (n : Nat) (m : Int), (genI n m).length = n
  | 0, _ => rfl
  | n + 1, m => by rw [genI, List.length_cons, genI_length n]
theorem set_mid {α : Type} (D : List α) (y z : α) (R : List α) : (D ++ y :: R).set D.length z = (D ++ [z]) ++ R := by
  rw [List.set_append_right _ _ (Nat.le_refl _), Nat.sub_self, List.set_cons_zero, List.append_assoc]
  rfl
theorem rd_mid (D : List Int) (y : Int) (R : List Int) : rd (D ++ y :: R) (D.length : Int) = y := by rw [rd_nat]; simp
theorem rdL_mid (D : List (List Int)) (y : List Int) (R : List (List Int)) : rd_L1 (D ++ y :: R) (D.length : Int) = y := by rw [rdL_nat]; simp
theorem markI_l : ∀ (R D : List Int) (m : Int), 0 ≤ m → m + (R.length : Int) ≤ 4000000 → D.length + R.length ≤ 4000000 → Ev (fun k => laws_markIntS.l0 k (D ++ R) m (D.length : Int)) (m + (R.length : Int), D ++ genI R.length m) := by
  intro R
  induction R with
  | nil =>
    intro D m h0 h1 h3
    refine ev_succ ?_
    simp only [laws_markIntS.l0]
    refine ev_neg (by rw [List.append_nil]; omega) ?_
    simp only [genI, List.length_nil, Int.natCast_zero, Int.add_zero]
    exact ev_some _
  | cons y R ih =>
    intro D m h0 h1 h3
    rw [List.length_cons] at h1 h3
    refine ev_succ ?_
    simp only [laws_markIntS.l0]
    have := ih (D ++ [m]) (m + 1) (by omega) (by omega) (by rw [List.length_append, List.length_singleton]; omega)
    rw [w64 (x := m + 1) (by omega) (by omega), w64 (x := (D.length : Int) + 1) (by omega) (by omega), Int.toNat_natCast, set_mid]
    refine ev_pos (by rw [List.length_append, List.length_cons]; omega) (ev_pos (by omega) ?_)
    rw [List.length_append, List.length_singleton, show ((D.length + 1 : Nat) : Int) = (D.length : Int) + 1 by omega, show m + 1 + (R.length : Int) = m + ((R.length + 1 : Nat) : Int) by omega] at this
    rw [List.length_cons, show D ++ genI (R.length + 1) m = D ++ [m] ++ genI R.length (m + 1) by simp [genI]]
    exact this
theorem markInt_ev (l : List Int) (m : Int) (h0 : 0 ≤ m) (h1 : m + (l.length : Int) ≤ 4000000) : Ev (fun k => laws_markIntS.f k l m) (m + (l.length : Int), genI l.length m) := markI_l l [] m h0 h1 (by rw [List.length_nil]; omega)
theorem heldI_l : ∀ (n : Nat) (D : List Int) (m : Int), 0 ≤ m → m + (n : Int) ≤ 4000000 → D.length + n ≤ 4000000 → Ev (fun k => laws_heldIntS.l0 k (D ++ genI n m) m (D.length : Int)) (m + (n : Int)) := by
  intro n
  induction n with
  | zero =>
    intro D m h0 h1 h3
    refine ev_succ ?_
    simp only [laws_heldIntS.l0, genI]
    refine ev_neg (by rw [List.append_nil]; omega) ?_
    rw [Int.natCast_zero, Int.add_zero]
    exact ev_some _
  | succ n ih =>
    intro D m h0 h1 h3
    refine ev_succ ?_
    simp only [laws_heldIntS.l0, genI]
    have := ih (D ++ [m]) (m + 1) (by omega) (by omega) (by rw [List.length_append, List.length_singleton]; omega)
    rw [w64 (x := m + 1) (by omega) (by omega), w64 (x := (D.length : Int) + 1) (by omega) (by omega)]
    refine ev_pos (by rw [List.length_append, List.length_cons]; omega) (ev_pos (by omega) (ev_pos (rd_mid _ _ _) ?_))
    rw [List.length_append, List.length_singleton, show ((D.length + 1 : Nat) : Int) = (D.length : Int) + 1 by omega, List.append_assoc, show m + 1 + (n : Int) = m + ((n + 1 : Nat) : Int) by omega] at this
    exact this
theorem heldInt_ev (n : Nat) (m : Int) (h0 : 0 ≤ m) (h1 : m + (n : Int) ≤ 4000000) : Ev (fun k => laws_heldIntS.f k (genI n m) m) (m + (n : Int)) := heldI_l n [] m h0 h1 (by rw [List.length_nil]; omega)
def mkR : List (List Int) → Int → List (List Int)
  | [], _ => []
  | y :: l, m => genI y.length m :: mkR l (m + (y.length : Int))
theorem markR_l : ∀ (R D : List (List Int)) (m : Int), 0 ≤ m → m + (tot R : Int) ≤ 4000000 → D.length + R.length ≤ 4000000 → Ev (fun k => laws_markIntSS.l0 k (D ++ R) m (D.length : Int)) (m + (tot R : Int), D ++ mkR R m) := by
  intro R
  induction R with
  | nil =>
    intro D m h0 h1 h3
    refine ev_succ ?_
    simp only [laws_markIntSS.l0]
    refine ev_neg (by rw [List.append_nil]; omega) ?_
    simp only [mkR, tot, Int.natCast_zero, Int.add_zero]
    exact ev_some _
  | cons y R ih =>
    intro D m h0 h1 h3
    simp only [tot] at h1
    rw [List.length_cons] at h3
    refine ev_succ ?_
    simp only [laws_markIntSS.l0]
    have := ih (D ++ [genI y.length m]) (m + (y.length : Int)) (by omega) (by omega) (by rw [List.length_append, List.length_singleton]; omega)
    rw [rdL_mid, w64 (x := (D.length : Int) + 1) (by omega) (by omega), Int.toNat_natCast]
    refine ev_pos (by rw [List.length_append, List.length_cons]; omega) (ev_pos (by omega) (ev_bind (markInt_ev y m h0 (by omega)) ?_))
    simp only [set_mid]
    rw [List.length_append, List.length_singleton, show ((D.length + 1 : Nat) : Int) = (D.length : Int) + 1 by omega, show m + (y.length : Int) + (tot R : Int) = m + ((y.length + tot R : Nat) : Int) by omega] at this
    rw [show D ++ mkR (y :: R) m = D ++ [genI y.length m] ++ mkR R (m + (y.length : Int)) by simp [mkR]]
    exact this
theorem markRoute_ev (o : List (List Int)) (r : List Int) (h : o.length + tot o + r.length ≤ 1048576) : Ev (fun k => laws_markRoute.f k o r 1) (1 + (tot o : Int) + (r.length : Int), mkR o 1, genI r.length (1 + (tot o : Int))) := by
  unfold laws_markRoute.f laws_markIntSS.f
  exact ev_bind (markR_l o [] 1 (by omega) (by omega) (by rw [List.length_nil]; omega)) (ev_bind (markInt_ev r _ (by omega) (by omega)) (ev_some _))
theorem heldR_l : ∀ (R D : List (List Int)) (m : Int), 0 ≤ m → m + (tot R : Int) ≤ 4000000 → D.length + R.length ≤ 4000000 → Ev (fun k => laws_heldIntSS.l0 k (D ++ mkR R m) m (D.length : Int)) (m + (tot R : Int)) := by
  intro R
  induction R with
  | nil =>
    intro D m h0 h1 h3
    refine ev_succ ?_
    simp only [laws_heldIntSS.l0, mkR, tot]
    refine ev_neg (by rw [List.append_nil]; omega) ?_
    rw [Int.natCast_zero, Int.add_zero]
    exact ev_some _
  | cons y R ih =>
    intro D m h0 h1 h3
    simp only [tot] at h1
    rw [List.length_cons] at h3
    refine ev_succ ?_
    simp only [laws_heldIntSS.l0, mkR]
    have := ih (D ++ [genI y.length m]) (m + (y.length : Int)) (by omega) (by omega) (by rw [List.length_append, List.length_singleton]; omega)
    rw [rdL_mid, w64 (x := (D.length : Int) + 1) (by omega) (by omega)]
    refine ev_pos (by rw [List.length_append, List.length_cons]; omega) (ev_pos (by omega) (ev_bind (heldInt_ev y.length m h0 (by omega)) (ev_neg (by omega) ?_)))
    rw [List.length_append, List.length_singleton, show ((D.length + 1 : Nat) : Int) = (D.length : Int) + 1 by omega, List.append_assoc] at this
    simp only [tot]
    rw [show m + ((y.length + tot R : Nat) : Int) = m + (y.length : Int) + (tot R : Int) by omega]
    exact this
theorem tot_le {o : List (List Int)} {b : Nat} (he : ∀ y ∈ o, y.length ≤ b) : tot o ≤ o.length * b := by
  induction o with
  | nil => simp [tot]
  | cons y l ih =>
    have := ih (fun z hz => he z (List.mem_cons_of_mem _ hz))
    have := he y (List.mem_cons_self ..)
    simp only [tot, List.length_cons, Nat.add_mul, Nat.one_mul]
    omega
structure Shape (o L : List (List Int)) : Prop where
  len : L.length = o.length
  row : ∀ i, i < o.length → (L.getD i []).length = (o.getD i []).length
theorem Shape.small {o L : List (List Int)} {r : List Int} (F : RouteFacts o r) (S : Shape o L) : L.length ≤ 10 ∧ ∀ y ∈ L, y.length ≤ 4 := by
  refine ⟨by have := F.hi; have := S.len; omega, fun y hy => ?_⟩
  obtain ⟨i, hi, rfl⟩ := List.getElem_of_mem hy
  have h1 := S.row i (by have := S.len; omega)
  have h2 := (F.row i (by have := S.len; omega)).2
  rw [List.getD_eq_getElem?_getD, List.getElem?_eq_getElem hi] at h1
  have h3 : (L[i]).length = (o.getD i []).length := h1
  omega
def bump (L : List (List Int)) (r : List Int) (a : Int) : List (List Int) := L.set a.toNat ((rd_L1 L a).set (rd r a).toNat (wrap64 (rd (rd_L1 L a) (rd r a) + 1)))
theorem bump_shape {o L : List (List Int)} {r : List Int} (S : Shape o L) (a : Int) (h : 0 ≤ a ∧ a < (o.length : Int)) : Shape o (bump L r a) := by
  obtain ⟨m, rfl⟩ := Int.eq_ofNat_of_zero_le h.1
  refine ⟨by simp [bump, S.len], fun i hi => ?_⟩
  have hm : m < L.length := by have := S.len; omega
  unfold bump
  rw [Int.toNat_natCast]
  by_cases e : i = m
  · subst e
    rw [List.getD_eq_getElem?_getD, List.getElem?_set_self hm, Option.getD_some, List.length_set, rdL_nat]
    exact S.row i hi
  · rw [List.getD_eq_getElem?_getD, List.getElem?_set_ne (by omega), ← List.getD_eq_getElem?_getD]
    exact S.row i hi
def cntW (o : List (List Int)) (r : List Int) (a : Int) (Z : List (List Int)) : Nat → List (List Int)
  | 0 => Z
  | s + 1 => bump (cntW o r a Z s) (walkW o r a s).2 (walkW o r a s).1
theorem cnt_shape {o Z : List (List Int)} {r : List Int} (F : RouteFacts o r) {a : Int} (h : 0 ≤ a ∧ a < (o.length : Int)) (S : Shape o Z) : ∀ s, Shape o (cntW o r a Z s)
  | 0 => S
  | s + 1 => bump_shape (cnt_shape F h S s) _ (walk_facts F h s).2
theorem at_shape {o L : List (List Int)} (S : Shape o L) {a : Int} (h : 0 ≤ a ∧ a < (o.length : Int)) : (rd_L1 L a).length = (rd_L1 o a).length := by
  obtain ⟨m, rfl⟩ := Int.eq_ofNat_of_zero_le h.1
  rw [rdL_nat, rdL_nat]
  exact S.row m (by omega)
theorem spec_l1 {o Z : List (List Int)} {r : List Int} (F : RouteFacts o r) {a : Int} (h : 0 ≤ a ∧ a < (o.length : Int)) (S : Shape o Z) (n : Nat) (hn : n ≤ 3000) (d : Nat) : ∀ i, i + d = n → Ev (fun k => spec_LinesUsed.l1 k (walkW o r a i).1 (d : Int) (cntW o r a Z i) o (walkW o r a i).2) (cntW o r a Z n, true) := by
  induction d with
  | zero =>
    intro i hi
    obtain rfl : i = n := by omega
    exact ev_succ (by simp only [spec_LinesUsed.l1]; exact ev_neg (by omega) (ev_some _))
  | succ d ih =>
    intro i hi
    have W := walk_facts F h i
    have A := W.1.at_ W.2
    have Q := cnt_shape F h S i
    have R := at_shape Q W.2
    refine ev_succ ?_
    simp only [spec_LinesUsed.l1]
    rw [specStep_eq W.1 W.2, show wrap64 (((d + 1 : Nat) : Int) - 1) = (d : Int) from by rw [w64 (by omega) (by omega)]; omega]
    exact ev_pos (by omega) (ev_pos W.2.1 (ev_pos (by rw [Q.len]; exact W.2.2) (ev_pos (by rw [W.1.same]; exact W.2.2) (ev_pos A.2.2.1 (ev_pos (by rw [R]; exact A.2.2.2.1) (ev_bind (ev_some _) (ih (i + 1) (by omega))))))))
theorem impl_l1 {o Z : List (List Int)} {r : List Int} (F : RouteFacts o r) {a : Int} (h : 0 ≤ a ∧ a < (o.length : Int)) (S : Shape o Z) (n : Nat) (hn : n ≤ 3000) (d : Nat) : ∀ i, i + d = n → Ev (fun k => impl_LinesUsed.l1 k (walkW o r a i).1 (cntW o r a Z i) (n : Int) (i : Int) o (walkW o r a i).2) (cntW o r a Z n, true) := by
  induction d with
  | zero =>
    intro i hi
    obtain rfl : i = n := by omega
    exact ev_succ (by simp only [impl_LinesUsed.l1]; exact ev_neg (by omega) (ev_some _))
  | succ d ih =>
    intro i hi
    have W := walk_facts F h i
    have A := W.1.at_ W.2
    have Q := cnt_shape F h S i
    have R := at_shape Q W.2
    refine ev_succ ?_
    simp only [impl_LinesUsed.l1]
    rw [implStep_eq W.1 W.2, show wrap64 ((i : Int) + 1) = ((i + 1 : Nat) : Int) from by rw [w64 (by omega) (by omega)]; omega]
    exact ev_pos (by omega) (ev_pos W.2.1 (ev_pos (by rw [Q.len]; exact W.2.2) (ev_pos (by rw [W.1.same]; exact W.2.2) (ev_pos A.2.2.1 (ev_pos (by rw [R]; exact A.2.2.2.1) (ev_bind (ev_some _) (ih (i + 1) (by omega))))))))
def zr (o : List (List Int)) (i : Nat) : List (List Int) := (o.take i).map fun y => List.replicate y.length 0
theorem zr_succ (o : List (List Int)) (i : Nat) (h : i < o.length) : zr o i ++ [List.replicate (o.getD i []).length 0] = zr o (i + 1) := by
  unfold zr
  rw [List.take_succ_eq_append_getElem h, List.map_append]
  simp [List.getD_eq_getElem?_getD, List.getElem?_eq_getElem h]
theorem zr_length (o : List (List Int)) (i : Nat) (h : i ≤ o.length) : (zr o i).length = i := by
  unfold zr
  rw [List.length_map, List.length_take]
  omega
theorem zr_shape (o : List (List Int)) : Shape o (zr o o.length) := by
  refine ⟨zr_length o _ (Nat.le_refl _), fun i hi => ?_⟩
  unfold zr
  rw [List.take_length, List.getD_eq_getElem?_getD, List.getElem?_map, List.getElem?_eq_getElem hi, List.getD_eq_getElem?_getD, List.getElem?_eq_getElem hi]
  simp
theorem spec_l0 {o : List (List Int)} {r : List Int} (F : RouteFacts o r) (a n : Int) {q : List (List Int) × Bool} (hq : Ev (fun k => spec_LinesUsed.l1 k a n (zr o o.length) o r) q) (d : Nat) : ∀ i : Nat, i + d = o.length → Ev (fun k => spec_LinesUsed.l0 k a n (zr o i) o (o.length : Int) (i : Int) o r) q := by
  have hi := F.hi
  induction d with
  | zero =>
    intro i e
    obtain rfl : i = o.length := by omega
    exact ev_succ (by simp only [spec_LinesUsed.l0]; exact ev_neg (by omega) hq)
  | succ d ih =>
    intro i e
    have h4 := (F.row i (by omega)).2
    refine ev_succ ?_
    simp only [spec_LinesUsed.l0]
    rw [rdL_nat, Int.toNat_natCast, zr_succ o i (by omega), show wrap64 ((i : Int) + 1) = ((i + 1 : Nat) : Int) from by rw [w64 (by omega) (by omega)]; omega]
    exact ev_pos (by omega) (ev_pos (by omega) (ev_pos (by omega) (ev_pos (by omega) (ev_pos (by omega) (ev_pos (by rw [zr_length o i (by omega)]; omega) (ih (i + 1) (by omega)))))))
theorem impl_l0 {o : List (List Int)} {r : List Int} (F : RouteFacts o r) (a n : Int) {q : List (List Int) × Bool} (hq : Ev (fun k => impl_LinesUsed.l1 k a (zr o o.length) n 0 o r) q) (d : Nat) : ∀ i : Nat, i + d = o.length → Ev (fun k => impl_LinesUsed.l0 k a n (zr o i) o (o.length : Int) (i : Int) o r) q := by
  have hi := F.hi
  induction d with
  | zero =>
    intro i e
    obtain rfl : i = o.length := by omega
    exact ev_succ (by simp only [impl_LinesUsed.l0]; exact ev_neg (by omega) hq)
  | succ d ih =>
    intro i e
    have h4 := (F.row i (by omega)).2
    refine ev_succ ?_
    simp only [impl_LinesUsed.l0]
    rw [rdL_nat, Int.toNat_natCast, zr_succ o i (by omega), show wrap64 ((i : Int) + 1) = ((i + 1 : Nat) : Int) from by rw [w64 (by omega) (by omega)]; omega]
    exact ev_pos (by omega) (ev_pos (by omega) (ev_pos (by omega) (ev_pos (by omega) (ev_pos (by omega) (ev_pos (by rw [zr_length o i (by omega)]; omega) (ih (i + 1) (by omega)))))))
theorem FnExactLinesUsed : LawHolds := by
  intro o r at_ n ⟨_, ho, he⟩ ⟨_, hr, _⟩ _ _
  refine ev_out (g := fun k => laws_FnExactLinesUsed.f k o r at_ n) ?_
  have he8 : ∀ y ∈ o, y.length * 8 ≤ 140737488351232 := fun y hy => (he y hy).2.1
  have hel : ∀ y ∈ o, y.length ≤ 140737488351232 := fun y hy => by have := he8 y hy; omega
  have hto := toRoute_ev o r ho he8 hr
  obtain ⟨t, ht, hz⟩ := szRoute_le o r (by omega) hel (by omega)
  have both : ∃ (G : List (List Int)) (b : Bool), (G.length ≤ 10 ∧ ∀ y ∈ G, y.length ≤ 4) ∧ Ev (fun k => spec_LinesUsed.f k o r at_ n) (G, b) ∧ Ev (fun k => impl_LinesUsed.f k o r at_ n) (G, b) := by
    unfold spec_LinesUsed.f impl_LinesUsed.f
    have h1 := roWalk_ev o r at_ n hel
    have h3 := isWalk_ev o r at_ n hel
    cases hc : walkOk o r at_ n with
    | false => exact ⟨[], false, ⟨by simp, by simp⟩, ev_bind (hc ▸ h1) (ev_neg (by simp) (ev_some _)), ev_bind (hc ▸ h3) (ev_neg (by simp) (ev_some _))⟩
    | true =>
      obtain ⟨F, ha, h0, hn⟩ := walkOk_facts hc
      obtain ⟨m, rfl⟩ := Int.eq_ofNat_of_zero_le h0
      exact ⟨cntW o r at_ (zr o o.length) m, true, (cnt_shape F ha (zr_shape o) m).small F, ev_bind (hc ▸ h1) (ev_pos rfl (ev_bind (roOwn_ev F) (spec_l0 F at_ m (spec_l1 F ha (zr_shape o) m (by omega) m 0 (by omega)) o.length 0 (by omega)))), ev_bind (hc ▸ h3) (ev_pos rfl (ev_bind (implOwn_ev F) (impl_l0 F at_ m (impl_l1 F ha (zr_shape o) m (by omega) m 0 (by omega)) o.length 0 (by omega))))⟩
  obtain ⟨G, b, ⟨hG, hE⟩, h1, h2⟩ := both
  have hT := tot_le hE
  unfold laws_FnExactLinesUsed.f
  refine ev_bind ht (ev_ite (fun _ => ev_some _) (fun c => ?_))
  have hs := hz (by omega)
  refine ev_bind hto (ev_bind h1 (ev_bind h2 (ev_bind (eqIntSS_ev G (by omega) (fun y hy => by have := hE y hy; omega)) (ev_bind (eqRoute_ev o r (by omega) hel (by omega)) (ev_bind (markRoute_ev o r hs) (ev_bind (markR_l G [] 1 (by omega) (by omega) (by rw [List.length_nil]; omega)) (ev_bind (heldR_l G [] 1 (by omega) (by omega) (by rw [List.length_nil]; omega)) (ev_pos ?_ (ev_some _)))))))))
  exact ⟨rfl, rfl, rfl, by show (0 : Int) ≤ 1 + _ + _; omega, by omega, rfl⟩

end Go.Proofs.Ytecoeknjnhffbaa.Pure
