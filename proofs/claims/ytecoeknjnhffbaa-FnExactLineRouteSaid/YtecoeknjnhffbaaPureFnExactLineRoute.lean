/- LineRoute of the program and of the reference agree at every number. Conditions: those of reading alone. -/
import Derived.Test.YtecoeknjnhffbaaQFnExactLineRoute
namespace Go.Proofs.Ytecoeknjnhffbaa.Pure
open Go.RowKit Go.Proofs.Ytecoeknjnhffbaa.PFnExactLineRoute Go.Proofs.YtecoeknjnhffbaaW.PrintWords Go.Proofs.YtecoeknjnhffbaaW.PrintLast
set_option linter.unusedVariables false
set_option linter.unusedSimpArgs false
theorem ev_succ {α : Type} {g : Nat → Option α} {r : α} (h : Ev (fun k => g (k + 1)) r) : Ev g r := by
  obtain ⟨K, h⟩ := h
  refine ⟨K + 1, fun k hk => ?_⟩
  obtain ⟨j, rfl⟩ : ∃ j, k = j + 1 := ⟨k - 1, by omega⟩
  exact h j (by omega)
theorem ev_some {α : Type} (r : α) : Ev (fun _ => some r) r := ⟨0, fun _ _ => rfl⟩
theorem ev_const {α : Type} {x : Option α} {r : α} (h : x = some r) : Ev (fun _ => x) r := ⟨0, fun _ _ => h⟩
theorem ev_bind {α β : Type} {g : Nat → Option α} {f : Nat → α → Option β} {a : α} {r : β} (h : Ev g a) (k : Ev (fun n => f n a) r) : Ev (fun n => (g n).bind (f n)) r := by
  obtain ⟨K, h⟩ := h
  obtain ⟨L, k⟩ := k
  exact ⟨max K L, fun n hn => by show (g n).bind (f n) = some r; rw [h n (by omega)]; exact k n (by omega)⟩
theorem ev_pos {α : Type} {c : Prop} [Decidable c] {f g : Nat → Option α} {r : α} (hc : c) (h : Ev f r) : Ev (fun k => if c then f k else g k) r := by
  obtain ⟨K, h⟩ := h
  exact ⟨K, fun n hn => by show (if c then f n else g n) = some r; rw [if_pos hc]; exact h n hn⟩
theorem ev_neg {α : Type} {c : Prop} [Decidable c] {f g : Nat → Option α} {r : α} (hc : ¬ c) (h : Ev g r) : Ev (fun k => if c then f k else g k) r := by
  obtain ⟨K, h⟩ := h
  exact ⟨K, fun n hn => by show (if c then f n else g n) = some r; rw [if_neg hc]; exact h n hn⟩
theorem ev_ite {α : Type} {c : Prop} [Decidable c] {f g : Nat → Option α} {r : α} (h1 : c → Ev f r) (h2 : ¬ c → Ev g r) : Ev (fun k => if c then f k else g k) r := by
  by_cases hc : c
  · exact ev_pos hc (h1 hc)
  · exact ev_neg hc (h2 hc)
theorem ev_out {α : Type} {g : Nat → Option α} {r : α} (h : Ev g r) : ∃ k, g k = some r := by
  obtain ⟨K, h⟩ := h
  exact ⟨K, h K (Nat.le_refl _)⟩
theorem ev_uni {α : Type} {g : Nat → Option α} {r r' : α} (h : Ev g r) (h' : Ev g r') : r = r' := by
  obtain ⟨K, h⟩ := h
  obtain ⟨L, h'⟩ := h'
  have := (h (max K L) (by omega)).symm.trans (h' (max K L) (by omega))
  exact Option.some.inj this
theorem w64 {x : Int} (h1 : -9223372036854775808 ≤ x) (h2 : x ≤ 9223372036854775807) : wrap64 x = x := by
  unfold wrap64
  omega
theorem i64_range {x : Int} (h : (Lit.int .i64 x).wf = true) : -9223372036854775808 ≤ x ∧ x ≤ 9223372036854775807 := by
  have e1 : IntKind.i64.min = -9223372036854775808 := by decide
  have e2 : IntKind.i64.max = 9223372036854775807 := by decide
  have h' : IntKind.i64.min ≤ x ∧ x ≤ IntKind.i64.max := by simpa [Lit.wf] using h
  omega
theorem maxLen_eq : maxLen = 9223372036854775807 := rfl
theorem rd_nat (l : List Int) (i : Nat) : rd l (i : Int) = l.getD i 0 := by simp [rd]
theorem rdL_nat (l : List (List Int)) (i : Nat) : rd_L1 l (i : Int) = l.getD i [] := by simp [rd_L1]
theorem getD_mem {α : Type} {l : List α} {d : α} {i : Nat} (h : i < l.length) : l.getD i d ∈ l := by
  rw [List.getD_eq_getElem?_getD, List.getElem?_eq_getElem h]
  exact List.getElem_mem h
theorem eqIntS_l (l : List Int) (hl : l.length ≤ 140737488351232) (d : Nat) : ∀ (i : Nat), i + d = l.length → Ev (fun k => laws_eqIntS.l0 k l l (i : Int)) true := by
  induction d with
  | zero => intro i h; exact ev_succ (by simp only [laws_eqIntS.l0]; exact ev_neg (by omega) (ev_some _))
  | succ d ih =>
    intro i h
    refine ev_succ ?_
    simp only [laws_eqIntS.l0]
    refine ev_pos (by omega) (ev_pos (by omega) (ev_pos (by omega) (ev_pos (by first | rfl | trivial) ?_)))
    rw [show wrap64 ((i : Int) + 1) = ((i + 1 : Nat) : Int) from by rw [w64 (by omega) (by omega)]; omega]
    exact ih (i + 1) (by omega)
theorem eqIntS_ev (l : List Int) (hl : l.length ≤ 140737488351232) : Ev (fun k => laws_eqIntS.f k l l) true := by
  unfold laws_eqIntS.f
  exact ev_pos rfl (eqIntS_l l hl l.length 0 (by omega))
theorem eqIntSS_l (l : List (List Int)) (hl : l.length ≤ 140737488351232) (he : ∀ y ∈ l, y.length ≤ 140737488351232) (d : Nat) : ∀ (i : Nat), i + d = l.length → Ev (fun k => laws_eqIntSS.l0 k l l (i : Int)) true := by
  induction d with
  | zero => intro i h; exact ev_succ (by simp only [laws_eqIntSS.l0]; exact ev_neg (by omega) (ev_some _))
  | succ d ih =>
    intro i h
    refine ev_succ ?_
    simp only [laws_eqIntSS.l0]
    rw [rdL_nat]
    refine ev_pos (by omega) (ev_pos (by omega) (ev_pos (by omega) (ev_bind (eqIntS_ev _ (he _ (getD_mem (by omega)))) (ev_pos rfl ?_))))
    rw [show wrap64 ((i : Int) + 1) = ((i + 1 : Nat) : Int) from by rw [w64 (by omega) (by omega)]; omega]
    exact ih (i + 1) (by omega)
theorem eqIntSS_ev (l : List (List Int)) (hl : l.length ≤ 140737488351232) (he : ∀ y ∈ l, y.length ≤ 140737488351232) : Ev (fun k => laws_eqIntSS.f k l l) true := by
  unfold laws_eqIntSS.f
  exact ev_pos rfl (eqIntSS_l l hl he l.length 0 (by omega))
theorem eqRoute_ev (o : List (List Int)) (r : List Int) (hl : o.length ≤ 140737488351232) (he : ∀ y ∈ o, y.length ≤ 140737488351232) (hr : r.length ≤ 140737488351232) : Ev (fun k => laws_eqRoute.f k o r o r) true := by
  unfold laws_eqRoute.f
  exact ev_bind (eqIntSS_ev o hl he) (ev_pos rfl (ev_bind (eqIntS_ev r hr) (ev_pos rfl (ev_some _))))
def inR (x lo hi : Int) : Bool := decide (lo ≤ x) && decide (x ≤ hi)
theorem l1In_eq (x lo hi : Int) : spec_l1In.f x lo hi = some (inR x lo hi) := by
  unfold spec_l1In.f inR
  by_cases h : x ≥ lo
  · simp [h, show lo ≤ x from h]
  · simp [h, show ¬ lo ≤ x from h]
theorem within_eq (x lo hi : Int) : impl_within.f x lo hi = some (inR x lo hi) := by
  unfold impl_within.f inR
  by_cases h : lo ≤ x <;> simp [h]
def tot : List (List Int) → Nat
  | [] => 0
  | y :: l => y.length + tot l
def genI : Nat → Int → List Int
  | 0, _ => []
  | n + 1, m => m :: genI n (m + 1)
theorem genI_length : ∀ (n : Nat) (m : Int), (genI n m).length = n
  | 0, _ => rfl
  | n + 1, m => by rw [genI, List.length_cons, genI_length n]
theorem set_mid {α : Type} (D : List α) (y z : α) (R : List α) : (D ++ y :: R).set D.length z = (D ++ [z]) ++ R := by
  rw [List.set_append_right _ _ (Nat.le_refl _), Nat.sub_self, List.set_cons_zero, List.append_assoc]
  rfl
theorem rd_mid (D : List Int) (y : Int) (R : List Int) : rd (D ++ y :: R) (D.length : Int) = y := by rw [rd_nat]; simp
theorem rdL_mid (D : List (List Int)) (y : List Int) (R : List (List Int)) : rd_L1 (D ++ y :: R) (D.length : Int) = y := by rw [rdL_nat]; simp
theorem markI_l : ∀ (R D : List Int) (m : Int), 0 ≤ m → m + (R.length : Int) ≤ 4000000 → D.length + R.length ≤ 4000000 → Ev (fun k => laws_markIntS.l0 k (D ++ R) m (D.length : Int)) (m + (R.length : Int), D ++ genI R.length m) := by
  intro R
  induction R with
  | nil =>
    intro D m h0 h1 h3
    refine ev_succ ?_
    simp only [laws_markIntS.l0]
    refine ev_neg (by rw [List.append_nil]; omega) ?_
    simp only [genI, List.length_nil, Int.natCast_zero, Int.add_zero]
    exact ev_some _
  | cons y R ih =>
    intro D m h0 h1 h3
    rw [List.length_cons] at h1 h3
    refine ev_succ ?_
    simp only [laws_markIntS.l0]
    have := ih (D ++ [m]) (m + 1) (by omega) (by omega) (by rw [List.length_append, List.length_singleton]; omega)
    rw [w64 (x := m + 1) (by omega) (by omega), w64 (x := (D.length : Int) + 1) (by omega) (by omega), Int.toNat_natCast, set_mid]
    refine ev_pos (by rw [List.length_append, List.length_cons]; omega) (ev_pos (by omega) ?_)
    rw [List.length_append, List.length_singleton, show ((D.length + 1 : Nat) : Int) = (D.length : Int) + 1 by omega, show m + 1 + (R.length : Int) = m + ((R.length + 1 : Nat) : Int) by omega] at this
    rw [List.length_cons, show D ++ genI (R.length + 1) m = D ++ [m] ++ genI R.length (m + 1) by simp [genI]]
    exact this
theorem markInt_ev (l : List Int) (m : Int) (h0 : 0 ≤ m) (h1 : m + (l.length : Int) ≤ 4000000) : Ev (fun k => laws_markIntS.f k l m) (m + (l.length : Int), genI l.length m) := markI_l l [] m h0 h1 (by rw [List.length_nil]; omega)
theorem heldI_l : ∀ (n : Nat) (D : List Int) (m : Int), 0 ≤ m → m + (n : Int) ≤ 4000000 → D.length + n ≤ 4000000 → Ev (fun k => laws_heldIntS.l0 k (D ++ genI n m) m (D.length : Int)) (m + (n : Int)) := by
  intro n
  induction n with
  | zero =>
    intro D m h0 h1 h3
    refine ev_succ ?_
    simp only [laws_heldIntS.l0, genI]
    refine ev_neg (by rw [List.append_nil]; omega) ?_
    rw [Int.natCast_zero, Int.add_zero]
    exact ev_some _
  | succ n ih =>
    intro D m h0 h1 h3
    refine ev_succ ?_
    simp only [laws_heldIntS.l0, genI]
    have := ih (D ++ [m]) (m + 1) (by omega) (by omega) (by rw [List.length_append, List.length_singleton]; omega)
    rw [w64 (x := m + 1) (by omega) (by omega), w64 (x := (D.length : Int) + 1) (by omega) (by omega)]
    refine ev_pos (by rw [List.length_append, List.length_cons]; omega) (ev_pos (by omega) (ev_pos (rd_mid _ _ _) ?_))
    rw [List.length_append, List.length_singleton, show ((D.length + 1 : Nat) : Int) = (D.length : Int) + 1 by omega, List.append_assoc, show m + 1 + (n : Int) = m + ((n + 1 : Nat) : Int) by omega] at this
    exact this
theorem heldInt_ev (n : Nat) (m : Int) (h0 : 0 ≤ m) (h1 : m + (n : Int) ≤ 4000000) : Ev (fun k => laws_heldIntS.f k (genI n m) m) (m + (n : Int)) := heldI_l n [] m h0 h1 (by rw [List.length_nil]; omega)
def mkR : List (List Int) → Int → List (List Int)
  | [], _ => []
  | y :: l, m => genI y.length m :: mkR l (m + (y.length : Int))
theorem markR_l : ∀ (R D : List (List Int)) (m : Int), 0 ≤ m → m + (tot R : Int) ≤ 4000000 → D.length + R.length ≤ 4000000 → Ev (fun k => laws_markIntSS.l0 k (D ++ R) m (D.length : Int)) (m + (tot R : Int), D ++ mkR R m) := by
  intro R
  induction R with
  | nil =>
    intro D m h0 h1 h3
    refine ev_succ ?_
    simp only [laws_markIntSS.l0]
    refine ev_neg (by rw [List.append_nil]; omega) ?_
    simp only [mkR, tot, Int.natCast_zero, Int.add_zero]
    exact ev_some _
  | cons y R ih =>
    intro D m h0 h1 h3
    simp only [tot] at h1
    rw [List.length_cons] at h3
    refine ev_succ ?_
    simp only [laws_markIntSS.l0]
    have := ih (D ++ [genI y.length m]) (m + (y.length : Int)) (by omega) (by omega) (by rw [List.length_append, List.length_singleton]; omega)
    rw [rdL_mid, w64 (x := (D.length : Int) + 1) (by omega) (by omega), Int.toNat_natCast]
    refine ev_pos (by rw [List.length_append, List.length_cons]; omega) (ev_pos (by omega) (ev_bind (markInt_ev y m h0 (by omega)) ?_))
    simp only [set_mid]
    rw [List.length_append, List.length_singleton, show ((D.length + 1 : Nat) : Int) = (D.length : Int) + 1 by omega, show m + (y.length : Int) + (tot R : Int) = m + ((y.length + tot R : Nat) : Int) by omega] at this
    rw [show D ++ mkR (y :: R) m = D ++ [genI y.length m] ++ mkR R (m + (y.length : Int)) by simp [mkR]]
    exact this
theorem markRoute_ev (o : List (List Int)) (r : List Int) (h : o.length + tot o + r.length ≤ 1048576) : Ev (fun k => laws_markRoute.f k o r 1) (1 + (tot o : Int) + (r.length : Int), mkR o 1, genI r.length (1 + (tot o : Int))) := by
  unfold laws_markRoute.f laws_markIntSS.f
  exact ev_bind (markR_l o [] 1 (by omega) (by omega) (by rw [List.length_nil]; omega)) (ev_bind (markInt_ev r _ (by omega) (by omega)) (ev_some _))
theorem heldR_l : ∀ (R D : List (List Int)) (m : Int), 0 ≤ m → m + (tot R : Int) ≤ 4000000 → D.length + R.length ≤ 4000000 → Ev (fun k => laws_heldIntSS.l0 k (D ++ mkR R m) m (D.length : Int)) (m + (tot R : Int)) := by
  intro R
  induction R with
  | nil =>
    intro D m h0 h1 h3
    refine ev_succ ?_
    simp only [laws_heldIntSS.l0, mkR, tot]
    refine ev_neg (by rw [List.append_nil]; omega) ?_
    rw [Int.natCast_zero, Int.add_zero]
    exact ev_some _
  | cons y R ih =>
    intro D m h0 h1 h3
    simp only [tot] at h1
    rw [List.length_cons] at h3
    refine ev_succ ?_
    simp only [laws_heldIntSS.l0, mkR]
    have := ih (D ++ [genI y.length m]) (m + (y.length : Int)) (by omega) (by omega) (by rw [List.length_append, List.length_singleton]; omega)
    rw [rdL_mid, w64 (x := (D.length : Int) + 1) (by omega) (by omega)]
    refine ev_pos (by rw [List.length_append, List.length_cons]; omega) (ev_pos (by omega) (ev_bind (heldInt_ev y.length m h0 (by omega)) (ev_neg (by omega) ?_)))
    rw [List.length_append, List.length_singleton, show ((D.length + 1 : Nat) : Int) = (D.length : Int) + 1 by omega, List.append_assoc] at this
    simp only [tot]
    rw [show m + ((y.length + tot R : Nat) : Int) = m + (y.length : Int) + (tot R : Int) by omega]
    exact this
theorem heldRoute_ev (o : List (List Int)) (r : List Int) (h : o.length + tot o + r.length ≤ 1048576) : Ev (fun k => laws_heldRoute.f k (mkR o 1) (genI r.length (1 + (tot o : Int))) 1) (1 + (tot o : Int) + (r.length : Int)) := by
  unfold laws_heldRoute.f laws_heldIntSS.f
  exact ev_bind (heldR_l o [] 1 (by omega) (by omega) (by rw [List.length_nil]; omega)) (ev_neg (by omega) (ev_bind (heldInt_ev r.length _ (by omega) (by omega)) (ev_neg (by omega) (ev_some _))))
theorem tot_le {o : List (List Int)} {b : Nat} (he : ∀ y ∈ o, y.length ≤ b) : tot o ≤ o.length * b := by
  induction o with
  | nil => simp [tot]
  | cons y l ih =>
    have := ih (fun z hz => he z (List.mem_cons_of_mem _ hz))
    have := he y (List.mem_cons_self ..)
    simp only [tot, List.length_cons, Nat.add_mul, Nat.one_mul]
    omega
def lrow (n i : Nat) : List Int := if (i : Int) = 0 then [1] else if (i : Int) = wrap64 ((n : Int) - 1) then [wrap64 ((i : Int) - 1)] else [wrap64 ((i : Int) - 1), wrap64 ((i : Int) + 1)]
theorem lrow_length (n i : Nat) : (lrow n i).length ≤ 4 := by
  unfold lrow
  split
  · simp
  · split <;> simp
def rg (n i : Nat) : List (List Int) := (List.range i).map (lrow n)
theorem rg_succ (n i : Nat) : rg n (i + 1) = rg n i ++ [lrow n i] := by
  unfold rg
  rw [List.range_succ, List.map_append]
  rfl
theorem rg_length (n i : Nat) : (rg n i).length = i := by simp [rg]
theorem spec_l (n : Nat) (h1 : 1 ≤ n) (h2 : n ≤ 10) (R : List Int) : ∀ d i : Nat, i + d = n → Ev (fun k => spec_LineRoute.l0 k (n : Int) (i : Int) (rg n i) R) (rg n n, R, true)
  | 0, i, e => by
    obtain rfl : i = n := by omega
    exact ev_succ (by simp only [spec_LineRoute.l0]; exact ev_neg (by omega) (ev_some _))
  | d + 1, i, e => by
    refine ev_succ ?_
    simp only [spec_LineRoute.l0]
    have := spec_l n h1 h2 R d (i + 1) (by omega)
    rw [rg_succ] at this
    rw [← show wrap64 ((i : Int) + 1) = ((i + 1 : Nat) : Int) from by rw [w64 (by omega) (by omega)]; omega] at this
    have hl : (rg n i).length < 5864062014805 := by rw [rg_length]; omega
    refine ev_pos (by omega) ?_
    by_cases c1 : (i : Int) = 0
    · rw [show lrow n i = [1] from if_pos c1] at this
      exact ev_pos c1 (ev_pos hl this)
    · by_cases c2 : (i : Int) = wrap64 ((n : Int) - 1)
      · rw [show lrow n i = [wrap64 ((i : Int) - 1)] from (if_neg c1).trans (if_pos c2)] at this
        exact ev_neg c1 (ev_pos c2 (ev_pos hl this))
      · rw [show lrow n i = [wrap64 ((i : Int) - 1), wrap64 ((i : Int) + 1)] from (if_neg c1).trans (if_neg c2)] at this
        exact ev_neg c1 (ev_neg c2 (ev_pos hl this))
theorem impl_l (n : Nat) (h1 : 1 ≤ n) (h2 : n ≤ 10) (R : List Int) : ∀ d i : Nat, i + d = n → Ev (fun k => impl_routeOf.l0 k (n : Int) (n : Int) (i : Int) (rg n i) R) (rg n n, R)
  | 0, i, e => by
    obtain rfl : i = n := by omega
    exact ev_succ (by simp only [impl_routeOf.l0]; exact ev_neg (by omega) (ev_some _))
  | d + 1, i, e => by
    refine ev_succ ?_
    simp only [impl_routeOf.l0]
    have := impl_l n h1 h2 R d (i + 1) (by omega)
    rw [rg_succ] at this
    rw [← show wrap64 ((i : Int) + 1) = ((i + 1 : Nat) : Int) from by rw [w64 (by omega) (by omega)]; omega] at this
    refine ev_pos (by omega) (ev_bind (ev_const ?_) (ev_pos (by rw [rg_length]; omega) this))
    unfold impl_LineRoute_1.f lrow
    by_cases c1 : (i : Int) = 0
    · rw [if_pos c1, if_pos c1]
    · rw [if_neg c1, if_neg c1]
      split <;> rfl
theorem FnExactLineRoute : LawHolds := by
  intro a _
  refine ev_out (g := fun k => laws_FnExactLineRoute.f k a) ?_
  have both : ∃ (G : List (List Int)) (R : List Int) (b : Bool), (G.length + tot G + R.length ≤ 1048576 ∧ ∀ y ∈ G, y.length ≤ 4) ∧ Ev (fun k => spec_LineRoute.f k a) (G, R, b) ∧ Ev (fun k => impl_LineRoute.f k a) (G, R, b) := by
    unfold spec_LineRoute.f impl_LineRoute.f
    rw [l1In_eq, within_eq]
    cases hc : inR a 2 10 with
    | false => exact ⟨[], [], false, ⟨by simp [tot], by simp⟩, ev_bind (ev_some _) (ev_neg (by simp) (ev_some _)), ev_bind (ev_some _) (ev_neg (by simp) (ev_some _))⟩
    | true =>
      have hb : 2 ≤ a ∧ a ≤ 10 := by simpa [inR] using hc
      obtain ⟨n, rfl⟩ := Int.eq_ofNat_of_zero_le (show 0 ≤ a by omega)
      have hE : ∀ y ∈ rg n n, y.length ≤ 4 := fun y hy => by
        unfold rg at hy
        rw [List.mem_map] at hy
        obtain ⟨j, _, rfl⟩ := hy
        exact lrow_length n j
      have hT := tot_le hE
      rw [rg_length] at hT
      refine ⟨rg n n, List.replicate n 0, true, ⟨by rw [rg_length, List.length_replicate]; omega, hE⟩, ev_bind (ev_some _) (ev_pos rfl (ev_pos (by omega) (ev_pos (by omega) (spec_l n (by omega) (by omega) _ n 0 (by omega))))), ev_bind (ev_some _) (ev_pos rfl (ev_bind (a := (rg n n, List.replicate n 0)) ?_ (ev_some _)))⟩
      unfold impl_routeOf.f
      exact ev_pos (by omega) (ev_pos (by omega) (impl_l n (by omega) (by omega) _ n 0 (by omega)))
  obtain ⟨G, R, b, ⟨hG, hE⟩, h1, h2⟩ := both
  unfold laws_FnExactLineRoute.f
  refine ev_bind h1 (ev_bind h2 (ev_bind (eqRoute_ev G R (by omega) (fun y hy => by have := hE y hy; omega) (by omega)) (ev_bind (markRoute_ev G R hG) (ev_bind (heldRoute_ev G R hG) (ev_pos ?_ (ev_some _))))))
  exact ⟨rfl, rfl, by omega, rfl⟩

end Go.Proofs.Ytecoeknjnhffbaa.Pure
