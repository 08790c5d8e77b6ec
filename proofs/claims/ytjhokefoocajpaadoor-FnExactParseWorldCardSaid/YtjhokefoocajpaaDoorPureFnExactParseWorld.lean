/- ParseWorld of the program and of the reference agree at every text. Conditions: those of reading alone. -/
import Derived.Test.YtjhokefoocajpaaDoorQFnExactParseWorld
namespace Go.Proofs.YtjhokefoocajpaaDoor.Pure
open Go.RowKit Go.Proofs.YtjhokefoocajpaaDoor.PFnExactParseWorld Go.Proofs.YtjhokefoocajpaaDoorW.PrintWords Go.Proofs.YtjhokefoocajpaaDoorW.PrintLast
set_option linter.unusedVariables false
set_option linter.unusedSimpArgs false
theorem ev_succ {α : Type} {g : Nat → Option α} {r : α} (h : Ev (fun k => g (k + 1)) r) : Ev g r := by
  obtain ⟨K, h⟩ := h
  refine ⟨K + 1, fun k hk => ?_⟩
  obtain ⟨j, rfl⟩ : ∃ j, k = j + 1 := ⟨k - 1, by omega⟩
  exact h j (by omega)
theorem ev_some {α : Type} (r : α) : Ev (fun _ => some r) r := ⟨0, fun _ _ => rfl⟩
theorem ev_const {α : Type} {x : Option α} {r : α} (h : x = some r) : Ev (fun _ => x) r := ⟨0, fun _ _ => h⟩
theorem ev_bind {α β : Type} {g : Nat → Option α} {f : Nat → α → Option β} {a : α} {r : β} (h : Ev g a) (k : Ev (fun n => f n a) r) : Ev (fun n => (g n).bind (f n)) r := by
  obtain ⟨K, h⟩ := h
  obtain ⟨L, k⟩ := k
  exact ⟨max K L, fun n hn => by show (g n).bind (f n) = some r; rw [h n (by omega)]; exact k n (by omega)⟩
theorem ev_pos {α : Type} {c : Prop} [Decidable c] {f g : Nat → Option α} {r : α} (hc : c) (h : Ev f r) : Ev (fun k => if c then f k else g k) r := by
  obtain ⟨K, h⟩ := h
  exact ⟨K, fun n hn => by show (if c then f n else g n) = some r; rw [if_pos hc]; exact h n hn⟩
theorem ev_neg {α : Type} {c : Prop} [Decidable c] {f g : Nat → Option α} {r : α} (hc : ¬ c) (h : Ev g r) : Ev (fun k => if c then f k else g k) r := by
  obtain ⟨K, h⟩ := h
  exact ⟨K, fun n hn => by show (if c then f n else g n) = some r; rw [if_neg hc]; exact h n hn⟩
theorem ev_ite {α : Type} {c : Prop} [Decidable c] {f g : Nat → Option α} {r : α} (h1 : c → Ev f r) (h2 : ¬ c → Ev g r) : Ev (fun k => if c then f k else g k) r := by
  by_cases hc : c
  · exact ev_pos hc (h1 hc)
  · exact ev_neg hc (h2 hc)
theorem ev_out {α : Type} {g : Nat → Option α} {r : α} (h : Ev g r) : ∃ k, g k = some r := by
  obtain ⟨K, h⟩ := h
  exact ⟨K, h K (Nat.le_refl _)⟩
theorem ev_uni {α : Type} {g : Nat → Option α} {r r' : α} (h : Ev g r) (h' : Ev g r') : r = r' := by
  obtain ⟨K, h⟩ := h
  obtain ⟨L, h'⟩ := h'
  have := (h (max K L) (by omega)).symm.trans (h' (max K L) (by omega))
  exact Option.some.inj this
theorem w64 {x : Int} (h1 : -9223372036854775808 ≤ x) (h2 : x ≤ 9223372036854775807) : wrap64 x = x := by
  unfold wrap64
  omega
theorem i64_range {x : Int} (h : (Lit.int .i64 x).wf = true) : -9223372036854775808 ≤ x ∧ x ≤ 9223372036854775807 := by
  have e1 : IntKind.i64.min = -9223372036854775808 := by decide
  have e2 : IntKind.i64.max = 9223372036854775807 := by decide
  have h' : IntKind.i64.min ≤ x ∧ x ≤ IntKind.i64.max := by simpa [Lit.wf] using h
  omega
theorem maxLen_eq : maxLen = 9223372036854775807 := rfl
def bl (a : ByteArray) : List Int := a.data.toList.map (fun b => (b.toNat : Int))
theorem size_data (a : ByteArray) : a.data.toList.length = a.size := by
  rw [Array.length_toList]
  rfl
theorem bl_length (a : ByteArray) : (bl a).length = a.size := by
  unfold bl
  rw [List.length_map, size_data]
theorem bl_get? (a : ByteArray) (i : Nat) (h : i < a.size) : (bl a)[i]? = some (bt a (i : Int)) := by
  unfold bl bt
  rw [List.getElem?_map, Array.getElem?_toList]
  have e : ((i : Int)).toNat = i := Int.toNat_natCast i
  have h2 : a.data[i]? = some (a.data[i]'h) := Array.getElem?_eq_getElem h
  rw [h2, dif_pos (by rw [e]; exact h)]
  simp only [e]
  rfl
theorem bl_get (a : ByteArray) (i : Nat) (h : i < (bl a).length) : (bl a)[i] = bt a (i : Int) := by
  have h2 := bl_get? a i (by rw [← bl_length]; exact h)
  rw [List.getElem?_eq_getElem h] at h2
  exact Option.some.inj h2
theorem bl_drop (a : ByteArray) (i : Nat) (h : i < a.size) : (bl a).drop i = bt a (i : Int) :: (bl a).drop (i + 1) := by
  have h' : i < (bl a).length := by rw [bl_length]; exact h
  rw [List.drop_eq_getElem_cons h', bl_get a i h']
theorem bl_drop_size (a : ByteArray) : (bl a).drop a.size = [] := by
  rw [List.drop_eq_nil_iff, bl_length]
  exact Nat.le_refl _
theorem bt_at_nat (a : ByteArray) (x : Int) (h : 0 ≤ x) : bt a x = bt a ((x.toNat : Nat) : Int) := by
  rw [Int.toNat_of_nonneg h]
theorem bl_range (a : ByteArray) : ∀ x ∈ bl a, 0 ≤ x ∧ x ≤ 255 := by
  intro x hx
  unfold bl at hx
  rw [List.mem_map] at hx
  obtain ⟨b, _, rfl⟩ := hx
  have := b.toNat_lt
  omega
theorem bl_inj {a b : ByteArray} (h : bl a = bl b) : a = b := by
  unfold bl at h
  have h2 : a.data.toList = b.data.toList := by
    refine List.map_inj_right (f := fun b : UInt8 => (b.toNat : Int)) ?_ |>.1 h
    intro x y e
    exact UInt8.toNat_inj.1 (by exact_mod_cast e)
  cases a with
  | mk x =>
    cases b with
    | mk y =>
      simp only at h2
      rw [Array.toList_inj.1 h2]
theorem in_eq (n lo hi : Int) : spec_l1In.f n lo hi = some (decide (lo ≤ n) && decide (n ≤ hi)) := by
  unfold spec_l1In.f
  by_cases h : n ≥ lo
  · rw [if_pos h]
    simp [show lo ≤ n from h]
  · rw [if_neg h]
    simp [show ¬ lo ≤ n from h]
theorem within_eq (n lo hi : Int) : impl_within.f n lo hi = some (decide (lo ≤ n) && decide (n ≤ hi)) := by
  unfold impl_within.f
  by_cases h : lo ≤ n
  · rw [if_pos h]
    simp [h]
  · rw [if_neg h]
    simp [h]
def inB (n lo hi : Int) : Bool := decide (lo ≤ n) && decide (n ≤ hi)
theorem inB_iff {n lo hi : Int} : inB n lo hi = true ↔ lo ≤ n ∧ n ≤ hi := by unfold inB; simp
theorem l1In_eq (n lo hi : Int) : spec_l1In.f n lo hi = some (inB n lo hi) := in_eq n lo hi
theorem wi_eq (n lo hi : Int) : impl_within.f n lo hi = some (inB n lo hi) := within_eq n lo hi
theorem ev_and {b r : Bool} {g : Nat → Option Bool} {f : Nat → Option Bool} (h : Ev g b) (k : b = true → Ev f r) : Ev (fun n => (g n).bind fun t => if t = true then f n else some false) (b && r) := by
  refine ev_bind h ?_
  cases b with
  | true => exact ev_pos rfl (k rfl)
  | false => exact ev_neg (by decide) (ev_some _)
theorem ev_and2 {b r : Bool} {g : Nat → Option Bool} {f E : Nat → Option Bool} (hE : Ev E false) (h : Ev g b) (k : b = true → Ev f r) : Ev (fun n => (g n).bind fun t => if t = true then f n else E n) (b && r) := by
  refine ev_bind h ?_
  cases b with
  | true => exact ev_pos rfl (k rfl)
  | false => exact ev_neg (by decide) hE
theorem ev_id {b : Bool} {g : Nat → Option Bool} (h : Ev g b) : Ev (fun n => (g n).bind fun t => some t) b := ev_bind h (ev_some _)
theorem dropWhile_all {α : Type} (p : α → Bool) : ∀ l : List α, (∀ x ∈ l.dropWhile p, p x = true) → l.dropWhile p = []
  | [], _ => rfl
  | a :: t, h => by
    by_cases ha : p a = true
    · rw [List.dropWhile_cons_of_pos ha] at h ⊢
      exact dropWhile_all p t h
    · rw [List.dropWhile_cons_of_neg ha] at h
      exact absurd (h a (List.mem_cons_self ..)) ha
theorem dropWhile_nil {α : Type} (p : α → Bool) : ∀ l : List α, l.dropWhile p = [] ↔ ∀ x ∈ l, p x = true
  | [] => by simp
  | a :: t => by
    by_cases ha : p a = true
    · rw [List.dropWhile_cons_of_pos ha, dropWhile_nil p t]
      simp [ha]
    · rw [List.dropWhile_cons_of_neg ha]
      simp [ha]
theorem trimS_nil (l cs : List UInt8) : Lib.trimS l cs = [] ↔ ∀ x ∈ l, cs.contains x = true := by
  unfold Lib.trimS Lib.trimLeftS Lib.trimRightS
  constructor
  · intro h
    rw [dropWhile_nil] at h
    have h2 : ∀ x ∈ l.reverse.dropWhile (cs.contains ·), cs.contains x = true := fun x hx => h x (List.mem_reverse.2 hx)
    have h3 := dropWhile_all (cs.contains ·) _ h2
    rw [dropWhile_nil] at h3
    exact fun x hx => h3 x (List.mem_reverse.2 hx)
  · intro h
    rw [dropWhile_nil]
    intro x hx
    rw [List.mem_reverse] at hx
    exact h x (List.mem_reverse.1 ((List.dropWhile_sublist _).subset hx))
theorem bl_all (a : ByteArray) (p : Int → Bool) : (bl a).all p = a.data.toList.all (fun b => p (b.toNat : Int)) := by
  unfold bl
  rw [List.all_map]
  rfl
theorem trim_empty (a c : ByteArray) (ha : a.size ≤ 140737488351232) (hc : c.size < 4294967281) (h8 : c.data.toList.all (fun b => decide (b.toNat < 128)) = true) (p : Int → Bool)
    (hp : ∀ b : UInt8, c.data.toList.contains b = p (b.toNat : Int)) : (strings_Trim.f a c).bind (fun t => some (t.toList == ([] : List UInt8))) = some ((bl a).all p) := by
  unfold strings_Trim.f
  rw [if_pos ⟨by omega, hc, h8⟩]
  show some _ = some _
  congr 1
  have e : ∀ l : List UInt8, (⟨l.toArray⟩ : ByteArray).toList = l := fun l => by rw [Lib.toList_data]
  rw [e, bl_all]
  rw [Bool.eq_iff_iff, beq_iff_eq, trimS_nil, List.all_eq_true]
  exact forall_congr' fun x => by rw [hp x]
def signB (x : Int) : Bool := x == 76 || x == 82 || x == 78 || x == 85
def ruleOk (a : ByteArray) : Bool := decide (1 ≤ a.size) && decide (a.size ≤ 6) && (bl a).all signB
theorem woRule_loop (a : ByteArray) (hs : a.size ≤ 140737488351232) : ∀ (n i : Nat), i + n = a.size → Ev (fun k => spec_woRule.l0 k a (i : Int)) (((bl a).drop i).all signB)
  | 0, i, h => by
    refine ev_succ ?_
    simp only [spec_woRule.l0]
    have : i = a.size := by omega
    subst this
    rw [bl_drop_size]
    exact ev_neg (by omega) (ev_some _)
  | n + 1, i, h => by
    refine ev_succ ?_
    simp only [spec_woRule.l0]
    have hw : wrap64 ((i : Int) + 1) = ((i + 1 : Nat) : Int) := by rw [w64 (by omega) (by omega)]; omega
    have ih := woRule_loop a hs n (i + 1) (by omega)
    rw [hw, bl_drop a i (by omega), List.all_cons]
    refine ev_pos (by omega) (ev_pos (by omega) ?_)
    refine ev_ite (fun h1 => ?_) (fun h1 => ev_ite (fun h2 => ?_) (fun h2 => ev_ite (fun h3 => ?_) (fun h3 => ev_ite (fun h4 => ?_) (fun h4 => ?_))))
    · rw [h1]; exact ih
    · rw [h2]; exact ih
    · rw [h3]; exact ih
    · rw [h4]; exact ih
    · have : signB (bt a (i : Int)) = false := by unfold signB; simp [h1, h2, h3, h4]
      rw [this, Bool.false_and]
      exact ev_some _
theorem woRule_ev (a : ByteArray) (hs : a.size ≤ 140737488351232) : Ev (fun k => spec_woRule.f k a) (ruleOk a) := by
  unfold spec_woRule.f
  refine ev_bind (ev_const (in_eq _ _ _)) ?_
  unfold ruleOk
  by_cases h1 : 1 ≤ a.size
  · by_cases h2 : a.size ≤ 6
    · have := woRule_loop a hs a.size 0 (by omega)
      rw [List.drop_zero] at this
      rw [decide_eq_true (p := (1:Int) ≤ (a.size : Int)) (by omega), decide_eq_true (p := (a.size : Int) ≤ 6) (by omega), decide_eq_true h1, decide_eq_true h2]
      exact ev_pos rfl this
    · rw [decide_eq_false (p := (a.size : Int) ≤ 6) (by omega), decide_eq_false h2, Bool.and_false, Bool.and_false, Bool.false_and]
      exact ev_neg (by decide) (ev_some _)
  · rw [decide_eq_false (p := (1:Int) ≤ (a.size : Int)) (by omega), decide_eq_false h1, Bool.false_and, Bool.false_and, Bool.false_and]
    exact ev_neg (by decide) (ev_some _)
theorem signs_has (b : UInt8) : (⟨#[76, 82, 78, 85]⟩ : ByteArray).data.toList.contains b = signB (b.toNat : Int) := by
  have h : ∀ n : Fin 256, (⟨#[76, 82, 78, 85]⟩ : ByteArray).data.toList.contains (UInt8.ofNat n.val) = signB (n.val : Int) := by decide +kernel
  have := h ⟨b.toNat, b.toNat_lt⟩
  rwa [UInt8.ofNat_toNat] at this
theorem implIsRule_eq (a : ByteArray) (hs : a.size ≤ 140737488351232) : impl_IsRule.f a = some (ruleOk a) := by
  unfold impl_IsRule.f
  rw [within_eq]
  show (if _ then _ else _) = _
  rw [trim_empty a _ hs (by decide) (by decide +kernel) signB signs_has]
  unfold ruleOk
  by_cases h1 : 1 ≤ a.size
  · by_cases h2 : a.size ≤ 6
    · rw [decide_eq_true (p := (1:Int) ≤ (a.size : Int)) (by omega), decide_eq_true (p := (a.size : Int) ≤ 6) (by omega), decide_eq_true h1, decide_eq_true h2]
      rfl
    · rw [decide_eq_false (p := (a.size : Int) ≤ 6) (by omega), decide_eq_false h2, Bool.and_false, Bool.and_false, Bool.false_and]
      rfl
  · rw [decide_eq_false (p := (1:Int) ≤ (a.size : Int)) (by omega), decide_eq_false h1, Bool.false_and, Bool.false_and, Bool.false_and]
    rfl
def antB (w h x y d : Int) : Bool := inB x 0 (wrap64 (w - 1)) && (inB y 0 (wrap64 (h - 1)) && inB d 0 3)
theorem implIsAnt_eq (w h x y d : Int) : impl_isAnt.f w h x y d = some (antB w h x y d) := by
  unfold impl_isAnt.f impl_isWay.f antB
  rw [wi_eq, wi_eq, wi_eq]
  cases inB x 0 (wrap64 (w - 1)) <;> cases inB y 0 (wrap64 (h - 1)) <;> rfl
def cellB (m x : Int) : Bool := inB (x - 48) 0 (m - 1)
def worldOk (r : ByteArray) (w h : Int) (c : ByteArray) (x y d : Int) : Bool := ruleOk r && (inB w 1 9 && (inB h 1 9 && (((c.size : Int) == wrap64 (w * h)) && ((bl c).all (cellB (r.size : Int)) && antB w h x y d))))
theorem bt_cell (c : ByteArray) (i m : Int) (hm : 0 ≤ m ∧ m ≤ 140737488351232) : inB (wrap64 (wrap64 (bt c i) - 48)) 0 (wrap64 (m - 1)) = cellB m (bt c i) := by
  have := bt_range c i
  rw [w64 (x := bt c i) (by omega) (by omega), w64 (by omega) (by omega), w64 (by omega) (by omega)]
  rfl
theorem woGood_loop (r : ByteArray) (w h : Int) (c : ByteArray) (x y d : Int) (hr : r.size ≤ 140737488351232) (hs : c.size ≤ 140737488351232) : ∀ (n i : Nat), i + n = c.size → Ev (fun k => spec_woGood.l0 k (i : Int) r w h c x y d) (((bl c).drop i).all (cellB (r.size : Int)) && antB w h x y d)
  | 0, i, e => by
    refine ev_succ ?_
    simp only [spec_woGood.l0]
    have : i = c.size := by omega
    subst this
    rw [bl_drop_size, List.all_nil, Bool.true_and]
    unfold antB
    refine ev_neg (by omega) ?_
    exact ev_and (ev_const (l1In_eq _ _ _)) fun _ => ev_and (ev_const (l1In_eq _ _ _)) fun _ => ev_id (ev_const (l1In_eq _ _ _))
  | n + 1, i, e => by
    refine ev_succ ?_
    simp only [spec_woGood.l0]
    have hw : wrap64 ((i : Int) + 1) = ((i + 1 : Nat) : Int) := by rw [w64 (by omega) (by omega)]; omega
    have ih := woGood_loop r w h c x y d hr hs n (i + 1) (by omega)
    rw [hw, bl_drop c i (by omega), List.all_cons, Bool.and_assoc]
    refine ev_pos (by omega) (ev_pos (by omega) ?_)
    rw [← bt_cell c (i : Int) (r.size : Int) ⟨by omega, by omega⟩]
    exact ev_and (ev_const (l1In_eq _ _ _)) fun _ => ih
theorem woGood_ev (r : ByteArray) (w h : Int) (c : ByteArray) (x y d : Int) (hr : r.size ≤ 140737488351232) (hs : c.size ≤ 140737488351232) : Ev (fun k => spec_woGood.f k r w h c x y d) (worldOk r w h c x y d) := by
  unfold spec_woGood.f worldOk
  have hE : Ev (fun k => spec_woGood.j0 k true r w h c x y d) false := by
    refine ev_succ ?_
    simp only [spec_woGood.j0]
    exact ev_pos (by first | rfl | trivial) (ev_some _)
  refine ev_and2 hE (woRule_ev r hr) fun _ => ev_and2 hE (ev_const (l1In_eq _ _ _)) fun _ => ev_and2 hE (ev_const (l1In_eq _ _ _)) fun _ => ?_
  refine ev_succ ?_
  simp only [spec_woGood.j0]
  have hl := woGood_loop r w h c x y d hr hs c.size 0 (by omega)
  rw [List.drop_zero] at hl
  by_cases he : (c.size : Int) = wrap64 (w * h)
  · rw [show ((c.size : Int) == wrap64 (w * h)) = true from beq_iff_eq.2 he, Bool.true_and]
    exact ev_neg (by simp [he]) hl
  · rw [show ((c.size : Int) == wrap64 (w * h)) = false from beq_eq_false_iff_ne.2 he, Bool.false_and]
    exact ev_pos (by simp [he]) (ev_some _)
theorem isWorld_ev (r : ByteArray) (w h : Int) (c : ByteArray) (x y d : Int) (hr : r.size ≤ 140737488351232) (hs : c.size ≤ 140737488351232) : Ev (fun k => impl_IsWorld.f k r w h c x y d) (worldOk r w h c x y d) := by
  have areCells : ∀ (n i : Nat), i + n = c.size → Ev (fun k => impl_areCells.l0 k c (wrap64 (w * h)) (r.size : Int) (c.size : Int) (i : Int)) (((bl c).drop i).all (cellB (r.size : Int)) && ((c.size : Int) == wrap64 (w * h))) := by
    intro n
    induction n with
    | zero =>
      intro i e
      refine ev_succ ?_
      simp only [impl_areCells.l0]
      have : i = c.size := by omega
      subst this
      rw [bl_drop_size]
      exact ev_neg (by omega) (ev_some _)
    | succ n ihn =>
      intro i e
      refine ev_succ ?_
      simp only [impl_areCells.l0]
      have hw : wrap64 ((i : Int) + 1) = ((i + 1 : Nat) : Int) := by rw [w64 (by omega) (by omega)]; omega
      rw [hw, bl_drop c i (by omega), List.all_cons, Bool.and_assoc]
      refine ev_pos (by omega) (ev_pos (by omega) (ev_pos (by omega) ?_))
      rw [← bt_cell c (i : Int) (r.size : Int) ⟨by omega, by omega⟩]
      exact ev_and (ev_const (wi_eq _ _ _)) fun _ => ihn (i + 1) (by omega)
  have hsz : impl_isSize.f w h = some (inB w 1 9 && inB h 1 9) := by
    unfold impl_isSize.f
    rw [wi_eq, wi_eq]
    cases inB w 1 9 <;> rfl
  have hant : impl_isAnt.f w h x y d = some (antB w h x y d) := by
    unfold impl_isAnt.f impl_isWay.f antB
    rw [wi_eq, wi_eq, wi_eq]
    cases inB x 0 (wrap64 (w - 1)) <;> cases inB y 0 (wrap64 (h - 1)) <;> rfl
  have hc := areCells c.size 0 (by omega)
  rw [List.drop_zero] at hc
  have : worldOk r w h c x y d = (ruleOk r && ((inB w 1 9 && inB h 1 9) && (((bl c).all (cellB (r.size : Int)) && ((c.size : Int) == wrap64 (w * h))) && antB w h x y d))) := by
    unfold worldOk
    ac_rfl
  rw [this]
  unfold impl_IsWorld.f
  refine ev_and (ev_const (implIsRule_eq r hr)) fun _ => ev_and (ev_const hsz) fun _ => ev_and ?_ fun _ => ev_id (ev_const hant)
  unfold impl_areCells.f
  exact hc
structure WorldF (r : ByteArray) (w h : Int) (c : ByteArray) (x y d : Int) : Prop where
  r1 : 1 ≤ r.size
  r6 : r.size ≤ 6
  signs : ∀ s ∈ bl r, signB s = true
  w1 : 1 ≤ w
  w9 : w ≤ 9
  h1 : 1 ≤ h
  h9 : h ≤ 9
  cs : (c.size : Int) = w * h
  cells : ∀ s ∈ bl c, 0 ≤ s - 48 ∧ s - 48 ≤ (r.size : Int) - 1
  x0 : 0 ≤ x
  x1 : x < w
  y0 : 0 ≤ y
  y1 : y < h
  d0 : 0 ≤ d
  d3 : d ≤ 3
theorem mul_bounds {a b : Int} (h1 : 1 ≤ a) (h2 : a ≤ 9) (h3 : 1 ≤ b) (h4 : b ≤ 9) : 1 ≤ a * b ∧ a * b ≤ 81 := by
  have e1 : a = 1 ∨ a = 2 ∨ a = 3 ∨ a = 4 ∨ a = 5 ∨ a = 6 ∨ a = 7 ∨ a = 8 ∨ a = 9 := by omega
  rcases e1 with rfl | rfl | rfl | rfl | rfl | rfl | rfl | rfl | rfl <;> omega
theorem worldF {r : ByteArray} {w h : Int} {c : ByteArray} {x y d : Int} (e : worldOk r w h c x y d = true) : WorldF r w h c x y d := by
  unfold worldOk ruleOk antB at e
  simp only [Bool.and_eq_true, decide_eq_true_eq, inB_iff, beq_iff_eq, List.all_eq_true] at e
  obtain ⟨⟨⟨a1, a2⟩, a3⟩, ⟨b1, b2⟩, ⟨c1, c2⟩, d1, e1, ⟨f1, f2⟩, ⟨g1, g2⟩, i1, i2⟩ := e
  have hm := mul_bounds b1 b2 c1 c2
  rw [w64 (by omega) (by omega)] at d1 f2 g2
  exact ⟨a1, a2, a3, b1, b2, c1, c2, d1, fun s hs => inB_iff.1 (e1 s hs), f1, by omega, g1, by omega, i1, i2⟩
theorem worldOk_mk {r : ByteArray} {w h : Int} {c : ByteArray} {x y d : Int} (F : WorldF r w h c x y d) : worldOk r w h c x y d = true := by
  have hm := mul_bounds F.w1 F.w9 F.h1 F.h9
  have := F.w1
  have := F.w9
  have := F.h1
  have := F.h9
  have := F.x1
  have := F.y1
  unfold worldOk ruleOk antB
  simp only [Bool.and_eq_true, decide_eq_true_eq, inB_iff, beq_iff_eq, List.all_eq_true]
  rw [w64 (x := w * h) (by omega) (by omega), w64 (x := w - 1) (by omega) (by omega), w64 (x := h - 1) (by omega) (by omega)]
  exact ⟨⟨⟨F.r1, F.r6⟩, F.signs⟩, ⟨F.w1, F.w9⟩, ⟨F.h1, F.h9⟩, F.cs, fun s hs => inB_iff.2 (F.cells s hs), ⟨F.x0, by omega⟩, ⟨F.y0, by omega⟩, F.d0, F.d3⟩
theorem at_eq {w h x y : Int} (w1 : 1 ≤ w) (w9 : w ≤ 9) (h1 : 1 ≤ h) (h9 : h ≤ 9) (x0 : 0 ≤ x) (x1 : x < w) (y0 : 0 ≤ y) (y1 : y < h) :
    wrap64 (wrap64 (y * w) + x) = y * w + x ∧ 0 ≤ y * w + x ∧ y * w + x < w * h := by
  have e1 : w = 1 ∨ w = 2 ∨ w = 3 ∨ w = 4 ∨ w = 5 ∨ w = 6 ∨ w = 7 ∨ w = 8 ∨ w = 9 := by omega
  rcases e1 with rfl | rfl | rfl | rfl | rfl | rfl | rfl | rfl | rfl <;> refine ⟨?_, by omega, by omega⟩ <;> rw [w64 (x := y * _) (by omega) (by omega), w64 (by omega) (by omega)]
theorem bt_bl {c : ByteArray} {i : Int} (h0 : 0 ≤ i) (h1 : i < (c.size : Int)) : bt c i ∈ bl c := by
  have e : i = ((i.toNat : Nat) : Int) := by omega
  rw [e, ← bl_get c i.toNat (by rw [bl_length]; omega)]
  exact List.getElem_mem _
theorem ba_ext {a b : ByteArray} (h : a.data.toList = b.data.toList) : a = b := by
  obtain ⟨⟨x⟩⟩ := a
  obtain ⟨⟨y⟩⟩ := b
  have : x = y := h
  rw [this]
def dB (v : Int) : UInt8 := UInt8.ofNat (48 + v.toNat)
def dig (v : Int) : ByteArray := ⟨#[dB v]⟩
theorem dig_size (v : Int) : (dig v).size = 1 := rfl
theorem one_size (b : UInt8) : (⟨#[b]⟩ : ByteArray).size = 1 := rfl
theorem dig_list (v : Int) : (dig v).data.toList = [dB v] := rfl
def sp (c : UInt8) : List UInt8 → List (List UInt8)
  | [] => [[]]
  | x :: r => if x = c then [] :: sp c r else (x :: (sp c r).headD []) :: (sp c r).tail
theorem sp_ne (c : UInt8) : ∀ l, sp c l ≠ []
  | [] => by simp [sp]
  | x :: r => by
    unfold sp
    by_cases h : x = c
    · rw [if_pos h]; simp
    · rw [if_neg h]; simp
theorem sp_cons (c : UInt8) (r : List UInt8) : sp c (c :: r) = [] :: sp c r := by
  rw [sp, if_pos rfl]
theorem sp_no (c : UInt8) : ∀ l, c ∉ l → sp c l = [l]
  | [], _ => rfl
  | x :: r, h => by
    have hx : x ≠ c := fun e => h (by rw [e]; exact List.mem_cons_self ..)
    rw [sp, if_neg hx, sp_no c r (fun e => h (List.mem_cons_of_mem _ e))]
    rfl
theorem sp_split (c : UInt8) : ∀ (p q : List UInt8), c ∉ p → sp c (p ++ c :: q) = p :: sp c q
  | [], q, _ => by rw [List.nil_append, sp_cons]
  | x :: r, q, h => by
    have hx : x ≠ c := fun e => h (by rw [e]; exact List.mem_cons_self ..)
    rw [List.cons_append, sp, if_neg hx, sp_split c r q (fun e => h (List.mem_cons_of_mem _ e))]
    rfl
theorem sp_cases (c : UInt8) : ∀ l : List UInt8, c ∉ l ∨ ∃ p q, l = p ++ c :: q ∧ c ∉ p
  | [] => .inl (by simp)
  | x :: r => by
    by_cases h : x = c
    · exact .inr ⟨[], r, by rw [h]; rfl, by simp⟩
    · rcases sp_cases c r with h2 | ⟨p, q, rfl, h3⟩
      · refine .inl fun e => ?_
        rcases List.mem_cons.1 e with e | e
        · exact h e.symm
        · exact h2 e
      · refine .inr ⟨x :: p, q, rfl, fun e => ?_⟩
        rcases List.mem_cons.1 e with e | e
        · exact h e.symm
        · exact h3 e
theorem sp_two {c : UInt8} {l p q : List UInt8} (h : sp c l = [p, q]) : l = p ++ c :: q ∧ c ∉ p ∧ c ∉ q := by
  rcases sp_cases c l with h2 | ⟨a, b, rfl, h3⟩
  · rw [sp_no c l h2] at h
    cases h
  · rw [sp_split c a b h3] at h
    injection h with h1 h4
    subst h1
    rcases sp_cases c b with h5 | ⟨d, e, rfl, h6⟩
    · rw [sp_no c b h5] at h4
      injection h4 with h4
      subst h4
      exact ⟨rfl, h3, h5⟩
    · rw [sp_split c d e h6] at h4
      injection h4 with _ h4
      exact absurd h4 (sp_ne c e)
theorem sp_uni {c : UInt8} {p q p' q' : List UInt8} (h : p ++ c :: q = p' ++ c :: q') (h1 : c ∉ p) (h2 : c ∉ p') : p = p' ∧ q = q' := by
  induction p generalizing p' with
  | nil =>
    cases p' with
    | nil => injection h with _ h; exact ⟨rfl, h⟩
    | cons x r => injection h with h _; exact absurd (by rw [h]; exact List.mem_cons_self ..) h2
  | cons y p ih =>
    cases p' with
    | nil => injection h with h _; exact absurd (by rw [← h]; exact List.mem_cons_self ..) h1
    | cons x r =>
      injection h with e h
      obtain ⟨a, b⟩ := ih h (fun e => h1 (List.mem_cons_of_mem _ e)) (fun e => h2 (List.mem_cons_of_mem _ e))
      exact ⟨by rw [e, a], b⟩
theorem ix_none {l : List UInt8} {c : UInt8} (h : c ∉ l) : Lib.indexByte l c = -1 := by
  induction l with
  | nil => rfl
  | cons x r ih =>
    have hx : x ≠ c := fun e => h (by rw [e]; exact List.mem_cons_self ..)
    have := ih (fun e => h (List.mem_cons_of_mem _ e))
    unfold Lib.indexByte
    rw [if_neg (by simpa using hx), if_pos (by rw [this]; rfl)]
theorem ix_some {c : UInt8} (q : List UInt8) : ∀ {p : List UInt8}, c ∉ p → Lib.indexByte (p ++ c :: q) c = (p.length : Int)
  | [], _ => by simp [Lib.indexByte]
  | x :: r, h => by
    have hx : x ≠ c := fun e => h (by rw [e]; exact List.mem_cons_self ..)
    have ih := ix_some (c := c) q (p := r) (fun e => h (List.mem_cons_of_mem _ e))
    rw [List.cons_append]
    unfold Lib.indexByte
    rw [if_neg (by simpa using hx), ih, if_neg (by first | (simp; done) | (simp; omega))]
    simp
theorem splitK_sp (c : UInt8) : ∀ (k : Nat) (l : List UInt8), l.count c ≤ k → Lib.splitK [c] 0 k l = sp c l
  | 0, l, h => by
    rw [sp_no c l (by rw [← List.count_eq_zero]; omega)]
    rfl
  | k + 1, l, h => by
    unfold Lib.splitK
    rw [Lib.index_one]
    rcases sp_cases c l with h2 | ⟨p, q, rfl, h3⟩
    · rw [ix_none h2, sp_no c l h2]
      rfl
    · have hcnt : q.count c ≤ k := by
        rw [List.count_append, List.count_cons_self] at h
        omega
      rw [ix_some q h3, if_neg (by first | (simp; done) | (simp; omega)), sp_split c p q h3, Nat.add_zero, Int.toNat_natCast, List.take_left]
      rw [show p.length + [c].length = (p ++ [c]).length by simp, show p ++ c :: q = (p ++ [c]) ++ q by simp, List.drop_left, splitK_sp c k q hcnt]
def baL (l : List UInt8) : ByteArray := ⟨l.toArray⟩
theorem baL_list (l : List UInt8) : (baL l).data.toList = l := by simp [baL]
theorem baL_of (a : ByteArray) : baL a.data.toList = a := by
  refine ba_ext ?_
  rw [baL_list]
theorem baL_size (l : List UInt8) : (baL l).size = l.length := by
  show (l.toArray).size = _
  simp
def pcs (c : UInt8) (a : ByteArray) : List ByteArray := (sp c a.data.toList).map baL
theorem implSplit_eq (a : ByteArray) (c : UInt8) (hs : a.size < 4294967281) : strings_Split.f a ⟨#[c]⟩ = some (pcs c a) := by
  unfold strings_Split.f
  rw [if_pos ⟨hs, rfl⟩]
  congr 1
  have h1 := Lib.splitB_data (⟨#[c]⟩ : ByteArray) 0 (Lib.countB a ⟨#[c]⟩) a
  have h2 : Lib.countB a ⟨#[c]⟩ = a.data.toList.count c := Lib.count_one c a.data.toList
  rw [show (⟨#[c]⟩ : ByteArray).data.toList = [c] from rfl, splitK_sp c _ _ (by rw [h2]; exact Nat.le_refl _)] at h1
  unfold pcs
  rw [← h1, List.map_map]
  conv => lhs; rw [← List.map_id (Lib.splitB (⟨#[c]⟩ : ByteArray) 0 (Lib.countB a ⟨#[c]⟩) a)]
  refine List.map_congr_left fun x _ => ?_
  exact (baL_of x).symm
theorem bt_eq (a : ByteArray) (i : Nat) (h : i < a.data.toList.length) : bt a (i : Int) = ((a.data.toList[i]).toNat : Int) := by
  have hs : i < a.size := by rw [← size_data]; exact h
  unfold bt
  rw [dif_pos (by rw [Int.toNat_natCast]; exact hs)]
  simp only [Int.toNat_natCast]
  rfl
theorem byte_eq {x c : UInt8} : ((x.toNat : Int) = (c.toNat : Int)) ↔ x = c := by
  constructor
  · intro h
    exact UInt8.toNat_inj.1 (by exact_mod_cast h)
  · rintro rfl; rfl
theorem l1Split_loop (a : ByteArray) (c : UInt8) (hs : a.size ≤ 1048576) : ∀ (m i fr : Nat) (done : List ByteArray) (pre : List UInt8), i + m = a.size → fr ≤ i → done.length ≤ i → (a.data.toList.drop fr).take (i - fr) = pre → c ∉ pre →
    Ev (fun k => spec_l1Split.l0 k a (c.toNat : Int) done (fr : Int) (i : Int)) (done ++ (sp c (a.data.toList.drop fr)).map baL)
  | 0, i, fr, done, pre, e, hf, hd, hp, hc => by
    obtain rfl : i = a.size := by omega
    have hl : (a.data.toList.drop fr).length = a.size - fr := by rw [List.length_drop, size_data]
    rw [List.take_of_length_le (by omega)] at hp
    refine ev_succ ?_
    simp only [spec_l1Split.l0]
    have hx : a.extract (fr : Int).toNat a.size = baL pre := by
      refine ba_ext ?_
      rw [baL_list, ← hp, ByteArray.data_extract, Array.toList_extract, Int.toNat_natCast, List.extract_eq_take_drop, List.take_of_length_le (by omega)]
    rw [hp, sp_no c pre hc, hx]
    exact ev_neg (by omega) (ev_pos (by omega) (ev_pos (by omega) (ev_pos (by omega) (ev_some _))))
  | m + 1, i, fr, done, pre, e, hf, hd, hp, hc => by
    have hi : i < a.size := by omega
    have hil : i < a.data.toList.length := by rw [size_data]; exact hi
    have hw : wrap64 ((i : Int) + 1) = ((i + 1 : Nat) : Int) := by rw [w64 (by omega) (by omega)]; omega
    have hdr : a.data.toList.drop fr = pre ++ a.data.toList[i] :: a.data.toList.drop (i + 1) := by
      rw [← hp, ← List.drop_eq_getElem_cons hil, show a.data.toList.drop i = (a.data.toList.drop fr).drop (i - fr) by rw [List.drop_drop]; congr 1; omega, List.take_append_drop]
    have hpl : pre.length = i - fr := by
      rw [← hp, List.length_take, List.length_drop, size_data]
      omega
    refine ev_succ ?_
    simp only [spec_l1Split.l0]
    rw [hw, bt_eq a i hil]
    refine ev_pos (by omega) (ev_pos (by omega) (ev_ite (fun h1 => ?_) (fun h1 => ?_)))
    · have hx1 := byte_eq.1 h1
      have hx : a.extract (fr : Int).toNat (i : Int).toNat = baL pre := by
        refine ba_ext ?_
        rw [baL_list, ← hp, ByteArray.data_extract, Array.toList_extract, Int.toNat_natCast, Int.toNat_natCast, List.extract_eq_take_drop]
      have ih := l1Split_loop a c hs m (i + 1) (i + 1) (done ++ [baL pre]) [] (by omega) (Nat.le_refl _) (by simp; omega) (by simp) (by simp)
      rw [hx1] at hdr
      rw [hx, hdr, sp_split c pre _ hc, List.map_cons]
      rw [List.append_assoc] at ih
      exact ev_pos (by omega) (ev_pos (by omega) (ev_pos (by omega) (ev_pos (by omega) ih)))
    · have hx1 : a.data.toList[i] ≠ c := fun e => h1 (byte_eq.2 e)
      refine l1Split_loop a c hs m (i + 1) fr done (pre ++ [a.data.toList[i]]) (by omega) (by omega) (by omega) ?_ ?_
      · rw [hdr, show i + 1 - fr = (pre ++ [a.data.toList[i]]).length by simp; omega, show pre ++ a.data.toList[i] :: a.data.toList.drop (i + 1) = (pre ++ [a.data.toList[i]]) ++ a.data.toList.drop (i + 1) by simp, List.take_left]
      · intro h
        rcases List.mem_append.1 h with h | h
        · exact hc h
        · rw [List.mem_singleton] at h
          exact hx1 h.symm
theorem l1Split_ev (a : ByteArray) (c : UInt8) (hs : a.size ≤ 1048576) : Ev (fun k => spec_l1Split.f k a (c.toNat : Int)) (pcs c a) := by
  unfold spec_l1Split.f
  have := l1Split_loop a c hs a.size 0 0 [] [] (by omega) (Nat.le_refl _) (Nat.zero_le _) (by simp) (by simp)
  rw [List.nil_append, List.drop_zero] at this
  exact this
def dgt (v : Int) : List UInt8 := [dB v]
theorem dB_eq {v : Int} (h0 : 0 ≤ v) (h9 : v ≤ 9) : ((dB v).toNat : Int) = 48 + v := by
  unfold dB
  rw [UInt8.toNat_ofNat', Nat.mod_eq_of_lt (by show 48 + v.toNat < 256; omega)]
  omega
theorem dB_inj {v u : Int} (h0 : 0 ≤ v) (h9 : v ≤ 9) (g0 : 0 ≤ u) (g9 : u ≤ 9) (h : dB v = dB u) : v = u := by
  have h1 := dB_eq h0 h9
  have h2 := dB_eq g0 g9
  rw [h] at h1
  omega
theorem atoi_dgt {v : Int} (h0 : 0 ≤ v) (h9 : v ≤ 9) : Lib.atoiAll (dgt v) = .ok v := by
  have h : ∀ n : Fin 10, Lib.atoiAll (dgt (n.val : Int)) = .ok (n.val : Int) := by decide +kernel
  have := h ⟨v.toNat, by omega⟩
  rwa [show ((v.toNat : Nat) : Int) = v by omega] at this
theorem itoa_dgt {v : Int} (h0 : 0 ≤ v) (h9 : v ≤ 9) : Lib.itoa v = dgt v := by
  unfold Lib.itoa
  rw [if_neg (by omega), Lib.decDigits_one (by omega)]
  rfl
theorem number_dgt {v m : Int} (h0 : 0 ≤ v) (h9 : v ≤ 9) (hm : v ≤ m) : impl_number.g (dgt v) m = (v, true) := by
  unfold impl_number.g
  rw [atoi_dgt h0 h9]
  dsimp only
  rw [if_pos (itoa_dgt h0 h9), if_pos ⟨h0, hm⟩]
theorem number_ok {l : List UInt8} {r : Int} (h : impl_number.g l 9 = (r, true)) : 0 ≤ r ∧ r ≤ 9 ∧ l = dgt r := by
  unfold impl_number.g at h
  cases hA : Lib.atoiAll l with
  | «syntax» => rw [hA] at h; cases h
  | range => rw [hA] at h; cases h
  | ok v =>
    rw [hA] at h
    dsimp only at h
    by_cases c1 : Lib.itoa v = l
    · rw [if_pos c1] at h
      by_cases c2 : 0 ≤ v ∧ v ≤ 9
      · rw [if_pos c2] at h
        injection h with h _
        subst h
        exact ⟨c2.1, c2.2, by rw [← c1, itoa_dgt c2.1 c2.2]⟩
      · rw [if_neg c2] at h
        injection h with _ h
        cases h
    · rw [if_neg c1] at h
      injection h with _ h
      cases h
theorem numberF (a : ByteArray) (m : Int) (hs : a.size ≤ 1048576) : impl_number.f a m = some (impl_number.g a.data.toList m) := by
  unfold impl_number.f
  rw [if_pos (by omega)]
def dgts (vs : List Int) : List (List UInt8) := vs.map dgt
def digs (vs : List Int) : Prop := ∀ v ∈ vs, 0 ≤ v ∧ v ≤ 9
theorem dgts_inj : ∀ {vs us : List Int}, digs vs → digs us → dgts vs = dgts us → vs = us
  | [], [], _, _, _ => rfl
  | [], _ :: _, _, _, h => by cases h
  | _ :: _, [], _, _, h => by cases h
  | v :: vs, u :: us, h1, h2, h => by
    unfold dgts at h
    rw [List.map_cons, List.map_cons] at h
    injection h with e h
    injection e with e _
    rw [dB_inj (h1 v (by simp)).1 (h1 v (by simp)).2 (h2 u (by simp)).1 (h2 u (by simp)).2 e, dgts_inj (fun x hx => h1 x (by simp [hx])) (fun x hx => h2 x (by simp [hx])) h]
def NumZ (ps : List (List UInt8)) (many : Nat) (z : List Int × Bool) : Prop := z.1.length = many ∧ ((z.2 = true ∧ digs z.1 ∧ ps = dgts z.1) ∨ (z.2 = false ∧ ∀ vs : List Int, vs.length = many → digs vs → ps ≠ dgts vs))
theorem rdOf_nat (l : List ByteArray) (i : Nat) (h : i < l.length) : rdOf ByteArray.empty l (i : Int) = l[i] := by
  unfold rdOf
  rw [Int.toNat_natCast, List.getD_eq_getElem?_getD, List.getElem?_eq_getElem h, Option.getD_some]
theorem numbers_loop (ps : List (List UInt8)) (many : Nat) (hm : many ≤ 10) (hsz : ∀ p ∈ ps, p.length ≤ 1048576) (hl : ps.length ≤ 1048577) : ∀ (m i : Nat) (vs : List Int), i + m = ps.length → digs vs → ps.take i = dgts vs →
    ∃ z, Ev (fun k => impl_numbers.l0 k (many : Int) 9 vs (ps.map baL) ((ps.map baL).length : Int) (i : Int)) z ∧ NumZ ps many z
  | 0, i, vs, e, hd, ht => by
    have hi : i = ps.length := by omega
    rw [List.take_of_length_le (by omega)] at ht
    have hvl : vs.length = ps.length := by rw [ht]; simp [dgts]
    by_cases c : vs.length = many
    · refine ⟨(vs, true), ev_succ ?_, c, .inl ⟨rfl, hd, ht⟩⟩
      simp only [impl_numbers.l0]
      exact ev_neg (by rw [List.length_map]; omega) (ev_pos (by omega) (ev_some _))
    · refine ⟨(List.replicate many 0, false), ev_succ ?_, by simp, .inr ⟨rfl, fun us hu _ hp => ?_⟩⟩
      · simp only [impl_numbers.l0]
        refine ev_neg (by rw [List.length_map]; omega) (ev_neg (by omega) (ev_pos (by omega) (ev_pos (by rw [Int.toNat_natCast]; omega) ?_)))
        rw [Int.toNat_natCast]
        exact ev_some _
      · rw [hp] at hvl
        simp [dgts] at hvl
        omega
  | m + 1, i, vs, e, hd, ht => by
    have hi : i < ps.length := by omega
    have hw : wrap64 ((i : Int) + 1) = ((i + 1 : Nat) : Int) := by rw [w64 (by omega) (by omega)]; omega
    have hr : rdOf ByteArray.empty (ps.map baL) (i : Int) = baL ps[i] := by
      rw [rdOf_nat _ _ (by rw [List.length_map]; exact hi), List.getElem_map]
    have hn := numberF (baL ps[i]) 9 (by rw [baL_size]; exact hsz _ (List.getElem_mem _))
    rw [baL_list] at hn
    cases hb : impl_number.g ps[i] 9 with
    | mk r b =>
      rw [hb] at hn
      cases b with
      | true =>
        obtain ⟨r0, r9, hp⟩ := number_ok hb
        have hvl : vs.length = i := by
          have := congrArg List.length ht
          simp [dgts] at this
          omega
        obtain ⟨z, hz, hN⟩ := numbers_loop ps many hm hsz hl m (i + 1) (vs ++ [r]) (by omega) (by
          intro v hv
          rcases List.mem_append.1 hv with hv | hv
          · exact hd v hv
          · rw [List.mem_singleton] at hv; rw [hv]; exact ⟨r0, r9⟩) (by
          rw [List.take_succ_eq_append_getElem hi, ht, hp]
          unfold dgts
          rw [List.map_append]
          rfl)
        refine ⟨z, ev_succ ?_, hN⟩
        simp only [impl_numbers.l0]
        rw [hr, hw]
        exact ev_pos (by rw [List.length_map]; omega) (ev_pos (by omega) (ev_pos (by rw [List.length_map]; omega) (ev_bind (ev_const hn) (ev_pos rfl (ev_pos (by omega) hz)))))
      | false =>
        refine ⟨(List.replicate many 0, false), ev_succ ?_, by simp, .inr ⟨rfl, fun us hu hg hp => ?_⟩⟩
        · simp only [impl_numbers.l0]
          rw [hr]
          refine ev_pos (by rw [List.length_map]; omega) (ev_pos (by omega) (ev_pos (by rw [List.length_map]; omega) (ev_bind (ev_const hn) (ev_neg (by simp) (ev_pos (by omega) (ev_pos (by rw [Int.toNat_natCast]; omega) ?_))))))
          rw [Int.toNat_natCast]
          exact ev_some _
        · have hu2 : i < us.length := by
            rw [hp] at hi
            simpa [dgts] using hi
          have hx : ps[i] = dgt us[i] := by
            have h1 : (dgts us)[i]? = some (dgt us[i]) := by
              unfold dgts
              rw [List.getElem?_map, List.getElem?_eq_getElem hu2]
              rfl
            rw [← hp, List.getElem?_eq_getElem hi] at h1
            exact Option.some.inj h1
          have hv := hg us[i] (List.getElem_mem _)
          rw [hx, number_dgt hv.1 hv.2 hv.2] at hb
          injection hb with _ hb
          cases hb
theorem sp_len (c : UInt8) : ∀ l : List UInt8, (sp c l).length ≤ l.length + 1
  | [] => by simp [sp]
  | x :: r => by
    have := sp_len c r
    have hne := sp_ne c r
    unfold sp
    by_cases h : x = c
    · rw [if_pos h]; simp; omega
    · rw [if_neg h]
      have : 0 < (sp c r).length := List.length_pos_iff.2 hne
      simp
      omega
theorem sp_size (c : UInt8) : ∀ (l : List UInt8) (p : List UInt8), p ∈ sp c l → p.length ≤ l.length
  | [], p, h => by
    rw [sp, List.mem_singleton] at h
    rw [h]
    exact Nat.le_refl _
  | x :: r, p, h => by
    unfold sp at h
    by_cases hx : x = c
    · rw [if_pos hx] at h
      rcases List.mem_cons.1 h with h | h
      · rw [h]; simp
      · have := sp_size c r p h
        simp; omega
    · rw [if_neg hx] at h
      have hne := sp_ne c r
      rcases List.mem_cons.1 h with h | h
      · rw [h]
        have : (sp c r).headD [] ∈ sp c r := by
          cases hs : sp c r with
          | nil => exact absurd hs hne
          | cons a b => simp
        have := sp_size c r _ this
        show ((sp c r).headD []).length + 1 ≤ r.length + 1
        omega
      · have := sp_size c r p (List.mem_of_mem_tail h)
        simp; omega
theorem numbers_ev (a : ByteArray) (c : UInt8) (many : Nat) (hm : many ≤ 10) (hs : a.size ≤ 1048576) : ∃ z, Ev (fun k => impl_numbers.f k a ⟨#[c]⟩ (many : Int) 9) z ∧ NumZ (sp c a.data.toList) many z := by
  have hl := size_data a
  have h1 := sp_len c a.data.toList
  obtain ⟨z, hz, hN⟩ := numbers_loop (sp c a.data.toList) many hm (fun p hp => by have := sp_size c _ p hp; omega) (by omega) (sp c a.data.toList).length 0 [] (by omega) (fun v hv => by cases hv) (by simp [dgts])
  refine ⟨z, ?_, hN⟩
  unfold impl_numbers.f
  exact ev_bind (ev_const (implSplit_eq a c (by omega))) hz
theorem read_loop (p : ByteArray) (hs : p.size ≤ 6) : ∀ (m i : Nat) (acc : Int), i + m = p.size → 1 ≤ acc → acc < 10 ^ i → ∃ r, Ev (fun k => spec_l1Read.l0 k p acc (i : Int)) r ∧ (r = -1 ∨ acc ≤ r ∧ (0 < m → 10 ≤ r))
  | 0, i, acc, e, h1, h2 => by
    refine ⟨acc, ev_succ ?_, .inr ⟨Int.le_refl _, fun h => absurd h (by omega)⟩⟩
    simp only [spec_l1Read.l0]
    exact ev_neg (by omega) (ev_some _)
  | m + 1, i, acc, e, h1, h2 => by
    have hw : wrap64 ((i : Int) + 1) = ((i + 1 : Nat) : Int) := by rw [w64 (by omega) (by omega)]; omega
    have h10 : (10 : Int) ^ i ≤ 10 ^ 6 := by
      have : i ≤ 6 := by omega
      rcases (by omega : i = 0 ∨ i = 1 ∨ i = 2 ∨ i = 3 ∨ i = 4 ∨ i = 5 ∨ i = 6) with rfl | rfl | rfl | rfl | rfl | rfl | rfl <;> decide
    have h11 : (10 : Int) ^ 6 = 1000000 := by decide
    by_cases c1 : bt p (i : Int) < 48
    · refine ⟨-1, ev_succ ?_, .inl rfl⟩
      simp only [spec_l1Read.l0]
      exact ev_pos (by omega) (ev_pos (by omega) (ev_pos c1 (ev_some _)))
    · by_cases c2 : bt p (i : Int) > 57
      · refine ⟨-1, ev_succ ?_, .inl rfl⟩
        simp only [spec_l1Read.l0]
        exact ev_pos (by omega) (ev_pos (by omega) (ev_neg c1 (ev_pos c2 (ev_some _))))
      · generalize hb : bt p (i : Int) = b at *
        have hm : (b - 48) % 256 = b - 48 := by omega
        have hacc : wrap64 (wrap64 (10 * acc) + (b - 48)) = 10 * acc + (b - 48) := by
          rw [w64 (x := 10 * acc) (by omega) (by omega), w64 (by omega) (by omega)]
        have hp : (10 : Int) ^ (i + 1) = 10 ^ i * 10 := Int.pow_succ 10 i
        obtain ⟨r, hr, hor⟩ := read_loop p hs m (i + 1) (10 * acc + (b - 48)) (by omega) (by omega) (by rw [hp]; omega)
        refine ⟨r, ev_succ ?_, ?_⟩
        · simp only [spec_l1Read.l0]
          rw [hb, hm, hacc, hw]
          exact ev_pos (by omega) (ev_pos (by omega) (ev_neg c1 (ev_neg c2 hr)))
        · rcases hor with h | ⟨h, _⟩
          · exact .inl h
          · exact .inr ⟨by omega, fun _ => by omega⟩
theorem read_ev (p : ByteArray) (hs : p.size ≤ 1048576) : ∃ r, Ev (fun k => spec_l1Read.f k p) r ∧ ((∃ v : Int, 0 ≤ v ∧ v ≤ 9 ∧ p.data.toList = dgt v ∧ r = v) ∨ ((∀ v : Int, 0 ≤ v → v ≤ 9 → p.data.toList ≠ dgt v) ∧ (r = -1 ∨ 10 ≤ r))) := by
  have hj : Ev (fun k => spec_l1Read.j0 k p true) (-1) := by
    refine ev_succ ?_
    simp only [spec_l1Read.j0]
    exact ev_pos (by first | rfl | trivial) (ev_some _)
  have hlen : ∀ v : Int, p.data.toList = dgt v → p.size = 1 := fun v h => by
    rw [← size_data, h]
    rfl
  unfold spec_l1Read.f
  by_cases c1 : 1 ≤ p.size ∧ p.size ≤ 6
  · have hin : spec_l1In.f (p.size : Int) 1 6 = some true := by
      rw [in_eq, decide_eq_true (p := (1 : Int) ≤ (p.size : Int)) (by omega), decide_eq_true (p := (p.size : Int) ≤ 6) (by omega)]
      rfl
    by_cases c2 : p.size = 1
    · -- one sign
      have hl : 0 < p.data.toList.length := by rw [size_data]; omega
      have hp1 : p.data.toList = [p.data.toList[0]] := by
        have h2 : p.data.toList.length = 1 := by rw [size_data]; exact c2
        refine List.ext_getElem (by rw [h2]; rfl) (fun i h _ => ?_)
        have hi : i = 0 := by omega
        subst hi
        rfl
      have hb : bt p 0 = ((p.data.toList[0]).toNat : Int) := bt_eq p 0 hl
      have hstart : ∀ r, Ev (fun k => spec_l1Read.l0 k p 0 0) r → Ev (fun k => (spec_l1In.f (p.size : Int) 1 6).bind fun t => if t = true then (if 0 < (p.size : Int) then (if (bt p 0) = 48 then (spec_l1Read.j0 k p (decide ((p.size : Int) > 1))) else (spec_l1Read.j0 k p false)) else (none)) else (spec_l1Read.j0 k p true)) r := by
        intro r hr
        have hf : Ev (fun k => spec_l1Read.j0 k p false) r := by
          refine ev_succ ?_
          simp only [spec_l1Read.j0]
          exact ev_neg (by simp) hr
        refine ev_bind (ev_const hin) (ev_pos rfl (ev_pos (by omega) (ev_ite (fun _ => ?_) (fun _ => hf))))
        rw [decide_eq_false (by omega)]
        exact hf
      by_cases c3 : bt p 0 < 48
      · refine ⟨-1, hstart _ (ev_succ ?_), .inr ⟨fun v h0 h9 h => ?_, .inl rfl⟩⟩
        · simp only [spec_l1Read.l0]
          exact ev_pos (by omega) (ev_pos (by omega) (ev_pos c3 (ev_some _)))
        · rw [hp1] at h
          injection h with h _
          have := dB_eq h0 h9
          rw [hb, h] at c3
          omega
      · by_cases c4 : bt p 0 > 57
        · refine ⟨-1, hstart _ (ev_succ ?_), .inr ⟨fun v h0 h9 h => ?_, .inl rfl⟩⟩
          · simp only [spec_l1Read.l0]
            exact ev_pos (by omega) (ev_pos (by omega) (ev_neg c3 (ev_pos c4 (ev_some _))))
          · rw [hp1] at h
            injection h with h _
            have := dB_eq h0 h9
            rw [hb, h] at c4
            omega
        · generalize hv : bt p 0 = b at *
          have hm : (b - 48) % 256 = b - 48 := by omega
          have hacc : wrap64 (wrap64 (10 * 0) + (b - 48)) = b - 48 := by
            rw [w64 (x := 10 * 0) (by omega) (by omega), w64 (by omega) (by omega)]
            omega
          refine ⟨b - 48, hstart _ (ev_succ ?_), .inl ⟨b - 48, by omega, by omega, ?_, rfl⟩⟩
          · simp only [spec_l1Read.l0]
            rw [hv, hm, hacc, w64 (x := (0 : Int) + 1) (by omega) (by omega)]
            refine ev_pos (by omega) (ev_pos (by omega) (ev_neg c3 (ev_neg c4 (ev_succ ?_))))
            simp only [spec_l1Read.l0]
            exact ev_neg (by omega) (ev_some _)
          · rw [hp1]
            unfold dgt
            congr 1
            have := dB_eq (v := b - 48) (by omega) (by omega)
            refine byte_eq.1 ?_
            rw [this, ← hb]
            omega
    · -- more signs: a number of no one digit, or none
      have hno : ∀ v : Int, 0 ≤ v → v ≤ 9 → p.data.toList ≠ dgt v := fun v _ _ h => c2 (hlen v h)
      have hgo : ∃ r, Ev (fun k => (spec_l1In.f (p.size : Int) 1 6).bind fun t => if t = true then (if 0 < (p.size : Int) then (if (bt p 0) = 48 then (spec_l1Read.j0 k p (decide ((p.size : Int) > 1))) else (spec_l1Read.j0 k p false)) else (none)) else (spec_l1Read.j0 k p true)) r ∧ (r = -1 ∨ 10 ≤ r) := by
        by_cases c3 : bt p 0 = 48
        · refine ⟨-1, ev_bind (ev_const hin) (ev_pos rfl (ev_pos (by omega) (ev_pos c3 ?_))), .inl rfl⟩
          rw [decide_eq_true (by omega)]
          exact hj
        · have hf : ∀ r, Ev (fun k => spec_l1Read.l0 k p 0 0) r → Ev (fun k => spec_l1Read.j0 k p false) r := fun r hr => by
            refine ev_succ ?_
            simp only [spec_l1Read.j0]
            exact ev_neg (by simp) hr
          by_cases c4 : bt p 0 < 48
          · refine ⟨-1, ev_bind (ev_const hin) (ev_pos rfl (ev_pos (by omega) (ev_neg c3 (hf _ (ev_succ ?_))))), .inl rfl⟩
            simp only [spec_l1Read.l0]
            exact ev_pos (by omega) (ev_pos (by omega) (ev_pos c4 (ev_some _)))
          · by_cases c5 : bt p 0 > 57
            · refine ⟨-1, ev_bind (ev_const hin) (ev_pos rfl (ev_pos (by omega) (ev_neg c3 (hf _ (ev_succ ?_))))), .inl rfl⟩
              simp only [spec_l1Read.l0]
              exact ev_pos (by omega) (ev_pos (by omega) (ev_neg c4 (ev_pos c5 (ev_some _))))
            · generalize hv : bt p 0 = b at *
              have hm : (b - 48) % 256 = b - 48 := by omega
              have hacc : wrap64 (wrap64 (10 * 0) + (b - 48)) = b - 48 := by
                rw [w64 (x := 10 * 0) (by omega) (by omega), w64 (by omega) (by omega)]
                omega
              obtain ⟨r, hr, hor⟩ := read_loop p c1.2 (p.size - 1) 1 (b - 48) (by omega) (by omega) (by show b - 48 < 10; omega)
              refine ⟨r, ev_bind (ev_const hin) (ev_pos rfl (ev_pos (by omega) (ev_neg (by omega) (hf _ (ev_succ ?_))))), ?_⟩
              · simp only [spec_l1Read.l0]
                rw [hv, hm, hacc, w64 (x := (0 : Int) + 1) (by omega) (by omega)]
                exact ev_pos (by omega) (ev_pos (by omega) (ev_neg c4 (ev_neg c5 hr)))
              · rcases hor with h | ⟨_, h⟩
                · exact .inl h
                · exact .inr (h (by omega))
      obtain ⟨r, hr, hor⟩ := hgo
      exact ⟨r, hr, .inr ⟨hno, hor⟩⟩
  · refine ⟨-1, ev_bind (a := false) (ev_const ?_) (ev_neg (by simp) hj), .inr ⟨fun v _ _ h => c1 ?_, .inl rfl⟩⟩
    · rw [in_eq]
      congr 1
      rw [Bool.and_eq_false_iff, decide_eq_false_iff_not, decide_eq_false_iff_not]
      omega
    · have := hlen v h
      omega
theorem sp_total (c : UInt8) : ∀ l : List UInt8, ((sp c l).map List.length).sum + (sp c l).length = l.length + 1 := by
  intro l
  generalize hn : l.length = n
  induction n using Nat.strongRecOn generalizing l with
  | _ n ih =>
    rcases sp_cases c l with h | ⟨p, q, h, hp⟩
    · rw [sp_no c l h]
      simp [hn]
    · subst h
      rw [sp_split c p q hp]
      have := ih q.length (by rw [← hn]; simp; omega) q rfl
      simp only [List.map_cons, List.sum_cons, List.length_cons]
      simp only [List.length_append, List.length_cons] at hn
      omega
theorem l1Split_at (a : ByteArray) (c : UInt8) (n : Int) (hn : n = (c.toNat : Int)) (hs : a.size ≤ 1048576) : Ev (fun k => spec_l1Split.f k a n) (pcs c a) := hn ▸ l1Split_ev a c hs
abbrev Z := ByteArray × Int × Int × ByteArray × Int × Int × Int × Bool
def G (a : ByteArray) (r : ByteArray) (w h : Int) (c : ByteArray) (x y d : Int) : Prop :=
  ∃ p0 p1 p2 p3 : List UInt8, sp 58 a.data.toList = [p0, p1, p2, p3] ∧ sp 120 p1 = dgts [w, h] ∧ sp 44 p3 = dgts [x, y, d] ∧ r = baL p0 ∧ c = baL p2 ∧ worldOk r w h c x y d = true
theorem digs2 {r : ByteArray} {w h : Int} {c : ByteArray} {x y d : Int} (e : worldOk r w h c x y d = true) : digs [w, h] ∧ digs [x, y, d] := by
  have F := worldF e
  have w1 := F.w1
  have w9 := F.w9
  have h1 := F.h1
  have h9 := F.h9
  have x0 := F.x0
  have x1 := F.x1
  have y0 := F.y0
  have y1 := F.y1
  have d0 := F.d0
  have d3 := F.d3
  constructor
  · intro v hv
    simp only [List.mem_cons, List.not_mem_nil, or_false] at hv
    rcases hv with rfl | rfl <;> omega
  · intro v hv
    simp only [List.mem_cons, List.not_mem_nil, or_false] at hv
    rcases hv with rfl | rfl | rfl <;> omega
theorem G_size {a r : ByteArray} {w h : Int} {c : ByteArray} {x y d : Int} (g : G a r w h c x y d) : a.size ≤ 100 := by
  obtain ⟨p0, p1, p2, p3, e, e1, e3, rfl, rfl, ok⟩ := g
  have F := worldF ok
  have t := sp_total 58 a.data.toList
  have t1 := sp_total 120 p1
  have t3 := sp_total 44 p3
  rw [e] at t
  rw [e1] at t1
  rw [e3] at t3
  have r6 := F.r6
  have cs := F.cs
  have hm := mul_bounds F.w1 F.w9 F.h1 F.h9
  rw [baL_size] at r6 cs
  simp only [dgts, dgt, List.map_cons, List.map_nil, List.sum_cons, List.sum_nil, List.length_cons, List.length_nil] at t t1 t3
  rw [← size_data]
  omega
abbrev Some_ (a : ByteArray) : Prop := ∃ r w h c x y d, G a r w h c x y d
def Out (a : ByteArray) (z : Z) : Prop := (∃ r w h c x y d, G a r w h c x y d ∧ z = (r, w, h, c, x, y, d, true)) ∨ ((¬ Some_ a) ∧ z = ((⟨#[]⟩ : ByteArray), 0, 0, (⟨#[]⟩ : ByteArray), 0, 0, 0, false))
theorem G_uni {a r r' : ByteArray} {w h w' h' : Int} {c c' : ByteArray} {x y d x' y' d' : Int} (g : G a r w h c x y d) (g' : G a r' w' h' c' x' y' d') : r = r' ∧ w = w' ∧ h = h' ∧ c = c' ∧ x = x' ∧ y = y' ∧ d = d' := by
  obtain ⟨p0, p1, p2, p3, e, e1, e3, rfl, rfl, ok⟩ := g
  obtain ⟨q0, q1, q2, q3, u, u1, u3, rfl, rfl, ok'⟩ := g'
  rw [e] at u
  injection u with a0 u
  injection u with a1 u
  injection u with a2 u
  injection u with a3 _
  subst a0 a1 a2 a3
  have D := digs2 ok
  have D' := digs2 ok'
  have i1 := dgts_inj D.1 D'.1 (e1.symm.trans u1)
  have i3 := dgts_inj D.2 D'.2 (e3.symm.trans u3)
  injection i1 with b1 i1
  injection i1 with b2 _
  injection i3 with b3 i3
  injection i3 with b4 i3
  injection i3 with b5 _
  exact ⟨rfl, b1, b2, rfl, b3, b4, b5⟩
theorem out_uni {a : ByteArray} {z z' : Z} (h : Out a z) (h' : Out a z') : z = z' := by
  rcases h with ⟨r, w, hh, c, x, y, d, g, rfl⟩ | ⟨n, rfl⟩
  · rcases h' with ⟨r', w', hh', c', x', y', d', g', rfl⟩ | ⟨n', _⟩
    · obtain ⟨rfl, rfl, rfl, rfl, rfl, rfl, rfl⟩ := G_uni g g'
      rfl
    · exact absurd ⟨r, w, hh, c, x, y, d, g⟩ n'
  · rcases h' with ⟨r', w', hh', c', x', y', d', g', _⟩ | ⟨_, rfl⟩
    · exact absurd ⟨r', w', hh', c', x', y', d', g'⟩ n
    · rfl
theorem no_four {a : ByteArray} (h : (sp 58 a.data.toList).length ≠ 4) : ¬ Some_ a := by
  rintro ⟨r, w, hh, c, x, y, d, p0, p1, p2, p3, e, _⟩
  rw [e] at h
  exact h rfl
theorem no_sides {a : ByteArray} {p0 p1 p2 p3 : List UInt8} (h : sp 58 a.data.toList = [p0, p1, p2, p3])
    (hn : ∀ w hh x y d, sp 120 p1 = dgts [w, hh] → sp 44 p3 = dgts [x, y, d] → digs [w, hh] → digs [x, y, d] → worldOk (baL p0) w hh (baL p2) x y d = false) : ¬ Some_ a := by
  rintro ⟨r, w, hh, c, x, y, d, q0, q1, q2, q3, u, u1, u3, rfl, rfl, ok⟩
  rw [h] at u
  injection u with a0 u
  injection u with a1 u
  injection u with a2 u
  injection u with a3 _
  subst a0 a1 a2 a3
  have D := digs2 ok
  rw [hn w hh x y d u1 u3 D.1 D.2] at ok
  cases ok
theorem pcs4 {a : ByteArray} {p0 p1 p2 p3 : List UInt8} (h : sp 58 a.data.toList = [p0, p1, p2, p3]) : pcs 58 a = [baL p0, baL p1, baL p2, baL p3] := by
  unfold pcs
  rw [h]
  rfl
theorem sz4 {a : ByteArray} (hs : a.size ≤ 1048576) {p0 p1 p2 p3 : List UInt8} (h : sp 58 a.data.toList = [p0, p1, p2, p3]) : (baL p0).size ≤ 1048576 ∧ (baL p1).size ≤ 1048576 ∧ (baL p2).size ≤ 1048576 ∧ (baL p3).size ≤ 1048576 := by
  have t := sp_total 58 a.data.toList
  rw [h, size_data] at t
  simp only [List.map_cons, List.map_nil, List.sum_cons, List.sum_nil, List.length_cons, List.length_nil] at t
  simp only [baL_size]
  omega
theorem impl_any (a : ByteArray) (hs : a.size ≤ 1048576) : ∃ z, Ev (fun k => impl_ParseWorld.f k a) z ∧ Out a z := by
  have hsp := implSplit_eq a 58 (by omega)
  have hlen : (pcs 58 a).length = (sp 58 a.data.toList).length := by unfold pcs; rw [List.length_map]
  by_cases c4 : (sp 58 a.data.toList).length = 4
  · match hq : sp 58 a.data.toList, c4 with
    | [p0, p1, p2, p3], _ =>
      rw [pcs4 hq] at hsp
      obtain ⟨s0, s1, s2, s3⟩ := sz4 hs hq
      obtain ⟨z1, hz1, l1, o1⟩ := numbers_ev (baL p1) 120 2 (by omega) s1
      obtain ⟨z3, hz3, l3, o3⟩ := numbers_ev (baL p3) 44 3 (by omega) s3
      rw [baL_list] at o1 o3
      have step : ∀ z, Ev (fun k => if z1.2 = true then (if z3.2 = true then ((impl_IsWorld.f k (baL p0) (rd z1.1 0) (rd z1.1 1) (baL p2) (rd z3.1 0) (rd z3.1 1) (rd z3.1 2)).bind fun t206 => (if t206 = true then (some (baL p0, rd z1.1 0, rd z1.1 1, baL p2, rd z3.1 0, rd z3.1 1, rd z3.1 2, true)) else (some ((⟨#[]⟩ : ByteArray), 0, 0, (⟨#[]⟩ : ByteArray), 0, 0, 0, false)))) else (some ((⟨#[]⟩ : ByteArray), 0, 0, (⟨#[]⟩ : ByteArray), 0, 0, 0, false))) else (some ((⟨#[]⟩ : ByteArray), 0, 0, (⟨#[]⟩ : ByteArray), 0, 0, 0, false))) z → Ev (fun k => impl_ParseWorld.f k a) z := by
        intro z hz
        unfold impl_ParseWorld.f
        exact ev_bind (ev_const hsp) (ev_pos (by simp) (ev_pos (by simp) (ev_bind hz1 (ev_pos (by simp) (ev_bind hz3 (ev_pos (by simp) (ev_pos (by omega) (ev_pos (by omega) (ev_pos (by simp) (ev_pos (by omega) (ev_pos (by omega) (ev_pos (by omega) hz))))))))))))
      rcases o1 with ⟨b1, d1, e1⟩ | ⟨b1, n1⟩
      · rcases o3 with ⟨b3, d3, e3⟩ | ⟨b3, n3⟩
        · have i1 : z1.1 = [rd z1.1 0, rd z1.1 1] := by
            match hz : z1.1, l1 with
            | [x, y], _ => rfl
          have i3 : z3.1 = [rd z3.1 0, rd z3.1 1, rd z3.1 2] := by
            match hz : z3.1, l3 with
            | [x, y, d], _ => rfl
          rw [i1] at d1 e1
          rw [i3] at d3 e3
          have hm := isWorld_ev (baL p0) (rd z1.1 0) (rd z1.1 1) (baL p2) (rd z3.1 0) (rd z3.1 1) (rd z3.1 2) (by omega) (by omega)
          cases ok : worldOk (baL p0) (rd z1.1 0) (rd z1.1 1) (baL p2) (rd z3.1 0) (rd z3.1 1) (rd z3.1 2) with
          | true =>
            rw [ok] at hm
            exact ⟨_, step _ (ev_pos b1 (ev_pos b3 (ev_bind hm (ev_pos rfl (ev_some _))))), .inl ⟨_, _, _, _, _, _, _, ⟨p0, p1, p2, p3, hq, e1, e3, rfl, rfl, ok⟩, rfl⟩⟩
          | false =>
            rw [ok] at hm
            refine ⟨_, step _ (ev_pos b1 (ev_pos b3 (ev_bind hm (ev_neg (by simp) (ev_some _))))), .inr ⟨no_sides hq fun w hh x y d u1 u3 D1 D3 => ?_, rfl⟩⟩
            have j1 := dgts_inj D1 d1 (u1.symm.trans e1)
            have j3 := dgts_inj D3 d3 (u3.symm.trans e3)
            injection j1 with c1 j1
            injection j1 with c2 _
            injection j3 with c3 j3
            injection j3 with c4 j3
            injection j3 with c5 _
            rw [c1, c2, c3, c4, c5]
            exact ok
        · exact ⟨_, step _ (ev_pos b1 (ev_neg (by rw [b3]; simp) (ev_some _))), .inr ⟨no_sides hq fun w hh x y d _ u3 _ D3 => absurd u3 (n3 _ rfl D3), rfl⟩⟩
      · exact ⟨_, step _ (ev_neg (by rw [b1]; simp) (ev_some _)), .inr ⟨no_sides hq fun w hh x y d u1 _ D1 _ => absurd u1 (n1 _ rfl D1), rfl⟩⟩
  · unfold impl_ParseWorld.f
    exact ⟨_, ev_bind (ev_const hsp) (ev_neg (by omega) (ev_some _)), .inr ⟨no_four c4, rfl⟩⟩
def RdZ (l : List UInt8) (r : Int) : Prop := (∃ v : Int, 0 ≤ v ∧ v ≤ 9 ∧ l = dgt v ∧ r = v) ∨ ((∀ v : Int, 0 ≤ v → v ≤ 9 → l ≠ dgt v) ∧ (r = -1 ∨ 10 ≤ r))
theorem rd_of {l : List UInt8} {r : Int} (h : RdZ l r) (h0 : 0 ≤ r) (h9 : r ≤ 9) : l = dgt r := by
  rcases h with ⟨v, _, _, e, rfl⟩ | ⟨_, e | e⟩
  · exact e
  · omega
  · omega
theorem rd_is {l : List UInt8} {r v : Int} (h : RdZ l r) (h0 : 0 ≤ v) (h9 : v ≤ 9) (e : l = dgt v) : r = v := by
  rcases h with ⟨u, u0, u9, e', rfl⟩ | ⟨n, _⟩
  · rw [e] at e'
    injection e' with e' _
    exact dB_inj u0 u9 h0 h9 e'.symm
  · exact absurd e (n v h0 h9)
theorem rd_ev (l : List UInt8) (hl : l.length ≤ 1048576) : ∃ r, Ev (fun k => spec_l1Read.f k (baL l)) r ∧ RdZ l r := by
  obtain ⟨r, h, o⟩ := read_ev (baL l) (by rw [baL_size]; omega)
  rw [baL_list] at o
  exact ⟨r, h, o⟩
theorem zero1 (x4 x5 x6 : List ByteArray) : Ev (fun k => spec_woParse.j1 k x4 x5 x6 true) ((⟨#[]⟩ : ByteArray), 0, 0, (⟨#[]⟩ : ByteArray), 0, 0, 0, false) := by
  refine ev_succ ?_
  simp only [spec_woParse.j1]
  exact ev_pos (by first | rfl | trivial) (ev_some _)
theorem zero0 (x4 : List ByteArray) : Ev (fun k => spec_woParse.j0 k x4 true) ((⟨#[]⟩ : ByteArray), 0, 0, (⟨#[]⟩ : ByteArray), 0, 0, 0, false) := by
  refine ev_succ ?_
  simp only [spec_woParse.j0]
  exact ev_pos (by first | rfl | trivial) (ev_some _)
theorem spec_parse (a : ByteArray) (hs : a.size ≤ 1048576) : ∃ z, Ev (fun k => spec_woParse.f k a) z ∧ Out a z := by
  have h58 := l1Split_at a 58 58 (by decide) hs
  unfold spec_woParse.f
  by_cases c1 : (a.size : Int) > 120
  · refine ⟨_, ev_bind h58 (ev_pos c1 (zero0 _)), .inr ⟨?_, rfl⟩⟩
    rintro ⟨r, w, hh, c, x, y, d, g⟩
    have := G_size g
    omega
  · have hlen : (pcs 58 a).length = (sp 58 a.data.toList).length := by unfold pcs; rw [List.length_map]
    by_cases c4 : (sp 58 a.data.toList).length = 4
    · match hq : sp 58 a.data.toList, c4 with
      | [p0, p1, p2, p3], _ =>
        rw [pcs4 hq] at h58
        obtain ⟨s0, s1, s2, s3⟩ := sz4 hs hq
        have h1 := l1Split_at (baL p1) 120 120 (by decide) s1
        have h3 := l1Split_at (baL p3) 44 44 (by decide) s3
        have g1 : (pcs 120 (baL p1)).length = (sp 120 p1).length := by unfold pcs; rw [List.length_map, baL_list]
        have g3 : (pcs 44 (baL p3)).length = (sp 44 p3).length := by unfold pcs; rw [List.length_map, baL_list]
        have step : ∀ z, Ev (fun k => if ((pcs 120 (baL p1)).length : Int) = 2 then (spec_woParse.j1 k [baL p0, baL p1, baL p2, baL p3] (pcs 120 (baL p1)) (pcs 44 (baL p3)) (((pcs 44 (baL p3)).length : Int) != 3)) else (spec_woParse.j1 k [baL p0, baL p1, baL p2, baL p3] (pcs 120 (baL p1)) (pcs 44 (baL p3)) true)) z → Ev (fun k => (spec_l1Split.f k a 58).bind fun t118 => (if (a.size : Int) > 120 then (spec_woParse.j0 k t118 true) else (spec_woParse.j0 k t118 ((t118.length : Int) != 4)))) z := by
          intro z hz
          refine ev_bind h58 (ev_neg c1 (ev_succ ?_))
          simp only [spec_woParse.j0]
          exact ev_neg (by simp) (ev_pos (by simp) (ev_bind h1 (ev_pos (by simp) (ev_bind h3 hz))))
        by_cases c2 : (sp 120 p1).length = 2
        · by_cases c3 : (sp 44 p3).length = 3
          · match h120 : sp 120 p1, c2 with
            | [x0, x1], _ =>
              match h44 : sp 44 p3, c3 with
              | [y0, y1, y2], _ =>
                have q1 : pcs 120 (baL p1) = [baL x0, baL x1] := by unfold pcs; rw [baL_list, h120]; rfl
                have q3 : pcs 44 (baL p3) = [baL y0, baL y1, baL y2] := by unfold pcs; rw [baL_list, h44]; rfl
                have t1 := sp_total 120 p1
                have t3 := sp_total 44 p3
                rw [h120] at t1
                rw [h44] at t3
                simp only [List.map_cons, List.map_nil, List.sum_cons, List.sum_nil, List.length_cons, List.length_nil] at t1 t3
                rw [baL_size] at s1 s3
                obtain ⟨r0, e0, o0⟩ := rd_ev x0 (by omega)
                obtain ⟨r1, e1, o1⟩ := rd_ev x1 (by omega)
                obtain ⟨r2, e2, o2⟩ := rd_ev y0 (by omega)
                obtain ⟨r3, e3, o3⟩ := rd_ev y1 (by omega)
                obtain ⟨r4, e4, o4⟩ := rd_ev y2 (by omega)
                have hg := woGood_ev (baL p0) r0 r1 (baL p2) r2 r3 r4 (by omega) (by omega)
                have go : ∀ z, Ev (fun k => (spec_woGood.f k (baL p0) r0 r1 (baL p2) r2 r3 r4).bind fun t142 => (if t142 = true then (some (baL p0, r0, r1, baL p2, r2, r3, r4, true)) else (some ((⟨#[]⟩ : ByteArray), 0, 0, (⟨#[]⟩ : ByteArray), 0, 0, 0, false)))) z → Ev (fun k => if ((pcs 120 (baL p1)).length : Int) = 2 then (spec_woParse.j1 k [baL p0, baL p1, baL p2, baL p3] (pcs 120 (baL p1)) (pcs 44 (baL p3)) (((pcs 44 (baL p3)).length : Int) != 3)) else (spec_woParse.j1 k [baL p0, baL p1, baL p2, baL p3] (pcs 120 (baL p1)) (pcs 44 (baL p3)) true)) z := by
                  intro z hz
                  rw [q1, q3]
                  refine ev_pos (by simp) (ev_succ ?_)
                  simp only [spec_woParse.j1]
                  exact ev_neg (by simp) (ev_pos (by simp) (ev_pos (by simp) (ev_bind e0 (ev_pos (by simp) (ev_bind e1 (ev_pos (by simp) (ev_pos (by simp) (ev_bind e2 (ev_pos (by simp) (ev_bind e3 (ev_pos (by simp) (ev_bind e4 hz))))))))))))
                cases ok : worldOk (baL p0) r0 r1 (baL p2) r2 r3 r4 with
                | true =>
                  rw [ok] at hg
                  have F := worldF ok
                  have w1 := F.w1
                  have w9 := F.w9
                  have h1' := F.h1
                  have h9 := F.h9
                  have x0' := F.x0
                  have x1' := F.x1
                  have y0' := F.y0
                  have y1' := F.y1
                  have d0 := F.d0
                  have d3 := F.d3
                  refine ⟨_, step _ (go _ (ev_bind hg (ev_pos rfl (ev_some _)))), .inl ⟨_, _, _, _, _, _, _, ⟨p0, p1, p2, p3, hq, ?_, ?_, rfl, rfl, ok⟩, rfl⟩⟩
                  · rw [h120, rd_of o0 (by omega) (by omega), rd_of o1 (by omega) (by omega)]
                    rfl
                  · rw [h44, rd_of o2 (by omega) (by omega), rd_of o3 (by omega) (by omega), rd_of o4 (by omega) (by omega)]
                    rfl
                | false =>
                  rw [ok] at hg
                  refine ⟨_, step _ (go _ (ev_bind hg (ev_neg (by simp) (ev_some _)))), .inr ⟨no_sides hq fun w hh x y d u1 u3 D1 D3 => ?_, rfl⟩⟩
                  rw [h120] at u1
                  rw [h44] at u3
                  unfold dgts at u1 u3
                  simp only [List.map_cons, List.map_nil] at u1 u3
                  injection u1 with a0 u1
                  injection u1 with a1 _
                  injection u3 with a2 u3
                  injection u3 with a3 u3
                  injection u3 with a4 _
                  rw [← rd_is o0 (D1 w (by simp)).1 (D1 w (by simp)).2 a0, ← rd_is o1 (D1 hh (by simp)).1 (D1 hh (by simp)).2 a1, ← rd_is o2 (D3 x (by simp)).1 (D3 x (by simp)).2 a2, ← rd_is o3 (D3 y (by simp)).1 (D3 y (by simp)).2 a3, ← rd_is o4 (D3 d (by simp)).1 (D3 d (by simp)).2 a4]
                  exact ok
          · refine ⟨_, step _ (ev_pos (by omega) ?_), .inr ⟨no_sides hq fun w hh x y d _ u3 _ _ => absurd (by rw [u3]; rfl) c3, rfl⟩⟩
            rw [show (((pcs 44 (baL p3)).length : Int) != 3) = true from bne_iff_ne.2 (by omega)]
            exact zero1 _ _ _
        · exact ⟨_, step _ (ev_neg (by omega) (zero1 _ _ _)), .inr ⟨no_sides hq fun w hh x y d u1 _ _ _ => absurd (by rw [u1]; rfl) c2, rfl⟩⟩
    · refine ⟨_, ev_bind h58 (ev_neg c1 ?_), .inr ⟨no_four c4, rfl⟩⟩
      rw [show (((pcs 58 a).length : Int) != 4) = true from bne_iff_ne.2 (by omega)]
      exact zero0 _
theorem spec_any (a : ByteArray) (hs : a.size ≤ 1048576) : ∃ z, Ev (fun k => spec_ParseWorld.f k a) z ∧ Out a z := by
  obtain ⟨z, hz, o⟩ := spec_parse a hs
  unfold spec_ParseWorld.f
  exact ⟨_, ev_bind hz (ev_some _), o⟩
theorem FnExactParseWorld : LawHolds := by
  intro a ha
  refine ev_out (g := fun k => laws_FnExactParseWorld.f k a) ?_
  unfold laws_FnExactParseWorld.f
  refine ev_ite (fun _ => ev_some _) (fun hc => ?_)
  obtain ⟨z, hz, oz⟩ := spec_any a (by omega)
  obtain ⟨y, hy, oy⟩ := impl_any a (by omega)
  obtain rfl := out_uni oz oy
  refine ev_bind hz (ev_bind hy (ev_bind (a := true) (ev_const ?_) (ev_pos rfl (ev_neg (by simp) (ev_some _)))))
  simp [laws_eqWorld.f]

end Go.Proofs.YtjhokefoocajpaaDoor.Pure
