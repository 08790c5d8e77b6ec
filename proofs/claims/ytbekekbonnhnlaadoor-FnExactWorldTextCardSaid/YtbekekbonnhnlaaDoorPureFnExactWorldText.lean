/- WorldText of the program and of the reference agree at every world. Conditions: those of reading alone. -/
import Derived.Test.YtbekekbonnhnlaaDoorQFnExactWorldText
namespace Go.Proofs.YtbekekbonnhnlaaDoor.Pure
open Go.RowKit Go.Proofs.YtbekekbonnhnlaaDoor.PFnExactWorldText Go.Proofs.YtbekekbonnhnlaaDoorW.PrintWords Go.Proofs.YtbekekbonnhnlaaDoorW.PrintLast
set_option linter.unusedVariables false
set_option linter.unusedSimpArgs false
theorem ev_succ {α : Type} {g : Nat → Option α} {r : α} (h : Ev (fun k => g (k + 1)) r) : Ev g r := by
  obtain ⟨K, h⟩ := h
  refine ⟨K + 1, fun k hk => ?_⟩
  obtain ⟨j, rfl⟩ : ∃ j, k = j + 1 := ⟨k - 1, by omega⟩
  exact h j (by omega)
theorem ev_some {α : Type} (r : α) : Ev (fun _ => some r) r := ⟨0, fun _ _ => rfl⟩
theorem ev_const {α : Type} {x : Option α} {r : α} (h : x = some r) : Ev (fun _ => x) r := ⟨0, fun _ _ => h⟩
theorem ev_bind {α β : Type} {g : Nat → Option α} {f : Nat → α → Option β} {a : α} {r : β} (h : Ev g a) (k : Ev (fun n => f n a) r) : Ev (fun n => (g n).bind (f n)) r := by
  obtain ⟨K, h⟩ := h
  obtain ⟨L, k⟩ := k
  exact ⟨max K L, fun n hn => by show (g n).bind (f n) = some r; rw [h n (by omega)]; exact k n (by omega)⟩
theorem ev_pos {α : Type} {c : Prop} [Decidable c] {f g : Nat → Option α} {r : α} (hc : c) (h : Ev f r) : Ev (fun k => if c then f k else g k) r := by
  obtain ⟨K, h⟩ := h
  exact ⟨K, fun n hn => by show (if c then f n else g n) = some r; rw [if_pos hc]; exact h n hn⟩
theorem ev_neg {α : Type} {c : Prop} [Decidable c] {f g : Nat → Option α} {r : α} (hc : ¬ c) (h : Ev g r) : Ev (fun k => if c then f k else g k) r := by
  obtain ⟨K, h⟩ := h
  exact ⟨K, fun n hn => by show (if c then f n else g n) = some r; rw [if_neg hc]; exact h n hn⟩
theorem ev_ite {α : Type} {c : Prop} [Decidable c] {f g : Nat → Option α} {r : α} (h1 : c → Ev f r) (h2 : ¬ c → Ev g r) : Ev (fun k => if c then f k else g k) r := by
  by_cases hc : c
  · exact ev_pos hc (h1 hc)
  · exact ev_neg hc (h2 hc)
theorem ev_out {α : Type} {g : Nat → Option α} {r : α} (h : Ev g r) : ∃ k, g k = some r := by
  obtain ⟨K, h⟩ := h
  exact ⟨K, h K (Nat.le_refl _)⟩
theorem ev_uni {α : Type} {g : Nat → Option α} {r r' : α} (h : Ev g r) (h' : Ev g r') : r = r' := by
  obtain ⟨K, h⟩ := h
  obtain ⟨L, h'⟩ := h'
  have := (h (max K L) (by omega)).symm.trans (h' (max K L) (by omega))
  exact Option.some.inj this
theorem w64 {x : Int} (h1 : -9223372036854775808 ≤ x) (h2 : x ≤ 9223372036854775807) : wrap64 x = x := by
  unfold wrap64
  omega
theorem i64_range {x : Int} (h : (Lit.int .i64 x).wf = true) : -9223372036854775808 ≤ x ∧ x ≤ 9223372036854775807 := by
  have e1 : IntKind.i64.min = -9223372036854775808 := by decide
  have e2 : IntKind.i64.max = 9223372036854775807 := by decide
  have h' : IntKind.i64.min ≤ x ∧ x ≤ IntKind.i64.max := by simpa [Lit.wf] using h
  omega
theorem maxLen_eq : maxLen = 9223372036854775807 := rfl
def bl (a : ByteArray) : List Int := a.data.toList.map (fun b => (b.toNat : Int))
theorem size_data (a : ByteArray) : a.data.toList.length = a.size := by
  rw [Array.length_toList]
  rfl
theorem bl_length (a : ByteArray) : (bl a).length = a.size := by
  unfold bl
  rw [List.length_map, size_data]
theorem bl_get? (a : ByteArray) (i : Nat) (h : i < a.size) : (bl a)[i]? = some (bt a (i : Int)) := by
  unfold bl bt
  rw [List.getElem?_map, Array.getElem?_toList]
  have e : ((i : Int)).toNat = i := Int.toNat_natCast i
  have h2 : a.data[i]? = some (a.data[i]'h) := Array.getElem?_eq_getElem h
  rw [h2, dif_pos (by rw [e]; exact h)]
  simp only [e]
  rfl
theorem bl_get (a : ByteArray) (i : Nat) (h : i < (bl a).length) : (bl a)[i] = bt a (i : Int) := by
  have h2 := bl_get? a i (by rw [← bl_length]; exact h)
  rw [List.getElem?_eq_getElem h] at h2
  exact Option.some.inj h2
theorem bl_drop (a : ByteArray) (i : Nat) (h : i < a.size) : (bl a).drop i = bt a (i : Int) :: (bl a).drop (i + 1) := by
  have h' : i < (bl a).length := by rw [bl_length]; exact h
  rw [List.drop_eq_getElem_cons h', bl_get a i h']
theorem bl_drop_size (a : ByteArray) : (bl a).drop a.size = [] := by
  rw [List.drop_eq_nil_iff, bl_length]
  exact Nat.le_refl _
theorem bt_at_nat (a : ByteArray) (x : Int) (h : 0 ≤ x) : bt a x = bt a ((x.toNat : Nat) : Int) := by
  rw [Int.toNat_of_nonneg h]
theorem bl_range (a : ByteArray) : ∀ x ∈ bl a, 0 ≤ x ∧ x ≤ 255 := by
  intro x hx
  unfold bl at hx
  rw [List.mem_map] at hx
  obtain ⟨b, _, rfl⟩ := hx
  have := b.toNat_lt
  omega
theorem bl_inj {a b : ByteArray} (h : bl a = bl b) : a = b := by
  unfold bl at h
  have h2 : a.data.toList = b.data.toList := by
    refine List.map_inj_right (f := fun b : UInt8 => (b.toNat : Int)) ?_ |>.1 h
    intro x y e
    exact UInt8.toNat_inj.1 (by exact_mod_cast e)
  cases a with
  | mk x =>
    cases b with
    | mk y =>
      simp only at h2
      rw [Array.toList_inj.1 h2]
theorem in_eq (n lo hi : Int) : spec_l1In.f n lo hi = some (decide (lo ≤ n) && decide (n ≤ hi)) := by
  unfold spec_l1In.f
  by_cases h : n ≥ lo
  · rw [if_pos h]
    simp [show lo ≤ n from h]
  · rw [if_neg h]
    simp [show ¬ lo ≤ n from h]
theorem within_eq (n lo hi : Int) : impl_within.f n lo hi = some (decide (lo ≤ n) && decide (n ≤ hi)) := by
  unfold impl_within.f
  by_cases h : lo ≤ n
  · rw [if_pos h]
    simp [h]
  · rw [if_neg h]
    simp [h]
def inB (n lo hi : Int) : Bool := decide (lo ≤ n) && decide (n ≤ hi)
theorem inB_iff {n lo hi : Int} : inB n lo hi = true ↔ lo ≤ n ∧ n ≤ hi := by unfold inB; simp
theorem l1In_eq (n lo hi : Int) : spec_l1In.f n lo hi = some (inB n lo hi) := in_eq n lo hi
theorem wi_eq (n lo hi : Int) : impl_within.f n lo hi = some (inB n lo hi) := within_eq n lo hi
theorem ev_and {b r : Bool} {g : Nat → Option Bool} {f : Nat → Option Bool} (h : Ev g b) (k : b = true → Ev f r) : Ev (fun n => (g n).bind fun t => if t = true then f n else some false) (b && r) := by
  refine ev_bind h ?_
  cases b with
  | true => exact ev_pos rfl (k rfl)
  | false => exact ev_neg (by decide) (ev_some _)
theorem ev_and2 {b r : Bool} {g : Nat → Option Bool} {f E : Nat → Option Bool} (hE : Ev E false) (h : Ev g b) (k : b = true → Ev f r) : Ev (fun n => (g n).bind fun t => if t = true then f n else E n) (b && r) := by
  refine ev_bind h ?_
  cases b with
  | true => exact ev_pos rfl (k rfl)
  | false => exact ev_neg (by decide) hE
theorem ev_id {b : Bool} {g : Nat → Option Bool} (h : Ev g b) : Ev (fun n => (g n).bind fun t => some t) b := ev_bind h (ev_some _)
theorem dropWhile_all {α : Type} (p : α → Bool) : ∀ l : List α, (∀ x ∈ l.dropWhile p, p x = true) → l.dropWhile p = []
  | [], _ => rfl
  | a :: t, h => by
    by_cases ha : p a = true
    · rw [List.dropWhile_cons_of_pos ha] at h ⊢
      exact dropWhile_all p t h
    · rw [List.dropWhile_cons_of_neg ha] at h
      exact absurd (h a (List.mem_cons_self ..)) ha
theorem dropWhile_nil {α : Type} (p : α → Bool) : ∀ l : List α, l.dropWhile p = [] ↔ ∀ x ∈ l, p x = true
  | [] => by simp
  | a :: t => by
    by_cases ha : p a = true
    · rw [List.dropWhile_cons_of_pos ha, dropWhile_nil p t]
      simp [ha]
    · rw [List.dropWhile_cons_of_neg ha]
      simp [ha]
theorem trimS_nil (l cs : List UInt8) : Lib.trimS l cs = [] ↔ ∀ x ∈ l, cs.contains x = true := by
  unfold Lib.trimS Lib.trimLeftS Lib.trimRightS
  constructor
  · intro h
    rw [dropWhile_nil] at h
    have h2 : ∀ x ∈ l.reverse.dropWhile (cs.contains ·), cs.contains x = true := fun x hx => h x (List.mem_reverse.2 hx)
    have h3 := dropWhile_all (cs.contains ·) _ h2
    rw [dropWhile_nil] at h3
    exact fun x hx => h3 x (List.mem_reverse.2 hx)
  · intro h
    rw [dropWhile_nil]
    intro x hx
    rw [List.mem_reverse] at hx
    exact h x (List.mem_reverse.1 ((List.dropWhile_sublist _).subset hx))
theorem bl_all (a : ByteArray) (p : Int → Bool) : (bl a).all p = a.data.toList.all (fun b => p (b.toNat : Int)) := by
  unfold bl
  rw [List.all_map]
  rfl
theorem trim_empty (a c : ByteArray) (ha : a.size ≤ 140737488351232) (hc : c.size < 4294967281) (h8 : c.data.toList.all (fun b => decide (b.toNat < 128)) = true) (p : Int → Bool)
    (hp : ∀ b : UInt8, c.data.toList.contains b = p (b.toNat : Int)) : (strings_Trim.f a c).bind (fun t => some (t.toList == ([] : List UInt8))) = some ((bl a).all p) := by
  unfold strings_Trim.f
  rw [if_pos ⟨by omega, hc, h8⟩]
  show some _ = some _
  congr 1
  have e : ∀ l : List UInt8, (⟨l.toArray⟩ : ByteArray).toList = l := fun l => by rw [Lib.toList_data]
  rw [e, bl_all]
  rw [Bool.eq_iff_iff, beq_iff_eq, trimS_nil, List.all_eq_true]
  exact forall_congr' fun x => by rw [hp x]
def signB (x : Int) : Bool := x == 76 || x == 82 || x == 78 || x == 85
def ruleOk (a : ByteArray) : Bool := decide (1 ≤ a.size) && decide (a.size ≤ 6) && (bl a).all signB
theorem woRule_loop (a : ByteArray) (hs : a.size ≤ 140737488351232) : ∀ (n i : Nat), i + n = a.size → Ev (fun k => spec_woRule.l0 k a (i : Int)) (((bl a).drop i).all signB)
  | 0, i, h => by
    refine ev_succ ?_
    simp only [spec_woRule.l0]
    have : i = a.size := by omega
    subst this
    rw [bl_drop_size]
    exact ev_neg (by omega) (ev_some _)
  | n + 1, i, h => by
    refine ev_succ ?_
    simp only [spec_woRule.l0]
    have hw : wrap64 ((i : Int) + 1) = ((i + 1 : Nat) : Int) := by rw [w64 (by omega) (by omega)]; omega
    have ih := woRule_loop a hs n (i + 1) (by omega)
    rw [hw, bl_drop a i (by omega), List.all_cons]
    refine ev_pos (by omega) (ev_pos (by omega) ?_)
    refine ev_ite (fun h1 => ?_) (fun h1 => ev_ite (fun h2 => ?_) (fun h2 => ev_ite (fun h3 => ?_) (fun h3 => ev_ite (fun h4 => ?_) (fun h4 => ?_))))
    · rw [h1]; exact ih
    · rw [h2]; exact ih
    · rw [h3]; exact ih
    · rw [h4]; exact ih
    · have : signB (bt a (i : Int)) = false := by unfold signB; simp [h1, h2, h3, h4]
      rw [this, Bool.false_and]
      exact ev_some _
theorem woRule_ev (a : ByteArray) (hs : a.size ≤ 140737488351232) : Ev (fun k => spec_woRule.f k a) (ruleOk a) := by
  unfold spec_woRule.f
  refine ev_bind (ev_const (in_eq _ _ _)) ?_
  unfold ruleOk
  by_cases h1 : 1 ≤ a.size
  · by_cases h2 : a.size ≤ 6
    · have := woRule_loop a hs a.size 0 (by omega)
      rw [List.drop_zero] at this
      rw [decide_eq_true (p := (1:Int) ≤ (a.size : Int)) (by omega), decide_eq_true (p := (a.size : Int) ≤ 6) (by omega), decide_eq_true h1, decide_eq_true h2]
      exact ev_pos rfl this
    · rw [decide_eq_false (p := (a.size : Int) ≤ 6) (by omega), decide_eq_false h2, Bool.and_false, Bool.and_false, Bool.false_and]
      exact ev_neg (by decide) (ev_some _)
  · rw [decide_eq_false (p := (1:Int) ≤ (a.size : Int)) (by omega), decide_eq_false h1, Bool.false_and, Bool.false_and, Bool.false_and]
    exact ev_neg (by decide) (ev_some _)
theorem signs_has (b : UInt8) : (⟨#[76, 82, 78, 85]⟩ : ByteArray).data.toList.contains b = signB (b.toNat : Int) := by
  have h : ∀ n : Fin 256, (⟨#[76, 82, 78, 85]⟩ : ByteArray).data.toList.contains (UInt8.ofNat n.val) = signB (n.val : Int) := by decide +kernel
  have := h ⟨b.toNat, b.toNat_lt⟩
  rwa [UInt8.ofNat_toNat] at this
theorem implIsRule_eq (a : ByteArray) (hs : a.size ≤ 140737488351232) : impl_IsRule.f a = some (ruleOk a) := by
  unfold impl_IsRule.f
  rw [within_eq]
  show (if _ then _ else _) = _
  rw [trim_empty a _ hs (by decide) (by decide +kernel) signB signs_has]
  unfold ruleOk
  by_cases h1 : 1 ≤ a.size
  · by_cases h2 : a.size ≤ 6
    · rw [decide_eq_true (p := (1:Int) ≤ (a.size : Int)) (by omega), decide_eq_true (p := (a.size : Int) ≤ 6) (by omega), decide_eq_true h1, decide_eq_true h2]
      rfl
    · rw [decide_eq_false (p := (a.size : Int) ≤ 6) (by omega), decide_eq_false h2, Bool.and_false, Bool.and_false, Bool.false_and]
      rfl
  · rw [decide_eq_false (p := (1:Int) ≤ (a.size : Int)) (by omega), decide_eq_false h1, Bool.false_and, Bool.false_and, Bool.false_and]
    rfl
def antB (w h x y d : Int) : Bool := inB x 0 (wrap64 (w - 1)) && (inB y 0 (wrap64 (h - 1)) && inB d 0 3)
theorem implIsAnt_eq (w h x y d : Int) : impl_isAnt.f w h x y d = some (antB w h x y d) := by
  unfold impl_isAnt.f impl_isWay.f antB
  rw [wi_eq, wi_eq, wi_eq]
  cases inB x 0 (wrap64 (w - 1)) <;> cases inB y 0 (wrap64 (h - 1)) <;> rfl
def cellB (m x : Int) : Bool := inB (x - 48) 0 (m - 1)
def worldOk (r : ByteArray) (w h : Int) (c : ByteArray) (x y d : Int) : Bool := ruleOk r && (inB w 1 9 && (inB h 1 9 && (((c.size : Int) == wrap64 (w * h)) && ((bl c).all (cellB (r.size : Int)) && antB w h x y d))))
theorem bt_cell (c : ByteArray) (i m : Int) (hm : 0 ≤ m ∧ m ≤ 140737488351232) : inB (wrap64 (wrap64 (bt c i) - 48)) 0 (wrap64 (m - 1)) = cellB m (bt c i) := by
  have := bt_range c i
  rw [w64 (x := bt c i) (by omega) (by omega), w64 (by omega) (by omega), w64 (by omega) (by omega)]
  rfl
theorem woGood_loop (r : ByteArray) (w h : Int) (c : ByteArray) (x y d : Int) (hr : r.size ≤ 140737488351232) (hs : c.size ≤ 140737488351232) : ∀ (n i : Nat), i + n = c.size → Ev (fun k => spec_woGood.l0 k (i : Int) r w h c x y d) (((bl c).drop i).all (cellB (r.size : Int)) && antB w h x y d)
  | 0, i, e => by
    refine ev_succ ?_
    simp only [spec_woGood.l0]
    have : i = c.size := by omega
    subst this
    rw [bl_drop_size, List.all_nil, Bool.true_and]
    unfold antB
    refine ev_neg (by omega) ?_
    exact ev_and (ev_const (l1In_eq _ _ _)) fun _ => ev_and (ev_const (l1In_eq _ _ _)) fun _ => ev_id (ev_const (l1In_eq _ _ _))
  | n + 1, i, e => by
    refine ev_succ ?_
    simp only [spec_woGood.l0]
    have hw : wrap64 ((i : Int) + 1) = ((i + 1 : Nat) : Int) := by rw [w64 (by omega) (by omega)]; omega
    have ih := woGood_loop r w h c x y d hr hs n (i + 1) (by omega)
    rw [hw, bl_drop c i (by omega), List.all_cons, Bool.and_assoc]
    refine ev_pos (by omega) (ev_pos (by omega) ?_)
    rw [← bt_cell c (i : Int) (r.size : Int) ⟨by omega, by omega⟩]
    exact ev_and (ev_const (l1In_eq _ _ _)) fun _ => ih
theorem woGood_ev (r : ByteArray) (w h : Int) (c : ByteArray) (x y d : Int) (hr : r.size ≤ 140737488351232) (hs : c.size ≤ 140737488351232) : Ev (fun k => spec_woGood.f k r w h c x y d) (worldOk r w h c x y d) := by
  unfold spec_woGood.f worldOk
  have hE : Ev (fun k => spec_woGood.j0 k true r w h c x y d) false := by
    refine ev_succ ?_
    simp only [spec_woGood.j0]
    exact ev_pos (by first | rfl | trivial) (ev_some _)
  refine ev_and2 hE (woRule_ev r hr) fun _ => ev_and2 hE (ev_const (l1In_eq _ _ _)) fun _ => ev_and2 hE (ev_const (l1In_eq _ _ _)) fun _ => ?_
  refine ev_succ ?_
  simp only [spec_woGood.j0]
  have hl := woGood_loop r w h c x y d hr hs c.size 0 (by omega)
  rw [List.drop_zero] at hl
  by_cases he : (c.size : Int) = wrap64 (w * h)
  · rw [show ((c.size : Int) == wrap64 (w * h)) = true from beq_iff_eq.2 he, Bool.true_and]
    exact ev_neg (by simp [he]) hl
  · rw [show ((c.size : Int) == wrap64 (w * h)) = false from beq_eq_false_iff_ne.2 he, Bool.false_and]
    exact ev_pos (by simp [he]) (ev_some _)
theorem isWorld_ev (r : ByteArray) (w h : Int) (c : ByteArray) (x y d : Int) (hr : r.size ≤ 140737488351232) (hs : c.size ≤ 140737488351232) : Ev (fun k => impl_IsWorld.f k r w h c x y d) (worldOk r w h c x y d) := by
  have areCells : ∀ (n i : Nat), i + n = c.size → Ev (fun k => impl_areCells.l0 k c (wrap64 (w * h)) (r.size : Int) (c.size : Int) (i : Int)) (((bl c).drop i).all (cellB (r.size : Int)) && ((c.size : Int) == wrap64 (w * h))) := by
    intro n
    induction n with
    | zero =>
      intro i e
      refine ev_succ ?_
      simp only [impl_areCells.l0]
      have : i = c.size := by omega
      subst this
      rw [bl_drop_size]
      exact ev_neg (by omega) (ev_some _)
    | succ n ihn =>
      intro i e
      refine ev_succ ?_
      simp only [impl_areCells.l0]
      have hw : wrap64 ((i : Int) + 1) = ((i + 1 : Nat) : Int) := by rw [w64 (by omega) (by omega)]; omega
      rw [hw, bl_drop c i (by omega), List.all_cons, Bool.and_assoc]
      refine ev_pos (by omega) (ev_pos (by omega) (ev_pos (by omega) ?_))
      rw [← bt_cell c (i : Int) (r.size : Int) ⟨by omega, by omega⟩]
      exact ev_and (ev_const (wi_eq _ _ _)) fun _ => ihn (i + 1) (by omega)
  have hsz : impl_isSize.f w h = some (inB w 1 9 && inB h 1 9) := by
    unfold impl_isSize.f
    rw [wi_eq, wi_eq]
    cases inB w 1 9 <;> rfl
  have hant : impl_isAnt.f w h x y d = some (antB w h x y d) := by
    unfold impl_isAnt.f impl_isWay.f antB
    rw [wi_eq, wi_eq, wi_eq]
    cases inB x 0 (wrap64 (w - 1)) <;> cases inB y 0 (wrap64 (h - 1)) <;> rfl
  have hc := areCells c.size 0 (by omega)
  rw [List.drop_zero] at hc
  have : worldOk r w h c x y d = (ruleOk r && ((inB w 1 9 && inB h 1 9) && (((bl c).all (cellB (r.size : Int)) && ((c.size : Int) == wrap64 (w * h))) && antB w h x y d))) := by
    unfold worldOk
    ac_rfl
  rw [this]
  unfold impl_IsWorld.f
  refine ev_and (ev_const (implIsRule_eq r hr)) fun _ => ev_and (ev_const hsz) fun _ => ev_and ?_ fun _ => ev_id (ev_const hant)
  unfold impl_areCells.f
  exact hc
theorem toWorld_eq (r : ByteArray) (w h : Int) (c : ByteArray) (x y d : Int) : laws_toWorld.f r w h c x y d = some (r, w, h, c, x, y, d) := rfl
theorem szWorld_ev (r : ByteArray) (w h : Int) (c : ByteArray) (x y d m : Int) : ∃ t, laws_szWorld.f r w h c x y d m = some t := by
  unfold laws_szWorld.f
  split
  · exact ⟨_, rfl⟩
  · split <;> exact ⟨_, rfl⟩
structure WorldF (r : ByteArray) (w h : Int) (c : ByteArray) (x y d : Int) : Prop where
  r1 : 1 ≤ r.size
  r6 : r.size ≤ 6
  signs : ∀ s ∈ bl r, signB s = true
  w1 : 1 ≤ w
  w9 : w ≤ 9
  h1 : 1 ≤ h
  h9 : h ≤ 9
  cs : (c.size : Int) = w * h
  cells : ∀ s ∈ bl c, 0 ≤ s - 48 ∧ s - 48 ≤ (r.size : Int) - 1
  x0 : 0 ≤ x
  x1 : x < w
  y0 : 0 ≤ y
  y1 : y < h
  d0 : 0 ≤ d
  d3 : d ≤ 3
theorem mul_bounds {a b : Int} (h1 : 1 ≤ a) (h2 : a ≤ 9) (h3 : 1 ≤ b) (h4 : b ≤ 9) : 1 ≤ a * b ∧ a * b ≤ 81 := by
  have e1 : a = 1 ∨ a = 2 ∨ a = 3 ∨ a = 4 ∨ a = 5 ∨ a = 6 ∨ a = 7 ∨ a = 8 ∨ a = 9 := by omega
  rcases e1 with rfl | rfl | rfl | rfl | rfl | rfl | rfl | rfl | rfl <;> omega
theorem worldF {r : ByteArray} {w h : Int} {c : ByteArray} {x y d : Int} (e : worldOk r w h c x y d = true) : WorldF r w h c x y d := by
  unfold worldOk ruleOk antB at e
  simp only [Bool.and_eq_true, decide_eq_true_eq, inB_iff, beq_iff_eq, List.all_eq_true] at e
  obtain ⟨⟨⟨a1, a2⟩, a3⟩, ⟨b1, b2⟩, ⟨c1, c2⟩, d1, e1, ⟨f1, f2⟩, ⟨g1, g2⟩, i1, i2⟩ := e
  have hm := mul_bounds b1 b2 c1 c2
  rw [w64 (by omega) (by omega)] at d1 f2 g2
  exact ⟨a1, a2, a3, b1, b2, c1, c2, d1, fun s hs => inB_iff.1 (e1 s hs), f1, by omega, g1, by omega, i1, i2⟩
theorem worldOk_mk {r : ByteArray} {w h : Int} {c : ByteArray} {x y d : Int} (F : WorldF r w h c x y d) : worldOk r w h c x y d = true := by
  have hm := mul_bounds F.w1 F.w9 F.h1 F.h9
  have := F.w1
  have := F.w9
  have := F.h1
  have := F.h9
  have := F.x1
  have := F.y1
  unfold worldOk ruleOk antB
  simp only [Bool.and_eq_true, decide_eq_true_eq, inB_iff, beq_iff_eq, List.all_eq_true]
  rw [w64 (x := w * h) (by omega) (by omega), w64 (x := w - 1) (by omega) (by omega), w64 (x := h - 1) (by omega) (by omega)]
  exact ⟨⟨⟨F.r1, F.r6⟩, F.signs⟩, ⟨F.w1, F.w9⟩, ⟨F.h1, F.h9⟩, F.cs, fun s hs => inB_iff.2 (F.cells s hs), ⟨F.x0, by omega⟩, ⟨F.y0, by omega⟩, F.d0, F.d3⟩
theorem at_eq {w h x y : Int} (w1 : 1 ≤ w) (w9 : w ≤ 9) (h1 : 1 ≤ h) (h9 : h ≤ 9) (x0 : 0 ≤ x) (x1 : x < w) (y0 : 0 ≤ y) (y1 : y < h) :
    wrap64 (wrap64 (y * w) + x) = y * w + x ∧ 0 ≤ y * w + x ∧ y * w + x < w * h := by
  have e1 : w = 1 ∨ w = 2 ∨ w = 3 ∨ w = 4 ∨ w = 5 ∨ w = 6 ∨ w = 7 ∨ w = 8 ∨ w = 9 := by omega
  rcases e1 with rfl | rfl | rfl | rfl | rfl | rfl | rfl | rfl | rfl <;> refine ⟨?_, by omega, by omega⟩ <;> rw [w64 (x := y * _) (by omega) (by omega), w64 (by omega) (by omega)]
theorem bt_bl {c : ByteArray} {i : Int} (h0 : 0 ≤ i) (h1 : i < (c.size : Int)) : bt c i ∈ bl c := by
  have e : i = ((i.toNat : Nat) : Int) := by omega
  rw [e, ← bl_get c i.toNat (by rw [bl_length]; omega)]
  exact List.getElem_mem _
theorem WorldF.size {r : ByteArray} {w h : Int} {c : ByteArray} {x y d : Int} (F : WorldF r w h c x y d) : c.size ≤ 81 := by
  have := mul_bounds F.w1 F.w9 F.h1 F.h9
  have := F.cs
  omega
theorem ba_ext {a b : ByteArray} (h : a.data.toList = b.data.toList) : a = b := by
  obtain ⟨⟨x⟩⟩ := a
  obtain ⟨⟨y⟩⟩ := b
  have : x = y := h
  rw [this]
def dB (v : Int) : UInt8 := UInt8.ofNat (48 + v.toNat)
def dig (v : Int) : ByteArray := ⟨#[dB v]⟩
theorem dig_size (v : Int) : (dig v).size = 1 := rfl
theorem one_size (b : UInt8) : (⟨#[b]⟩ : ByteArray).size = 1 := rfl
theorem dig_list (v : Int) : (dig v).data.toList = [dB v] := rfl
theorem l1Num_dig {v : Int} (h0 : 0 ≤ v) (h1 : v ≤ 9) : Ev (fun k => spec_l1Num.f k v) (dig v) := by
  refine ev_succ ?_
  simp only [spec_l1Num.f]
  have e : wrap64 (48 + v) % 256 = 48 + v := by
    rw [w64 (by omega) (by omega)]; omega
  rw [e]
  have e2 : strOfNums [48 + v] = dig v := by
    refine ba_ext ?_
    show [UInt8.ofNat (48 + v).toNat] = [UInt8.ofNat (48 + v.toNat)]
    rw [show (48 + v).toNat = 48 + v.toNat by omega]
  rw [← e2]
  exact ev_pos (by omega) (ev_some _)
theorem itoa_dig {v : Int} (h0 : 0 ≤ v) (h1 : v ≤ 9) : strconv_Itoa.f v = some (dig v) := by
  unfold strconv_Itoa.f
  rw [if_pos h0, if_pos (by omega), Lib.decDigits, dif_pos (by omega)]
  rfl
theorem list2_ev (s : ByteArray) (hs : s.size ≤ 9) {a b : Int} (a0 : 0 ≤ a) (a9 : a ≤ 9) (b0 : 0 ≤ b) (b9 : b ≤ 9) : Ev (fun k => impl_listText.f k s [a, b]) ((dig a ++ s) ++ dig b) := by
  unfold impl_listText.f
  refine ev_succ ?_
  simp only [impl_listText.l0]
  refine ev_pos (by simp) (ev_pos (by simp) (ev_pos (by simp) (ev_bind (ev_const (itoa_dig (v := a) a0 a9)) (ev_pos (by simp) (ev_succ ?_)))))
  simp only [impl_listText.l0]
  rw [show wrap64 (0 + 1) = 1 from w64 (by decide) (by decide)]
  refine ev_pos (by simp) (ev_pos (by simp) (ev_pos (by simp) (ev_bind (ev_const (itoa_dig (v := b) b0 b9)) (ev_pos (by simp) (ev_succ ?_)))))
  simp only [impl_listText.l0]
  rw [show wrap64 (1 + 1) = 2 from w64 (by decide) (by decide)]
  refine ev_neg (by simp) (ev_bind (ev_const ?_) (ev_some _))
  have hl : Lib.join ([dig a, dig b].map (·.data.toList)) s.data.toList = (dig a).data.toList ++ (s.data.toList ++ (dig b).data.toList) := by
    simp [Lib.join, List.intercalate]
  have hz : s.data.toList.length = s.size := rfl
  show strings_Join.f [dig a, dig b] s = _
  unfold strings_Join.f
  rw [if_pos (by simp), hl, if_pos (by rw [List.length_append, List.length_append, dig_list, dig_list, hz]; simp; omega)]
  congr 1
  try (refine ba_ext ?_; simp [ByteArray.data_append])
theorem list3_ev (s : ByteArray) (hs : s.size ≤ 9) {a b c : Int} (a0 : 0 ≤ a) (a9 : a ≤ 9) (b0 : 0 ≤ b) (b9 : b ≤ 9) (c0 : 0 ≤ c) (c9 : c ≤ 9) : Ev (fun k => impl_listText.f k s [a, b, c]) ((((dig a ++ s) ++ dig b) ++ s) ++ dig c) := by
  unfold impl_listText.f
  refine ev_succ ?_
  simp only [impl_listText.l0]
  refine ev_pos (by simp) (ev_pos (by simp) (ev_pos (by simp) (ev_bind (ev_const (itoa_dig (v := a) a0 a9)) (ev_pos (by simp) (ev_succ ?_)))))
  simp only [impl_listText.l0]
  rw [show wrap64 (0 + 1) = 1 from w64 (by decide) (by decide)]
  refine ev_pos (by simp) (ev_pos (by simp) (ev_pos (by simp) (ev_bind (ev_const (itoa_dig (v := b) b0 b9)) (ev_pos (by simp) (ev_succ ?_)))))
  simp only [impl_listText.l0]
  rw [show wrap64 (1 + 1) = 2 from w64 (by decide) (by decide)]
  refine ev_pos (by simp) (ev_pos (by simp) (ev_pos (by simp) (ev_bind (ev_const (itoa_dig (v := c) c0 c9)) (ev_pos (by simp) (ev_succ ?_)))))
  simp only [impl_listText.l0]
  rw [show wrap64 (2 + 1) = 3 from w64 (by decide) (by decide)]
  refine ev_neg (by simp) (ev_bind (ev_const ?_) (ev_some _))
  have hl : Lib.join ([dig a, dig b, dig c].map (·.data.toList)) s.data.toList = (dig a).data.toList ++ (s.data.toList ++ ((dig b).data.toList ++ (s.data.toList ++ (dig c).data.toList))) := by
    simp [Lib.join, List.intercalate]
  have hz : s.data.toList.length = s.size := rfl
  show strings_Join.f [dig a, dig b, dig c] s = _
  unfold strings_Join.f
  rw [if_pos (by simp), hl, if_pos (by simp only [List.length_append, dig_list, hz]; simp; omega)]
  congr 1
  refine ba_ext ?_
  simp [ByteArray.data_append]
def wText (r : ByteArray) (w h : Int) (c : ByteArray) (x y d : Int) : ByteArray := ((((((((((((r ++ (⟨#[58]⟩ : ByteArray)) ++ dig w) ++ (⟨#[120]⟩ : ByteArray)) ++ dig h) ++ (⟨#[58]⟩ : ByteArray)) ++ c) ++ (⟨#[58]⟩ : ByteArray)) ++ dig x) ++ (⟨#[44]⟩ : ByteArray)) ++ dig y) ++ (⟨#[44]⟩ : ByteArray)) ++ dig d)
theorem woText_ev {r : ByteArray} {w h : Int} {c : ByteArray} {x y d : Int} (F : WorldF r w h c x y d) : Ev (fun k => spec_woText.f k r w h c x y d) (wText r w h c x y d) := by
  have hc := F.size
  have r6 := F.r6
  have w1 := F.w1
  have w9 := F.w9
  have h1 := F.h1
  have h9 := F.h9
  have x0 := F.x0
  have x1 := F.x1
  have y0 := F.y0
  have y1 := F.y1
  have d0 := F.d0
  have d3 := F.d3
  unfold spec_woText.f
  refine ev_pos (by omega) (ev_bind (l1Num_dig (v := w) (by omega) (by omega)) (ev_pos ?_ (ev_pos ?_ (ev_bind (l1Num_dig (v := h) (by omega) (by omega)) (ev_pos ?_ (ev_pos ?_ (ev_pos ?_ (ev_pos ?_ (ev_bind (l1Num_dig (v := x) (by omega) (by omega)) (ev_pos ?_ (ev_pos ?_ (ev_bind (l1Num_dig (v := y) (by omega) (by omega)) (ev_pos ?_ (ev_pos ?_ (ev_bind (l1Num_dig (v := d) (by omega) (by omega)) (ev_pos ?_ (ev_some _)))))))))))))))))
  all_goals
    simp only [ByteArray.size_append, dig_size, one_size]
    omega
theorem worldText_ev {r : ByteArray} {w h : Int} {c : ByteArray} {x y d : Int} (F : WorldF r w h c x y d) : Ev (fun k => impl_worldText.f k r w h c x y d) (wText r w h c x y d) := by
  have hc := F.size
  have r6 := F.r6
  have w1 := F.w1
  have w9 := F.w9
  have h1 := F.h1
  have h9 := F.h9
  have x0 := F.x0
  have x1 := F.x1
  have y0 := F.y0
  have y1 := F.y1
  have d0 := F.d0
  have d3 := F.d3
  unfold impl_worldText.f
  refine ev_bind (list2_ev ⟨#[120]⟩ (by decide) (a := w) (b := h) (by omega) (by omega) (by omega) (by omega)) (ev_bind (list3_ev ⟨#[44]⟩ (by decide) (a := x) (b := y) (c := d) (by omega) (by omega) (by omega) (by omega) (by omega) (by omega)) (ev_bind (ev_const ?_) (ev_some _)))
  generalize hA : (dig w ++ (⟨#[120]⟩ : ByteArray)) ++ dig h = A
  generalize hB : (((dig x ++ (⟨#[44]⟩ : ByteArray)) ++ dig y) ++ (⟨#[44]⟩ : ByteArray)) ++ dig d = B
  have zA : A.data.toList.length = 3 := by
    rw [← hA]
    simp [ByteArray.data_append, dig_list]
  have zB : B.data.toList.length = 5 := by
    rw [← hB]
    simp [ByteArray.data_append, dig_list]
  have zr : r.data.toList.length = r.size := rfl
  have zc : c.data.toList.length = c.size := rfl
  have hl : Lib.join ([r, A, c, B].map (·.data.toList)) (⟨#[58]⟩ : ByteArray).data.toList = r.data.toList ++ ([58] ++ (A.data.toList ++ ([58] ++ (c.data.toList ++ ([58] ++ B.data.toList))))) := by
    simp [Lib.join, List.intercalate]
  unfold strings_Join.f
  rw [if_pos (by simp), hl, if_pos (by simp only [List.length_append, zA, zB, zr, zc, List.length_cons, List.length_nil]; omega)]
  congr 1
  subst hA hB
  unfold wText
  refine ba_ext ?_
  simp [ByteArray.data_append]
theorem FnExactWorldText : LawHolds := by
  intro r w h c x y d hr hw hh hc hx hy hd
  refine ev_out (g := fun k => laws_FnExactWorldText.f k r w h c x y d) ?_
  obtain ⟨t, ht⟩ := szWorld_ev r w h c x y d 1048576
  have hto := ev_const (toWorld_eq r w h c x y d)
  unfold laws_FnExactWorldText.f
  refine ev_bind (ev_const ht) (ev_ite (fun _ => ev_some _) (fun _ => ev_bind hto ?_))
  have h1 := woGood_ev r w h c x y d hr hc
  have h2 := isWorld_ev r w h c x y d hr hc
  have both : ∃ z : ByteArray × Bool, Ev (fun k => spec_WorldText.f k r w h c x y d) z ∧ Ev (fun k => impl_WorldText.f k r w h c x y d) z := by
    unfold spec_WorldText.f impl_WorldText.f
    cases hb : worldOk r w h c x y d with
    | false => exact ⟨_, ev_bind (hb ▸ h1) (ev_neg (by simp) (ev_some _)), ev_bind (hb ▸ h2) (ev_neg (by simp) (ev_some _))⟩
    | true =>
      have F := worldF hb
      exact ⟨_, ev_bind (hb ▸ h1) (ev_pos rfl (ev_bind (woText_ev F) (ev_some _))), ev_bind (hb ▸ h2) (ev_pos rfl (ev_bind (worldText_ev F) (ev_some _)))⟩
  obtain ⟨z, h1, h2⟩ := both
  exact ev_bind h1 (ev_bind hto (ev_bind h2 (ev_pos rfl (ev_neg (by simp) (ev_some _)))))

end Go.Proofs.YtbekekbonnhnlaaDoor.Pure
