/- MirrorWorld of the program and of the reference agree at every world. Conditions: those of reading alone. -/
import Derived.Test.YtdicnggfigedoaaGreatDoorQFnExactMirrorWorld
namespace Go.Proofs.YtdicnggfigedoaaGreatDoor.Pure
open Go.RowKit Go.Proofs.YtdicnggfigedoaaGreatDoor.PFnExactMirrorWorld Go.Proofs.YtdicnggfigedoaaGreatDoorW.PrintWords Go.Proofs.YtdicnggfigedoaaGreatDoorW.PrintLast
set_option linter.unusedVariables false
set_option linter.unusedSimpArgs false
theorem ev_succ {α : Type} {g : Nat → Option α} {r : α} (h : Ev (fun k => g (k + 1)) r) : Ev g r := by
  obtain ⟨K, h⟩ := h
  refine ⟨K + 1, fun k hk => ?_⟩
  obtain ⟨j, rfl⟩ : ∃ j, k = j + 1 := ⟨k - 1, by omega⟩
  exact h j (by omega)
theorem ev_some {α : Type} (r : α) : Ev (fun _ => some r) r := ⟨0, fun _ _ => rfl⟩
theorem ev_const {α : Type} {x : Option α} {r : α} (h : x = some r) : Ev (fun _ => x) r := ⟨0, fun _ _ => h⟩
theorem ev_bind {α β : Type} {g : Nat → Option α} {f : Nat → α → Option β} {a : α} {r : β} (h : Ev g a) (k : Ev (fun n => f n a) r) : Ev (fun n => (g n).bind (f n)) r := by
  obtain ⟨K, h⟩ := h
  obtain ⟨L, k⟩ := k
  exact ⟨max K L, fun n hn => by show (g n).bind (f n) = some r; rw [h n (by omega)]; exact k n (by omega)⟩
theorem ev_pos {α : Type} {c : Prop} [Decidable c] {f g : Nat → Option α} {r : α} (hc : c) (h : Ev f r) : Ev (fun k => if c then f k else g k) r := by
  obtain ⟨K, h⟩ := h
  exact ⟨K, fun n hn => by show (if c then f n else g n) = some r; rw [if_pos hc]; exact h n hn⟩
theorem ev_neg {α : Type} {c : Prop} [Decidable c] {f g : Nat → Option α} {r : α} (hc : ¬ c) (h : Ev g r) : Ev (fun k => if c then f k else g k) r := by
  obtain ⟨K, h⟩ := h
  exact ⟨K, fun n hn => by show (if c then f n else g n) = some r; rw [if_neg hc]; exact h n hn⟩
theorem ev_ite {α : Type} {c : Prop} [Decidable c] {f g : Nat → Option α} {r : α} (h1 : c → Ev f r) (h2 : ¬ c → Ev g r) : Ev (fun k => if c then f k else g k) r := by
  by_cases hc : c
  · exact ev_pos hc (h1 hc)
  · exact ev_neg hc (h2 hc)
theorem ev_out {α : Type} {g : Nat → Option α} {r : α} (h : Ev g r) : ∃ k, g k = some r := by
  obtain ⟨K, h⟩ := h
  exact ⟨K, h K (Nat.le_refl _)⟩
theorem ev_uni {α : Type} {g : Nat → Option α} {r r' : α} (h : Ev g r) (h' : Ev g r') : r = r' := by
  obtain ⟨K, h⟩ := h
  obtain ⟨L, h'⟩ := h'
  have := (h (max K L) (by omega)).symm.trans (h' (max K L) (by omega))
  exact Option.some.inj this
theorem w64 {x : Int} (h1 : -9223372036854775808 ≤ x) (h2 : x ≤ 9223372036854775807) : wrap64 x = x := by
  unfold wrap64
  omega
theorem i64_range {x : Int} (h : (Lit.int .i64 x).wf = true) : -9223372036854775808 ≤ x ∧ x ≤ 9223372036854775807 := by
  have e1 : IntKind.i64.min = -9223372036854775808 := by decide
  have e2 : IntKind.i64.max = 9223372036854775807 := by decide
  have h' : IntKind.i64.min ≤ x ∧ x ≤ IntKind.i64.max := by simpa [Lit.wf] using h
  omega
theorem maxLen_eq : maxLen = 9223372036854775807 := rfl
def bl (a : ByteArray) : List Int := a.data.toList.map (fun b => (b.toNat : Int))
theorem size_data (a : ByteArray) : a.data.toList.length = a.size := by
  rw [Array.length_toList]
  rfl
theorem bl_length (a : ByteArray) : (bl a).length = a.size := by
  unfold bl
  rw [List.length_map, size_data]
theorem bl_get? (a : ByteArray) (i : Nat) (h : i < a.size) : (bl a)[i]? = some (bt a (i : Int)) := by
  unfold bl bt
  rw [List.getElem?_map, Array.getElem?_toList]
  have e : ((i : Int)).toNat = i := Int.toNat_natCast i
  have h2 : a.data[i]? = some (a.data[i]'h) := Array.getElem?_eq_getElem h
  rw [h2, dif_pos (by rw [e]; exact h)]
  simp only [e]
  rfl
theorem bl_get (a : ByteArray) (i : Nat) (h : i < (bl a).length) : (bl a)[i] = bt a (i : Int) := by
  have h2 := bl_get? a i (by rw [← bl_length]; exact h)
  rw [List.getElem?_eq_getElem h] at h2
  exact Option.some.inj h2
theorem bl_drop (a : ByteArray) (i : Nat) (h : i < a.size) : (bl a).drop i = bt a (i : Int) :: (bl a).drop (i + 1) := by
  have h' : i < (bl a).length := by rw [bl_length]; exact h
  rw [List.drop_eq_getElem_cons h', bl_get a i h']
theorem bl_drop_size (a : ByteArray) : (bl a).drop a.size = [] := by
  rw [List.drop_eq_nil_iff, bl_length]
  exact Nat.le_refl _
theorem bt_at_nat (a : ByteArray) (x : Int) (h : 0 ≤ x) : bt a x = bt a ((x.toNat : Nat) : Int) := by
  rw [Int.toNat_of_nonneg h]
theorem bl_range (a : ByteArray) : ∀ x ∈ bl a, 0 ≤ x ∧ x ≤ 255 := by
  intro x hx
  unfold bl at hx
  rw [List.mem_map] at hx
  obtain ⟨b, _, rfl⟩ := hx
  have := b.toNat_lt
  omega
theorem bl_inj {a b : ByteArray} (h : bl a = bl b) : a = b := by
  unfold bl at h
  have h2 : a.data.toList = b.data.toList := by
    refine List.map_inj_right (f := fun b : UInt8 => (b.toNat : Int)) ?_ |>.1 h
    intro x y e
    exact UInt8.toNat_inj.1 (by exact_mod_cast e)
  cases a with
  | mk x =>
    cases b with
    | mk y =>
      simp only at h2
      rw [Array.toList_inj.1 h2]
theorem in_eq (n lo hi : Int) : spec_l1In.f n lo hi = some (decide (lo ≤ n) && decide (n ≤ hi)) := by
  unfold spec_l1In.f
  by_cases h : n ≥ lo
  · rw [if_pos h]
    simp [show lo ≤ n from h]
  · rw [if_neg h]
    simp [show ¬ lo ≤ n from h]
theorem within_eq (n lo hi : Int) : impl_within.f n lo hi = some (decide (lo ≤ n) && decide (n ≤ hi)) := by
  unfold impl_within.f
  by_cases h : lo ≤ n
  · rw [if_pos h]
    simp [h]
  · rw [if_neg h]
    simp [h]
def inB (n lo hi : Int) : Bool := decide (lo ≤ n) && decide (n ≤ hi)
theorem inB_iff {n lo hi : Int} : inB n lo hi = true ↔ lo ≤ n ∧ n ≤ hi := by unfold inB; simp
theorem l1In_eq (n lo hi : Int) : spec_l1In.f n lo hi = some (inB n lo hi) := in_eq n lo hi
theorem wi_eq (n lo hi : Int) : impl_within.f n lo hi = some (inB n lo hi) := within_eq n lo hi
theorem ev_and {b r : Bool} {g : Nat → Option Bool} {f : Nat → Option Bool} (h : Ev g b) (k : b = true → Ev f r) : Ev (fun n => (g n).bind fun t => if t = true then f n else some false) (b && r) := by
  refine ev_bind h ?_
  cases b with
  | true => exact ev_pos rfl (k rfl)
  | false => exact ev_neg (by decide) (ev_some _)
theorem ev_and2 {b r : Bool} {g : Nat → Option Bool} {f E : Nat → Option Bool} (hE : Ev E false) (h : Ev g b) (k : b = true → Ev f r) : Ev (fun n => (g n).bind fun t => if t = true then f n else E n) (b && r) := by
  refine ev_bind h ?_
  cases b with
  | true => exact ev_pos rfl (k rfl)
  | false => exact ev_neg (by decide) hE
theorem ev_id {b : Bool} {g : Nat → Option Bool} (h : Ev g b) : Ev (fun n => (g n).bind fun t => some t) b := ev_bind h (ev_some _)
theorem dropWhile_all {α : Type} (p : α → Bool) : ∀ l : List α, (∀ x ∈ l.dropWhile p, p x = true) → l.dropWhile p = []
  | [], _ => rfl
  | a :: t, h => by
    by_cases ha : p a = true
    · rw [List.dropWhile_cons_of_pos ha] at h ⊢
      exact dropWhile_all p t h
    · rw [List.dropWhile_cons_of_neg ha] at h
      exact absurd (h a (List.mem_cons_self ..)) ha
theorem dropWhile_nil {α : Type} (p : α → Bool) : ∀ l : List α, l.dropWhile p = [] ↔ ∀ x ∈ l, p x = true
  | [] => by simp
  | a :: t => by
    by_cases ha : p a = true
    · rw [List.dropWhile_cons_of_pos ha, dropWhile_nil p t]
      simp [ha]
    · rw [List.dropWhile_cons_of_neg ha]
      simp [ha]
theorem trimS_nil (l cs : List UInt8) : Lib.trimS l cs = [] ↔ ∀ x ∈ l, cs.contains x = true := by
  unfold Lib.trimS Lib.trimLeftS Lib.trimRightS
  constructor
  · intro h
    rw [dropWhile_nil] at h
    have h2 : ∀ x ∈ l.reverse.dropWhile (cs.contains ·), cs.contains x = true := fun x hx => h x (List.mem_reverse.2 hx)
    have h3 := dropWhile_all (cs.contains ·) _ h2
    rw [dropWhile_nil] at h3
    exact fun x hx => h3 x (List.mem_reverse.2 hx)
  · intro h
    rw [dropWhile_nil]
    intro x hx
    rw [List.mem_reverse] at hx
    exact h x (List.mem_reverse.1 ((List.dropWhile_sublist _).subset hx))
theorem bl_all (a : ByteArray) (p : Int → Bool) : (bl a).all p = a.data.toList.all (fun b => p (b.toNat : Int)) := by
  unfold bl
  rw [List.all_map]
  rfl
theorem trim_empty (a c : ByteArray) (ha : a.size ≤ 140737488351232) (hc : c.size < 4294967281) (h8 : c.data.toList.all (fun b => decide (b.toNat < 128)) = true) (p : Int → Bool)
    (hp : ∀ b : UInt8, c.data.toList.contains b = p (b.toNat : Int)) : (strings_Trim.f a c).bind (fun t => some (t.toList == ([] : List UInt8))) = some ((bl a).all p) := by
  unfold strings_Trim.f
  rw [if_pos ⟨by omega, hc, h8⟩]
  show some _ = some _
  congr 1
  have e : ∀ l : List UInt8, (⟨l.toArray⟩ : ByteArray).toList = l := fun l => by rw [Lib.toList_data]
  rw [e, bl_all]
  rw [Bool.eq_iff_iff, beq_iff_eq, trimS_nil, List.all_eq_true]
  exact forall_congr' fun x => by rw [hp x]
def signB (x : Int) : Bool := x == 76 || x == 82 || x == 78 || x == 85
def ruleOk (a : ByteArray) : Bool := decide (1 ≤ a.size) && decide (a.size ≤ 6) && (bl a).all signB
theorem woRule_loop (a : ByteArray) (hs : a.size ≤ 140737488351232) : ∀ (n i : Nat), i + n = a.size → Ev (fun k => spec_woRule.l0 k a (i : Int)) (((bl a).drop i).all signB)
  | 0, i, h => by
    refine ev_succ ?_
    simp only [spec_woRule.l0]
    have : i = a.size := by omega
    subst this
    rw [bl_drop_size]
    exact ev_neg (by omega) (ev_some _)
  | n + 1, i, h => by
    refine ev_succ ?_
    simp only [spec_woRule.l0]
    have hw : wrap64 ((i : Int) + 1) = ((i + 1 : Nat) : Int) := by rw [w64 (by omega) (by omega)]; omega
    have ih := woRule_loop a hs n (i + 1) (by omega)
    rw [hw, bl_drop a i (by omega), List.all_cons]
    refine ev_pos (by omega) (ev_pos (by omega) ?_)
    refine ev_ite (fun h1 => ?_) (fun h1 => ev_ite (fun h2 => ?_) (fun h2 => ev_ite (fun h3 => ?_) (fun h3 => ev_ite (fun h4 => ?_) (fun h4 => ?_))))
    · rw [h1]; exact ih
    · rw [h2]; exact ih
    · rw [h3]; exact ih
    · rw [h4]; exact ih
    · have : signB (bt a (i : Int)) = false := by unfold signB; simp [h1, h2, h3, h4]
      rw [this, Bool.false_and]
      exact ev_some _
theorem woRule_ev (a : ByteArray) (hs : a.size ≤ 140737488351232) : Ev (fun k => spec_woRule.f k a) (ruleOk a) := by
  unfold spec_woRule.f
  refine ev_bind (ev_const (in_eq _ _ _)) ?_
  unfold ruleOk
  by_cases h1 : 1 ≤ a.size
  · by_cases h2 : a.size ≤ 6
    · have := woRule_loop a hs a.size 0 (by omega)
      rw [List.drop_zero] at this
      rw [decide_eq_true (p := (1:Int) ≤ (a.size : Int)) (by omega), decide_eq_true (p := (a.size : Int) ≤ 6) (by omega), decide_eq_true h1, decide_eq_true h2]
      exact ev_pos rfl this
    · rw [decide_eq_false (p := (a.size : Int) ≤ 6) (by omega), decide_eq_false h2, Bool.and_false, Bool.and_false, Bool.false_and]
      exact ev_neg (by decide) (ev_some _)
  · rw [decide_eq_false (p := (1:Int) ≤ (a.size : Int)) (by omega), decide_eq_false h1, Bool.false_and, Bool.false_and, Bool.false_and]
    exact ev_neg (by decide) (ev_some _)
theorem signs_has (b : UInt8) : (⟨#[76, 82, 78, 85]⟩ : ByteArray).data.toList.contains b = signB (b.toNat : Int) := by
  have h : ∀ n : Fin 256, (⟨#[76, 82, 78, 85]⟩ : ByteArray).data.toList.contains (UInt8.ofNat n.val) = signB (n.val : Int) := by decide +kernel
  have := h ⟨b.toNat, b.toNat_lt⟩
  rwa [UInt8.ofNat_toNat] at this
theorem implIsRule_eq (a : ByteArray) (hs : a.size ≤ 140737488351232) : impl_IsRule.f a = some (ruleOk a) := by
  unfold impl_IsRule.f
  rw [within_eq]
  show (if _ then _ else _) = _
  rw [trim_empty a _ hs (by decide) (by decide +kernel) signB signs_has]
  unfold ruleOk
  by_cases h1 : 1 ≤ a.size
  · by_cases h2 : a.size ≤ 6
    · rw [decide_eq_true (p := (1:Int) ≤ (a.size : Int)) (by omega), decide_eq_true (p := (a.size : Int) ≤ 6) (by omega), decide_eq_true h1, decide_eq_true h2]
      rfl
    · rw [decide_eq_false (p := (a.size : Int) ≤ 6) (by omega), decide_eq_false h2, Bool.and_false, Bool.and_false, Bool.false_and]
      rfl
  · rw [decide_eq_false (p := (1:Int) ≤ (a.size : Int)) (by omega), decide_eq_false h1, Bool.false_and, Bool.false_and, Bool.false_and]
    rfl
def antB (w h x y d : Int) : Bool := inB x 0 (wrap64 (w - 1)) && (inB y 0 (wrap64 (h - 1)) && inB d 0 3)
theorem implIsAnt_eq (w h x y d : Int) : impl_isAnt.f w h x y d = some (antB w h x y d) := by
  unfold impl_isAnt.f impl_isWay.f antB
  rw [wi_eq, wi_eq, wi_eq]
  cases inB x 0 (wrap64 (w - 1)) <;> cases inB y 0 (wrap64 (h - 1)) <;> rfl
def cellB (m x : Int) : Bool := inB (x - 48) 0 (m - 1)
def worldOk (r : ByteArray) (w h : Int) (c : ByteArray) (x y d : Int) : Bool := ruleOk r && (inB w 1 9 && (inB h 1 9 && (((c.size : Int) == wrap64 (w * h)) && ((bl c).all (cellB (r.size : Int)) && antB w h x y d))))
theorem bt_cell (c : ByteArray) (i m : Int) (hm : 0 ≤ m ∧ m ≤ 140737488351232) : inB (wrap64 (wrap64 (bt c i) - 48)) 0 (wrap64 (m - 1)) = cellB m (bt c i) := by
  have := bt_range c i
  rw [w64 (x := bt c i) (by omega) (by omega), w64 (by omega) (by omega), w64 (by omega) (by omega)]
  rfl
theorem woGood_loop (r : ByteArray) (w h : Int) (c : ByteArray) (x y d : Int) (hr : r.size ≤ 140737488351232) (hs : c.size ≤ 140737488351232) : ∀ (n i : Nat), i + n = c.size → Ev (fun k => spec_woGood.l0 k (i : Int) r w h c x y d) (((bl c).drop i).all (cellB (r.size : Int)) && antB w h x y d)
  | 0, i, e => by
    refine ev_succ ?_
    simp only [spec_woGood.l0]
    have : i = c.size := by omega
    subst this
    rw [bl_drop_size, List.all_nil, Bool.true_and]
    unfold antB
    refine ev_neg (by omega) ?_
    exact ev_and (ev_const (l1In_eq _ _ _)) fun _ => ev_and (ev_const (l1In_eq _ _ _)) fun _ => ev_id (ev_const (l1In_eq _ _ _))
  | n + 1, i, e => by
    refine ev_succ ?_
    simp only [spec_woGood.l0]
    have hw : wrap64 ((i : Int) + 1) = ((i + 1 : Nat) : Int) := by rw [w64 (by omega) (by omega)]; omega
    have ih := woGood_loop r w h c x y d hr hs n (i + 1) (by omega)
    rw [hw, bl_drop c i (by omega), List.all_cons, Bool.and_assoc]
    refine ev_pos (by omega) (ev_pos (by omega) ?_)
    rw [← bt_cell c (i : Int) (r.size : Int) ⟨by omega, by omega⟩]
    exact ev_and (ev_const (l1In_eq _ _ _)) fun _ => ih
theorem woGood_ev (r : ByteArray) (w h : Int) (c : ByteArray) (x y d : Int) (hr : r.size ≤ 140737488351232) (hs : c.size ≤ 140737488351232) : Ev (fun k => spec_woGood.f k r w h c x y d) (worldOk r w h c x y d) := by
  unfold spec_woGood.f worldOk
  have hE : Ev (fun k => spec_woGood.j0 k true r w h c x y d) false := by
    refine ev_succ ?_
    simp only [spec_woGood.j0]
    exact ev_pos (by first | rfl | trivial) (ev_some _)
  refine ev_and2 hE (woRule_ev r hr) fun _ => ev_and2 hE (ev_const (l1In_eq _ _ _)) fun _ => ev_and2 hE (ev_const (l1In_eq _ _ _)) fun _ => ?_
  refine ev_succ ?_
  simp only [spec_woGood.j0]
  have hl := woGood_loop r w h c x y d hr hs c.size 0 (by omega)
  rw [List.drop_zero] at hl
  by_cases he : (c.size : Int) = wrap64 (w * h)
  · rw [show ((c.size : Int) == wrap64 (w * h)) = true from beq_iff_eq.2 he, Bool.true_and]
    exact ev_neg (by simp [he]) hl
  · rw [show ((c.size : Int) == wrap64 (w * h)) = false from beq_eq_false_iff_ne.2 he, Bool.false_and]
    exact ev_pos (by simp [he]) (ev_some _)
theorem isWorld_ev (r : ByteArray) (w h : Int) (c : ByteArray) (x y d : Int) (hr : r.size ≤ 140737488351232) (hs : c.size ≤ 140737488351232) : Ev (fun k => impl_IsWorld.f k r w h c x y d) (worldOk r w h c x y d) := by
  have areCells : ∀ (n i : Nat), i + n = c.size → Ev (fun k => impl_areCells.l0 k c (wrap64 (w * h)) (r.size : Int) (c.size : Int) (i : Int)) (((bl c).drop i).all (cellB (r.size : Int)) && ((c.size : Int) == wrap64 (w * h))) := by
    intro n
    induction n with
    | zero =>
      intro i e
      refine ev_succ ?_
      simp only [impl_areCells.l0]
      have : i = c.size := by omega
      subst this
      rw [bl_drop_size]
      exact ev_neg (by omega) (ev_some _)
    | succ n ihn =>
      intro i e
      refine ev_succ ?_
      simp only [impl_areCells.l0]
      have hw : wrap64 ((i : Int) + 1) = ((i + 1 : Nat) : Int) := by rw [w64 (by omega) (by omega)]; omega
      rw [hw, bl_drop c i (by omega), List.all_cons, Bool.and_assoc]
      refine ev_pos (by omega) (ev_pos (by omega) (ev_pos (by omega) ?_))
      rw [← bt_cell c (i : Int) (r.size : Int) ⟨by omega, by omega⟩]
      exact ev_and (ev_const (wi_eq _ _ _)) fun _ => ihn (i + 1) (by omega)
  have hsz : impl_isSize.f w h = some (inB w 1 9 && inB h 1 9) := by
    unfold impl_isSize.f
    rw [wi_eq, wi_eq]
    cases inB w 1 9 <;> rfl
  have hant : impl_isAnt.f w h x y d = some (antB w h x y d) := by
    unfold impl_isAnt.f impl_isWay.f antB
    rw [wi_eq, wi_eq, wi_eq]
    cases inB x 0 (wrap64 (w - 1)) <;> cases inB y 0 (wrap64 (h - 1)) <;> rfl
  have hc := areCells c.size 0 (by omega)
  rw [List.drop_zero] at hc
  have : worldOk r w h c x y d = (ruleOk r && ((inB w 1 9 && inB h 1 9) && (((bl c).all (cellB (r.size : Int)) && ((c.size : Int) == wrap64 (w * h))) && antB w h x y d))) := by
    unfold worldOk
    ac_rfl
  rw [this]
  unfold impl_IsWorld.f
  refine ev_and (ev_const (implIsRule_eq r hr)) fun _ => ev_and (ev_const hsz) fun _ => ev_and ?_ fun _ => ev_id (ev_const hant)
  unfold impl_areCells.f
  exact hc
theorem toWorld_eq (r : ByteArray) (w h : Int) (c : ByteArray) (x y d : Int) : laws_toWorld.f r w h c x y d = some (r, w, h, c, x, y, d) := rfl
theorem szWorld_ev (r : ByteArray) (w h : Int) (c : ByteArray) (x y d m : Int) : ∃ t, laws_szWorld.f r w h c x y d m = some t := by
  unfold laws_szWorld.f
  split
  · exact ⟨_, rfl⟩
  · split <;> exact ⟨_, rfl⟩
structure WorldF (r : ByteArray) (w h : Int) (c : ByteArray) (x y d : Int) : Prop where
  r1 : 1 ≤ r.size
  r6 : r.size ≤ 6
  signs : ∀ s ∈ bl r, signB s = true
  w1 : 1 ≤ w
  w9 : w ≤ 9
  h1 : 1 ≤ h
  h9 : h ≤ 9
  cs : (c.size : Int) = w * h
  cells : ∀ s ∈ bl c, 0 ≤ s - 48 ∧ s - 48 ≤ (r.size : Int) - 1
  x0 : 0 ≤ x
  x1 : x < w
  y0 : 0 ≤ y
  y1 : y < h
  d0 : 0 ≤ d
  d3 : d ≤ 3
theorem mul_bounds {a b : Int} (h1 : 1 ≤ a) (h2 : a ≤ 9) (h3 : 1 ≤ b) (h4 : b ≤ 9) : 1 ≤ a * b ∧ a * b ≤ 81 := by
  have e1 : a = 1 ∨ a = 2 ∨ a = 3 ∨ a = 4 ∨ a = 5 ∨ a = 6 ∨ a = 7 ∨ a = 8 ∨ a = 9 := by omega
  rcases e1 with rfl | rfl | rfl | rfl | rfl | rfl | rfl | rfl | rfl <;> omega
theorem worldF {r : ByteArray} {w h : Int} {c : ByteArray} {x y d : Int} (e : worldOk r w h c x y d = true) : WorldF r w h c x y d := by
  unfold worldOk ruleOk antB at e
  simp only [Bool.and_eq_true, decide_eq_true_eq, inB_iff, beq_iff_eq, List.all_eq_true] at e
  obtain ⟨⟨⟨a1, a2⟩, a3⟩, ⟨b1, b2⟩, ⟨c1, c2⟩, d1, e1, ⟨f1, f2⟩, ⟨g1, g2⟩, i1, i2⟩ := e
  have hm := mul_bounds b1 b2 c1 c2
  rw [w64 (by omega) (by omega)] at d1 f2 g2
  exact ⟨a1, a2, a3, b1, b2, c1, c2, d1, fun s hs => inB_iff.1 (e1 s hs), f1, by omega, g1, by omega, i1, i2⟩
theorem worldOk_mk {r : ByteArray} {w h : Int} {c : ByteArray} {x y d : Int} (F : WorldF r w h c x y d) : worldOk r w h c x y d = true := by
  have hm := mul_bounds F.w1 F.w9 F.h1 F.h9
  have := F.w1
  have := F.w9
  have := F.h1
  have := F.h9
  have := F.x1
  have := F.y1
  unfold worldOk ruleOk antB
  simp only [Bool.and_eq_true, decide_eq_true_eq, inB_iff, beq_iff_eq, List.all_eq_true]
  rw [w64 (x := w * h) (by omega) (by omega), w64 (x := w - 1) (by omega) (by omega), w64 (x := h - 1) (by omega) (by omega)]
  exact ⟨⟨⟨F.r1, F.r6⟩, F.signs⟩, ⟨F.w1, F.w9⟩, ⟨F.h1, F.h9⟩, F.cs, fun s hs => inB_iff.2 (F.cells s hs), ⟨F.x0, by omega⟩, ⟨F.y0, by omega⟩, F.d0, F.d3⟩
theorem at_eq {w h x y : Int} (w1 : 1 ≤ w) (w9 : w ≤ 9) (h1 : 1 ≤ h) (h9 : h ≤ 9) (x0 : 0 ≤ x) (x1 : x < w) (y0 : 0 ≤ y) (y1 : y < h) :
    wrap64 (wrap64 (y * w) + x) = y * w + x ∧ 0 ≤ y * w + x ∧ y * w + x < w * h := by
  have e1 : w = 1 ∨ w = 2 ∨ w = 3 ∨ w = 4 ∨ w = 5 ∨ w = 6 ∨ w = 7 ∨ w = 8 ∨ w = 9 := by omega
  rcases e1 with rfl | rfl | rfl | rfl | rfl | rfl | rfl | rfl | rfl <;> refine ⟨?_, by omega, by omega⟩ <;> rw [w64 (x := y * _) (by omega) (by omega), w64 (by omega) (by omega)]
theorem bt_bl {c : ByteArray} {i : Int} (h0 : 0 ≤ i) (h1 : i < (c.size : Int)) : bt c i ∈ bl c := by
  have e : i = ((i.toNat : Nat) : Int) := by omega
  rw [e, ← bl_get c i.toNat (by rw [bl_length]; omega)]
  exact List.getElem_mem _
def toB (cs : List Int) : ByteArray := strOfNums cs
def isByte (cs : List Int) : Prop := ∀ x ∈ cs, 0 ≤ x ∧ x ≤ 255
theorem bl_toB {cs : List Int} (h : isByte cs) : bl (toB cs) = cs := by
  unfold bl toB strOfNums
  simp only [List.map_map]
  rw [List.map_congr_left (g := id), List.map_id]
  intro x hx
  have := h x hx
  simp only [Function.comp, id]
  have e : (UInt8.ofNat x.toNat).toNat = x.toNat := by
    rw [UInt8.toNat_ofNat']
    exact Nat.mod_eq_of_lt (by show x.toNat < 256; omega)
  rw [e]
  omega
theorem toB_bl (c : ByteArray) : toB (bl c) = c := bl_inj (bl_toB (bl_range c))
theorem toB_size (cs : List Int) : (toB cs).size = cs.length := by
  show ((cs.map _).toArray).size = _
  simp
theorem bl_append (a b : ByteArray) : bl (a ++ b) = bl a ++ bl b := by
  unfold bl
  rw [ByteArray.data_append, Array.toList_append, List.map_append]
theorem bl_extract (a : ByteArray) (i j : Nat) : bl (a.extract i j) = ((bl a).take j).drop i := by
  unfold bl
  rw [ByteArray.data_extract, Array.toList_extract, List.extract_eq_take_drop, List.map_take, List.map_drop, List.drop_take]
theorem cut_put (c s : ByteArray) (v : Int) (i : Nat) (h : i < c.size) (hs : bl s = [v]) : (c.extract 0 i ++ s) ++ c.extract (i + 1) c.size = toB ((bl c).set i v) := by
  refine bl_inj ?_
  rw [bl_append, bl_append, bl_extract, bl_extract, hs, bl_toB, List.drop_zero]
  · rw [← bl_length, List.take_length, List.set_eq_take_append_cons_drop, if_pos (by rw [bl_length]; exact h), List.append_assoc]
    rfl
  · intro x hx
    rcases List.mem_or_eq_of_mem_set hx with hx | rfl
    · exact bl_range c x hx
    · exact bl_range s x (by rw [hs]; simp)
theorem digit_byte {v : Int} (h0 : 0 ≤ v) (h1 : v ≤ 9) : wrap64 (48 + v) % 256 = 48 + v := by
  rw [w64 (by omega) (by omega)]; omega
theorem l1Num_ev {v : Int} (h0 : 0 ≤ v) (h1 : v ≤ 9) : Ev (fun k => spec_l1Num.f k v) (toB [48 + v]) := by
  refine ev_succ ?_
  simp only [spec_l1Num.f]
  rw [digit_byte h0 h1]
  exact ev_pos (by omega) (ev_some _)
def putC (c : ByteArray) (i v : Int) : ByteArray := toB ((bl c).set i.toNat (48 + v))
theorem putC_size (c : ByteArray) (i v : Int) : (putC c i v).size = c.size := by
  unfold putC
  rw [toB_size, List.length_set, bl_length]
theorem bl_putC {c : ByteArray} {i v : Int} (h0 : 0 ≤ v) (h1 : v ≤ 9) : bl (putC c i v) = (bl c).set i.toNat (48 + v) := by
  unfold putC
  refine bl_toB fun x hx => ?_
  rcases List.mem_or_eq_of_mem_set hx with hx | rfl
  · exact bl_range c x hx
  · omega
theorem woPaint_ev {r : ByteArray} {w h : Int} {c : ByteArray} {x y d p q v : Int} (hc : c.size ≤ 81) (e : wrap64 (wrap64 (q * w) + p) = q * w + p) (i0 : 0 ≤ q * w + p) (i1 : q * w + p < (c.size : Int)) (h0 : 0 ≤ v) (h1 : v ≤ 9) :
    Ev (fun k => spec_woPaint.f k r w h c x y d p q v) (r, w, h, putC c (q * w + p) v, x, y, d) := by
  unfold spec_woPaint.f
  rw [e]
  obtain ⟨i, hi⟩ := Int.eq_ofNat_of_zero_le i0
  rw [hi] at i1 ⊢
  have hw : wrap64 ((i : Int) + 1) = ((i + 1 : Nat) : Int) := by rw [w64 (by omega) (by omega)]; omega
  rw [hw]
  refine ev_pos (by omega) (ev_pos (by omega) (ev_bind (l1Num_ev h0 h1) ?_))
  have hn : (toB [48 + v]).size = 1 := toB_size _
  refine ev_pos ?_ (ev_pos (by omega) (ev_pos (by omega) (ev_pos ?_ ?_)))
  · rw [ByteArray.size_extract, hn]; omega
  · rw [ByteArray.size_append, ByteArray.size_extract, ByteArray.size_extract, hn]; omega
  · refine ev_const ?_
    have hs : bl (toB [48 + v]) = [48 + v] := bl_toB fun x hx => by
      rw [List.mem_singleton] at hx
      subst hx
      omega
    rw [show ((i : Nat) : Int).toNat = i from rfl, show ((i + 1 : Nat) : Int).toNat = i + 1 from rfl, cut_put c _ _ i (by omega) hs]
    rfl
theorem WorldF.size {r : ByteArray} {w h : Int} {c : ByteArray} {x y d : Int} (F : WorldF r w h c x y d) : c.size ≤ 81 := by
  have := mul_bounds F.w1 F.w9 F.h1 F.h9
  have := F.cs
  omega
theorem eqWorld_self : ∀ (r : ByteArray) (w h : Int) (c : ByteArray) (x y d : Int), laws_eqWorld.f r w h c x y d r w h c x y d = some true := by
  intros
  simp [laws_eqWorld.f]
def Rel (n : Nat) (ix : Nat → Nat) (k : Nat) (S I : List Int) : Prop := S.length = n ∧ I.length = n ∧ ∀ j, j < k → S[ix j]? = I[ix j]?
theorem Rel.step {n : Nat} {ix : Nat → Nat} {k : Nat} {S I : List Int} (h : Rel n ix k S I) (hk : ix k < n) (v : Int) : Rel n ix (k + 1) (S.set (ix k) v) (I.set (ix k) v) := by
  obtain ⟨h1, h2, h3⟩ := h
  refine ⟨by rw [List.length_set]; exact h1, by rw [List.length_set]; exact h2, fun j hj => ?_⟩
  by_cases e : ix k = ix j
  · rw [← e, List.getElem?_set_self (by rw [h1]; exact hk), List.getElem?_set_self (by rw [h2]; exact hk)]
  · rw [List.getElem?_set_ne e, List.getElem?_set_ne e]
    exact h3 j (by
      rcases Nat.lt_or_ge j k with h | h
      · exact h
      · exact absurd (by rw [show j = k by omega]) e)
theorem Rel.eq {n : Nat} {ix : Nat → Nat} {S I : List Int} (h : Rel n ix n S I) (hs : ∀ j, j < n → ∃ k, k < n ∧ ix k = j) : S = I := by
  obtain ⟨h1, h2, h3⟩ := h
  refine List.ext_getElem? fun j => ?_
  rcases Nat.lt_or_ge j n with h | h
  · obtain ⟨k, hk, rfl⟩ := hs j h
    exact h3 k hk
  · rw [List.getElem?_eq_none (by omega), List.getElem?_eq_none (by omega)]
theorem isByte_set {S : List Int} (h : isByte S) {i : Nat} {v : Int} (h0 : 0 ≤ v) (h1 : v ≤ 255) : isByte (S.set i v) := by
  intro x hx
  rcases List.mem_or_eq_of_mem_set hx with hx | rfl
  · exact h x hx
  · omega
theorem zeros_loop : ∀ (n : Nat) (S : List Int), isByte S → S.length + n ≤ 1000 → Ev (fun k => spec_woZeros.l0 k (n : Int) (toB S)) (toB (S ++ List.replicate n 48))
  | 0, S, _, _ => by
    refine ev_succ ?_
    simp only [spec_woZeros.l0]
    rw [List.replicate_zero, List.append_nil]
    exact ev_neg (by omega) (ev_some _)
  | n + 1, S, hb, hl => by
    refine ev_succ ?_
    simp only [spec_woZeros.l0]
    have hb' : isByte (S ++ [48]) := by
      intro x hx
      rcases List.mem_append.1 hx with hx | hx
      · exact hb x hx
      · rw [List.mem_singleton] at hx; omega
    have e : toB S ++ (⟨#[48]⟩ : ByteArray) = toB (S ++ [48]) := by
      refine bl_inj ?_
      rw [bl_append, bl_toB hb, bl_toB hb']
      rfl
    have hw : wrap64 (((n + 1 : Nat) : Int) - 1) = (n : Int) := by rw [w64 (by omega) (by omega)]; omega
    rw [e, hw]
    have ih := zeros_loop n (S ++ [48]) hb' (by rw [List.length_append]; show S.length + 1 + n ≤ 1000; omega)
    rw [List.append_assoc, show [(48 : Int)] ++ List.replicate n 48 = List.replicate (n + 1) 48 from rfl] at ih
    exact ev_pos (by omega) (ev_pos (by rw [toB_size]; omega) ih)
theorem zeros_ev (n : Nat) (h : n ≤ 1000) : Ev (fun k => spec_woZeros.f k (n : Int)) (toB (List.replicate n 48)) := by
  have := zeros_loop n [] (fun x hx => by cases hx) (by show 0 + n ≤ 1000; omega)
  rw [List.nil_append] at this
  exact this
theorem tmod_nat (a b : Nat) : Int.tmod (a : Int) (b : Int) = ((a % b : Nat) : Int) := rfl
theorem tdiv_nat (a b : Nat) : Int.tdiv (a : Int) (b : Int) = ((a / b : Nat) : Int) := rfl
theorem cell_mod {w x : Nat} (y : Nat) (hx : x < w) : (y * w + x) % w = x := by
  rw [Nat.mul_comm, Nat.mul_add_mod, Nat.mod_eq_of_lt hx]
theorem cell_div {w x : Nat} (y : Nat) (hx : x < w) : (y * w + x) / w = y := by
  rw [Nat.mul_comm, Nat.mul_add_div (by omega), Nat.div_eq_of_lt hx, Nat.add_zero]
theorem l1Mod_small {a m : Int} (h0 : 0 ≤ a) (h1 : a < m) (hm : m ≤ 1000) : spec_l1Mod.f a m = some a := by
  unfold spec_l1Mod.f
  rw [if_neg (by omega), Int.tmod_eq_of_lt h0 h1, w64 (by omega) (by omega)]
  congr 1
  obtain ⟨p, rfl⟩ := Int.eq_ofNat_of_zero_le h0
  obtain ⟨q, rfl⟩ := Int.eq_ofNat_of_zero_le (show 0 ≤ m by omega)
  have e : ((p : Int) + (q : Int)) = ((p + q : Nat) : Int) := by omega
  rw [e, tmod_nat, Nat.add_mod_right, Nat.mod_eq_of_lt (by omega)]
def swL (x : Int) : Int := if x = 76 then 82 else if x = 82 then 76 else x
theorem swL_eq : impl_other_sw 76 82 = swL := by
  funext x
  unfold impl_other_sw swL
  simp
theorem swL_byte {x : Int} (h : 0 ≤ x ∧ x ≤ 255) : 0 ≤ swL x ∧ swL x ≤ 255 := by
  unfold swL
  by_cases h1 : x = 76
  · rw [if_pos h1]; omega
  · rw [if_neg h1]
    by_cases h2 : x = 82
    · rw [if_pos h2]; omega
    · rw [if_neg h2]; exact h
def oth (a : ByteArray) : ByteArray := toB ((bl a).map swL)
theorem oth_isByte (l : List Int) (h : isByte l) : isByte (l.map swL) := by
  intro x hx
  obtain ⟨y, hy, rfl⟩ := List.mem_map.1 hx
  exact swL_byte (h y hy)
theorem bl_oth (a : ByteArray) : bl (oth a) = (bl a).map swL := bl_toB (oth_isByte _ (bl_range a))
theorem oth_size (a : ByteArray) : (oth a).size = a.size := by
  unfold oth
  rw [toB_size, List.length_map, bl_length]
theorem implOther_eq (a : ByteArray) (hs : a.size ≤ 140737488351232) : impl_other.f a = some (oth a) := by
  unfold impl_other.f
  rw [if_pos (by omega), swL_eq]
  rfl
theorem sz_one (b : UInt8) : (⟨#[b]⟩ : ByteArray).size = 1 := rfl
theorem take_next (a : ByteArray) (i : Nat) (h : i < a.size) : (bl a).take (i + 1) = (bl a).take i ++ [bt a (i : Int)] := by
  rw [List.take_succ_eq_append_getElem (by rw [bl_length]; exact h), bl_get]
theorem woOther_loop (a : ByteArray) (hs : a.size ≤ 140737488351232) : ∀ (n i : Nat), i + n = a.size → Ev (fun k => spec_woOther.l0 k a (toB (((bl a).take i).map swL)) (i : Int)) (oth a)
  | 0, i, h => by
    refine ev_succ ?_
    simp only [spec_woOther.l0]
    have : i = a.size := by omega
    subst this
    refine ev_neg (by omega) ?_
    rw [List.take_of_length_le (by rw [bl_length]; exact Nat.le_refl _)]
    exact ev_some _
  | n + 1, i, h => by
    refine ev_succ ?_
    simp only [spec_woOther.l0]
    have hw : wrap64 ((i : Int) + 1) = ((i + 1 : Nat) : Int) := by rw [w64 (by omega) (by omega)]; omega
    have ih := woOther_loop a hs n (i + 1) (by omega)
    have hi : i < a.size := by omega
    have hby : isByte (((bl a).take i).map swL) := oth_isByte _ (fun x hx => bl_range a x (List.mem_of_mem_take hx))
    have hsz : (toB (((bl a).take i).map swL)).size = i := by
      rw [toB_size, List.length_map, List.length_take, bl_length]; omega
    rw [hw]
    have step : ∀ (s : ByteArray), bl s = [swL (bt a (i : Int))] → toB (((bl a).take i).map swL) ++ s = toB (((bl a).take (i + 1)).map swL) := by
      intro s hb
      refine bl_inj ?_
      rw [bl_append, bl_toB hby, hb, bl_toB, take_next a i hi, List.map_append]
      · rfl
      · exact oth_isByte _ (fun x hx => bl_range a x (List.mem_of_mem_take hx))
    refine ev_pos (by omega) (ev_pos (by omega) ?_)
    refine ev_ite (fun h1 => ?_) (fun h1 => ev_ite (fun h2 => ?_) (fun h2 => ?_))
    · rw [hsz, step _ (by rw [h1]; rfl)]
      exact ev_pos (by omega) ih
    · rw [hsz, step _ (by rw [h2]; rfl)]
      exact ev_pos (by omega) ih
    · have hx : bl (a.extract ((i : Nat) : Int).toNat (((i + 1 : Nat) : Int)).toNat) = [swL (bt a (i : Int))] := by
        rw [bl_extract, Int.toNat_natCast, Int.toNat_natCast, take_next a i hi, List.drop_append]
        have hl : ((bl a).take i).length = i := by rw [List.length_take, bl_length]; omega
        rw [hl, Nat.sub_self, List.drop_zero, List.drop_of_length_le (by omega), List.nil_append]
        unfold swL
        rw [if_neg h1, if_neg h2]
      refine ev_pos (by omega) (ev_pos (by omega) ?_)
      have hz : (a.extract ((i : Nat) : Int).toNat (((i + 1 : Nat) : Int)).toNat).size = 1 := by rw [← bl_length, hx]; rfl
      rw [hsz, hz, step _ hx]
      exact ev_pos (by omega) ih
theorem woOther_ev (a : ByteArray) (hs : a.size ≤ 140737488351232) : Ev (fun k => spec_woOther.f k a) (oth a) := by
  unfold spec_woOther.f
  exact woOther_loop a hs a.size 0 (by omega)
def ixT (w h k : Nat) : Nat := (k / w) * w + (w - 1 - k % w)
theorem mul_lt9 {a b c d : Nat} (h1 : a < b) (h2 : c < d) : a * d + c < b * d := by
  have : (a + 1) * d ≤ b * d := Nat.mul_le_mul_right d h1
  rw [Nat.add_mul, Nat.one_mul] at this
  omega
theorem ixT_at {w h x y : Nat} (hx : x < w) (hy : y < h) : ixT w h (y * w + x) = y * w + (w - 1 - x) := by
  unfold ixT
  rw [cell_mod y hx, cell_div y hx]
theorem ixT_lt {w h x y : Nat} (hx : x < w) (hy : y < h) : ixT w h (y * w + x) < w * h := by
  rw [ixT_at hx hy, Nat.mul_comm w h]
  exact mul_lt9 hy (by omega)
theorem ixT_onto {w h : Nat} (hw : 0 < w) : ∀ j, j < w * h → ∃ k, k < w * h ∧ ixT w h k = j := by
  intro j hj
  have hb : j / w < h := Nat.div_lt_of_lt_mul hj
  have ha : j % w < w := Nat.mod_lt _ hw
  have e := Nat.div_add_mod j w
  rw [Nat.mul_comm w (j / w)] at e
  refine ⟨j / w * w + (w - 1 - j % w), ?_, ?_⟩
  · have := mul_lt9 hb (show w - 1 - j % w < w by omega)
    rw [Nat.mul_comm w h]
    exact this
  · rw [ixT_at (show w - 1 - j % w < w by omega) hb, show w - 1 - (w - 1 - j % w) = j % w by omega]
    exact e
abbrev SpL1 (r : ByteArray) (w h : Nat) (c : ByteArray) (x0 y0 : Nat) (d : Int) (y x : Int) (S : List Int) (X Y : Int) (q : Nat) := spec_woMap.l1 q (w : Int) (h : Int) y x r (w : Int) (h : Int) c (x0 : Int) (y0 : Int) d (-1) 0 (wrap64 ((w : Int) - 1)) 0 1 0 r (w : Int) (h : Int) (toB S) X Y d
abbrev SpL0 (r : ByteArray) (w h : Nat) (c : ByteArray) (x0 y0 : Nat) (d : Int) (y : Int) (S : List Int) (X Y : Int) (q : Nat) := spec_woMap.l0 q (w : Int) (h : Int) y r (w : Int) (h : Int) c (x0 : Int) (y0 : Int) d (-1) 0 (wrap64 ((w : Int) - 1)) 0 1 0 r (w : Int) (h : Int) (toB S) X Y d
theorem kA_iff {w x y x0 y0 : Nat} (hx : x < w) (hx0 : x0 < w) : y * w + x = y0 * w + x0 ↔ x = x0 ∧ y = y0 := by
  constructor
  · intro e
    have a := cell_mod y hx
    have b := cell_div y hx
    rw [e, cell_mod y0 hx0] at a
    rw [e, cell_div y0 hx0] at b
    exact ⟨a.symm, b.symm⟩
  · rintro ⟨rfl, rfl⟩; rfl
theorem by_e1 {x y w : Nat} (hx : x < w) (w9 : w ≤ 9) : wrap64 (wrap64 (wrap64 (-1 * (x : Int)) + wrap64 (0 * (y : Int))) + wrap64 ((w : Int) - 1)) = (w : Int) - 1 - (x : Int) := by
  rw [Int.zero_mul, w64 (x := 0) (by decide) (by decide), w64 (x := -1 * (x : Int)) (by omega) (by omega), w64 (x := (w : Int) - 1) (by omega) (by omega), w64 (x := -1 * (x : Int) + 0) (by omega) (by omega), w64 (by omega) (by omega)]
  omega
theorem by_e2 {x y h : Nat} (hy : y < h) (h9 : h ≤ 9) : wrap64 (wrap64 (wrap64 (0 * (x : Int)) + wrap64 (1 * (y : Int))) + 0) = (y : Int) := by
  rw [Int.zero_mul, w64 (x := 0) (by decide) (by decide), w64 (x := 1 * (y : Int)) (by omega) (by omega), w64 (x := 0 + 1 * (y : Int)) (by omega) (by omega), w64 (by omega) (by omega)]
  omega
theorem at_nat {x y w n : Nat} (hk : y * w + x < n) (hn : n ≤ 81) : wrap64 (wrap64 ((y : Int) * (w : Int)) + (x : Int)) = ((y * w + x : Nat) : Int) := by
  have e : (y : Int) * (w : Int) = ((y * w : Nat) : Int) := (Int.natCast_mul y w).symm
  rw [e]
  generalize y * w = a at *
  rw [w64 (x := (a : Int)) (by omega) (by omega), w64 (by omega) (by omega)]
  omega
theorem ix_int {w h x y : Nat} (hx : x < w) (hy : y < h) : (y : Int) * (w : Int) + ((w : Int) - 1 - (x : Int)) = ((ixT w h (y * w + x) : Nat) : Int) := by
  rw [ixT_at hx hy, Int.natCast_add, Int.natCast_mul]
  congr 1
  omega
theorem ix_wrap {w h x y : Nat} (hx : x < w) (hy : y < h) (hn : w * h ≤ 81) : wrap64 (wrap64 ((y : Int) * (w : Int)) + ((w : Int) - 1 - (x : Int))) = (y : Int) * (w : Int) + ((w : Int) - 1 - (x : Int)) := by
  have hi := ixT_lt hx hy
  have ei := ix_int hx hy
  have e : (y : Int) * (w : Int) = ((y * w : Nat) : Int) := (Int.natCast_mul y w).symm
  rw [e] at ei ⊢
  have hle : y * w ≤ ixT w h (y * w + x) := by rw [ixT_at hx hy]; omega
  generalize ixT w h (y * w + x) = b at *
  generalize y * w = a at *
  generalize w * h = m at *
  rw [w64 (x := (a : Int)) (by omega) (by omega), w64 (by omega) (by omega)]
theorem W_size {r : ByteArray} {w h : Nat} {c : ByteArray} {x y d : Int} (F : WorldF r (w : Int) (h : Int) c x y d) : c.size = w * h ∧ w * h ≤ 81 := by
  have cs := F.cs
  have e : (w : Int) * (h : Int) = ((w * h : Nat) : Int) := (Int.natCast_mul w h).symm
  rw [e] at cs
  have hz := F.size
  omega
theorem spec_cell {r : ByteArray} {w h : Nat} {c : ByteArray} {x0 y0 : Nat} {d : Int} (F : WorldF r (w : Int) (h : Int) c (x0 : Int) (y0 : Int) d) {y x : Nat} (hx : x < w) (hy : y < h) {S : List Int} (hS : isByte S) (hl : S.length = w * h) (X Y : Int) (z : ByteArray × Int × Int × ByteArray × Int × Int × Int)
    (hz : Ev (SpL1 r w h c x0 y0 d (y : Int) ((x + 1 : Nat) : Int) (S.set (ixT w h (y * w + x)) (bt c ((y * w + x : Nat) : Int))) (if x = x0 ∧ y = y0 then (w : Int) - 1 - (x : Int) else X) (if x = x0 ∧ y = y0 then (y : Int) else Y)) z) :
    Ev (SpL1 r w h c x0 y0 d (y : Int) (x : Int) S X Y) z := by
  have w9 : w ≤ 9 := by have := F.w9; omega
  have h9 : h ≤ 9 := by have := F.h9; omega
  obtain ⟨hc, hn⟩ := W_size F
  have hk : y * w + x < w * h := by
    have := mul_lt9 hy hx
    rw [Nat.mul_comm h w] at this
    exact this
  have hi := ixT_lt hx hy
  have k0 : (0 : Int) ≤ ((y * w + x : Nat) : Int) := Int.natCast_nonneg _
  have k1 : ((y * w + x : Nat) : Int) < (c.size : Int) := by rw [hc]; exact Int.ofNat_lt.2 hk
  have hb := F.cells _ (bt_bl k0 k1)
  have r6 := F.r6
  generalize hv : bt c ((y * w + x : Nat) : Int) = v at *
  have v0 : 0 ≤ v - 48 := hb.1
  have v9 : v - 48 ≤ 9 := by omega
  have v256 : (v - 48) % 256 = v - 48 := by omega
  have v48 : 48 + (v - 48) = v := by omega
  have e3 : spec_woColour.f r (w : Int) (h : Int) c (x0 : Int) (y0 : Int) d (x : Int) (y : Int) = some (v - 48) := by
    unfold spec_woColour.f
    rw [at_nat hk hn, if_pos k0, if_pos k1, hv, v256]
  have ei := ix_int hx hy
  have i0 : 0 ≤ (y : Int) * (w : Int) + ((w : Int) - 1 - (x : Int)) := by rw [ei]; exact Int.natCast_nonneg _
  have i1 : (y : Int) * (w : Int) + ((w : Int) - 1 - (x : Int)) < ((toB S).size : Int) := by rw [ei, toB_size, hl]; exact Int.ofNat_lt.2 hi
  have hp := woPaint_ev (r := r) (w := (w : Int)) (h := (h : Int)) (c := toB S) (x := X) (y := Y) (d := d) (p := (w : Int) - 1 - (x : Int)) (q := (y : Int)) (v := v - 48) (by rw [toB_size, hl]; exact hn) (ix_wrap hx hy hn) i0 i1 v0 v9
  have hput : putC (toB S) ((y : Int) * (w : Int) + ((w : Int) - 1 - (x : Int))) (v - 48) = toB (S.set (ixT w h (y * w + x)) v) := by
    unfold putC
    rw [bl_toB hS, ei, Int.toNat_natCast, v48]
  rw [hput] at hp
  have xw : (x : Int) < (w : Int) := Int.ofNat_lt.2 hx
  have a0 : 0 ≤ (w : Int) - 1 - (x : Int) := by omega
  have yh : (y : Int) < (h : Int) := Int.ofNat_lt.2 hy
  have y00 : (0 : Int) ≤ (y : Int) := Int.natCast_nonneg _
  have a1 : (w : Int) - 1 - (x : Int) < (w : Int) := by omega
  have x00 : (0 : Int) ≤ (x : Int) := Int.natCast_nonneg _
  have h1000 : (h : Int) ≤ 1000 := by omega
  have w1000 : (w : Int) ≤ 1000 := by omega
  have xx : wrap64 ((x : Int) + 1) = ((x + 1 : Nat) : Int) := w64 (by omega) (by omega)
  refine ev_succ ?_
  simp only [SpL1, spec_woMap.l1]
  rw [by_e1 hx w9, by_e2 hy h9, xx]
  refine ev_pos xw (ev_bind (ev_const (l1Mod_small a0 a1 w1000)) (ev_bind (ev_const (l1Mod_small y00 yh h1000)) (ev_bind (ev_const e3) (ev_bind hp ?_))))
  by_cases c1 : x = x0
  · by_cases c2 : y = y0
    · rw [if_pos ⟨c1, c2⟩, if_pos ⟨c1, c2⟩] at hz
      exact ev_pos (congrArg _ c1) (ev_pos (congrArg _ c2) hz)
    · rw [if_neg (fun e => c2 e.2), if_neg (fun e => c2 e.2)] at hz
      exact ev_pos (congrArg _ c1) (ev_neg (fun e => c2 (Int.ofNat.inj e)) hz)
  · rw [if_neg (fun e => c1 e.1), if_neg (fun e => c1 e.1)] at hz
    exact ev_neg (fun e => c1 (Int.ofNat.inj e)) hz
theorem spec_rowEnd {r : ByteArray} {w h : Nat} {c : ByteArray} {x0 y0 : Nat} {d : Int} {y : Nat} (hy : y ≤ 9) {S : List Int} {X Y : Int} {z : ByteArray × Int × Int × ByteArray × Int × Int × Int} (hz : Ev (SpL0 r w h c x0 y0 d ((y + 1 : Nat) : Int) S X Y) z) : Ev (SpL1 r w h c x0 y0 d (y : Int) (w : Int) S X Y) z := by
  have yy : wrap64 ((y : Int) + 1) = ((y + 1 : Nat) : Int) := w64 (by omega) (by omega)
  refine ev_succ ?_
  simp only [SpL1, spec_woMap.l1]
  rw [yy]
  exact ev_neg (Int.lt_irrefl _) hz
theorem spec_rowStart {r : ByteArray} {w h : Nat} {c : ByteArray} {x0 y0 : Nat} {d : Int} {y : Nat} (hy : y < h) {S : List Int} {X Y : Int} {z : ByteArray × Int × Int × ByteArray × Int × Int × Int} (hz : Ev (SpL1 r w h c x0 y0 d (y : Int) ((0 : Nat) : Int) S X Y) z) : Ev (SpL0 r w h c x0 y0 d (y : Int) S X Y) z := by
  refine ev_succ ?_
  simp only [SpL0, spec_woMap.l0]
  exact ev_pos (Int.ofNat_lt.2 hy) hz
theorem spec_done {r : ByteArray} {w h : Nat} {c : ByteArray} {x0 y0 : Nat} {d : Int} {S : List Int} {X Y : Int} : Ev (SpL0 r w h c x0 y0 d (h : Int) S X Y) (r, (w : Int), (h : Int), toB S, X, Y, d) := by
  refine ev_succ ?_
  simp only [SpL0, spec_woMap.l0]
  exact ev_neg (Int.lt_irrefl _) (ev_some _)
theorem turn1_eq {a b w : Int} (w0 : 1 ≤ w) (w9 : w ≤ 9) (a0 : 0 ≤ a) (a9 : a ≤ 9) : impl_MirrorWorld_1.f a b w = some (w - 1 - a, b) := by
  unfold impl_MirrorWorld_1.f
  rw [w64 (x := w - 1) (by omega) (by omega), w64 (by omega) (by omega)]
theorem kk_nat {k n : Nat} (h : k < n) (hn : n ≤ 81) : wrap64 ((k : Int) + 1) = ((k + 1 : Nat) : Int) := w64 (by omega) (by omega)
theorem impl_cell {w h : Nat} {c : ByteArray} {y x : Nat} (hx : x < w) (hy : y < h) (w9 : w ≤ 9) (h9 : h ≤ 9) (hc : c.size = w * h) (hn : w * h ≤ 81) {I : List Int} (hl : I.length = w * h) {o : ByteArray}
    (hz : Ev (fun q => impl_moved.l0 q c (w : Int) (w : Int) (w : Int) (I.set (ixT w h (y * w + x)) (bt c ((y * w + x : Nat) : Int))) (c.size : Int) ((y * w + x + 1 : Nat) : Int)) o) :
    Ev (fun q => impl_moved.l0 q c (w : Int) (w : Int) (w : Int) I (c.size : Int) ((y * w + x : Nat) : Int)) o := by
  have w0 : ¬ (w : Int) = 0 := by clear hz; omega
  have z1 : (1 : Int) ≤ (w : Int) := by clear hz; omega
  have z2 : (w : Int) ≤ 9 := by clear hz; omega
  have z7 : (0 : Int) ≤ (x : Int) := Int.natCast_nonneg _
  have z8 : (x : Int) ≤ 9 := by clear hz; omega
  have z3 : (0 : Int) ≤ (y : Int) := Int.natCast_nonneg _
  have z4 : (y : Int) ≤ 9 := by clear hz; omega
  have z5 : -9223372036854775808 ≤ (y : Int) := by clear hz; omega
  have z6 : (y : Int) ≤ 9223372036854775807 := by clear hz; omega
  have hk : y * w + x < w * h := by
    have := mul_lt9 hy hx
    rw [Nat.mul_comm h w] at this
    exact this
  have hi := ixT_lt hx hy
  have k0 : (0 : Int) ≤ ((y * w + x : Nat) : Int) := Int.natCast_nonneg _
  have k1 : ((y * w + x : Nat) : Int) < (c.size : Int) := by rw [hc]; exact Int.ofNat_lt.2 hk
  have ei := ix_int hx hy
  have i0 : 0 ≤ (y : Int) * (w : Int) + ((w : Int) - 1 - (x : Int)) := by rw [ei]; exact Int.natCast_nonneg _
  have i1 : (y : Int) * (w : Int) + ((w : Int) - 1 - (x : Int)) < (I.length : Int) := by rw [ei, hl]; exact Int.ofNat_lt.2 hi
  have t1 := turn1_eq (a := (x : Int)) (b := (y : Int)) (w := (w : Int)) z1 z2 z7 z8
  have kk : wrap64 (((y * w + x : Nat) : Int) + 1) = ((y * w + x + 1 : Nat) : Int) := by
    exact kk_nat hk hn
  have m1 : Int.tmod ((y * w + x : Nat) : Int) (w : Int) = (x : Int) := (tmod_nat _ _).trans (congrArg _ (cell_mod y hx))
  have d1 : wrap64 (Int.tdiv ((y * w + x : Nat) : Int) (w : Int)) = (y : Int) := by
    rw [tdiv_nat, cell_div y hx]
    exact w64 z5 z6
  refine ev_succ ?_
  simp only [impl_moved.l0]
  rw [m1, d1, kk, t1]
  refine ev_pos k1 (ev_neg w0 (ev_bind (ev_some _) (ev_pos k0 (ev_pos k1 ?_))))
  rw [ix_wrap hx hy hn]
  refine ev_pos i0 (ev_pos i1 ?_)
  rw [ei, Int.toNat_natCast]
  exact hz
theorem impl_done {w : Nat} {c : ByteArray} {I : List Int} {k : Nat} (hk : k = c.size) : Ev (fun q => impl_moved.l0 q c (w : Int) (w : Int) (w : Int) I (c.size : Int) (k : Int)) (toB I) := by
  refine ev_succ ?_
  simp only [impl_moved.l0]
  rw [hk]
  exact ev_neg (Int.lt_irrefl _) (ev_some _)
theorem turn_both {r : ByteArray} {w h : Nat} {c : ByteArray} {x0 y0 : Nat} {d : Int} (F : WorldF r (w : Int) (h : Int) c (x0 : Int) (y0 : Int) d) : ∀ (m k y x : Nat) (S I : List Int) (X Y : Int), k + (m + 1) = w * h → k = y * w + x → x < w → y < h → isByte S → Rel (w * h) (ixT w h) k S I →
    (k ≤ y0 * w + x0 ∨ (X = (w : Int) - 1 - (x0 : Int) ∧ Y = (y0 : Int))) →
    ∃ o : ByteArray, Ev (SpL1 r w h c x0 y0 d (y : Int) (x : Int) S X Y) (r, (w : Int), (h : Int), o, (w : Int) - 1 - (x0 : Int), (y0 : Int), d) ∧
      Ev (fun q => impl_moved.l0 q c (w : Int) (w : Int) (w : Int) I (c.size : Int) (k : Int)) o := by
  have w9 : w ≤ 9 := by have := F.w9; omega
  have h9 : h ≤ 9 := by have := F.h9; omega
  have hx0 : x0 < w := by have := F.x1; omega
  have hh : 0 < h := by have := F.h1; omega
  obtain ⟨hc, hn⟩ := W_size F
  intro m
  induction m with
  | zero =>
    intro k y x S I X Y hm hk hx hy hS hR hXY
    subst hk
    have hb := bl_range c
    have hi := ixT_lt hx hy
    have hbt : 0 ≤ bt c ((y * w + x : Nat) : Int) ∧ bt c ((y * w + x : Nat) : Int) ≤ 255 := hb _ (bt_bl (Int.natCast_nonneg _) (by rw [hc]; exact Int.ofNat_lt.2 (by omega)))
    have R' := hR.step hi (bt c ((y * w + x : Nat) : Int))
    have hlast : y = h - 1 ∧ x = w - 1 := by
      have e1 : y * w + w ≤ h * w := by
        have := Nat.mul_le_mul_right w (show y + 1 ≤ h by omega)
        rw [Nat.add_mul, Nat.one_mul] at this
        exact this
      rw [Nat.mul_comm w h] at hm
      have ex : x = w - 1 := by omega
      refine ⟨?_, ex⟩
      have e2 : (y + 1) * w = h * w := by rw [Nat.add_mul, Nat.one_mul]; omega
      have := Nat.eq_of_mul_eq_mul_right (by omega) e2
      omega
    have hkn : y * w + x + 1 = w * h := by omega
    rw [hkn] at R'
    have hSI := R'.eq (ixT_onto (show 0 < w by omega))
    refine ⟨toB (S.set (ixT w h (y * w + x)) (bt c ((y * w + x : Nat) : Int))), ?_, ?_⟩
    · refine spec_cell F hx hy hS hR.1 X Y _ ?_
      rw [show x + 1 = w by omega]
      refine spec_rowEnd (by omega) ?_
      rw [show y + 1 = h by omega]
      have hd := spec_done (r := r) (w := w) (h := h) (c := c) (x0 := x0) (y0 := y0) (d := d) (S := S.set (ixT w h (y * w + x)) (bt c ((y * w + x : Nat) : Int))) (X := if x = x0 ∧ y = y0 then (w : Int) - 1 - (x : Int) else X) (Y := if x = x0 ∧ y = y0 then (y : Int) else Y)
      by_cases ce : x = x0 ∧ y = y0
      · rw [if_pos ce, if_pos ce] at hd ⊢
        rw [ce.1, ce.2] at hd ⊢
        exact hd
      · rw [if_neg ce, if_neg ce] at hd ⊢
        rcases hXY with hXY | ⟨rfl, rfl⟩
        · exfalso
          have hy0 : y0 < h := by have := F.y1; omega
          have hk0 : y0 * w + x0 < w * h := by
            have := mul_lt9 hy0 hx0
            rw [Nat.mul_comm h w] at this
            exact this
          exact ce ((kA_iff hx hx0).1 (by omega))
        · exact hd
    · refine impl_cell hx hy w9 h9 hc hn hR.2.1 ?_
      rw [hSI]
      exact impl_done (by rw [hc]; exact hkn)
  | succ m ih =>
    intro k y x S I X Y hm hk hx hy hS hR hXY
    subst hk
    have hb := bl_range c
    have hi := ixT_lt hx hy
    have hbt : 0 ≤ bt c ((y * w + x : Nat) : Int) ∧ bt c ((y * w + x : Nat) : Int) ≤ 255 := hb _ (bt_bl (Int.natCast_nonneg _) (by rw [hc]; exact Int.ofNat_lt.2 (by omega)))
    have R' := hR.step hi (bt c ((y * w + x : Nat) : Int))
    have S' := isByte_set (i := ixT w h (y * w + x)) hS hbt.1 hbt.2
    have hXY' : y * w + x + 1 ≤ y0 * w + x0 ∨ ((if x = x0 ∧ y = y0 then (w : Int) - 1 - (x : Int) else X) = (w : Int) - 1 - (x0 : Int) ∧ (if x = x0 ∧ y = y0 then (y : Int) else Y) = (y0 : Int)) := by
      by_cases ce : x = x0 ∧ y = y0
      · right
        rw [if_pos ce, if_pos ce, ce.1, ce.2]
        exact ⟨rfl, rfl⟩
      · rw [if_neg ce, if_neg ce]
        rcases hXY with hXY | hXY
        · left
          have : y * w + x ≠ y0 * w + x0 := fun e => ce ((kA_iff hx hx0).1 e)
          omega
        · exact .inr hXY
    by_cases hw : x + 1 < w
    · obtain ⟨o, o1, o2⟩ := ih (y * w + x + 1) y (x + 1) _ _ _ _ (by omega) (by omega) hw hy S' R' hXY'
      exact ⟨o, spec_cell F hx hy hS hR.1 X Y _ o1, impl_cell hx hy w9 h9 hc hn hR.2.1 o2⟩
    · have hxw : x + 1 = w := by omega
      have hy1 : y + 1 < h := by
        rcases Nat.lt_or_ge (y + 1) h with h' | h'
        · exact h'
        · exfalso
          have e1 : h * w ≤ (y + 1) * w := Nat.mul_le_mul_right w h'
          rw [Nat.add_mul, Nat.one_mul] at e1
          rw [Nat.mul_comm w h] at hm
          omega
      have ek : y * w + x + 1 = (y + 1) * w + 0 := by rw [Nat.add_mul, Nat.one_mul]; omega
      obtain ⟨o, o1, o2⟩ := ih (y * w + x + 1) (y + 1) 0 _ _ _ _ (by omega) ek (by omega) hy1 S' R' hXY'
      refine ⟨o, spec_cell F hx hy hS hR.1 X Y _ ?_, impl_cell hx hy w9 h9 hc hn hR.2.1 o2⟩
      rw [hxw]
      exact spec_rowEnd (by omega) (spec_rowStart hy1 o1)
theorem FnExactMirrorWorld : LawHolds := by
  intro r w h c x y d hr hw hh hc hx hy hd
  refine ev_out (g := fun k => laws_FnExactMirrorWorld.f k r w h c x y d) ?_
  obtain ⟨t, ht⟩ := szWorld_ev r w h c x y d 1048576
  have hto := ev_const (toWorld_eq r w h c x y d)
  unfold laws_FnExactMirrorWorld.f
  refine ev_bind (ev_const ht) (ev_ite (fun _ => ev_some _) (fun _ => ev_bind hto ?_))
  have h1 := woGood_ev r w h c x y d hr hc
  have h2 := isWorld_ev r w h c x y d hr hc
  obtain ⟨z, hz1, hz2⟩ : ∃ z : ByteArray × Int × Int × ByteArray × Int × Int × Int × Bool, Ev (fun k => spec_MirrorWorld.f k r w h c x y d) z ∧ Ev (fun k => impl_MirrorWorld.f k r w h c x y d) z := by
    unfold spec_MirrorWorld.f impl_MirrorWorld.f spec_woMap.f impl_moved.f
    cases hb : worldOk r w h c x y d with
    | false =>
      rw [hb] at h1 h2
      exact ⟨_, ev_bind h1 (ev_neg (by decide) (ev_some _)), ev_bind h2 (ev_neg (by decide) (ev_some _))⟩
    | true =>
      rw [hb] at h1 h2
      have F := worldF hb
      obtain ⟨wn, rfl⟩ := Int.eq_ofNat_of_zero_le (show 0 ≤ w by have := F.w1; omega)
      obtain ⟨hn, rfl⟩ := Int.eq_ofNat_of_zero_le (show 0 ≤ h by have := F.h1; omega)
      obtain ⟨xn, rfl⟩ := Int.eq_ofNat_of_zero_le F.x0
      obtain ⟨yn, rfl⟩ := Int.eq_ofNat_of_zero_le F.y0
      obtain ⟨hcs, hm⟩ := W_size F
      have w0 : 0 < wn := by have := F.w1; omega
      have h0 : 0 < hn := by have := F.h1; omega
      have hpos : 0 < wn * hn := Nat.mul_pos w0 h0
      have zb : isByte (List.replicate (wn * hn) 48) := by
        intro v hv
        rw [List.mem_replicate] at hv
        omega
      have e1 : wrap64 ((wn : Int) * (hn : Int)) = ((wn * hn : Nat) : Int) := by
        rw [← Int.natCast_mul]
        generalize wn * hn = a at *
        exact w64 (by omega) (by omega)
      obtain ⟨o, o1, o2⟩ := turn_both F (wn * hn - 1) 0 0 0 (List.replicate (wn * hn) 48) (List.replicate (wn * hn) 0) 0 0 (by omega) (by omega) w0 h0 zb ⟨by rw [List.length_replicate], by rw [List.length_replicate], fun j hj => absurd hj (by omega)⟩ (.inl (by omega))
      have hz := zeros_ev (wn * hn) (by omega)
      have t1 := turn1_eq (a := (xn : Int)) (b := (yn : Int)) (w := (wn : Int)) F.w1 F.w9 F.x0 (by have := F.x1; have := F.w9; omega)
      have g1 : (0 : Int) ≤ ((wn * hn : Nat) : Int) := Int.natCast_nonneg _
      have g2 : (((wn * hn : Nat) : Int)).toNat ≤ 281474976710656 := by rw [Int.toNat_natCast]; omega
      refine ⟨_, ev_bind h1 (ev_pos rfl (ev_bind (ev_bind (a := toB (List.replicate (wn * hn) 48)) (by rw [e1]; exact hz) (spec_rowStart h0 o1)) (ev_bind (woOther_ev r hr) (ev_some _)))), ev_bind h2 (ev_pos rfl (ev_bind (a := o) ?_ (ev_bind (ev_const t1) (ev_bind (ev_const (implOther_eq r hr)) (ev_bind (ev_const rfl) (ev_some _))))))⟩
      rw [e1]
      refine ev_pos g1 (ev_pos g2 ?_)
      rw [Int.toNat_natCast]
      exact o2
  exact ev_bind hz1 (ev_bind hto (ev_bind hz2 (ev_bind (ev_const (eqWorld_self ..)) (ev_pos rfl (ev_neg (by simp) (ev_some _))))))

end Go.Proofs.YtdicnggfigedoaaGreatDoor.Pure
