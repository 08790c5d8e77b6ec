/- BackWorld of the program and of the reference agree at every world. Conditions: those of reading alone. -/
import Derived.Test.YtdicnggfigedoaaGreatDoorQFnExactBackWorld
namespace Go.Proofs.YtdicnggfigedoaaGreatDoor.Pure
open Go.RowKit Go.Proofs.YtdicnggfigedoaaGreatDoor.PFnExactBackWorld Go.Proofs.YtdicnggfigedoaaGreatDoorW.PrintWords Go.Proofs.YtdicnggfigedoaaGreatDoorW.PrintLast
set_option linter.unusedVariables false
set_option linter.unusedSimpArgs false
theorem ev_succ {α : Type} {g : Nat → Option α} {r : α} (h : Ev (fun k => g (k + 1)) r) : Ev g r := by
  obtain ⟨K, h⟩ := h
  refine ⟨K + 1, fun k hk => ?_⟩
  obtain ⟨j, rfl⟩ : ∃ j, k = j + 1 := ⟨k - 1, by omega⟩
  exact h j (by omega)
theorem ev_some {α : Type} (r : α) : Ev (fun _ => some r) r := ⟨0, fun _ _ => rfl⟩
theorem ev_const {α : Type} {x : Option α} {r : α} (h : x = some r) : Ev (fun _ => x) r := ⟨0, fun _ _ => h⟩
theorem ev_bind {α β : Type} {g : Nat → Option α} {f : Nat → α → Option β} {a : α} {r : β} (h : Ev g a) (k : Ev (fun n => f n a) r) : Ev (fun n => (g n).bind (f n)) r := by
  obtain ⟨K, h⟩ := h
  obtain ⟨L, k⟩ := k
  exact ⟨max K L, fun n hn => by show (g n).bind (f n) = some r; rw [h n (by omega)]; exact k n (by omega)⟩
theorem ev_pos {α : Type} {c : Prop} [Decidable c] {f g : Nat → Option α} {r : α} (hc : c) (h : Ev f r) : Ev (fun k => if c then f k else g k) r := by
  obtain ⟨K, h⟩ := h
  exact ⟨K, fun n hn => by show (if c then f n else g n) = some r; rw [if_pos hc]; exact h n hn⟩
theorem ev_neg {α : Type} {c : Prop} [Decidable c] {f g : Nat → Option α} {r : α} (hc : ¬ c) (h : Ev g r) : Ev (fun k => if c then f k else g k) r := by
  obtain ⟨K, h⟩ := h
  exact ⟨K, fun n hn => by show (if c then f n else g n) = some r; rw [if_neg hc]; exact h n hn⟩
theorem ev_ite {α : Type} {c : Prop} [Decidable c] {f g : Nat → Option α} {r : α} (h1 : c → Ev f r) (h2 : ¬ c → Ev g r) : Ev (fun k => if c then f k else g k) r := by
  by_cases hc : c
  · exact ev_pos hc (h1 hc)
  · exact ev_neg hc (h2 hc)
theorem ev_out {α : Type} {g : Nat → Option α} {r : α} (h : Ev g r) : ∃ k, g k = some r := by
  obtain ⟨K, h⟩ := h
  exact ⟨K, h K (Nat.le_refl _)⟩
theorem ev_uni {α : Type} {g : Nat → Option α} {r r' : α} (h : Ev g r) (h' : Ev g r') : r = r' := by
  obtain ⟨K, h⟩ := h
  obtain ⟨L, h'⟩ := h'
  have := (h (max K L) (by omega)).symm.trans (h' (max K L) (by omega))
  exact Option.some.inj this
theorem w64 {x : Int} (h1 : -9223372036854775808 ≤ x) (h2 : x ≤ 9223372036854775807) : wrap64 x = x := by
  unfold wrap64
  omega
theorem i64_range {x : Int} (h : (Lit.int .i64 x).wf = true) : -9223372036854775808 ≤ x ∧ x ≤ 9223372036854775807 := by
  have e1 : IntKind.i64.min = -9223372036854775808 := by decide
  have e2 : IntKind.i64.max = 9223372036854775807 := by decide
  have h' : IntKind.i64.min ≤ x ∧ x ≤ IntKind.i64.max := by simpa [Lit.wf] using h
  omega
theorem maxLen_eq : maxLen = 9223372036854775807 := rfl
def bl (a : ByteArray) : List Int := a.data.toList.map (fun b => (b.toNat : Int))
theorem size_data (a : ByteArray) : a.data.toList.length = a.size := by
  rw [Array.length_toList]
  rfl
theorem bl_length (a : ByteArray) : (bl a).length = a.size := by
  unfold bl
  rw [List.length_map, size_data]
theorem bl_get? (a : ByteArray) (i : Nat) (h : i < a.size) : (bl a)[i]? = some (bt a (i : Int)) := by
  unfold bl bt
  rw [List.getElem?_map, Array.getElem?_toList]
  have e : ((i : Int)).toNat = i := Int.toNat_natCast i
  have h2 : a.data[i]? = some (a.data[i]'h) := Array.getElem?_eq_getElem h
  rw [h2, dif_pos (by rw [e]; exact h)]
  simp only [e]
  rfl
theorem bl_get (a : ByteArray) (i : Nat) (h : i < (bl a).length) : (bl a)[i] = bt a (i : Int) := by
  have h2 := bl_get? a i (by rw [← bl_length]; exact h)
  rw [List.getElem?_eq_getElem h] at h2
  exact Option.some.inj h2
theorem bl_drop (a : ByteArray) (i : Nat) (h : i < a.size) : (bl a).drop i = bt a (i : Int) :: (bl a).drop (i + 1) := by
  have h' : i < (bl a).length := by rw [bl_length]; exact h
  rw [List.drop_eq_getElem_cons h', bl_get a i h']
theorem bl_drop_size (a : ByteArray) : (bl a).drop a.size = [] := by
  rw [List.drop_eq_nil_iff, bl_length]
  exact Nat.le_refl _
theorem bt_at_nat (a : ByteArray) (x : Int) (h : 0 ≤ x) : bt a x = bt a ((x.toNat : Nat) : Int) := by
  rw [Int.toNat_of_nonneg h]
theorem bl_range (a : ByteArray) : ∀ x ∈ bl a, 0 ≤ x ∧ x ≤ 255 := by
  intro x hx
  unfold bl at hx
  rw [List.mem_map] at hx
  obtain ⟨b, _, rfl⟩ := hx
  have := b.toNat_lt
  omega
theorem bl_inj {a b : ByteArray} (h : bl a = bl b) : a = b := by
  unfold bl at h
  have h2 : a.data.toList = b.data.toList := by
    refine List.map_inj_right (f := fun b : UInt8 => (b.toNat : Int)) ?_ |>.1 h
    intro x y e
    exact UInt8.toNat_inj.1 (by exact_mod_cast e)
  cases a with
  | mk x =>
    cases b with
    | mk y =>
      simp only at h2
      rw [Array.toList_inj.1 h2]
theorem in_eq (n lo hi : Int) : spec_l1In.f n lo hi = some (decide (lo ≤ n) && decide (n ≤ hi)) := by
  unfold spec_l1In.f
  by_cases h : n ≥ lo
  · rw [if_pos h]
    simp [show lo ≤ n from h]
  · rw [if_neg h]
    simp [show ¬ lo ≤ n from h]
theorem within_eq (n lo hi : Int) : impl_within.f n lo hi = some (decide (lo ≤ n) && decide (n ≤ hi)) := by
  unfold impl_within.f
  by_cases h : lo ≤ n
  · rw [if_pos h]
    simp [h]
  · rw [if_neg h]
    simp [h]
def inB (n lo hi : Int) : Bool := decide (lo ≤ n) && decide (n ≤ hi)
theorem inB_iff {n lo hi : Int} : inB n lo hi = true ↔ lo ≤ n ∧ n ≤ hi := by unfold inB; simp
theorem l1In_eq (n lo hi : Int) : spec_l1In.f n lo hi = some (inB n lo hi) := in_eq n lo hi
theorem wi_eq (n lo hi : Int) : impl_within.f n lo hi = some (inB n lo hi) := within_eq n lo hi
theorem ev_and {b r : Bool} {g : Nat → Option Bool} {f : Nat → Option Bool} (h : Ev g b) (k : b = true → Ev f r) : Ev (fun n => (g n).bind fun t => if t = true then f n else some false) (b && r) := by
  refine ev_bind h ?_
  cases b with
  | true => exact ev_pos rfl (k rfl)
  | false => exact ev_neg (by decide) (ev_some _)
theorem ev_and2 {b r : Bool} {g : Nat → Option Bool} {f E : Nat → Option Bool} (hE : Ev E false) (h : Ev g b) (k : b = true → Ev f r) : Ev (fun n => (g n).bind fun t => if t = true then f n else E n) (b && r) := by
  refine ev_bind h ?_
  cases b with
  | true => exact ev_pos rfl (k rfl)
  | false => exact ev_neg (by decide) hE
theorem ev_id {b : Bool} {g : Nat → Option Bool} (h : Ev g b) : Ev (fun n => (g n).bind fun t => some t) b := ev_bind h (ev_some _)
theorem dropWhile_all {α : Type} (p : α → Bool) : ∀ l : List α, (∀ x ∈ l.dropWhile p, p x = true) → l.dropWhile p = []
  | [], _ => rfl
  | a :: t, h => by
    by_cases ha : p a = true
    · rw [List.dropWhile_cons_of_pos ha] at h ⊢
      exact dropWhile_all p t h
    · rw [List.dropWhile_cons_of_neg ha] at h
      exact absurd (h a (List.mem_cons_self ..)) ha
theorem dropWhile_nil {α : Type} (p : α → Bool) : ∀ l : List α, l.dropWhile p = [] ↔ ∀ x ∈ l, p x = true
  | [] => by simp
  | a :: t => by
    by_cases ha : p a = true
    · rw [List.dropWhile_cons_of_pos ha, dropWhile_nil p t]
      simp [ha]
    · rw [List.dropWhile_cons_of_neg ha]
      simp [ha]
theorem trimS_nil (l cs : List UInt8) : Lib.trimS l cs = [] ↔ ∀ x ∈ l, cs.contains x = true := by
  unfold Lib.trimS Lib.trimLeftS Lib.trimRightS
  constructor
  · intro h
    rw [dropWhile_nil] at h
    have h2 : ∀ x ∈ l.reverse.dropWhile (cs.contains ·), cs.contains x = true := fun x hx => h x (List.mem_reverse.2 hx)
    have h3 := dropWhile_all (cs.contains ·) _ h2
    rw [dropWhile_nil] at h3
    exact fun x hx => h3 x (List.mem_reverse.2 hx)
  · intro h
    rw [dropWhile_nil]
    intro x hx
    rw [List.mem_reverse] at hx
    exact h x (List.mem_reverse.1 ((List.dropWhile_sublist _).subset hx))
theorem bl_all (a : ByteArray) (p : Int → Bool) : (bl a).all p = a.data.toList.all (fun b => p (b.toNat : Int)) := by
  unfold bl
  rw [List.all_map]
  rfl
theorem trim_empty (a c : ByteArray) (ha : a.size ≤ 140737488351232) (hc : c.size < 4294967281) (h8 : c.data.toList.all (fun b => decide (b.toNat < 128)) = true) (p : Int → Bool)
    (hp : ∀ b : UInt8, c.data.toList.contains b = p (b.toNat : Int)) : (strings_Trim.f a c).bind (fun t => some (t.toList == ([] : List UInt8))) = some ((bl a).all p) := by
  unfold strings_Trim.f
  rw [if_pos ⟨by omega, hc, h8⟩]
  show some _ = some _
  congr 1
  have e : ∀ l : List UInt8, (⟨l.toArray⟩ : ByteArray).toList = l := fun l => by rw [Lib.toList_data]
  rw [e, bl_all]
  rw [Bool.eq_iff_iff, beq_iff_eq, trimS_nil, List.all_eq_true]
  exact forall_congr' fun x => by rw [hp x]
def signB (x : Int) : Bool := x == 76 || x == 82 || x == 78 || x == 85
def ruleOk (a : ByteArray) : Bool := decide (1 ≤ a.size) && decide (a.size ≤ 6) && (bl a).all signB
theorem woRule_loop (a : ByteArray) (hs : a.size ≤ 140737488351232) : ∀ (n i : Nat), i + n = a.size → Ev (fun k => spec_woRule.l0 k a (i : Int)) (((bl a).drop i).all signB)
  | 0, i, h => by
    refine ev_succ ?_
    simp only [spec_woRule.l0]
    have : i = a.size := by omega
    subst this
    rw [bl_drop_size]
    exact ev_neg (by omega) (ev_some _)
  | n + 1, i, h => by
    refine ev_succ ?_
    simp only [spec_woRule.l0]
    have hw : wrap64 ((i : Int) + 1) = ((i + 1 : Nat) : Int) := by rw [w64 (by omega) (by omega)]; omega
    have ih := woRule_loop a hs n (i + 1) (by omega)
    rw [hw, bl_drop a i (by omega), List.all_cons]
    refine ev_pos (by omega) (ev_pos (by omega) ?_)
    refine ev_ite (fun h1 => ?_) (fun h1 => ev_ite (fun h2 => ?_) (fun h2 => ev_ite (fun h3 => ?_) (fun h3 => ev_ite (fun h4 => ?_) (fun h4 => ?_))))
    · rw [h1]; exact ih
    · rw [h2]; exact ih
    · rw [h3]; exact ih
    · rw [h4]; exact ih
    · have : signB (bt a (i : Int)) = false := by unfold signB; simp [h1, h2, h3, h4]
      rw [this, Bool.false_and]
      exact ev_some _
theorem woRule_ev (a : ByteArray) (hs : a.size ≤ 140737488351232) : Ev (fun k => spec_woRule.f k a) (ruleOk a) := by
  unfold spec_woRule.f
  refine ev_bind (ev_const (in_eq _ _ _)) ?_
  unfold ruleOk
  by_cases h1 : 1 ≤ a.size
  · by_cases h2 : a.size ≤ 6
    · have := woRule_loop a hs a.size 0 (by omega)
      rw [List.drop_zero] at this
      rw [decide_eq_true (p := (1:Int) ≤ (a.size : Int)) (by omega), decide_eq_true (p := (a.size : Int) ≤ 6) (by omega), decide_eq_true h1, decide_eq_true h2]
      exact ev_pos rfl this
    · rw [decide_eq_false (p := (a.size : Int) ≤ 6) (by omega), decide_eq_false h2, Bool.and_false, Bool.and_false, Bool.false_and]
      exact ev_neg (by decide) (ev_some _)
  · rw [decide_eq_false (p := (1:Int) ≤ (a.size : Int)) (by omega), decide_eq_false h1, Bool.false_and, Bool.false_and, Bool.false_and]
    exact ev_neg (by decide) (ev_some _)
theorem signs_has (b : UInt8) : (⟨#[76, 82, 78, 85]⟩ : ByteArray).data.toList.contains b = signB (b.toNat : Int) := by
  have h : ∀ n : Fin 256, (⟨#[76, 82, 78, 85]⟩ : ByteArray).data.toList.contains (UInt8.ofNat n.val) = signB (n.val : Int) := by decide +kernel
  have := h ⟨b.toNat, b.toNat_lt⟩
  rwa [UInt8.ofNat_toNat] at this
theorem implIsRule_eq (a : ByteArray) (hs : a.size ≤ 140737488351232) : impl_IsRule.f a = some (ruleOk a) := by
  unfold impl_IsRule.f
  rw [within_eq]
  show (if _ then _ else _) = _
  rw [trim_empty a _ hs (by decide) (by decide +kernel) signB signs_has]
  unfold ruleOk
  by_cases h1 : 1 ≤ a.size
  · by_cases h2 : a.size ≤ 6
    · rw [decide_eq_true (p := (1:Int) ≤ (a.size : Int)) (by omega), decide_eq_true (p := (a.size : Int) ≤ 6) (by omega), decide_eq_true h1, decide_eq_true h2]
      rfl
    · rw [decide_eq_false (p := (a.size : Int) ≤ 6) (by omega), decide_eq_false h2, Bool.and_false, Bool.and_false, Bool.false_and]
      rfl
  · rw [decide_eq_false (p := (1:Int) ≤ (a.size : Int)) (by omega), decide_eq_false h1, Bool.false_and, Bool.false_and, Bool.false_and]
    rfl
def antB (w h x y d : Int) : Bool := inB x 0 (wrap64 (w - 1)) && (inB y 0 (wrap64 (h - 1)) && inB d 0 3)
theorem implIsAnt_eq (w h x y d : Int) : impl_isAnt.f w h x y d = some (antB w h x y d) := by
  unfold impl_isAnt.f impl_isWay.f antB
  rw [wi_eq, wi_eq, wi_eq]
  cases inB x 0 (wrap64 (w - 1)) <;> cases inB y 0 (wrap64 (h - 1)) <;> rfl
def cellB (m x : Int) : Bool := inB (x - 48) 0 (m - 1)
def worldOk (r : ByteArray) (w h : Int) (c : ByteArray) (x y d : Int) : Bool := ruleOk r && (inB w 1 9 && (inB h 1 9 && (((c.size : Int) == wrap64 (w * h)) && ((bl c).all (cellB (r.size : Int)) && antB w h x y d))))
theorem bt_cell (c : ByteArray) (i m : Int) (hm : 0 ≤ m ∧ m ≤ 140737488351232) : inB (wrap64 (wrap64 (bt c i) - 48)) 0 (wrap64 (m - 1)) = cellB m (bt c i) := by
  have := bt_range c i
  rw [w64 (x := bt c i) (by omega) (by omega), w64 (by omega) (by omega), w64 (by omega) (by omega)]
  rfl
theorem woGood_loop (r : ByteArray) (w h : Int) (c : ByteArray) (x y d : Int) (hr : r.size ≤ 140737488351232) (hs : c.size ≤ 140737488351232) : ∀ (n i : Nat), i + n = c.size → Ev (fun k => spec_woGood.l0 k (i : Int) r w h c x y d) (((bl c).drop i).all (cellB (r.size : Int)) && antB w h x y d)
  | 0, i, e => by
    refine ev_succ ?_
    simp only [spec_woGood.l0]
    have : i = c.size := by omega
    subst this
    rw [bl_drop_size, List.all_nil, Bool.true_and]
    unfold antB
    refine ev_neg (by omega) ?_
    exact ev_and (ev_const (l1In_eq _ _ _)) fun _ => ev_and (ev_const (l1In_eq _ _ _)) fun _ => ev_id (ev_const (l1In_eq _ _ _))
  | n + 1, i, e => by
    refine ev_succ ?_
    simp only [spec_woGood.l0]
    have hw : wrap64 ((i : Int) + 1) = ((i + 1 : Nat) : Int) := by rw [w64 (by omega) (by omega)]; omega
    have ih := woGood_loop r w h c x y d hr hs n (i + 1) (by omega)
    rw [hw, bl_drop c i (by omega), List.all_cons, Bool.and_assoc]
    refine ev_pos (by omega) (ev_pos (by omega) ?_)
    rw [← bt_cell c (i : Int) (r.size : Int) ⟨by omega, by omega⟩]
    exact ev_and (ev_const (l1In_eq _ _ _)) fun _ => ih
theorem woGood_ev (r : ByteArray) (w h : Int) (c : ByteArray) (x y d : Int) (hr : r.size ≤ 140737488351232) (hs : c.size ≤ 140737488351232) : Ev (fun k => spec_woGood.f k r w h c x y d) (worldOk r w h c x y d) := by
  unfold spec_woGood.f worldOk
  have hE : Ev (fun k => spec_woGood.j0 k true r w h c x y d) false := by
    refine ev_succ ?_
    simp only [spec_woGood.j0]
    exact ev_pos (by first | rfl | trivial) (ev_some _)
  refine ev_and2 hE (woRule_ev r hr) fun _ => ev_and2 hE (ev_const (l1In_eq _ _ _)) fun _ => ev_and2 hE (ev_const (l1In_eq _ _ _)) fun _ => ?_
  refine ev_succ ?_
  simp only [spec_woGood.j0]
  have hl := woGood_loop r w h c x y d hr hs c.size 0 (by omega)
  rw [List.drop_zero] at hl
  by_cases he : (c.size : Int) = wrap64 (w * h)
  · rw [show ((c.size : Int) == wrap64 (w * h)) = true from beq_iff_eq.2 he, Bool.true_and]
    exact ev_neg (by simp [he]) hl
  · rw [show ((c.size : Int) == wrap64 (w * h)) = false from beq_eq_false_iff_ne.2 he, Bool.false_and]
    exact ev_pos (by simp [he]) (ev_some _)
theorem isWorld_ev (r : ByteArray) (w h : Int) (c : ByteArray) (x y d : Int) (hr : r.size ≤ 140737488351232) (hs : c.size ≤ 140737488351232) : Ev (fun k => impl_IsWorld.f k r w h c x y d) (worldOk r w h c x y d) := by
  have areCells : ∀ (n i : Nat), i + n = c.size → Ev (fun k => impl_areCells.l0 k c (wrap64 (w * h)) (r.size : Int) (c.size : Int) (i : Int)) (((bl c).drop i).all (cellB (r.size : Int)) && ((c.size : Int) == wrap64 (w * h))) := by
    intro n
    induction n with
    | zero =>
      intro i e
      refine ev_succ ?_
      simp only [impl_areCells.l0]
      have : i = c.size := by omega
      subst this
      rw [bl_drop_size]
      exact ev_neg (by omega) (ev_some _)
    | succ n ihn =>
      intro i e
      refine ev_succ ?_
      simp only [impl_areCells.l0]
      have hw : wrap64 ((i : Int) + 1) = ((i + 1 : Nat) : Int) := by rw [w64 (by omega) (by omega)]; omega
      rw [hw, bl_drop c i (by omega), List.all_cons, Bool.and_assoc]
      refine ev_pos (by omega) (ev_pos (by omega) (ev_pos (by omega) ?_))
      rw [← bt_cell c (i : Int) (r.size : Int) ⟨by omega, by omega⟩]
      exact ev_and (ev_const (wi_eq _ _ _)) fun _ => ihn (i + 1) (by omega)
  have hsz : impl_isSize.f w h = some (inB w 1 9 && inB h 1 9) := by
    unfold impl_isSize.f
    rw [wi_eq, wi_eq]
    cases inB w 1 9 <;> rfl
  have hant : impl_isAnt.f w h x y d = some (antB w h x y d) := by
    unfold impl_isAnt.f impl_isWay.f antB
    rw [wi_eq, wi_eq, wi_eq]
    cases inB x 0 (wrap64 (w - 1)) <;> cases inB y 0 (wrap64 (h - 1)) <;> rfl
  have hc := areCells c.size 0 (by omega)
  rw [List.drop_zero] at hc
  have : worldOk r w h c x y d = (ruleOk r && ((inB w 1 9 && inB h 1 9) && (((bl c).all (cellB (r.size : Int)) && ((c.size : Int) == wrap64 (w * h))) && antB w h x y d))) := by
    unfold worldOk
    ac_rfl
  rw [this]
  unfold impl_IsWorld.f
  refine ev_and (ev_const (implIsRule_eq r hr)) fun _ => ev_and (ev_const hsz) fun _ => ev_and ?_ fun _ => ev_id (ev_const hant)
  unfold impl_areCells.f
  exact hc
theorem toWorld_eq (r : ByteArray) (w h : Int) (c : ByteArray) (x y d : Int) : laws_toWorld.f r w h c x y d = some (r, w, h, c, x, y, d) := rfl
theorem szWorld_ev (r : ByteArray) (w h : Int) (c : ByteArray) (x y d m : Int) : ∃ t, laws_szWorld.f r w h c x y d m = some t := by
  unfold laws_szWorld.f
  split
  · exact ⟨_, rfl⟩
  · split <;> exact ⟨_, rfl⟩
structure WorldF (r : ByteArray) (w h : Int) (c : ByteArray) (x y d : Int) : Prop where
  r1 : 1 ≤ r.size
  r6 : r.size ≤ 6
  signs : ∀ s ∈ bl r, signB s = true
  w1 : 1 ≤ w
  w9 : w ≤ 9
  h1 : 1 ≤ h
  h9 : h ≤ 9
  cs : (c.size : Int) = w * h
  cells : ∀ s ∈ bl c, 0 ≤ s - 48 ∧ s - 48 ≤ (r.size : Int) - 1
  x0 : 0 ≤ x
  x1 : x < w
  y0 : 0 ≤ y
  y1 : y < h
  d0 : 0 ≤ d
  d3 : d ≤ 3
theorem mul_bounds {a b : Int} (h1 : 1 ≤ a) (h2 : a ≤ 9) (h3 : 1 ≤ b) (h4 : b ≤ 9) : 1 ≤ a * b ∧ a * b ≤ 81 := by
  have e1 : a = 1 ∨ a = 2 ∨ a = 3 ∨ a = 4 ∨ a = 5 ∨ a = 6 ∨ a = 7 ∨ a = 8 ∨ a = 9 := by omega
  rcases e1 with rfl | rfl | rfl | rfl | rfl | rfl | rfl | rfl | rfl <;> omega
theorem worldF {r : ByteArray} {w h : Int} {c : ByteArray} {x y d : Int} (e : worldOk r w h c x y d = true) : WorldF r w h c x y d := by
  unfold worldOk ruleOk antB at e
  simp only [Bool.and_eq_true, decide_eq_true_eq, inB_iff, beq_iff_eq, List.all_eq_true] at e
  obtain ⟨⟨⟨a1, a2⟩, a3⟩, ⟨b1, b2⟩, ⟨c1, c2⟩, d1, e1, ⟨f1, f2⟩, ⟨g1, g2⟩, i1, i2⟩ := e
  have hm := mul_bounds b1 b2 c1 c2
  rw [w64 (by omega) (by omega)] at d1 f2 g2
  exact ⟨a1, a2, a3, b1, b2, c1, c2, d1, fun s hs => inB_iff.1 (e1 s hs), f1, by omega, g1, by omega, i1, i2⟩
theorem worldOk_mk {r : ByteArray} {w h : Int} {c : ByteArray} {x y d : Int} (F : WorldF r w h c x y d) : worldOk r w h c x y d = true := by
  have hm := mul_bounds F.w1 F.w9 F.h1 F.h9
  have := F.w1
  have := F.w9
  have := F.h1
  have := F.h9
  have := F.x1
  have := F.y1
  unfold worldOk ruleOk antB
  simp only [Bool.and_eq_true, decide_eq_true_eq, inB_iff, beq_iff_eq, List.all_eq_true]
  rw [w64 (x := w * h) (by omega) (by omega), w64 (x := w - 1) (by omega) (by omega), w64 (x := h - 1) (by omega) (by omega)]
  exact ⟨⟨⟨F.r1, F.r6⟩, F.signs⟩, ⟨F.w1, F.w9⟩, ⟨F.h1, F.h9⟩, F.cs, fun s hs => inB_iff.2 (F.cells s hs), ⟨F.x0, by omega⟩, ⟨F.y0, by omega⟩, F.d0, F.d3⟩
theorem at_eq {w h x y : Int} (w1 : 1 ≤ w) (w9 : w ≤ 9) (h1 : 1 ≤ h) (h9 : h ≤ 9) (x0 : 0 ≤ x) (x1 : x < w) (y0 : 0 ≤ y) (y1 : y < h) :
    wrap64 (wrap64 (y * w) + x) = y * w + x ∧ 0 ≤ y * w + x ∧ y * w + x < w * h := by
  have e1 : w = 1 ∨ w = 2 ∨ w = 3 ∨ w = 4 ∨ w = 5 ∨ w = 6 ∨ w = 7 ∨ w = 8 ∨ w = 9 := by omega
  rcases e1 with rfl | rfl | rfl | rfl | rfl | rfl | rfl | rfl | rfl <;> refine ⟨?_, by omega, by omega⟩ <;> rw [w64 (x := y * _) (by omega) (by omega), w64 (by omega) (by omega)]
theorem bt_bl {c : ByteArray} {i : Int} (h0 : 0 ≤ i) (h1 : i < (c.size : Int)) : bt c i ∈ bl c := by
  have e : i = ((i.toNat : Nat) : Int) := by omega
  rw [e, ← bl_get c i.toNat (by rw [bl_length]; omega)]
  exact List.getElem_mem _
def toB (cs : List Int) : ByteArray := strOfNums cs
def isByte (cs : List Int) : Prop := ∀ x ∈ cs, 0 ≤ x ∧ x ≤ 255
theorem bl_toB {cs : List Int} (h : isByte cs) : bl (toB cs) = cs := by
  unfold bl toB strOfNums
  simp only [List.map_map]
  rw [List.map_congr_left (g := id), List.map_id]
  intro x hx
  have := h x hx
  simp only [Function.comp, id]
  have e : (UInt8.ofNat x.toNat).toNat = x.toNat := by
    rw [UInt8.toNat_ofNat']
    exact Nat.mod_eq_of_lt (by show x.toNat < 256; omega)
  rw [e]
  omega
theorem toB_bl (c : ByteArray) : toB (bl c) = c := bl_inj (bl_toB (bl_range c))
theorem toB_size (cs : List Int) : (toB cs).size = cs.length := by
  show ((cs.map _).toArray).size = _
  simp
theorem bl_append (a b : ByteArray) : bl (a ++ b) = bl a ++ bl b := by
  unfold bl
  rw [ByteArray.data_append, Array.toList_append, List.map_append]
theorem bl_extract (a : ByteArray) (i j : Nat) : bl (a.extract i j) = ((bl a).take j).drop i := by
  unfold bl
  rw [ByteArray.data_extract, Array.toList_extract, List.extract_eq_take_drop, List.map_take, List.map_drop, List.drop_take]
theorem cut_put (c s : ByteArray) (v : Int) (i : Nat) (h : i < c.size) (hs : bl s = [v]) : (c.extract 0 i ++ s) ++ c.extract (i + 1) c.size = toB ((bl c).set i v) := by
  refine bl_inj ?_
  rw [bl_append, bl_append, bl_extract, bl_extract, hs, bl_toB, List.drop_zero]
  · rw [← bl_length, List.take_length, List.set_eq_take_append_cons_drop, if_pos (by rw [bl_length]; exact h), List.append_assoc]
    rfl
  · intro x hx
    rcases List.mem_or_eq_of_mem_set hx with hx | rfl
    · exact bl_range c x hx
    · exact bl_range s x (by rw [hs]; simp)
theorem WorldF.size {r : ByteArray} {w h : Int} {c : ByteArray} {x y d : Int} (F : WorldF r w h c x y d) : c.size ≤ 81 := by
  have := mul_bounds F.w1 F.w9 F.h1 F.h9
  have := F.cs
  omega
def swL (x : Int) : Int := if x = 76 then 82 else if x = 82 then 76 else x
theorem swL_eq : impl_other_sw 76 82 = swL := by
  funext x
  unfold impl_other_sw swL
  simp
theorem swL_byte {x : Int} (h : 0 ≤ x ∧ x ≤ 255) : 0 ≤ swL x ∧ swL x ≤ 255 := by
  unfold swL
  by_cases h1 : x = 76
  · rw [if_pos h1]; omega
  · rw [if_neg h1]
    by_cases h2 : x = 82
    · rw [if_pos h2]; omega
    · rw [if_neg h2]; exact h
def oth (a : ByteArray) : ByteArray := toB ((bl a).map swL)
theorem oth_isByte (l : List Int) (h : isByte l) : isByte (l.map swL) := by
  intro x hx
  obtain ⟨y, hy, rfl⟩ := List.mem_map.1 hx
  exact swL_byte (h y hy)
theorem bl_oth (a : ByteArray) : bl (oth a) = (bl a).map swL := bl_toB (oth_isByte _ (bl_range a))
theorem oth_size (a : ByteArray) : (oth a).size = a.size := by
  unfold oth
  rw [toB_size, List.length_map, bl_length]
theorem implOther_eq (a : ByteArray) (hs : a.size ≤ 140737488351232) : impl_other.f a = some (oth a) := by
  unfold impl_other.f
  rw [if_pos (by omega), swL_eq]
  rfl
theorem sz_one (b : UInt8) : (⟨#[b]⟩ : ByteArray).size = 1 := rfl
theorem take_next (a : ByteArray) (i : Nat) (h : i < a.size) : (bl a).take (i + 1) = (bl a).take i ++ [bt a (i : Int)] := by
  rw [List.take_succ_eq_append_getElem (by rw [bl_length]; exact h), bl_get]
theorem woOther_loop (a : ByteArray) (hs : a.size ≤ 140737488351232) : ∀ (n i : Nat), i + n = a.size → Ev (fun k => spec_woOther.l0 k a (toB (((bl a).take i).map swL)) (i : Int)) (oth a)
  | 0, i, h => by
    refine ev_succ ?_
    simp only [spec_woOther.l0]
    have : i = a.size := by omega
    subst this
    refine ev_neg (by omega) ?_
    rw [List.take_of_length_le (by rw [bl_length]; exact Nat.le_refl _)]
    exact ev_some _
  | n + 1, i, h => by
    refine ev_succ ?_
    simp only [spec_woOther.l0]
    have hw : wrap64 ((i : Int) + 1) = ((i + 1 : Nat) : Int) := by rw [w64 (by omega) (by omega)]; omega
    have ih := woOther_loop a hs n (i + 1) (by omega)
    have hi : i < a.size := by omega
    have hby : isByte (((bl a).take i).map swL) := oth_isByte _ (fun x hx => bl_range a x (List.mem_of_mem_take hx))
    have hsz : (toB (((bl a).take i).map swL)).size = i := by
      rw [toB_size, List.length_map, List.length_take, bl_length]; omega
    rw [hw]
    have step : ∀ (s : ByteArray), bl s = [swL (bt a (i : Int))] → toB (((bl a).take i).map swL) ++ s = toB (((bl a).take (i + 1)).map swL) := by
      intro s hb
      refine bl_inj ?_
      rw [bl_append, bl_toB hby, hb, bl_toB, take_next a i hi, List.map_append]
      · rfl
      · exact oth_isByte _ (fun x hx => bl_range a x (List.mem_of_mem_take hx))
    refine ev_pos (by omega) (ev_pos (by omega) ?_)
    refine ev_ite (fun h1 => ?_) (fun h1 => ev_ite (fun h2 => ?_) (fun h2 => ?_))
    · rw [hsz, step _ (by rw [h1]; rfl)]
      exact ev_pos (by omega) ih
    · rw [hsz, step _ (by rw [h2]; rfl)]
      exact ev_pos (by omega) ih
    · have hx : bl (a.extract ((i : Nat) : Int).toNat (((i + 1 : Nat) : Int)).toNat) = [swL (bt a (i : Int))] := by
        rw [bl_extract, Int.toNat_natCast, Int.toNat_natCast, take_next a i hi, List.drop_append]
        have hl : ((bl a).take i).length = i := by rw [List.length_take, bl_length]; omega
        rw [hl, Nat.sub_self, List.drop_zero, List.drop_of_length_le (by omega), List.nil_append]
        unfold swL
        rw [if_neg h1, if_neg h2]
      refine ev_pos (by omega) (ev_pos (by omega) ?_)
      have hz : (a.extract ((i : Nat) : Int).toNat (((i + 1 : Nat) : Int)).toNat).size = 1 := by rw [← bl_length, hx]; rfl
      rw [hsz, hz, step _ hx]
      exact ev_pos (by omega) ih
theorem woOther_ev (a : ByteArray) (hs : a.size ≤ 140737488351232) : Ev (fun k => spec_woOther.f k a) (oth a) := by
  unfold spec_woOther.f
  exact woOther_loop a hs a.size 0 (by omega)
def modT (n m : Int) : Int := Int.tmod (wrap64 (n + m)) m
theorem modT_tab : ∀ m : Fin 10, ∀ n : Fin 12, 1 ≤ m.1 → n.1 ≤ m.1 + 1 → (0 ≤ modT ((n.1 : Int) - 1) (m.1 : Int) ∧ modT ((n.1 : Int) - 1) (m.1 : Int) < (m.1 : Int)) ∧ Int.tmod (wrap64 (Int.tmod ((n.1 : Int) - 1) (m.1 : Int) + (m.1 : Int))) (m.1 : Int) = modT ((n.1 : Int) - 1) (m.1 : Int) ∧ (1 ≤ n.1 → n.1 ≤ m.1 → modT ((n.1 : Int) - 1) (m.1 : Int) = (n.1 : Int) - 1) := by decide +kernel
theorem modT_all {n m : Int} (m1 : 1 ≤ m) (m9 : m ≤ 9) (n0 : -1 ≤ n) (n1 : n ≤ m) : (0 ≤ modT n m ∧ modT n m < m) ∧ spec_l1Mod.f n m = some (modT n m) ∧ (0 ≤ n → n < m → modT n m = n) := by
  have e := modT_tab ⟨m.toNat, by omega⟩ ⟨(n + 1).toNat, by omega⟩ (by show 1 ≤ m.toNat; omega) (by show (n + 1).toNat ≤ m.toNat + 1; omega)
  simp only at e
  rw [show ((m.toNat : Nat) : Int) = m by omega, show (((n + 1).toNat : Nat) : Int) - 1 = n by omega] at e
  refine ⟨e.1, ?_, fun a b => e.2.2 (by omega) (by omega)⟩
  unfold spec_l1Mod.f
  rw [if_neg (by omega), e.2.1]
def dX (d : Int) : Int := rd [0, 1, 0, -1] d
def dY (d : Int) : Int := rd [-1, 0, 1, 0] d
theorem dXY (d : Int) (h0 : 0 ≤ d) (h3 : d ≤ 3) : impl_ahead.f d = some (dX d, dY d) := by
  have e : d = 0 ∨ d = 1 ∨ d = 2 ∨ d = 3 := by omega
  rcases e with rfl | rfl | rfl | rfl <;> decide +kernel
theorem gone_eq {r : ByteArray} {w h : Int} {c : ByteArray} {x y d s : Int} (F : WorldF r w h c x y d) (hs : s = 1 ∨ s = -1) :
    impl_World_gone.f r w h c x y d s = some (r, w, h, c, modT (x + s * dX d) w, modT (y + s * dY d) h, d) ∧ spec_woGo.f r w h c x y d s = some (r, w, h, c, modT (x + s * dX d) w, modT (y + s * dY d) h, d) ∧
    WorldF r w h c (modT (x + s * dX d) w) (modT (y + s * dY d) h) d := by
  have w1 := F.w1
  have w9 := F.w9
  have h1 := F.h1
  have h9 := F.h9
  have x0 := F.x0
  have x1 := F.x1
  have y0 := F.y0
  have y1 := F.y1
  have d0 := F.d0
  have d3 := F.d3
  have mx := fun (n : Int) (a : -1 ≤ n) (b : n ≤ w) => modT_all w1 w9 a b
  have my := fun (n : Int) (a : -1 ≤ n) (b : n ≤ h) => modT_all h1 h9 a b
  have key : ∀ a b : Int, dX d = a → dY d = b → (-1 ≤ a ∧ a ≤ 1) → (-1 ≤ b ∧ b ≤ 1) → (a = 0 ∨ b = 0) → impl_World_gone.f r w h c x y d s = some (r, w, h, c, modT (x + s * a) w, modT (y + s * b) h, d) ∧ WorldF r w h c (modT (x + s * a) w) (modT (y + s * b) h) d ∧
      (b = 0 → modT (y + s * b) h = y) ∧ (a = 0 → modT (x + s * a) w = x) ∧ spec_l1Mod.f (wrap64 (x + s * a)) w = some (modT (x + s * a) w) ∧ spec_l1Mod.f (wrap64 (y + s * b)) h = some (modT (y + s * b) h) := by
    intro a b ea eb ha hb hz
    have sa : -1 ≤ s * a ∧ s * a ≤ 1 := by rcases hs with rfl | rfl <;> omega
    have sb : -1 ≤ s * b ∧ s * b ≤ 1 := by rcases hs with rfl | rfl <;> omega
    have qx := mx (x + s * a) (by omega) (by omega)
    have qy := my (y + s * b) (by omega) (by omega)
    refine ⟨?_, ⟨F.r1, F.r6, F.signs, w1, w9, h1, h9, F.cs, F.cells, qx.1.1, qx.1.2, qy.1.1, qy.1.2, d0, d3⟩, fun z => ?_, fun z => ?_, ?_, ?_⟩
    · unfold impl_World_gone.f
      rw [dXY d d0 d3, ea, eb]
      show (if w = 0 then none else if h = 0 then none else _) = _
      rw [if_neg (by omega), if_neg (by omega), w64 (x := s * a) (by omega) (by omega), w64 (x := s * b) (by omega) (by omega), w64 (x := x + s * a) (by omega) (by omega), w64 (x := y + s * b) (by omega) (by omega)]
      rfl
    · subst z
      rw [Int.mul_zero, Int.add_zero] at qy ⊢
      exact qy.2.2 y0 y1
    · subst z
      rw [Int.mul_zero, Int.add_zero] at qx ⊢
      exact qx.2.2 x0 x1
    · rw [w64 (by omega) (by omega)]; exact qx.2.1
    · rw [w64 (by omega) (by omega)]; exact qy.2.1
  have e : d = 0 ∨ d = 1 ∨ d = 2 ∨ d = 3 := by omega
  unfold spec_woGo.f
  rcases e with rfl | rfl | rfl | rfl
  · obtain ⟨k1, k2, k3, k4, k5, k6⟩ := key 0 (-1) (by decide) (by decide) (by omega) (by omega) (by omega)
    rw [show dX 0 = 0 by decide, show dY 0 = -1 by decide]
    refine ⟨k1, ?_, k2⟩
    rw [if_pos rfl, show y - s = y + s * -1 by omega, k6, k4 rfl]
    rfl
  · obtain ⟨k1, k2, k3, k4, k5, k6⟩ := key 1 0 (by decide) (by decide) (by omega) (by omega) (by omega)
    rw [show dX 1 = 1 by decide, show dY 1 = 0 by decide]
    refine ⟨k1, ?_, k2⟩
    rw [if_neg (by decide), if_pos rfl, show x + s = x + s * 1 by omega, k5, k3 rfl]
    rfl
  · obtain ⟨k1, k2, k3, k4, k5, k6⟩ := key 0 1 (by decide) (by decide) (by omega) (by omega) (by omega)
    rw [show dX 2 = 0 by decide, show dY 2 = 1 by decide]
    refine ⟨k1, ?_, k2⟩
    rw [if_neg (by decide), if_neg (by decide), if_pos rfl, show y + s = y + s * 1 by omega, k6, k4 rfl]
    rfl
  · obtain ⟨k1, k2, k3, k4, k5, k6⟩ := key (-1) 0 (by decide) (by decide) (by omega) (by omega) (by omega)
    rw [show dX 3 = -1 by decide, show dY 3 = 0 by decide]
    refine ⟨k1, ?_, k2⟩
    rw [if_neg (by decide), if_neg (by decide), if_neg (by decide), show x - s = x + s * -1 by omega, k5, k3 rfl]
    rfl
theorem ba_ext {a b : ByteArray} (h : a.data.toList = b.data.toList) : a = b := by
  obtain ⟨⟨x⟩⟩ := a
  obtain ⟨⟨y⟩⟩ := b
  have : x = y := h
  rw [this]
def dB (v : Int) : UInt8 := UInt8.ofNat (48 + v.toNat)
def dig (v : Int) : ByteArray := ⟨#[dB v]⟩
theorem dig_size (v : Int) : (dig v).size = 1 := rfl
theorem one_size (b : UInt8) : (⟨#[b]⟩ : ByteArray).size = 1 := rfl
theorem dig_list (v : Int) : (dig v).data.toList = [dB v] := rfl
theorem l1Num_dig {v : Int} (h0 : 0 ≤ v) (h1 : v ≤ 9) : Ev (fun k => spec_l1Num.f k v) (dig v) := by
  refine ev_succ ?_
  simp only [spec_l1Num.f]
  have e : wrap64 (48 + v) % 256 = 48 + v := by
    rw [w64 (by omega) (by omega)]; omega
  rw [e]
  have e2 : strOfNums [48 + v] = dig v := by
    refine ba_ext ?_
    show [UInt8.ofNat (48 + v).toNat] = [UInt8.ofNat (48 + v.toNat)]
    rw [show (48 + v).toNat = 48 + v.toNat by omega]
  rw [← e2]
  exact ev_pos (by omega) (ev_some _)
theorem isByte_rev {l : List Int} (h : isByte l) : isByte l.reverse := fun x hx => h x (List.mem_reverse.1 hx)
def revB (a : ByteArray) : ByteArray := toB (bl a).reverse
theorem bl_revB (a : ByteArray) : bl (revB a) = (bl a).reverse := bl_toB (isByte_rev (bl_range a))
theorem revB_size (a : ByteArray) : (revB a).size = a.size := by
  unfold revB
  rw [toB_size, List.length_reverse, bl_length]
theorem ext_one (a : ByteArray) (i : Nat) (hi : i < a.size) : bl (a.extract i (i + 1)) = [bt a (i : Int)] := by
  rw [bl_extract, take_next a i hi, List.drop_append]
  have hl : ((bl a).take i).length = i := by rw [List.length_take, bl_length]; omega
  rw [hl, Nat.sub_self, List.drop_zero, List.drop_of_length_le (by omega), List.nil_append]
theorem woReverse_loop (a : ByteArray) (hs : a.size ≤ 140737488351232) : ∀ j : Nat, j ≤ a.size → Ev (fun k => spec_woReverse.l0 k a (toB ((bl a).drop j).reverse) ((j : Int) - 1)) (revB a)
  | 0, _ => by
    refine ev_succ ?_
    simp only [spec_woReverse.l0]
    refine ev_neg (by omega) ?_
    rw [List.drop_zero]
    exact ev_some _
  | j + 1, hj => by
    refine ev_succ ?_
    simp only [spec_woReverse.l0]
    have e0 : ((j + 1 : Nat) : Int) - 1 = (j : Int) := by omega
    have hw : wrap64 ((j : Int) + 1) = ((j + 1 : Nat) : Int) := by rw [w64 (by omega) (by omega)]; omega
    have hw2 : wrap64 ((j : Int) - 1) = (j : Int) - 1 := w64 (by omega) (by omega)
    have ih := woReverse_loop a hs j (by omega)
    have hx := ext_one a j (by omega)
    have hz : (a.extract j (j + 1)).size = 1 := by rw [← bl_length, hx]; rfl
    have hby : isByte ((bl a).drop (j + 1)).reverse := isByte_rev (fun x hx => bl_range a x (List.mem_of_mem_drop hx))
    have hby2 : isByte ((bl a).drop j).reverse := isByte_rev (fun x hx => bl_range a x (List.mem_of_mem_drop hx))
    have hstep : toB ((bl a).drop (j + 1)).reverse ++ a.extract j (j + 1) = toB ((bl a).drop j).reverse := by
      refine bl_inj ?_
      rw [bl_append, bl_toB hby, hx, bl_toB hby2, bl_drop a j (by omega), List.reverse_cons]
    have hsz : (toB ((bl a).drop (j + 1)).reverse).size = a.size - (j + 1) := by rw [toB_size, List.length_reverse, List.length_drop, bl_length]
    rw [e0, hw, hw2, Int.toNat_natCast, Int.toNat_natCast, hz, hsz, hstep]
    exact ev_pos (by omega) (ev_pos (by omega) (ev_pos (by omega) (ev_pos (by omega) (ev_pos (by omega) ih))))
theorem woReverse_ev (a : ByteArray) (hs : a.size ≤ 140737488351232) : Ev (fun k => spec_woReverse.f k a) (revB a) := by
  unfold spec_woReverse.f
  have h := woReverse_loop a hs a.size (Nat.le_refl _)
  rw [bl_drop_size] at h
  rw [w64 (by omega) (by omega)]
  exact h
theorem rev_loop : ∀ (n : Nat) (p m s : List Int), m.length ≤ n → p.length + m.length + s.length ≤ 1000 → Ev (fun k => slices_Reverse_byte_byte.l0 k (p ++ m ++ s) (p.length : Int) ((p.length : Int) + (m.length : Int) - 1)) (p ++ m.reverse ++ s)
  | n, p, m, s, hn, hl => by
    refine ev_succ ?_
    simp only [slices_Reverse_byte_byte.l0]
    match m, hn with
    | [], _ => exact ev_neg (by simp; omega) (ev_some _)
    | [a], _ => exact ev_neg (by simp) (ev_some _)
    | a :: c :: t, hn =>
      obtain ⟨m', b, hb⟩ : ∃ m' b, c :: t = m' ++ [b] := ⟨(c :: t).dropLast, (c :: t).getLast (by simp), (List.dropLast_concat_getLast (by simp)).symm⟩
      rw [hb] at hn hl ⊢
      have hlen : (a :: (m' ++ [b])).length = m'.length + 2 := by simp
      have hall : (p ++ (a :: (m' ++ [b])) ++ s).length = p.length + (m'.length + 2) + s.length := by simp; omega
      rw [hlen] at hl ⊢
      have ej : (p.length : Int) + ((m'.length + 2 : Nat) : Int) - 1 = ((p.length + 1 + m'.length : Nat) : Int) := by omega
      rw [ej, hall]
      have ri : rd (p ++ (a :: (m' ++ [b])) ++ s) (p.length : Int) = a := by simp [rd, List.getD_eq_getElem?_getD]
      have rj : rd (p ++ (a :: (m' ++ [b])) ++ s) ((p.length + 1 + m'.length : Nat) : Int) = b := by
        rw [show p ++ (a :: (m' ++ [b])) ++ s = (p ++ a :: m') ++ b :: s by simp]
        have hp : (p ++ a :: m').length = p.length + 1 + m'.length := by simp; omega
        simp only [rd, List.getD_eq_getElem?_getD, Int.toNat_natCast]
        rw [← hp]
        simp
      have e1 : (p ++ (a :: (m' ++ [b])) ++ s).set p.length b = (p ++ b :: m') ++ b :: s := by
        rw [List.append_assoc, List.set_append_right _ _ (Nat.le_refl _), Nat.sub_self]
        simp
      have e2 : ((p ++ b :: m') ++ b :: s).set (p.length + 1 + m'.length) a = (p ++ [b]) ++ m' ++ (a :: s) := by
        have hp : (p ++ b :: m').length = p.length + 1 + m'.length := by simp; omega
        rw [List.set_append_right _ _ (by omega), hp, Nat.sub_self]
        simp
      have w1 : wrap64 ((p.length : Int) + 1) = ((p ++ [b]).length : Int) := by rw [w64 (by omega) (by omega)]; simp
      have w2 : wrap64 (((p.length + 1 + m'.length : Nat) : Int) - 1) = ((p ++ [b]).length : Int) + (m'.length : Int) - 1 := by
        rw [w64 (by omega) (by omega)]
        simp <;> omega
      rw [ri, rj, w1, w2, Int.toNat_natCast, Int.toNat_natCast, e1, e2]
      match n, hn with
      | 0, hn => exact absurd hn (by simp)
      | n + 1, hn =>
        have ih := rev_loop n (p ++ [b]) m' (a :: s) (by simp at hn; omega) (by simp; omega)
        have er : (p ++ [b]) ++ m'.reverse ++ (a :: s) = p ++ (a :: (m' ++ [b])).reverse ++ s := by simp
        rw [er] at ih
        exact ev_pos (by omega) (ev_pos (by omega) (ev_pos (by omega) (ev_pos (by omega) (ev_pos (by omega) ih))))
theorem implRev_ev (l : List Int) (h : l.length ≤ 1000) : Ev (fun k => slices_Reverse_byte_byte.f k l) l.reverse := by
  unfold slices_Reverse_byte_byte.f
  have := rev_loop l.length [] l [] (Nat.le_refl _) (by simp; omega)
  rw [w64 (by omega) (by omega)]
  simpa using this
def bX (n u : Int) : Int := if u = 0 then 0 else n - u
theorem bk_tab : ∀ n : Fin 7, ∀ u : Fin 6, 1 ≤ n.1 → u.1 < n.1 →
    impl_BackWorld_bk (n.1 : Int) (48 + (u.1 : Int)) = 48 + bX (n.1 : Int) (u.1 : Int) ∧ spec_l1Mod.f (((48 + (u.1 : Int) - 48) % 256) - 1) (n.1 : Int) = some ((n.1 : Int) - 1 - bX (n.1 : Int) (u.1 : Int)) := by decide +kernel
theorem bX_range {n u : Int} (n1 : 1 ≤ n) (u0 : 0 ≤ u) (u1 : u < n) : 0 ≤ bX n u ∧ bX n u ≤ n - 1 := by
  unfold bX
  by_cases h : u = 0
  · rw [if_pos h]; omega
  · rw [if_neg h]; omega
theorem bk_all {n v : Int} (n1 : 1 ≤ n) (n6 : n ≤ 6) (v0 : 0 ≤ v - 48) (v1 : v - 48 ≤ n - 1) : impl_BackWorld_bk n v = 48 + bX n (v - 48) ∧ spec_l1Mod.f (((v - 48) % 256) - 1) n = some (n - 1 - bX n (v - 48)) := by
  have e := bk_tab ⟨n.toNat, by omega⟩ ⟨(v - 48).toNat, by omega⟩ (by show 1 ≤ n.toNat; omega) (by show (v - 48).toNat < n.toNat; omega)
  simp only at e
  rw [show ((n.toNat : Nat) : Int) = n by omega, show (((v - 48).toNat : Nat) : Int) = v - 48 by omega, show 48 + (v - 48) = v by omega] at e
  exact e
def turned (n : Int) (c : ByteArray) : ByteArray := toB ((bl c).map (impl_BackWorld_bk n))
theorem turned_byte {n : Int} (n1 : 1 ≤ n) (n6 : n ≤ 6) {l : List Int} (h : ∀ s ∈ l, 0 ≤ s - 48 ∧ s - 48 ≤ n - 1) : isByte (l.map (impl_BackWorld_bk n)) := by
  intro x hx
  obtain ⟨v, hv, rfl⟩ := List.mem_map.1 hx
  obtain ⟨a, b⟩ := h v hv
  rw [(bk_all n1 n6 a b).1]
  have := bX_range n1 a (show v - 48 < n by omega)
  omega
theorem signB_sw {x : Int} (h : signB x = true) : signB (swL x) = true := by
  unfold signB at h
  simp only [Bool.or_eq_true, beq_iff_eq] at h
  rcases h with ((rfl | rfl) | rfl) | rfl <;> decide
theorem wayB {d : Int} (d0 : 0 ≤ d) (d3 : d ≤ 3) : 0 ≤ Int.tmod (wrap64 (d + 2)) 4 ∧ Int.tmod (wrap64 (d + 2)) 4 ≤ 3 := by
  have e : d = 0 ∨ d = 1 ∨ d = 2 ∨ d = 3 := by omega
  rcases e with rfl | rfl | rfl | rfl <;> decide +kernel
theorem backF {r : ByteArray} {w h : Int} {c : ByteArray} {x y d : Int} (F : WorldF r w h c x y d) : WorldF (revB (oth r)) w h (turned (r.size : Int) c) x y (Int.tmod (wrap64 (d + 2)) 4) := by
  have r1 := F.r1
  have r6 := F.r6
  have hz : (revB (oth r)).size = r.size := by rw [revB_size, oth_size]
  have hd := wayB F.d0 F.d3
  refine ⟨by rw [hz]; exact F.r1, by rw [hz]; exact F.r6, ?_, F.w1, F.w9, F.h1, F.h9, ?_, ?_, F.x0, F.x1, F.y0, F.y1, hd.1, hd.2⟩
  · intro s hs
    rw [bl_revB, bl_oth] at hs
    obtain ⟨v, hv, rfl⟩ := List.mem_map.1 (List.mem_reverse.1 hs)
    exact signB_sw (F.signs v hv)
  · unfold turned
    rw [toB_size, List.length_map, bl_length]
    exact F.cs
  · intro s hs
    unfold turned at hs
    rw [bl_toB (turned_byte (by omega) (by omega) F.cells)] at hs
    obtain ⟨v, hv, rfl⟩ := List.mem_map.1 hs
    obtain ⟨a, b⟩ := F.cells v hv
    rw [(bk_all (by omega) (by omega) a b).1, hz]
    have := bX_range (n := (r.size : Int)) (by omega) a (show v - 48 < (r.size : Int) by omega)
    omega
theorem bl_dig {v : Int} (h0 : 0 ≤ v) (h9 : v ≤ 9) : bl (dig v) = [48 + v] := by
  have e : dig v = toB [48 + v] := by
    refine ba_ext ?_
    show [UInt8.ofNat (48 + v.toNat)] = [UInt8.ofNat (48 + v).toNat]
    rw [show (48 + v).toNat = 48 + v.toNat by omega]
  rw [e, bl_toB]
  intro x hx
  rw [List.mem_singleton] at hx
  omega
theorem spec_loop {r : ByteArray} {w h : Int} {c : ByteArray} {x y d : Int} (F : WorldF r w h c x y d) (r' : ByteArray) (z : ByteArray × Int × Int × ByteArray × Int × Int × Int)
    (hz : spec_woGo.f r' w h (turned (r.size : Int) c) x y (Int.tmod (wrap64 (d + 2)) 4) 1 = some z) : ∀ (n i : Nat), i + n = c.size →
    Ev (fun k => spec_BackWorld.l0 k ((r.size : Int) - 1) (i : Int) r w h c x y d r' w h (toB (((bl c).take i).map (impl_BackWorld_bk (r.size : Int)))) x y d) (z.1, z.2.1, z.2.2.1, z.2.2.2.1, z.2.2.2.2.1, z.2.2.2.2.2.1, z.2.2.2.2.2.2, true)
  | 0, i, e => by
    refine ev_succ ?_
    simp only [spec_BackWorld.l0]
    have : i = c.size := by omega
    subst this
    rw [List.take_of_length_le (by rw [bl_length]; exact Nat.le_refl _)]
    exact ev_neg (by omega) (ev_bind (ev_const hz) (ev_some _))
  | n + 1, i, e => by
    have ih := spec_loop F r' z hz n (i + 1) (by omega)
    have r1 := F.r1
    have r6 := F.r6
    have hs := F.size
    have hi : i < c.size := by omega
    have hc := F.cells (bt c (i : Int)) (bt_bl (by omega) (by omega))
    obtain ⟨a, b⟩ := hc
    have hk := bk_all (n := (r.size : Int)) (by omega) (by omega) a b
    have hX := bX_range (n := (r.size : Int)) (by omega) a (show bt c (i : Int) - 48 < (r.size : Int) by omega)
    have hw : wrap64 ((i : Int) + 1) = ((i + 1 : Nat) : Int) := by rw [w64 (by omega) (by omega)]; omega
    have hw2 : wrap64 ((r.size : Int) - 1 - ((r.size : Int) - 1 - bX (r.size : Int) (bt c (i : Int) - 48))) = bX (r.size : Int) (bt c (i : Int) - 48) := by rw [w64 (by omega) (by omega)]; omega
    have hby := turned_byte (n := (r.size : Int)) (by omega) (by omega) (l := (bl c).take i) (fun s hs => F.cells s (List.mem_of_mem_take hs))
    have hby2 := turned_byte (n := (r.size : Int)) (by omega) (by omega) (l := (bl c).take (i + 1)) (fun s hs => F.cells s (List.mem_of_mem_take hs))
    have hstep : toB (((bl c).take i).map (impl_BackWorld_bk (r.size : Int))) ++ dig (bX (r.size : Int) (bt c (i : Int) - 48)) = toB (((bl c).take (i + 1)).map (impl_BackWorld_bk (r.size : Int))) := by
      refine bl_inj ?_
      rw [bl_append, bl_toB hby, bl_toB hby2, bl_dig (by omega) (by omega), take_next c i hi, List.map_append, ← hk.1]
      rfl
    have hsz : (toB (((bl c).take i).map (impl_BackWorld_bk (r.size : Int)))).size = i := by rw [toB_size, List.length_map, List.length_take, bl_length]; omega
    refine ev_succ ?_
    simp only [spec_BackWorld.l0]
    rw [hw]
    refine ev_pos (by omega) (ev_pos (by omega) (ev_bind (ev_const hk.2) ?_))
    rw [hw2]
    refine ev_bind (l1Num_dig (by omega) (by omega)) ?_
    rw [hsz, dig_size, hstep]
    exact ev_pos (by omega) ih
theorem FnExactBackWorld : LawHolds := by
  intro r w h c x y d hr hw hh hc hx hy hd
  refine ev_out (g := fun k => laws_FnExactBackWorld.f k r w h c x y d) ?_
  obtain ⟨t, ht⟩ := szWorld_ev r w h c x y d 1048576
  have hto := ev_const (toWorld_eq r w h c x y d)
  unfold laws_FnExactBackWorld.f
  refine ev_bind (ev_const ht) (ev_ite (fun _ => ev_some _) (fun _ => ev_bind hto ?_))
  have h1 := woGood_ev r w h c x y d hr hc
  have h2 := isWorld_ev r w h c x y d hr hc
  have both : ∃ z : ByteArray × Int × Int × ByteArray × Int × Int × Int × Bool, Ev (fun k => spec_BackWorld.f k r w h c x y d) z ∧ Ev (fun k => impl_BackWorld.f k r w h c x y d) z := by
    unfold spec_BackWorld.f impl_BackWorld.f
    cases hb : worldOk r w h c x y d with
    | false => exact ⟨_, ev_bind (hb ▸ h1) (ev_neg (by simp) (ev_some _)), ev_bind (hb ▸ h2) (ev_neg (by simp) (ev_some _))⟩
    | true =>
      have F := worldF hb
      have F' := backF F
      have hs := F.size
      have r1 := F.r1
      have r6 := F.r6
      have ho := oth_size r
      obtain ⟨G, g1, g2⟩ : ∃ G, impl_World_gone.f (revB (oth r)) w h (turned (r.size : Int) c) x y (Int.tmod (wrap64 (d + 2)) 4) 1 = some G ∧ spec_woGo.f (revB (oth r)) w h (turned (r.size : Int) c) x y (Int.tmod (wrap64 (d + 2)) 4) 1 = some G := by
        obtain ⟨g1, g2, _⟩ := gone_eq F' (s := 1) (.inl rfl)
        exact ⟨_, g1, g2⟩
      have sl := spec_loop F (revB (oth r)) G g2 c.size 0 (by omega)
      rw [List.take_zero, List.map_nil] at sl
      have hrev := implRev_ev (bytesOf (oth r)) (by rw [bytesOf_length]; omega)
      have g1' : impl_World_gone.f (strOfNums (bytesOf (oth r)).reverse) w h (strOfNums ((bytesOf c).map (impl_BackWorld_bk ((oth r).size : Int)))) x y (Int.tmod (wrap64 (d + 2)) 4) 1 = some G := by
        rw [ho]
        exact g1
      refine ⟨_, ev_bind (hb ▸ h1) (ev_pos rfl (ev_bind (woOther_ev r hr) (ev_bind (woReverse_ev (oth r) (by omega)) ?_))), ev_bind (hb ▸ h2) (ev_pos rfl (ev_pos (by omega) (ev_bind (ev_const (implOther_eq r hr)) (ev_neg (by omega) (ev_pos (by omega) (ev_bind hrev (ev_bind (ev_const g1') (ev_some _))))))))⟩
      · rw [w64 (x := (r.size : Int) - 1) (by omega) (by omega)]
        exact sl
  obtain ⟨z, h1, h2⟩ := both
  exact ev_bind h1 (ev_bind hto (ev_bind h2 (ev_bind (a := true) (ev_const (by simp [laws_eqWorld.f])) (ev_pos rfl (ev_neg (by simp) (ev_some _))))))

end Go.Proofs.YtdicnggfigedoaaGreatDoor.Pure
