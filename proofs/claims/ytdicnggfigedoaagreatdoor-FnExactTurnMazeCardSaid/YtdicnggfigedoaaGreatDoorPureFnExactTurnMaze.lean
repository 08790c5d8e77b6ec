/- TurnMaze of the program and of the reference agree at every maze. Conditions: those of reading alone. -/
import Derived.Test.YtdicnggfigedoaaGreatDoorQFnExactTurnMaze
namespace Go.Proofs.YtdicnggfigedoaaGreatDoor.Pure
open Go.RowKit Go.Proofs.YtdicnggfigedoaaGreatDoor.PFnExactTurnMaze Go.Proofs.YtdicnggfigedoaaGreatDoorW.PrintWords Go.Proofs.YtdicnggfigedoaaGreatDoorW.PrintLast
set_option linter.unusedVariables false
set_option linter.unusedSimpArgs false
theorem ev_succ {α : Type} {g : Nat → Option α} {r : α} (h : Ev (fun k => g (k + 1)) r) : Ev g r := by
  obtain ⟨K, h⟩ := h
  refine ⟨K + 1, fun k hk => ?_⟩
  obtain ⟨j, rfl⟩ : ∃ j, k = j + 1 := ⟨k - 1, by omega⟩
  exact h j (by omega)
theorem ev_some {α : Type} (r : α) : Ev (fun _ => some r) r := ⟨0, fun _ _ => rfl⟩
theorem ev_const {α : Type} {x : Option α} {r : α} (h : x = some r) : Ev (fun _ => x) r := ⟨0, fun _ _ => h⟩
theorem ev_bind {α β : Type} {g : Nat → Option α} {f : Nat → α → Option β} {a : α} {r : β} (h : Ev g a) (k : Ev (fun n => f n a) r) : Ev (fun n => (g n).bind (f n)) r := by
  obtain ⟨K, h⟩ := h
  obtain ⟨L, k⟩ := k
  exact ⟨max K L, fun n hn => by show (g n).bind (f n) = some r; rw [h n (by omega)]; exact k n (by omega)⟩
theorem ev_pos {α : Type} {c : Prop} [Decidable c] {f g : Nat → Option α} {r : α} (hc : c) (h : Ev f r) : Ev (fun k => if c then f k else g k) r := by
  obtain ⟨K, h⟩ := h
  exact ⟨K, fun n hn => by show (if c then f n else g n) = some r; rw [if_pos hc]; exact h n hn⟩
theorem ev_neg {α : Type} {c : Prop} [Decidable c] {f g : Nat → Option α} {r : α} (hc : ¬ c) (h : Ev g r) : Ev (fun k => if c then f k else g k) r := by
  obtain ⟨K, h⟩ := h
  exact ⟨K, fun n hn => by show (if c then f n else g n) = some r; rw [if_neg hc]; exact h n hn⟩
theorem ev_ite {α : Type} {c : Prop} [Decidable c] {f g : Nat → Option α} {r : α} (h1 : c → Ev f r) (h2 : ¬ c → Ev g r) : Ev (fun k => if c then f k else g k) r := by
  by_cases hc : c
  · exact ev_pos hc (h1 hc)
  · exact ev_neg hc (h2 hc)
theorem ev_out {α : Type} {g : Nat → Option α} {r : α} (h : Ev g r) : ∃ k, g k = some r := by
  obtain ⟨K, h⟩ := h
  exact ⟨K, h K (Nat.le_refl _)⟩
theorem ev_uni {α : Type} {g : Nat → Option α} {r r' : α} (h : Ev g r) (h' : Ev g r') : r = r' := by
  obtain ⟨K, h⟩ := h
  obtain ⟨L, h'⟩ := h'
  have := (h (max K L) (by omega)).symm.trans (h' (max K L) (by omega))
  exact Option.some.inj this
theorem w64 {x : Int} (h1 : -9223372036854775808 ≤ x) (h2 : x ≤ 9223372036854775807) : wrap64 x = x := by
  unfold wrap64
  omega
theorem i64_range {x : Int} (h : (Lit.int .i64 x).wf = true) : -9223372036854775808 ≤ x ∧ x ≤ 9223372036854775807 := by
  have e1 : IntKind.i64.min = -9223372036854775808 := by decide
  have e2 : IntKind.i64.max = 9223372036854775807 := by decide
  have h' : IntKind.i64.min ≤ x ∧ x ≤ IntKind.i64.max := by simpa [Lit.wf] using h
  omega
theorem maxLen_eq : maxLen = 9223372036854775807 := rfl
def bl (a : ByteArray) : List Int := a.data.toList.map (fun b => (b.toNat : Int))
theorem size_data (a : ByteArray) : a.data.toList.length = a.size := by
  rw [Array.length_toList]
  rfl
theorem bl_length (a : ByteArray) : (bl a).length = a.size := by
  unfold bl
  rw [List.length_map, size_data]
theorem bl_get? (a : ByteArray) (i : Nat) (h : i < a.size) : (bl a)[i]? = some (bt a (i : Int)) := by
  unfold bl bt
  rw [List.getElem?_map, Array.getElem?_toList]
  have e : ((i : Int)).toNat = i := Int.toNat_natCast i
  have h2 : a.data[i]? = some (a.data[i]'h) := Array.getElem?_eq_getElem h
  rw [h2, dif_pos (by rw [e]; exact h)]
  simp only [e]
  rfl
theorem bl_get (a : ByteArray) (i : Nat) (h : i < (bl a).length) : (bl a)[i] = bt a (i : Int) := by
  have h2 := bl_get? a i (by rw [← bl_length]; exact h)
  rw [List.getElem?_eq_getElem h] at h2
  exact Option.some.inj h2
theorem bl_drop (a : ByteArray) (i : Nat) (h : i < a.size) : (bl a).drop i = bt a (i : Int) :: (bl a).drop (i + 1) := by
  have h' : i < (bl a).length := by rw [bl_length]; exact h
  rw [List.drop_eq_getElem_cons h', bl_get a i h']
theorem bl_drop_size (a : ByteArray) : (bl a).drop a.size = [] := by
  rw [List.drop_eq_nil_iff, bl_length]
  exact Nat.le_refl _
theorem bt_at_nat (a : ByteArray) (x : Int) (h : 0 ≤ x) : bt a x = bt a ((x.toNat : Nat) : Int) := by
  rw [Int.toNat_of_nonneg h]
theorem bl_range (a : ByteArray) : ∀ x ∈ bl a, 0 ≤ x ∧ x ≤ 255 := by
  intro x hx
  unfold bl at hx
  rw [List.mem_map] at hx
  obtain ⟨b, _, rfl⟩ := hx
  have := b.toNat_lt
  omega
theorem bl_inj {a b : ByteArray} (h : bl a = bl b) : a = b := by
  unfold bl at h
  have h2 : a.data.toList = b.data.toList := by
    refine List.map_inj_right (f := fun b : UInt8 => (b.toNat : Int)) ?_ |>.1 h
    intro x y e
    exact UInt8.toNat_inj.1 (by exact_mod_cast e)
  cases a with
  | mk x =>
    cases b with
    | mk y =>
      simp only at h2
      rw [Array.toList_inj.1 h2]
theorem in_eq (n lo hi : Int) : spec_l1In.f n lo hi = some (decide (lo ≤ n) && decide (n ≤ hi)) := by
  unfold spec_l1In.f
  by_cases h : n ≥ lo
  · rw [if_pos h]
    simp [show lo ≤ n from h]
  · rw [if_neg h]
    simp [show ¬ lo ≤ n from h]
theorem within_eq (n lo hi : Int) : impl_within.f n lo hi = some (decide (lo ≤ n) && decide (n ≤ hi)) := by
  unfold impl_within.f
  by_cases h : lo ≤ n
  · rw [if_pos h]
    simp [h]
  · rw [if_neg h]
    simp [h]
def inB (n lo hi : Int) : Bool := decide (lo ≤ n) && decide (n ≤ hi)
theorem inB_iff {n lo hi : Int} : inB n lo hi = true ↔ lo ≤ n ∧ n ≤ hi := by unfold inB; simp
theorem l1In_eq (n lo hi : Int) : spec_l1In.f n lo hi = some (inB n lo hi) := in_eq n lo hi
theorem wi_eq (n lo hi : Int) : impl_within.f n lo hi = some (inB n lo hi) := within_eq n lo hi
theorem ev_and {b r : Bool} {g : Nat → Option Bool} {f : Nat → Option Bool} (h : Ev g b) (k : b = true → Ev f r) : Ev (fun n => (g n).bind fun t => if t = true then f n else some false) (b && r) := by
  refine ev_bind h ?_
  cases b with
  | true => exact ev_pos rfl (k rfl)
  | false => exact ev_neg (by decide) (ev_some _)
theorem ev_and2 {b r : Bool} {g : Nat → Option Bool} {f E : Nat → Option Bool} (hE : Ev E false) (h : Ev g b) (k : b = true → Ev f r) : Ev (fun n => (g n).bind fun t => if t = true then f n else E n) (b && r) := by
  refine ev_bind h ?_
  cases b with
  | true => exact ev_pos rfl (k rfl)
  | false => exact ev_neg (by decide) hE
theorem ev_id {b : Bool} {g : Nat → Option Bool} (h : Ev g b) : Ev (fun n => (g n).bind fun t => some t) b := ev_bind h (ev_some _)
theorem dropWhile_all {α : Type} (p : α → Bool) : ∀ l : List α, (∀ x ∈ l.dropWhile p, p x = true) → l.dropWhile p = []
  | [], _ => rfl
  | a :: t, h => by
    by_cases ha : p a = true
    · rw [List.dropWhile_cons_of_pos ha] at h ⊢
      exact dropWhile_all p t h
    · rw [List.dropWhile_cons_of_neg ha] at h
      exact absurd (h a (List.mem_cons_self ..)) ha
theorem dropWhile_nil {α : Type} (p : α → Bool) : ∀ l : List α, l.dropWhile p = [] ↔ ∀ x ∈ l, p x = true
  | [] => by simp
  | a :: t => by
    by_cases ha : p a = true
    · rw [List.dropWhile_cons_of_pos ha, dropWhile_nil p t]
      simp [ha]
    · rw [List.dropWhile_cons_of_neg ha]
      simp [ha]
theorem trimS_nil (l cs : List UInt8) : Lib.trimS l cs = [] ↔ ∀ x ∈ l, cs.contains x = true := by
  unfold Lib.trimS Lib.trimLeftS Lib.trimRightS
  constructor
  · intro h
    rw [dropWhile_nil] at h
    have h2 : ∀ x ∈ l.reverse.dropWhile (cs.contains ·), cs.contains x = true := fun x hx => h x (List.mem_reverse.2 hx)
    have h3 := dropWhile_all (cs.contains ·) _ h2
    rw [dropWhile_nil] at h3
    exact fun x hx => h3 x (List.mem_reverse.2 hx)
  · intro h
    rw [dropWhile_nil]
    intro x hx
    rw [List.mem_reverse] at hx
    exact h x (List.mem_reverse.1 ((List.dropWhile_sublist _).subset hx))
theorem bl_all (a : ByteArray) (p : Int → Bool) : (bl a).all p = a.data.toList.all (fun b => p (b.toNat : Int)) := by
  unfold bl
  rw [List.all_map]
  rfl
theorem trim_empty (a c : ByteArray) (ha : a.size ≤ 140737488351232) (hc : c.size < 4294967281) (h8 : c.data.toList.all (fun b => decide (b.toNat < 128)) = true) (p : Int → Bool)
    (hp : ∀ b : UInt8, c.data.toList.contains b = p (b.toNat : Int)) : (strings_Trim.f a c).bind (fun t => some (t.toList == ([] : List UInt8))) = some ((bl a).all p) := by
  unfold strings_Trim.f
  rw [if_pos ⟨by omega, hc, h8⟩]
  show some _ = some _
  congr 1
  have e : ∀ l : List UInt8, (⟨l.toArray⟩ : ByteArray).toList = l := fun l => by rw [Lib.toList_data]
  rw [e, bl_all]
  rw [Bool.eq_iff_iff, beq_iff_eq, trimS_nil, List.all_eq_true]
  exact forall_congr' fun x => by rw [hp x]
def mirB (x : Int) : Bool := x == 46 || x == 90 || x == 83
def mazeOk (w h : Int) (c : ByteArray) : Bool := inB w 1 9 && (inB h 1 9 && (((c.size : Int) == wrap64 (w * h)) && (bl c).all mirB))
theorem miGood_loop (w h : Int) (c : ByteArray) (u : Bool) (hs : c.size ≤ 140737488351232) : ∀ (n i : Nat), i + n = c.size → Ev (fun k => spec_miGood.l0 k (i : Int) w h c u) (((bl c).drop i).all mirB)
  | 0, i, e => by
    refine ev_succ ?_
    simp only [spec_miGood.l0]
    have : i = c.size := by omega
    subst this
    rw [bl_drop_size, List.all_nil]
    exact ev_neg (by omega) (ev_some _)
  | n + 1, i, e => by
    refine ev_succ ?_
    simp only [spec_miGood.l0]
    have hw : wrap64 ((i : Int) + 1) = ((i + 1 : Nat) : Int) := by rw [w64 (by omega) (by omega)]; omega
    have ih := miGood_loop w h c u hs n (i + 1) (by omega)
    rw [hw, bl_drop c i (by omega), List.all_cons]
    refine ev_pos (by omega) (ev_pos (by omega) ?_)
    refine ev_ite (fun h1 => ?_) (fun h1 => ev_ite (fun h2 => ?_) (fun h2 => ev_ite (fun h3 => ?_) (fun h3 => ?_)))
    · rw [h1]; exact ih
    · rw [h2]; exact ih
    · rw [h3]; exact ih
    · have : mirB (bt c (i : Int)) = false := by unfold mirB; simp [h1, h2, h3]
      rw [this, Bool.false_and]
      exact ev_some _
theorem miGood_ev (w h : Int) (c : ByteArray) (u : Bool) (hs : c.size ≤ 140737488351232) : Ev (fun k => spec_miGood.f k w h c u) (mazeOk w h c) := by
  unfold spec_miGood.f mazeOk
  have hE : Ev (fun k => spec_miGood.j0 k true w h c u) false := by
    refine ev_succ ?_
    simp only [spec_miGood.j0]
    exact ev_pos (by first | rfl | trivial) (ev_some _)
  refine ev_and2 hE (ev_const (l1In_eq _ _ _)) fun _ => ev_and2 hE (ev_const (l1In_eq _ _ _)) fun _ => ?_
  refine ev_succ ?_
  simp only [spec_miGood.j0]
  have hl := miGood_loop w h c u hs c.size 0 (by omega)
  rw [List.drop_zero] at hl
  by_cases he : (c.size : Int) = wrap64 (w * h)
  · rw [show ((c.size : Int) == wrap64 (w * h)) = true from beq_iff_eq.2 he, Bool.true_and]
    exact ev_neg (by simp [he]) hl
  · rw [show ((c.size : Int) == wrap64 (w * h)) = false from beq_eq_false_iff_ne.2 he, Bool.false_and]
    exact ev_pos (by simp [he]) (ev_some _)
theorem mirs_has (b : UInt8) : (⟨#[46, 90, 83]⟩ : ByteArray).data.toList.contains b = mirB (b.toNat : Int) := by
  have h : ∀ n : Fin 256, (⟨#[46, 90, 83]⟩ : ByteArray).data.toList.contains (UInt8.ofNat n.val) = mirB (n.val : Int) := by decide +kernel
  have := h ⟨b.toNat, b.toNat_lt⟩
  rwa [UInt8.ofNat_toNat] at this
theorem implIsSize_eq (w h : Int) : impl_isSize.f w h = some (inB w 1 9 && inB h 1 9) := by
  unfold impl_isSize.f
  rw [wi_eq, wi_eq]
  cases inB w 1 9 <;> rfl
theorem implIsMaze_eq (w h : Int) (c : ByteArray) (u : Bool) (hs : c.size ≤ 140737488351232) : impl_IsMaze.f w h c u = some (mazeOk w h c) := by
  unfold impl_IsMaze.f mazeOk
  rw [implIsSize_eq]
  rw [trim_empty c _ hs (by decide) (by decide +kernel) mirB mirs_has]
  cases inB w 1 9 with
  | false => rfl
  | true =>
    cases inB h 1 9 with
    | false => rfl
    | true =>
      by_cases he : (c.size : Int) = wrap64 (w * h)
      · simp [he]
      · simp [he]
theorem toMaze_eq (w h : Int) (c : ByteArray) (u : Bool) : laws_toMaze.f w h c u = some (w, h, c, u) := rfl
theorem szMaze_ev (w h : Int) (c : ByteArray) (u : Bool) (m : Int) : ∃ t, laws_szMaze.f w h c u m = some t := by
  unfold laws_szMaze.f
  split <;> exact ⟨_, rfl⟩
def toB (cs : List Int) : ByteArray := strOfNums cs
def isByte (cs : List Int) : Prop := ∀ x ∈ cs, 0 ≤ x ∧ x ≤ 255
theorem bl_toB {cs : List Int} (h : isByte cs) : bl (toB cs) = cs := by
  unfold bl toB strOfNums
  simp only [List.map_map]
  rw [List.map_congr_left (g := id), List.map_id]
  intro x hx
  have := h x hx
  simp only [Function.comp, id]
  have e : (UInt8.ofNat x.toNat).toNat = x.toNat := by
    rw [UInt8.toNat_ofNat']
    exact Nat.mod_eq_of_lt (by show x.toNat < 256; omega)
  rw [e]
  omega
theorem toB_bl (c : ByteArray) : toB (bl c) = c := bl_inj (bl_toB (bl_range c))
theorem toB_size (cs : List Int) : (toB cs).size = cs.length := by
  show ((cs.map _).toArray).size = _
  simp
theorem bl_append (a b : ByteArray) : bl (a ++ b) = bl a ++ bl b := by
  unfold bl
  rw [ByteArray.data_append, Array.toList_append, List.map_append]
theorem bl_extract (a : ByteArray) (i j : Nat) : bl (a.extract i j) = ((bl a).take j).drop i := by
  unfold bl
  rw [ByteArray.data_extract, Array.toList_extract, List.extract_eq_take_drop, List.map_take, List.map_drop, List.drop_take]
theorem cut_put (c s : ByteArray) (v : Int) (i : Nat) (h : i < c.size) (hs : bl s = [v]) : (c.extract 0 i ++ s) ++ c.extract (i + 1) c.size = toB ((bl c).set i v) := by
  refine bl_inj ?_
  rw [bl_append, bl_append, bl_extract, bl_extract, hs, bl_toB, List.drop_zero]
  · rw [← bl_length, List.take_length, List.set_eq_take_append_cons_drop, if_pos (by rw [bl_length]; exact h), List.append_assoc]
    rfl
  · intro x hx
    rcases List.mem_or_eq_of_mem_set hx with hx | rfl
    · exact bl_range c x hx
    · exact bl_range s x (by rw [hs]; simp)
def swM (x : Int) : Int := if x = 90 then 83 else if x = 83 then 90 else x
theorem swM_eq : impl_exchanged_sw 90 83 = swM := by
  funext x
  unfold impl_exchanged_sw swM
  simp
theorem swM_byte {x : Int} (h : 0 ≤ x ∧ x ≤ 255) : 0 ≤ swM x ∧ swM x ≤ 255 := by
  unfold swM
  by_cases h1 : x = 90
  · rw [if_pos h1]; omega
  · rw [if_neg h1]
    by_cases h2 : x = 83
    · rw [if_pos h2]; omega
    · rw [if_neg h2]; exact h
theorem map_isByte (l : List Int) (h : isByte l) : isByte (l.map swM) := by
  intro x hx
  obtain ⟨y, hy, rfl⟩ := List.mem_map.1 hx
  exact swM_byte (h y hy)
theorem exch_eq (l : List Int) (h : isByte l) (hl : l.length ≤ 1000) : impl_exchanged.f (toB l) = some (toB (l.map swM)) := by
  unfold impl_exchanged.f
  rw [if_pos (by rw [toB_size]; omega), swM_eq]
  have : bytesOf (toB l) = l := bl_toB h
  rw [this]
  rfl
theorem miOther_eq {v : Int} (h : mirB v = true) : ∃ s, spec_miOther.f v = some s ∧ bl s = [swM v] ∧ s.size = 1 := by
  unfold mirB at h
  simp only [Bool.or_eq_true, beq_iff_eq] at h
  rcases h with (rfl | rfl) | rfl
  · exact ⟨_, rfl, rfl, rfl⟩
  · exact ⟨_, rfl, rfl, rfl⟩
  · exact ⟨_, rfl, rfl, rfl⟩
theorem bt_getD (c : ByteArray) (k : Nat) (h : k < c.size) : bt c (k : Int) = (bl c).getD k 0 := by
  rw [List.getD_eq_getElem?_getD, bl_get? c k h]
  rfl
theorem getD_byte (c : ByteArray) (k : Nat) : 0 ≤ (bl c).getD k 0 ∧ (bl c).getD k 0 ≤ 255 := by
  rw [List.getD_eq_getElem?_getD]
  cases e : (bl c)[k]? with
  | none => exact ⟨Int.le_refl _, by decide⟩
  | some x => exact bl_range c x (List.mem_of_getElem? e)
def Im (n : Nat) (inv : Nat → Nat) (C : List Int) (k : Nat) : List Int := (List.range n).map fun j => if inv j < k then C.getD (inv j) 0 else 0
theorem Im_length (n : Nat) (inv : Nat → Nat) (C : List Int) (k : Nat) : (Im n inv C k).length = n := by simp [Im]
theorem Im_at (n : Nat) (inv : Nat → Nat) (C : List Int) (k j : Nat) (h : j < n) : (Im n inv C k)[j]? = some (if inv j < k then C.getD (inv j) 0 else 0) := by
  unfold Im
  rw [List.getElem?_map, List.getElem?_range h]
  rfl
theorem Im_zero (n : Nat) (inv : Nat → Nat) (C : List Int) : Im n inv C 0 = List.replicate n 0 := by
  apply List.ext_getElem?
  intro j
  by_cases h : j < n
  · rw [Im_at _ _ _ _ _ h, if_neg (by omega), List.getElem?_replicate, if_pos h]
  · rw [List.getElem?_eq_none (by rw [Im_length]; omega), List.getElem?_eq_none (by rw [List.length_replicate]; omega)]
theorem Im_step {n : Nat} {ix inv : Nat → Nat} {C : List Int} {k : Nat} (h1 : ix k < n) (h2 : inv (ix k) = k) (h3 : ∀ j, j < n → ix (inv j) = j) : (Im n inv C k).set (ix k) (C.getD k 0) = Im n inv C (k + 1) := by
  apply List.ext_getElem?
  intro j
  by_cases h : j < n
  · by_cases e : ix k = j
    · rw [← e, List.getElem?_set_self (by rw [Im_length]; exact h1), Im_at _ _ _ _ _ h1, h2, if_pos (by omega)]
    · rw [List.getElem?_set_ne e, Im_at _ _ _ _ _ h, Im_at _ _ _ _ _ h]
      have : inv j ≠ k := fun he => e (by rw [← he]; exact h3 j h)
      by_cases hl : inv j < k
      · rw [if_pos hl, if_pos (by omega)]
      · rw [if_neg hl, if_neg (by omega)]
  · rw [List.getElem?_eq_none (by rw [List.length_set, Im_length]; omega), List.getElem?_eq_none (by rw [Im_length]; omega)]
def Out (n : Nat) (inv : Nat → Nat) (C : List Int) : List Int := (List.range n).map fun j => C.getD (inv j) 0
theorem Im_full {n : Nat} {inv : Nat → Nat} {C : List Int} (h4 : ∀ j, j < n → inv j < n) : Im n inv C n = Out n inv C := by
  unfold Im Out
  refine List.map_congr_left fun j hj => ?_
  rw [if_pos (h4 j (List.mem_range.1 hj))]
theorem Out_succ (n : Nat) (inv : Nat → Nat) (C : List Int) : Out (n + 1) inv C = Out n inv C ++ [C.getD (inv n) 0] := by
  unfold Out
  rw [List.range_succ, List.map_append]
  rfl
theorem Out_byte (n : Nat) (inv : Nat → Nat) (c : ByteArray) : isByte (Out n inv (bl c)) := by
  intro x hx
  obtain ⟨j, _, rfl⟩ := List.mem_map.1 hx
  exact getD_byte c _
theorem Out_length (n : Nat) (inv : Nat → Nat) (C : List Int) : (Out n inv C).length = n := by simp [Out]
theorem moved_loop (c : ByteArray) (x1 x2 x4 : Int) (n : Nat) (ix inv : Nat → Nat) (hc : c.size = n) (hn : n ≤ 81) (hx1 : ¬ x1 = 0)
    (hcl : ∀ k : Nat, k < n → ∃ p q, impl_TurnMaze_1.f (Int.tmod (k : Int) x1) (wrap64 (Int.tdiv (k : Int) x1)) x4 = some (p, q) ∧ wrap64 ((wrap64 (q * x2)) + p) = ((ix k : Nat) : Int))
    (h1 : ∀ k, k < n → ix k < n ∧ inv (ix k) = k) (h3 : ∀ j, j < n → ix (inv j) = j) : ∀ m k, k + m = n → Ev (fun q => impl_moved.l0 q c x1 x2 x4 (Im n inv (bl c) k) (n : Int) (k : Int)) (toB (Im n inv (bl c) n))
  | 0, k, e => by
    obtain rfl : k = n := by omega
    refine ev_succ ?_
    simp only [impl_moved.l0]
    exact ev_neg (by omega) (ev_some _)
  | m + 1, k, e => by
    have hk : k < n := by omega
    obtain ⟨p, q, hf, hi⟩ := hcl k hk
    obtain ⟨i1, i2⟩ := h1 k hk
    have ih := moved_loop c x1 x2 x4 n ix inv hc hn hx1 hcl h1 h3 m (k + 1) (by omega)
    refine ev_succ ?_
    simp only [impl_moved.l0]
    rw [hf]
    refine ev_pos (by omega) (ev_neg hx1 (ev_bind (ev_some _) ?_))
    show Ev (fun q_ => if 0 ≤ (k : Int) then _ else _) _
    rw [hi, Im_length, w64 (x := (k : Int) + 1) (by omega) (by omega), Int.toNat_natCast, bt_getD c k (by omega), Im_step i1 i2 h3]
    exact ev_pos (by omega) (ev_pos (by omega) (ev_pos (by omega) (ev_pos (by omega) ih)))
def Acc (inv : Nat → Nat) (c : ByteArray) (j : Nat) : ByteArray := toB ((Out j inv (bl c)).map swM)
theorem Acc_step {inv : Nat → Nat} {c s : ByteArray} {j : Nat} (hs : bl s = [swM ((bl c).getD (inv j) 0)]) : Acc inv c j ++ s = Acc inv c (j + 1) := by
  unfold Acc
  refine bl_inj ?_
  rw [bl_append, bl_toB (map_isByte _ (Out_byte _ _ _)), hs, bl_toB (map_isByte _ (Out_byte _ _ _)), Out_succ, List.map_append]
  rfl
theorem Acc_size (inv : Nat → Nat) (c : ByteArray) (j : Nat) : (Acc inv c j).size = j := by
  unfold Acc
  rw [toB_size, List.length_map, Out_length]
theorem mazeN {w h : Int} {c : ByteArray} (hb : mazeOk w h c = true) : ∃ W H : Nat, w = (W : Int) ∧ h = (H : Int) ∧ 1 ≤ W ∧ W ≤ 9 ∧ 1 ≤ H ∧ H ≤ 9 ∧ c.size = W * H ∧ W * H ≤ 81 ∧ ∀ i, i < c.size → mirB ((bl c).getD i 0) = true := by
  unfold mazeOk at hb
  simp only [Bool.and_eq_true, inB_iff, beq_iff_eq, List.all_eq_true] at hb
  obtain ⟨a, b, e, hm⟩ := hb
  obtain ⟨W, rfl⟩ := Int.eq_ofNat_of_zero_le (show 0 ≤ w by omega)
  obtain ⟨H, rfl⟩ := Int.eq_ofNat_of_zero_le (show 0 ≤ h by omega)
  have h81 : W * H ≤ 9 * 9 := Nat.mul_le_mul (by omega) (by omega)
  refine ⟨W, H, rfl, rfl, by omega, by omega, by omega, by omega, ?_, by omega, fun i hi => ?_⟩
  · rw [← Int.natCast_mul] at e
    generalize W * H = a at *
    rw [w64 (by omega) (by omega)] at e
    omega
  · refine hm _ ?_
    rw [List.getD_eq_getElem?_getD, List.getElem?_eq_getElem (by rw [bl_length]; exact hi)]
    exact List.getElem_mem _
theorem eqMaze_self (a b : Int) (c : ByteArray) (v : Bool) : laws_eqMaze.f a b c v a b c v = some true := by
  simp [laws_eqMaze.f]
def ixT (w h k : Nat) : Nat := (k % w) * h + (h - 1 - k / w)
def inT (w h j : Nat) : Nat := (h - 1 - j % h) * w + j / h
theorem div_at {w x : Nat} (y : Nat) (hx : x < w) : (y * w + x) / w = y ∧ (y * w + x) % w = x := by
  constructor
  · rw [Nat.mul_comm y w, Nat.mul_add_div (by omega), Nat.div_eq_of_lt hx, Nat.add_zero]
  · rw [Nat.mul_comm y w, Nat.mul_add_mod, Nat.mod_eq_of_lt hx]
theorem ixT_at {w x : Nat} (h y : Nat) (hx : x < w) : ixT w h (y * w + x) = x * h + (h - 1 - y) := by
  unfold ixT
  rw [(div_at y hx).1, (div_at y hx).2]
theorem inT_at {h x : Nat} (w y : Nat) (hx : x < h) : inT w h (y * h + x) = (h - 1 - x) * w + y := by
  unfold inT
  rw [(div_at y hx).1, (div_at y hx).2]
theorem row_lt {w h x y : Nat} (hx : x < w) (hy : y < h) : y * w + x < w * h := by
  have : (y + 1) * w ≤ h * w := Nat.mul_le_mul_right w hy
  rw [Nat.add_mul, Nat.one_mul, Nat.mul_comm h w] at this
  omega
theorem split_ {w h k : Nat} (hw : 0 < w) (hk : k < w * h) : ∃ x y, k = y * w + x ∧ x < w ∧ y < h := by
  refine ⟨k % w, k / w, ?_, Nat.mod_lt _ hw, Nat.div_lt_of_lt_mul hk⟩
  have := Nat.div_add_mod k w
  rw [Nat.mul_comm] at this
  exact this.symm
theorem ixT_ok {w h k : Nat} (hw : 0 < w) (hk : k < w * h) : ixT w h k < w * h ∧ inT w h (ixT w h k) = k := by
  obtain ⟨x, y, rfl, hx, hy⟩ := split_ hw hk
  rw [ixT_at h y hx]
  refine ⟨?_, ?_⟩
  · rw [Nat.mul_comm w h]
    exact row_lt (by omega) hx
  · rw [inT_at w x (by omega), show h - 1 - (h - 1 - y) = y by omega]
theorem inT_ok {w h j : Nat} (hh : 0 < h) (hj : j < w * h) : inT w h j < w * h ∧ ixT w h (inT w h j) = j := by
  rw [Nat.mul_comm w h] at hj
  obtain ⟨x, y, rfl, hx, hy⟩ := split_ hh hj
  rw [inT_at w y hx]
  refine ⟨row_lt hy (by omega), ?_⟩
  rw [ixT_at h _ hy, show h - 1 - (h - 1 - x) = x by omega]
theorem idx_at {W H x y : Nat} (a : Nat) (hx : (x : Int) < (H : Int)) (h9 : H ≤ 9) (ha : a = (H - 1 - x) * W) (hb : a + y < 81) : wrap64 ((wrap64 ((wrap64 ((wrap64 ((H : Int) - 1)) - (x : Int))) * (W : Int))) + (y : Int)) = ((a + y : Nat) : Int) := by
  have e5 : (H : Int) - 1 - (x : Int) = ((H - 1 - x : Nat) : Int) := by omega
  rw [w64 (x := (H : Int) - 1) (by omega) (by omega), w64 (x := (H : Int) - 1 - (x : Int)) (by omega) (by omega), e5, ← Int.natCast_mul, ← ha]
  clear e5 ha
  rw [w64 (x := (a : Int)) (by omega) (by omega), w64 (by omega) (by omega)]
  omega
theorem spec_row {W H : Nat} {c : ByteArray} {u : Bool} (hc : c.size = W * H) (hn : W * H ≤ 81) (w9 : W ≤ 9) (h9 : H ≤ 9) (hm : ∀ i, i < c.size → mirB ((bl c).getD i 0) = true) {y : Nat} (hy : y < W) {z : Int × Int × ByteArray × Bool × Bool}
    (hz : Ev (fun k => spec_TurnMaze.l0 k ((y + 1 : Nat) : Int) (W : Int) (H : Int) c u (H : Int) (W : Int) (Acc (inT W H) c ((y + 1) * H)) u) z) :
    ∀ m x, x + m = H → Ev (fun k => spec_TurnMaze.l1 k (y : Int) (x : Int) (W : Int) (H : Int) c u (H : Int) (W : Int) (Acc (inT W H) c (y * H + x)) u) z
  | 0, x, e => by
    obtain rfl : x = H := by omega
    refine ev_succ ?_
    simp only [spec_TurnMaze.l1]
    rw [w64 (x := (y : Int) + 1) (by omega) (by omega), show y * x + x = (y + 1) * x by rw [Nat.add_mul, Nat.one_mul]]
    exact ev_neg (by omega) hz
  | m + 1, x, e => by
    have ih := spec_row hc hn w9 h9 hm hy hz m (x + 1) (by omega)
    have hlt : (H - 1 - x) * W + y < W * H := row_lt hy (by omega)
    have hj : inT W H (y * H + x) = (H - 1 - x) * W + y := inT_at W y (by omega)
    have hlt2 : y * H + x < H * W := row_lt (by omega) hy
    obtain ⟨s, e1, e2, e3⟩ := miOther_eq (hm ((H - 1 - x) * W + y) (by omega))
    refine ev_succ ?_
    simp only [spec_TurnMaze.l1]
    have eb : bt c (((H - 1 - x) * W + y : Nat) : Int) = (bl c).getD ((H - 1 - x) * W + y) 0 := bt_getD c ((H - 1 - x) * W + y) (by omega)
    have ew : wrap64 ((x : Int) + 1) = ((x + 1 : Nat) : Int) := by rw [w64 (by omega) (by omega)]; omega
    have g0 : (x : Int) < (H : Int) := by omega
    have g1 : (0 : Int) ≤ (((H - 1 - x) * W + y : Nat) : Int) := Int.natCast_nonneg _
    have g2 : (((H - 1 - x) * W + y : Nat) : Int) < (c.size : Int) := by rw [hc]; exact Int.ofNat_lt.2 hlt
    have g4 : y * H + x + 1 ≤ 9223372036854775807 := Nat.le_trans (Nat.succ_le_of_lt hlt2) (by rw [Nat.mul_comm H W]; exact Nat.le_trans hn (by decide))
    have ei := idx_at (W := W) (H := H) (x := x) (y := y) _ g0 h9 rfl (Nat.lt_of_lt_of_le hlt hn)
    rw [ei, eb, e1, ew]
    refine ev_pos g0 (ev_pos g1 (ev_pos g2 (ev_bind (ev_some _) ?_)))
    rw [e3, Acc_size, Acc_step (by rw [hj]; exact e2)]
    refine ev_pos g4 ?_
    exact ih
theorem spec_all {W H : Nat} {c : ByteArray} {u : Bool} (hc : c.size = W * H) (hn : W * H ≤ 81) (w9 : W ≤ 9) (h9 : H ≤ 9) (hm : ∀ i, i < c.size → mirB ((bl c).getD i 0) = true) : ∀ m y, y + m = W →
    Ev (fun k => spec_TurnMaze.l0 k (y : Int) (W : Int) (H : Int) c u (H : Int) (W : Int) (Acc (inT W H) c (y * H)) u) ((H : Int), (W : Int), Acc (inT W H) c (W * H), u, true)
  | 0, y, e => by
    obtain rfl : y = W := by omega
    refine ev_succ ?_
    simp only [spec_TurnMaze.l0]
    exact ev_neg (by omega) (ev_some _)
  | m + 1, y, e => by
    have ih := spec_all (u := u) hc hn w9 h9 hm m (y + 1) (by omega)
    have hr := spec_row hc hn w9 h9 hm (show y < W by omega) ih H 0 (by omega)
    refine ev_succ ?_
    simp only [spec_TurnMaze.l0]
    rw [Nat.add_zero] at hr
    exact ev_pos (by omega) hr
theorem clos {W H k : Nat} (w1 : 1 ≤ W) (w9 : W ≤ 9) (h9 : H ≤ 9) (hk : k < W * H) (hn : W * H ≤ 81) : ∃ p q, impl_TurnMaze_1.f (Int.tmod (k : Int) (W : Int)) (wrap64 (Int.tdiv (k : Int) (W : Int))) (H : Int) = some (p, q) ∧ wrap64 ((wrap64 (q * (H : Int))) + p) = ((ixT W H k : Nat) : Int) := by
  obtain ⟨x, y, rfl, hx, hy⟩ := split_ (by omega) hk
  have m1 : Int.tmod ((y * W + x : Nat) : Int) (W : Int) = (x : Int) := congrArg (fun n : Nat => (n : Int)) (div_at y hx).2
  have d0 : Int.tdiv ((y * W + x : Nat) : Int) (W : Int) = (y : Int) := congrArg (fun n : Nat => (n : Int)) (div_at y hx).1
  refine ⟨(H : Int) - 1 - (y : Int), (x : Int), ?_, ?_⟩
  · rw [m1, d0]
    clear m1 d0
    unfold impl_TurnMaze_1.f
    rw [w64 (x := (y : Int)) (by omega) (by omega), w64 (x := (H : Int) - 1) (by omega) (by omega), w64 (by omega) (by omega)]
  · have hl := row_lt (w := H) (h := W) (x := H - 1 - y) (by omega) hx
    rw [ixT_at H y hx, ← Int.natCast_mul]
    rw [Nat.mul_comm W H] at hn
    clear m1 d0
    generalize x * H = a at *
    rw [w64 (x := (a : Int)) (by omega) (by omega), w64 (by omega) (by omega)]
    omega
theorem FnExactTurnMaze : LawHolds := by
  intro w h c u hw hh hc hu
  refine ev_out (g := fun k => laws_FnExactTurnMaze.f k w h c u) ?_
  obtain ⟨t, ht⟩ := szMaze_ev w h c u 1048576
  have hto := ev_const (toMaze_eq w h c u)
  unfold laws_FnExactTurnMaze.f
  refine ev_bind (ev_const ht) (ev_ite (fun _ => ev_some _) (fun _ => ev_bind hto ?_))
  have h1 := miGood_ev w h c u hc
  have h2 := implIsMaze_eq w h c u hc
  have both : ∃ z : Int × Int × ByteArray × Bool × Bool, Ev (fun k => spec_TurnMaze.f k w h c u) z ∧ Ev (fun k => impl_TurnMaze.f k w h c u) z := by
    unfold spec_TurnMaze.f impl_TurnMaze.f
    cases hb : mazeOk w h c with
    | false =>
      rw [hb] at h1 h2
      exact ⟨_, ev_bind h1 (ev_neg (by decide) (ev_some _)), ev_bind (ev_const h2) (ev_neg (by decide) (ev_some _))⟩
    | true =>
      rw [hb] at h1 h2
      obtain ⟨W, H, rfl, rfl, w1, w9, z1, z9, hcs, hn, hm⟩ := mazeN hb
      have hs := spec_all (u := u) hcs hn w9 z9 hm W 0 (by omega)
      rw [Nat.zero_mul] at hs
      refine ⟨_, ev_bind h1 (ev_pos rfl hs), ev_bind (ev_const h2) (ev_pos rfl ?_)⟩
      have hl := moved_loop c (W : Int) (H : Int) (H : Int) (W * H) (ixT W H) (inT W H) hcs hn (by omega) (fun k hk => clos w1 w9 z9 hk hn) (fun k hk => ixT_ok (by omega) hk) (fun j hj => (inT_ok (by omega) hj).2) (W * H) 0 (by omega)
      have e1 : wrap64 ((H : Int) * (W : Int)) = ((W * H : Nat) : Int) := by
        rw [← Int.natCast_mul, Nat.mul_comm H W]
        clear hl hs
        generalize W * H = a at *
        exact w64 (by omega) (by omega)
      rw [Im_full (fun j hj => (inT_ok (by omega) hj).1), Im_zero] at hl
      have hmv : Ev (fun k => impl_moved.f k c (W : Int) (H : Int) (W : Int) (H : Int)) (toB (Out (W * H) (inT W H) (bl c))) := by
        unfold impl_moved.f
        rw [e1]
        clear e1
        refine ev_pos (Int.natCast_nonneg _) (ev_pos (by rw [Int.toNat_natCast]; omega) ?_)
        rw [Int.toNat_natCast, hcs]
        exact hl
      refine ev_bind hmv (ev_bind (ev_const (exch_eq _ (Out_byte _ _ _) (by rw [Out_length]; omega))) (ev_some _))
  obtain ⟨z, hz1, hz2⟩ := both
  exact ev_bind hz1 (ev_bind hto (ev_bind hz2 (ev_bind (ev_const (eqMaze_self ..)) (ev_pos rfl (ev_neg (by simp) (ev_some _))))))

end Go.Proofs.YtdicnggfigedoaaGreatDoor.Pure
