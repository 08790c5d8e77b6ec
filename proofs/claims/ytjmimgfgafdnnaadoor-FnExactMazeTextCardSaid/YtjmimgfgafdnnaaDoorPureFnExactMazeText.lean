/- MazeText of the program and of the reference agree at every maze. Conditions: those of reading alone. -/
import Derived.Test.YtjmimgfgafdnnaaDoorQFnExactMazeText
namespace Go.Proofs.YtjmimgfgafdnnaaDoor.Pure
open Go.RowKit Go.Proofs.YtjmimgfgafdnnaaDoor.PFnExactMazeText Go.Proofs.YtjmimgfgafdnnaaDoorW.PrintWords Go.Proofs.YtjmimgfgafdnnaaDoorW.PrintLast
set_option linter.unusedVariables false
set_option linter.unusedSimpArgs false
theorem ev_succ {α : Type} {g : Nat → Option α} {r : α} (h : Ev (fun k => g (k + 1)) r) : Ev g r := by
  obtain ⟨K, h⟩ := h
  refine ⟨K + 1, fun k hk => ?_⟩
  obtain ⟨j, rfl⟩ : ∃ j, k = j + 1 := ⟨k - 1, by omega⟩
  exact h j (by omega)
theorem ev_some {α : Type} (r : α) : Ev (fun _ => some r) r := ⟨0, fun _ _ => rfl⟩
theorem ev_const {α : Type} {x : Option α} {r : α} (h : x = some r) : Ev (fun _ => x) r := ⟨0, fun _ _ => h⟩
theorem ev_bind {α β : Type} {g : Nat → Option α} {f : Nat → α → Option β} {a : α} {r : β} (h : Ev g a) (k : Ev (fun n => f n a) r) : Ev (fun n => (g n).bind (f n)) r := by
  obtain ⟨K, h⟩ := h
  obtain ⟨L, k⟩ := k
  exact ⟨max K L, fun n hn => by show (g n).bind (f n) = some r; rw [h n (by omega)]; exact k n (by omega)⟩
theorem ev_pos {α : Type} {c : Prop} [Decidable c] {f g : Nat → Option α} {r : α} (hc : c) (h : Ev f r) : Ev (fun k => if c then f k else g k) r := by
  obtain ⟨K, h⟩ := h
  exact ⟨K, fun n hn => by show (if c then f n else g n) = some r; rw [if_pos hc]; exact h n hn⟩
theorem ev_neg {α : Type} {c : Prop} [Decidable c] {f g : Nat → Option α} {r : α} (hc : ¬ c) (h : Ev g r) : Ev (fun k => if c then f k else g k) r := by
  obtain ⟨K, h⟩ := h
  exact ⟨K, fun n hn => by show (if c then f n else g n) = some r; rw [if_neg hc]; exact h n hn⟩
theorem ev_ite {α : Type} {c : Prop} [Decidable c] {f g : Nat → Option α} {r : α} (h1 : c → Ev f r) (h2 : ¬ c → Ev g r) : Ev (fun k => if c then f k else g k) r := by
  by_cases hc : c
  · exact ev_pos hc (h1 hc)
  · exact ev_neg hc (h2 hc)
theorem ev_out {α : Type} {g : Nat → Option α} {r : α} (h : Ev g r) : ∃ k, g k = some r := by
  obtain ⟨K, h⟩ := h
  exact ⟨K, h K (Nat.le_refl _)⟩
theorem ev_uni {α : Type} {g : Nat → Option α} {r r' : α} (h : Ev g r) (h' : Ev g r') : r = r' := by
  obtain ⟨K, h⟩ := h
  obtain ⟨L, h'⟩ := h'
  have := (h (max K L) (by omega)).symm.trans (h' (max K L) (by omega))
  exact Option.some.inj this
theorem w64 {x : Int} (h1 : -9223372036854775808 ≤ x) (h2 : x ≤ 9223372036854775807) : wrap64 x = x := by
  unfold wrap64
  omega
theorem i64_range {x : Int} (h : (Lit.int .i64 x).wf = true) : -9223372036854775808 ≤ x ∧ x ≤ 9223372036854775807 := by
  have e1 : IntKind.i64.min = -9223372036854775808 := by decide
  have e2 : IntKind.i64.max = 9223372036854775807 := by decide
  have h' : IntKind.i64.min ≤ x ∧ x ≤ IntKind.i64.max := by simpa [Lit.wf] using h
  omega
theorem maxLen_eq : maxLen = 9223372036854775807 := rfl
def bl (a : ByteArray) : List Int := a.data.toList.map (fun b => (b.toNat : Int))
theorem size_data (a : ByteArray) : a.data.toList.length = a.size := by
  rw [Array.length_toList]
  rfl
theorem bl_length (a : ByteArray) : (bl a).length = a.size := by
  unfold bl
  rw [List.length_map, size_data]
theorem bl_get? (a : ByteArray) (i : Nat) (h : i < a.size) : (bl a)[i]? = some (bt a (i : Int)) := by
  unfold bl bt
  rw [List.getElem?_map, Array.getElem?_toList]
  have e : ((i : Int)).toNat = i := Int.toNat_natCast i
  have h2 : a.data[i]? = some (a.data[i]'h) := Array.getElem?_eq_getElem h
  rw [h2, dif_pos (by rw [e]; exact h)]
  simp only [e]
  rfl
theorem bl_get (a : ByteArray) (i : Nat) (h : i < (bl a).length) : (bl a)[i] = bt a (i : Int) := by
  have h2 := bl_get? a i (by rw [← bl_length]; exact h)
  rw [List.getElem?_eq_getElem h] at h2
  exact Option.some.inj h2
theorem bl_drop (a : ByteArray) (i : Nat) (h : i < a.size) : (bl a).drop i = bt a (i : Int) :: (bl a).drop (i + 1) := by
  have h' : i < (bl a).length := by rw [bl_length]; exact h
  rw [List.drop_eq_getElem_cons h', bl_get a i h']
theorem bl_drop_size (a : ByteArray) : (bl a).drop a.size = [] := by
  rw [List.drop_eq_nil_iff, bl_length]
  exact Nat.le_refl _
theorem bt_at_nat (a : ByteArray) (x : Int) (h : 0 ≤ x) : bt a x = bt a ((x.toNat : Nat) : Int) := by
  rw [Int.toNat_of_nonneg h]
theorem bl_range (a : ByteArray) : ∀ x ∈ bl a, 0 ≤ x ∧ x ≤ 255 := by
  intro x hx
  unfold bl at hx
  rw [List.mem_map] at hx
  obtain ⟨b, _, rfl⟩ := hx
  have := b.toNat_lt
  omega
theorem bl_inj {a b : ByteArray} (h : bl a = bl b) : a = b := by
  unfold bl at h
  have h2 : a.data.toList = b.data.toList := by
    refine List.map_inj_right (f := fun b : UInt8 => (b.toNat : Int)) ?_ |>.1 h
    intro x y e
    exact UInt8.toNat_inj.1 (by exact_mod_cast e)
  cases a with
  | mk x =>
    cases b with
    | mk y =>
      simp only at h2
      rw [Array.toList_inj.1 h2]
theorem in_eq (n lo hi : Int) : spec_l1In.f n lo hi = some (decide (lo ≤ n) && decide (n ≤ hi)) := by
  unfold spec_l1In.f
  by_cases h : n ≥ lo
  · rw [if_pos h]
    simp [show lo ≤ n from h]
  · rw [if_neg h]
    simp [show ¬ lo ≤ n from h]
theorem within_eq (n lo hi : Int) : impl_within.f n lo hi = some (decide (lo ≤ n) && decide (n ≤ hi)) := by
  unfold impl_within.f
  by_cases h : lo ≤ n
  · rw [if_pos h]
    simp [h]
  · rw [if_neg h]
    simp [h]
def inB (n lo hi : Int) : Bool := decide (lo ≤ n) && decide (n ≤ hi)
theorem inB_iff {n lo hi : Int} : inB n lo hi = true ↔ lo ≤ n ∧ n ≤ hi := by unfold inB; simp
theorem l1In_eq (n lo hi : Int) : spec_l1In.f n lo hi = some (inB n lo hi) := in_eq n lo hi
theorem wi_eq (n lo hi : Int) : impl_within.f n lo hi = some (inB n lo hi) := within_eq n lo hi
theorem ev_and {b r : Bool} {g : Nat → Option Bool} {f : Nat → Option Bool} (h : Ev g b) (k : b = true → Ev f r) : Ev (fun n => (g n).bind fun t => if t = true then f n else some false) (b && r) := by
  refine ev_bind h ?_
  cases b with
  | true => exact ev_pos rfl (k rfl)
  | false => exact ev_neg (by decide) (ev_some _)
theorem ev_and2 {b r : Bool} {g : Nat → Option Bool} {f E : Nat → Option Bool} (hE : Ev E false) (h : Ev g b) (k : b = true → Ev f r) : Ev (fun n => (g n).bind fun t => if t = true then f n else E n) (b && r) := by
  refine ev_bind h ?_
  cases b with
  | true => exact ev_pos rfl (k rfl)
  | false => exact ev_neg (by decide) hE
theorem ev_id {b : Bool} {g : Nat → Option Bool} (h : Ev g b) : Ev (fun n => (g n).bind fun t => some t) b := ev_bind h (ev_some _)
theorem dropWhile_all {α : Type} (p : α → Bool) : ∀ l : List α, (∀ x ∈ l.dropWhile p, p x = true) → l.dropWhile p = []
  | [], _ => rfl
  | a :: t, h => by
    by_cases ha : p a = true
    · rw [List.dropWhile_cons_of_pos ha] at h ⊢
      exact dropWhile_all p t h
    · rw [List.dropWhile_cons_of_neg ha] at h
      exact absurd (h a (List.mem_cons_self ..)) ha
theorem dropWhile_nil {α : Type} (p : α → Bool) : ∀ l : List α, l.dropWhile p = [] ↔ ∀ x ∈ l, p x = true
  | [] => by simp
  | a :: t => by
    by_cases ha : p a = true
    · rw [List.dropWhile_cons_of_pos ha, dropWhile_nil p t]
      simp [ha]
    · rw [List.dropWhile_cons_of_neg ha]
      simp [ha]
theorem trimS_nil (l cs : List UInt8) : Lib.trimS l cs = [] ↔ ∀ x ∈ l, cs.contains x = true := by
  unfold Lib.trimS Lib.trimLeftS Lib.trimRightS
  constructor
  · intro h
    rw [dropWhile_nil] at h
    have h2 : ∀ x ∈ l.reverse.dropWhile (cs.contains ·), cs.contains x = true := fun x hx => h x (List.mem_reverse.2 hx)
    have h3 := dropWhile_all (cs.contains ·) _ h2
    rw [dropWhile_nil] at h3
    exact fun x hx => h3 x (List.mem_reverse.2 hx)
  · intro h
    rw [dropWhile_nil]
    intro x hx
    rw [List.mem_reverse] at hx
    exact h x (List.mem_reverse.1 ((List.dropWhile_sublist _).subset hx))
theorem bl_all (a : ByteArray) (p : Int → Bool) : (bl a).all p = a.data.toList.all (fun b => p (b.toNat : Int)) := by
  unfold bl
  rw [List.all_map]
  rfl
theorem trim_empty (a c : ByteArray) (ha : a.size ≤ 140737488351232) (hc : c.size < 4294967281) (h8 : c.data.toList.all (fun b => decide (b.toNat < 128)) = true) (p : Int → Bool)
    (hp : ∀ b : UInt8, c.data.toList.contains b = p (b.toNat : Int)) : (strings_Trim.f a c).bind (fun t => some (t.toList == ([] : List UInt8))) = some ((bl a).all p) := by
  unfold strings_Trim.f
  rw [if_pos ⟨by omega, hc, h8⟩]
  show some _ = some _
  congr 1
  have e : ∀ l : List UInt8, (⟨l.toArray⟩ : ByteArray).toList = l := fun l => by rw [Lib.toList_data]
  rw [e, bl_all]
  rw [Bool.eq_iff_iff, beq_iff_eq, trimS_nil, List.all_eq_true]
  exact forall_congr' fun x => by rw [hp x]
def mirB (x : Int) : Bool := x == 46 || x == 90 || x == 83
def mazeOk (w h : Int) (c : ByteArray) : Bool := inB w 1 9 && (inB h 1 9 && (((c.size : Int) == wrap64 (w * h)) && (bl c).all mirB))
theorem miGood_loop (w h : Int) (c : ByteArray) (u : Bool) (hs : c.size ≤ 140737488351232) : ∀ (n i : Nat), i + n = c.size → Ev (fun k => spec_miGood.l0 k (i : Int) w h c u) (((bl c).drop i).all mirB)
  | 0, i, e => by
    refine ev_succ ?_
    simp only [spec_miGood.l0]
    have : i = c.size := by omega
    subst this
    rw [bl_drop_size, List.all_nil]
    exact ev_neg (by omega) (ev_some _)
  | n + 1, i, e => by
    refine ev_succ ?_
    simp only [spec_miGood.l0]
    have hw : wrap64 ((i : Int) + 1) = ((i + 1 : Nat) : Int) := by rw [w64 (by omega) (by omega)]; omega
    have ih := miGood_loop w h c u hs n (i + 1) (by omega)
    rw [hw, bl_drop c i (by omega), List.all_cons]
    refine ev_pos (by omega) (ev_pos (by omega) ?_)
    refine ev_ite (fun h1 => ?_) (fun h1 => ev_ite (fun h2 => ?_) (fun h2 => ev_ite (fun h3 => ?_) (fun h3 => ?_)))
    · rw [h1]; exact ih
    · rw [h2]; exact ih
    · rw [h3]; exact ih
    · have : mirB (bt c (i : Int)) = false := by unfold mirB; simp [h1, h2, h3]
      rw [this, Bool.false_and]
      exact ev_some _
theorem miGood_ev (w h : Int) (c : ByteArray) (u : Bool) (hs : c.size ≤ 140737488351232) : Ev (fun k => spec_miGood.f k w h c u) (mazeOk w h c) := by
  unfold spec_miGood.f mazeOk
  have hE : Ev (fun k => spec_miGood.j0 k true w h c u) false := by
    refine ev_succ ?_
    simp only [spec_miGood.j0]
    exact ev_pos (by first | rfl | trivial) (ev_some _)
  refine ev_and2 hE (ev_const (l1In_eq _ _ _)) fun _ => ev_and2 hE (ev_const (l1In_eq _ _ _)) fun _ => ?_
  refine ev_succ ?_
  simp only [spec_miGood.j0]
  have hl := miGood_loop w h c u hs c.size 0 (by omega)
  rw [List.drop_zero] at hl
  by_cases he : (c.size : Int) = wrap64 (w * h)
  · rw [show ((c.size : Int) == wrap64 (w * h)) = true from beq_iff_eq.2 he, Bool.true_and]
    exact ev_neg (by simp [he]) hl
  · rw [show ((c.size : Int) == wrap64 (w * h)) = false from beq_eq_false_iff_ne.2 he, Bool.false_and]
    exact ev_pos (by simp [he]) (ev_some _)
theorem mirs_has (b : UInt8) : (⟨#[46, 90, 83]⟩ : ByteArray).data.toList.contains b = mirB (b.toNat : Int) := by
  have h : ∀ n : Fin 256, (⟨#[46, 90, 83]⟩ : ByteArray).data.toList.contains (UInt8.ofNat n.val) = mirB (n.val : Int) := by decide +kernel
  have := h ⟨b.toNat, b.toNat_lt⟩
  rwa [UInt8.ofNat_toNat] at this
theorem implIsSize_eq (w h : Int) : impl_isSize.f w h = some (inB w 1 9 && inB h 1 9) := by
  unfold impl_isSize.f
  rw [wi_eq, wi_eq]
  cases inB w 1 9 <;> rfl
theorem implIsMaze_eq (w h : Int) (c : ByteArray) (u : Bool) (hs : c.size ≤ 140737488351232) : impl_IsMaze.f w h c u = some (mazeOk w h c) := by
  unfold impl_IsMaze.f mazeOk
  rw [implIsSize_eq]
  rw [trim_empty c _ hs (by decide) (by decide +kernel) mirB mirs_has]
  cases inB w 1 9 with
  | false => rfl
  | true =>
    cases inB h 1 9 with
    | false => rfl
    | true =>
      by_cases he : (c.size : Int) = wrap64 (w * h)
      · simp [he]
      · simp [he]
theorem toMaze_eq (w h : Int) (c : ByteArray) (u : Bool) : laws_toMaze.f w h c u = some (w, h, c, u) := rfl
theorem szMaze_ev (w h : Int) (c : ByteArray) (u : Bool) (m : Int) : ∃ t, laws_szMaze.f w h c u m = some t := by
  unfold laws_szMaze.f
  split <;> exact ⟨_, rfl⟩
theorem ba_ext {a b : ByteArray} (h : a.data.toList = b.data.toList) : a = b := by
  obtain ⟨⟨x⟩⟩ := a
  obtain ⟨⟨y⟩⟩ := b
  have : x = y := h
  rw [this]
def dB (v : Int) : UInt8 := UInt8.ofNat (48 + v.toNat)
def dig (v : Int) : ByteArray := ⟨#[dB v]⟩
theorem dig_size (v : Int) : (dig v).size = 1 := rfl
theorem one_size (b : UInt8) : (⟨#[b]⟩ : ByteArray).size = 1 := rfl
theorem dig_list (v : Int) : (dig v).data.toList = [dB v] := rfl
theorem l1Num_dig {v : Int} (h0 : 0 ≤ v) (h1 : v ≤ 9) : Ev (fun k => spec_l1Num.f k v) (dig v) := by
  refine ev_succ ?_
  simp only [spec_l1Num.f]
  have e : wrap64 (48 + v) % 256 = 48 + v := by
    rw [w64 (by omega) (by omega)]; omega
  rw [e]
  have e2 : strOfNums [48 + v] = dig v := by
    refine ba_ext ?_
    show [UInt8.ofNat (48 + v).toNat] = [UInt8.ofNat (48 + v.toNat)]
    rw [show (48 + v).toNat = 48 + v.toNat by omega]
  rw [← e2]
  exact ev_pos (by omega) (ev_some _)
theorem itoa_dig {v : Int} (h0 : 0 ≤ v) (h1 : v ≤ 9) : strconv_Itoa.f v = some (dig v) := by
  unfold strconv_Itoa.f
  rw [if_pos h0, if_pos (by omega), Lib.decDigits, dif_pos (by omega)]
  rfl
theorem list2_ev (s : ByteArray) (hs : s.size ≤ 9) {a b : Int} (a0 : 0 ≤ a) (a9 : a ≤ 9) (b0 : 0 ≤ b) (b9 : b ≤ 9) : Ev (fun k => impl_listText.f k s [a, b]) ((dig a ++ s) ++ dig b) := by
  unfold impl_listText.f
  refine ev_succ ?_
  simp only [impl_listText.l0]
  refine ev_pos (by simp) (ev_pos (by simp) (ev_pos (by simp) (ev_bind (ev_const (itoa_dig (v := a) a0 a9)) (ev_pos (by simp) (ev_succ ?_)))))
  simp only [impl_listText.l0]
  rw [show wrap64 (0 + 1) = 1 from w64 (by decide) (by decide)]
  refine ev_pos (by simp) (ev_pos (by simp) (ev_pos (by simp) (ev_bind (ev_const (itoa_dig (v := b) b0 b9)) (ev_pos (by simp) (ev_succ ?_)))))
  simp only [impl_listText.l0]
  rw [show wrap64 (1 + 1) = 2 from w64 (by decide) (by decide)]
  refine ev_neg (by simp) (ev_bind (ev_const ?_) (ev_some _))
  have hl : Lib.join ([dig a, dig b].map (·.data.toList)) s.data.toList = (dig a).data.toList ++ (s.data.toList ++ (dig b).data.toList) := by
    simp [Lib.join, List.intercalate]
  have hz : s.data.toList.length = s.size := rfl
  show strings_Join.f [dig a, dig b] s = _
  unfold strings_Join.f
  rw [if_pos (by simp), hl, if_pos (by rw [List.length_append, List.length_append, dig_list, dig_list, hz]; simp; omega)]
  congr 1
  try (refine ba_ext ?_; simp [ByteArray.data_append])
def mText (w h : Int) (c : ByteArray) (u : Bool) : ByteArray := if u = true then ((((dig w ++ (⟨#[120]⟩ : ByteArray)) ++ dig h) ++ (⟨#[58]⟩ : ByteArray)) ++ c) ++ (⟨#[33]⟩ : ByteArray) else (((dig w ++ (⟨#[120]⟩ : ByteArray)) ++ dig h) ++ (⟨#[58]⟩ : ByteArray)) ++ c
theorem miText_ev {w h : Int} {c : ByteArray} {u : Bool} (w1 : 1 ≤ w) (w9 : w ≤ 9) (h1 : 1 ≤ h) (h9 : h ≤ 9) (hc : c.size ≤ 81) : Ev (fun k => spec_miText.f k w h c u) (mText w h c u) := by
  unfold spec_miText.f mText
  refine ev_bind (l1Num_dig (v := w) (by omega) (by omega)) (ev_pos ?_ (ev_bind (l1Num_dig (v := h) (by omega) (by omega)) (ev_pos ?_ (ev_pos ?_ (ev_pos ?_ ?_)))))
  · rw [dig_size]; decide
  · simp only [ByteArray.size_append, dig_size, one_size]; omega
  · simp only [ByteArray.size_append, dig_size, one_size]; omega
  · simp only [ByteArray.size_append, dig_size, one_size]; omega
  · cases u with
    | true => exact ev_pos rfl (ev_pos (by simp only [ByteArray.size_append, dig_size, one_size]; omega) (ev_some _))
    | false => exact ev_neg (by decide) (ev_some _)
theorem implText_ev {w h : Int} {c : ByteArray} {u : Bool} (w1 : 1 ≤ w) (w9 : w ≤ 9) (h1 : 1 ≤ h) (h9 : h ≤ 9) (hc : c.size ≤ 81) (g : impl_IsMaze.f w h c u = some true) : Ev (fun k => impl_MazeText.f k w h c u) (mText w h c u, true) := by
  unfold impl_MazeText.f
  refine ev_bind (ev_const g) (ev_pos rfl (ev_bind (list2_ev ⟨#[120]⟩ (by decide) (a := w) (b := h) (by omega) (by omega) (by omega) (by omega)) (ev_pos ?_ (ev_pos ?_ ?_))))
  · simp only [ByteArray.size_append, dig_size, one_size]; omega
  · simp only [ByteArray.size_append, dig_size, one_size]; omega
  · cases u with
    | true =>
      have hr : strings_Repeat.f (⟨#[33]⟩ : ByteArray) 1 = some (⟨#[33]⟩ : ByteArray) := by
        unfold strings_Repeat.f
        rw [if_pos (by decide)]
        rfl
      exact ev_bind (ev_const (r := 1) rfl) (ev_bind (ev_const hr) (ev_pos (by simp only [ByteArray.size_append, dig_size, one_size]; omega) (ev_some _)))
    | false =>
      have hr : strings_Repeat.f (⟨#[33]⟩ : ByteArray) 0 = some (⟨#[]⟩ : ByteArray) := by
        unfold strings_Repeat.f
        rw [if_pos (by decide)]
        rfl
      have he : ∀ a : ByteArray, a ++ (⟨#[]⟩ : ByteArray) = a := fun a => ba_ext (by simp [ByteArray.data_append])
      refine ev_bind (ev_const (r := 0) rfl) (ev_bind (ev_const hr) (ev_pos ?_ ?_))
      · rw [show (⟨#[]⟩ : ByteArray).size = 0 from rfl]
        simp only [ByteArray.size_append, dig_size, one_size]; omega
      · rw [he]
        exact ev_some _
theorem mazeOk_b {w h : Int} {c : ByteArray} (hb : mazeOk w h c = true) : (1 ≤ w ∧ w ≤ 9) ∧ (1 ≤ h ∧ h ≤ 9) ∧ c.size ≤ 81 := by
  unfold mazeOk at hb
  simp only [Bool.and_eq_true, inB_iff, beq_iff_eq] at hb
  obtain ⟨a, b, e, _⟩ := hb
  refine ⟨a, b, ?_⟩
  have e1 : w = 1 ∨ w = 2 ∨ w = 3 ∨ w = 4 ∨ w = 5 ∨ w = 6 ∨ w = 7 ∨ w = 8 ∨ w = 9 := by omega
  rcases e1 with rfl | rfl | rfl | rfl | rfl | rfl | rfl | rfl | rfl <;> (rw [w64 (by omega) (by omega)] at e; omega)
theorem FnExactMazeText : LawHolds := by
  intro w h c u hw hh hc hu
  refine ev_out (g := fun k => laws_FnExactMazeText.f k w h c u) ?_
  obtain ⟨t, ht⟩ := szMaze_ev w h c u 1048576
  have hto := ev_const (toMaze_eq w h c u)
  unfold laws_FnExactMazeText.f
  refine ev_bind (ev_const ht) (ev_ite (fun _ => ev_some _) (fun _ => ev_bind hto ?_))
  have h1 := miGood_ev w h c u hc
  have h2 := implIsMaze_eq w h c u hc
  have both : ∃ z : ByteArray × Bool, Ev (fun k => spec_MazeText.f k w h c u) z ∧ Ev (fun k => impl_MazeText.f k w h c u) z := by
    cases hb : mazeOk w h c with
    | false =>
      rw [hb] at h1 h2
      unfold spec_MazeText.f impl_MazeText.f
      exact ⟨_, ev_bind h1 (ev_neg (by simp) (ev_some _)), ev_bind (ev_const h2) (ev_neg (by simp) (ev_some _))⟩
    | true =>
      rw [hb] at h1 h2
      obtain ⟨⟨w1, w9⟩, ⟨g1, g9⟩, cs⟩ := mazeOk_b hb
      refine ⟨_, ?_, implText_ev w1 w9 g1 g9 cs h2⟩
      unfold spec_MazeText.f
      exact ev_bind h1 (ev_pos rfl (ev_bind (miText_ev w1 w9 g1 g9 cs) (ev_some _)))
  obtain ⟨z, h1, h2⟩ := both
  exact ev_bind h1 (ev_bind hto (ev_bind h2 (ev_pos rfl (ev_neg (by simp) (ev_some _)))))

end Go.Proofs.YtjmimgfgafdnnaaDoor.Pure
