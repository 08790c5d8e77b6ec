/- ParseMaze of the program and of the reference agree at every text. Conditions: those of reading alone. -/
import Derived.Test.YtjhokefoocajpaaDoorQFnExactParseMaze
namespace Go.Proofs.YtjhokefoocajpaaDoor.Pure
open Go.RowKit Go.Proofs.YtjhokefoocajpaaDoor.PFnExactParseMaze Go.Proofs.YtjhokefoocajpaaDoorW.PrintWords Go.Proofs.YtjhokefoocajpaaDoorW.PrintLast
set_option linter.unusedVariables false
set_option linter.unusedSimpArgs false
theorem ev_succ {α : Type} {g : Nat → Option α} {r : α} (h : Ev (fun k => g (k + 1)) r) : Ev g r := by
  obtain ⟨K, h⟩ := h
  refine ⟨K + 1, fun k hk => ?_⟩
  obtain ⟨j, rfl⟩ : ∃ j, k = j + 1 := ⟨k - 1, by omega⟩
  exact h j (by omega)
theorem ev_some {α : Type} (r : α) : Ev (fun _ => some r) r := ⟨0, fun _ _ => rfl⟩
theorem ev_const {α : Type} {x : Option α} {r : α} (h : x = some r) : Ev (fun _ => x) r := ⟨0, fun _ _ => h⟩
theorem ev_bind {α β : Type} {g : Nat → Option α} {f : Nat → α → Option β} {a : α} {r : β} (h : Ev g a) (k : Ev (fun n => f n a) r) : Ev (fun n => (g n).bind (f n)) r := by
  obtain ⟨K, h⟩ := h
  obtain ⟨L, k⟩ := k
  exact ⟨max K L, fun n hn => by show (g n).bind (f n) = some r; rw [h n (by omega)]; exact k n (by omega)⟩
theorem ev_pos {α : Type} {c : Prop} [Decidable c] {f g : Nat → Option α} {r : α} (hc : c) (h : Ev f r) : Ev (fun k => if c then f k else g k) r := by
  obtain ⟨K, h⟩ := h
  exact ⟨K, fun n hn => by show (if c then f n else g n) = some r; rw [if_pos hc]; exact h n hn⟩
theorem ev_neg {α : Type} {c : Prop} [Decidable c] {f g : Nat → Option α} {r : α} (hc : ¬ c) (h : Ev g r) : Ev (fun k => if c then f k else g k) r := by
  obtain ⟨K, h⟩ := h
  exact ⟨K, fun n hn => by show (if c then f n else g n) = some r; rw [if_neg hc]; exact h n hn⟩
theorem ev_ite {α : Type} {c : Prop} [Decidable c] {f g : Nat → Option α} {r : α} (h1 : c → Ev f r) (h2 : ¬ c → Ev g r) : Ev (fun k => if c then f k else g k) r := by
  by_cases hc : c
  · exact ev_pos hc (h1 hc)
  · exact ev_neg hc (h2 hc)
theorem ev_out {α : Type} {g : Nat → Option α} {r : α} (h : Ev g r) : ∃ k, g k = some r := by
  obtain ⟨K, h⟩ := h
  exact ⟨K, h K (Nat.le_refl _)⟩
theorem ev_uni {α : Type} {g : Nat → Option α} {r r' : α} (h : Ev g r) (h' : Ev g r') : r = r' := by
  obtain ⟨K, h⟩ := h
  obtain ⟨L, h'⟩ := h'
  have := (h (max K L) (by omega)).symm.trans (h' (max K L) (by omega))
  exact Option.some.inj this
theorem w64 {x : Int} (h1 : -9223372036854775808 ≤ x) (h2 : x ≤ 9223372036854775807) : wrap64 x = x := by
  unfold wrap64
  omega
theorem i64_range {x : Int} (h : (Lit.int .i64 x).wf = true) : -9223372036854775808 ≤ x ∧ x ≤ 9223372036854775807 := by
  have e1 : IntKind.i64.min = -9223372036854775808 := by decide
  have e2 : IntKind.i64.max = 9223372036854775807 := by decide
  have h' : IntKind.i64.min ≤ x ∧ x ≤ IntKind.i64.max := by simpa [Lit.wf] using h
  omega
theorem maxLen_eq : maxLen = 9223372036854775807 := rfl
def bl (a : ByteArray) : List Int := a.data.toList.map (fun b => (b.toNat : Int))
theorem size_data (a : ByteArray) : a.data.toList.length = a.size := by
  rw [Array.length_toList]
  rfl
theorem bl_length (a : ByteArray) : (bl a).length = a.size := by
  unfold bl
  rw [List.length_map, size_data]
theorem bl_get? (a : ByteArray) (i : Nat) (h : i < a.size) : (bl a)[i]? = some (bt a (i : Int)) := by
  unfold bl bt
  rw [List.getElem?_map, Array.getElem?_toList]
  have e : ((i : Int)).toNat = i := Int.toNat_natCast i
  have h2 : a.data[i]? = some (a.data[i]'h) := Array.getElem?_eq_getElem h
  rw [h2, dif_pos (by rw [e]; exact h)]
  simp only [e]
  rfl
theorem bl_get (a : ByteArray) (i : Nat) (h : i < (bl a).length) : (bl a)[i] = bt a (i : Int) := by
  have h2 := bl_get? a i (by rw [← bl_length]; exact h)
  rw [List.getElem?_eq_getElem h] at h2
  exact Option.some.inj h2
theorem bl_drop (a : ByteArray) (i : Nat) (h : i < a.size) : (bl a).drop i = bt a (i : Int) :: (bl a).drop (i + 1) := by
  have h' : i < (bl a).length := by rw [bl_length]; exact h
  rw [List.drop_eq_getElem_cons h', bl_get a i h']
theorem bl_drop_size (a : ByteArray) : (bl a).drop a.size = [] := by
  rw [List.drop_eq_nil_iff, bl_length]
  exact Nat.le_refl _
theorem bt_at_nat (a : ByteArray) (x : Int) (h : 0 ≤ x) : bt a x = bt a ((x.toNat : Nat) : Int) := by
  rw [Int.toNat_of_nonneg h]
theorem bl_range (a : ByteArray) : ∀ x ∈ bl a, 0 ≤ x ∧ x ≤ 255 := by
  intro x hx
  unfold bl at hx
  rw [List.mem_map] at hx
  obtain ⟨b, _, rfl⟩ := hx
  have := b.toNat_lt
  omega
theorem bl_inj {a b : ByteArray} (h : bl a = bl b) : a = b := by
  unfold bl at h
  have h2 : a.data.toList = b.data.toList := by
    refine List.map_inj_right (f := fun b : UInt8 => (b.toNat : Int)) ?_ |>.1 h
    intro x y e
    exact UInt8.toNat_inj.1 (by exact_mod_cast e)
  cases a with
  | mk x =>
    cases b with
    | mk y =>
      simp only at h2
      rw [Array.toList_inj.1 h2]
theorem in_eq (n lo hi : Int) : spec_l1In.f n lo hi = some (decide (lo ≤ n) && decide (n ≤ hi)) := by
  unfold spec_l1In.f
  by_cases h : n ≥ lo
  · rw [if_pos h]
    simp [show lo ≤ n from h]
  · rw [if_neg h]
    simp [show ¬ lo ≤ n from h]
theorem within_eq (n lo hi : Int) : impl_within.f n lo hi = some (decide (lo ≤ n) && decide (n ≤ hi)) := by
  unfold impl_within.f
  by_cases h : lo ≤ n
  · rw [if_pos h]
    simp [h]
  · rw [if_neg h]
    simp [h]
def inB (n lo hi : Int) : Bool := decide (lo ≤ n) && decide (n ≤ hi)
theorem inB_iff {n lo hi : Int} : inB n lo hi = true ↔ lo ≤ n ∧ n ≤ hi := by unfold inB; simp
theorem l1In_eq (n lo hi : Int) : spec_l1In.f n lo hi = some (inB n lo hi) := in_eq n lo hi
theorem wi_eq (n lo hi : Int) : impl_within.f n lo hi = some (inB n lo hi) := within_eq n lo hi
theorem ev_and {b r : Bool} {g : Nat → Option Bool} {f : Nat → Option Bool} (h : Ev g b) (k : b = true → Ev f r) : Ev (fun n => (g n).bind fun t => if t = true then f n else some false) (b && r) := by
  refine ev_bind h ?_
  cases b with
  | true => exact ev_pos rfl (k rfl)
  | false => exact ev_neg (by decide) (ev_some _)
theorem ev_and2 {b r : Bool} {g : Nat → Option Bool} {f E : Nat → Option Bool} (hE : Ev E false) (h : Ev g b) (k : b = true → Ev f r) : Ev (fun n => (g n).bind fun t => if t = true then f n else E n) (b && r) := by
  refine ev_bind h ?_
  cases b with
  | true => exact ev_pos rfl (k rfl)
  | false => exact ev_neg (by decide) hE
theorem ev_id {b : Bool} {g : Nat → Option Bool} (h : Ev g b) : Ev (fun n => (g n).bind fun t => some t) b := ev_bind h (ev_some _)
theorem dropWhile_all {α : Type} (p : α → Bool) : ∀ l : List α, (∀ x ∈ l.dropWhile p, p x = true) → l.dropWhile p = []
  | [], _ => rfl
  | a :: t, h => by
    by_cases ha : p a = true
    · rw [List.dropWhile_cons_of_pos ha] at h ⊢
      exact dropWhile_all p t h
    · rw [List.dropWhile_cons_of_neg ha] at h
      exact absurd (h a (List.mem_cons_self ..)) ha
theorem dropWhile_nil {α : Type} (p : α → Bool) : ∀ l : List α, l.dropWhile p = [] ↔ ∀ x ∈ l, p x = true
  | [] => by simp
  | a :: t => by
    by_cases ha : p a = true
    · rw [List.dropWhile_cons_of_pos ha, dropWhile_nil p t]
      simp [ha]
    · rw [List.dropWhile_cons_of_neg ha]
      simp [ha]
theorem trimS_nil (l cs : List UInt8) : Lib.trimS l cs = [] ↔ ∀ x ∈ l, cs.contains x = true := by
  unfold Lib.trimS Lib.trimLeftS Lib.trimRightS
  constructor
  · intro h
    rw [dropWhile_nil] at h
    have h2 : ∀ x ∈ l.reverse.dropWhile (cs.contains ·), cs.contains x = true := fun x hx => h x (List.mem_reverse.2 hx)
    have h3 := dropWhile_all (cs.contains ·) _ h2
    rw [dropWhile_nil] at h3
    exact fun x hx => h3 x (List.mem_reverse.2 hx)
  · intro h
    rw [dropWhile_nil]
    intro x hx
    rw [List.mem_reverse] at hx
    exact h x (List.mem_reverse.1 ((List.dropWhile_sublist _).subset hx))
theorem bl_all (a : ByteArray) (p : Int → Bool) : (bl a).all p = a.data.toList.all (fun b => p (b.toNat : Int)) := by
  unfold bl
  rw [List.all_map]
  rfl
theorem trim_empty (a c : ByteArray) (ha : a.size ≤ 140737488351232) (hc : c.size < 4294967281) (h8 : c.data.toList.all (fun b => decide (b.toNat < 128)) = true) (p : Int → Bool)
    (hp : ∀ b : UInt8, c.data.toList.contains b = p (b.toNat : Int)) : (strings_Trim.f a c).bind (fun t => some (t.toList == ([] : List UInt8))) = some ((bl a).all p) := by
  unfold strings_Trim.f
  rw [if_pos ⟨by omega, hc, h8⟩]
  show some _ = some _
  congr 1
  have e : ∀ l : List UInt8, (⟨l.toArray⟩ : ByteArray).toList = l := fun l => by rw [Lib.toList_data]
  rw [e, bl_all]
  rw [Bool.eq_iff_iff, beq_iff_eq, trimS_nil, List.all_eq_true]
  exact forall_congr' fun x => by rw [hp x]
def mirB (x : Int) : Bool := x == 46 || x == 90 || x == 83
def mazeOk (w h : Int) (c : ByteArray) : Bool := inB w 1 9 && (inB h 1 9 && (((c.size : Int) == wrap64 (w * h)) && (bl c).all mirB))
theorem miGood_loop (w h : Int) (c : ByteArray) (u : Bool) (hs : c.size ≤ 140737488351232) : ∀ (n i : Nat), i + n = c.size → Ev (fun k => spec_miGood.l0 k (i : Int) w h c u) (((bl c).drop i).all mirB)
  | 0, i, e => by
    refine ev_succ ?_
    simp only [spec_miGood.l0]
    have : i = c.size := by omega
    subst this
    rw [bl_drop_size, List.all_nil]
    exact ev_neg (by omega) (ev_some _)
  | n + 1, i, e => by
    refine ev_succ ?_
    simp only [spec_miGood.l0]
    have hw : wrap64 ((i : Int) + 1) = ((i + 1 : Nat) : Int) := by rw [w64 (by omega) (by omega)]; omega
    have ih := miGood_loop w h c u hs n (i + 1) (by omega)
    rw [hw, bl_drop c i (by omega), List.all_cons]
    refine ev_pos (by omega) (ev_pos (by omega) ?_)
    refine ev_ite (fun h1 => ?_) (fun h1 => ev_ite (fun h2 => ?_) (fun h2 => ev_ite (fun h3 => ?_) (fun h3 => ?_)))
    · rw [h1]; exact ih
    · rw [h2]; exact ih
    · rw [h3]; exact ih
    · have : mirB (bt c (i : Int)) = false := by unfold mirB; simp [h1, h2, h3]
      rw [this, Bool.false_and]
      exact ev_some _
theorem miGood_ev (w h : Int) (c : ByteArray) (u : Bool) (hs : c.size ≤ 140737488351232) : Ev (fun k => spec_miGood.f k w h c u) (mazeOk w h c) := by
  unfold spec_miGood.f mazeOk
  have hE : Ev (fun k => spec_miGood.j0 k true w h c u) false := by
    refine ev_succ ?_
    simp only [spec_miGood.j0]
    exact ev_pos (by first | rfl | trivial) (ev_some _)
  refine ev_and2 hE (ev_const (l1In_eq _ _ _)) fun _ => ev_and2 hE (ev_const (l1In_eq _ _ _)) fun _ => ?_
  refine ev_succ ?_
  simp only [spec_miGood.j0]
  have hl := miGood_loop w h c u hs c.size 0 (by omega)
  rw [List.drop_zero] at hl
  by_cases he : (c.size : Int) = wrap64 (w * h)
  · rw [show ((c.size : Int) == wrap64 (w * h)) = true from beq_iff_eq.2 he, Bool.true_and]
    exact ev_neg (by simp [he]) hl
  · rw [show ((c.size : Int) == wrap64 (w * h)) = false from beq_eq_false_iff_ne.2 he, Bool.false_and]
    exact ev_pos (by simp [he]) (ev_some _)
theorem mirs_has (b : UInt8) : (⟨#[46, 90, 83]⟩ : ByteArray).data.toList.contains b = mirB (b.toNat : Int) := by
  have h : ∀ n : Fin 256, (⟨#[46, 90, 83]⟩ : ByteArray).data.toList.contains (UInt8.ofNat n.val) = mirB (n.val : Int) := by decide +kernel
  have := h ⟨b.toNat, b.toNat_lt⟩
  rwa [UInt8.ofNat_toNat] at this
theorem implIsSize_eq (w h : Int) : impl_isSize.f w h = some (inB w 1 9 && inB h 1 9) := by
  unfold impl_isSize.f
  rw [wi_eq, wi_eq]
  cases inB w 1 9 <;> rfl
theorem implIsMaze_eq (w h : Int) (c : ByteArray) (u : Bool) (hs : c.size ≤ 140737488351232) : impl_IsMaze.f w h c u = some (mazeOk w h c) := by
  unfold impl_IsMaze.f mazeOk
  rw [implIsSize_eq]
  rw [trim_empty c _ hs (by decide) (by decide +kernel) mirB mirs_has]
  cases inB w 1 9 with
  | false => rfl
  | true =>
    cases inB h 1 9 with
    | false => rfl
    | true =>
      by_cases he : (c.size : Int) = wrap64 (w * h)
      · simp [he]
      · simp [he]
theorem ba_ext {a b : ByteArray} (h : a.data.toList = b.data.toList) : a = b := by
  obtain ⟨⟨x⟩⟩ := a
  obtain ⟨⟨y⟩⟩ := b
  have : x = y := h
  rw [this]
def dB (v : Int) : UInt8 := UInt8.ofNat (48 + v.toNat)
def dig (v : Int) : ByteArray := ⟨#[dB v]⟩
theorem dig_size (v : Int) : (dig v).size = 1 := rfl
theorem one_size (b : UInt8) : (⟨#[b]⟩ : ByteArray).size = 1 := rfl
theorem dig_list (v : Int) : (dig v).data.toList = [dB v] := rfl
theorem l1Num_dig {v : Int} (h0 : 0 ≤ v) (h1 : v ≤ 9) : Ev (fun k => spec_l1Num.f k v) (dig v) := by
  refine ev_succ ?_
  simp only [spec_l1Num.f]
  have e : wrap64 (48 + v) % 256 = 48 + v := by
    rw [w64 (by omega) (by omega)]; omega
  rw [e]
  have e2 : strOfNums [48 + v] = dig v := by
    refine ba_ext ?_
    show [UInt8.ofNat (48 + v).toNat] = [UInt8.ofNat (48 + v.toNat)]
    rw [show (48 + v).toNat = 48 + v.toNat by omega]
  rw [← e2]
  exact ev_pos (by omega) (ev_some _)
def sp (c : UInt8) : List UInt8 → List (List UInt8)
  | [] => [[]]
  | x :: r => if x = c then [] :: sp c r else (x :: (sp c r).headD []) :: (sp c r).tail
theorem sp_ne (c : UInt8) : ∀ l, sp c l ≠ []
  | [] => by simp [sp]
  | x :: r => by
    unfold sp
    by_cases h : x = c
    · rw [if_pos h]; simp
    · rw [if_neg h]; simp
theorem sp_cons (c : UInt8) (r : List UInt8) : sp c (c :: r) = [] :: sp c r := by
  rw [sp, if_pos rfl]
theorem sp_no (c : UInt8) : ∀ l, c ∉ l → sp c l = [l]
  | [], _ => rfl
  | x :: r, h => by
    have hx : x ≠ c := fun e => h (by rw [e]; exact List.mem_cons_self ..)
    rw [sp, if_neg hx, sp_no c r (fun e => h (List.mem_cons_of_mem _ e))]
    rfl
theorem sp_split (c : UInt8) : ∀ (p q : List UInt8), c ∉ p → sp c (p ++ c :: q) = p :: sp c q
  | [], q, _ => by rw [List.nil_append, sp_cons]
  | x :: r, q, h => by
    have hx : x ≠ c := fun e => h (by rw [e]; exact List.mem_cons_self ..)
    rw [List.cons_append, sp, if_neg hx, sp_split c r q (fun e => h (List.mem_cons_of_mem _ e))]
    rfl
theorem sp_cases (c : UInt8) : ∀ l : List UInt8, c ∉ l ∨ ∃ p q, l = p ++ c :: q ∧ c ∉ p
  | [] => .inl (by simp)
  | x :: r => by
    by_cases h : x = c
    · exact .inr ⟨[], r, by rw [h]; rfl, by simp⟩
    · rcases sp_cases c r with h2 | ⟨p, q, rfl, h3⟩
      · refine .inl fun e => ?_
        rcases List.mem_cons.1 e with e | e
        · exact h e.symm
        · exact h2 e
      · refine .inr ⟨x :: p, q, rfl, fun e => ?_⟩
        rcases List.mem_cons.1 e with e | e
        · exact h e.symm
        · exact h3 e
theorem sp_two {c : UInt8} {l p q : List UInt8} (h : sp c l = [p, q]) : l = p ++ c :: q ∧ c ∉ p ∧ c ∉ q := by
  rcases sp_cases c l with h2 | ⟨a, b, rfl, h3⟩
  · rw [sp_no c l h2] at h
    cases h
  · rw [sp_split c a b h3] at h
    injection h with h1 h4
    subst h1
    rcases sp_cases c b with h5 | ⟨d, e, rfl, h6⟩
    · rw [sp_no c b h5] at h4
      injection h4 with h4
      subst h4
      exact ⟨rfl, h3, h5⟩
    · rw [sp_split c d e h6] at h4
      injection h4 with _ h4
      exact absurd h4 (sp_ne c e)
theorem sp_uni {c : UInt8} {p q p' q' : List UInt8} (h : p ++ c :: q = p' ++ c :: q') (h1 : c ∉ p) (h2 : c ∉ p') : p = p' ∧ q = q' := by
  induction p generalizing p' with
  | nil =>
    cases p' with
    | nil => injection h with _ h; exact ⟨rfl, h⟩
    | cons x r => injection h with h _; exact absurd (by rw [h]; exact List.mem_cons_self ..) h2
  | cons y p ih =>
    cases p' with
    | nil => injection h with h _; exact absurd (by rw [← h]; exact List.mem_cons_self ..) h1
    | cons x r =>
      injection h with e h
      obtain ⟨a, b⟩ := ih h (fun e => h1 (List.mem_cons_of_mem _ e)) (fun e => h2 (List.mem_cons_of_mem _ e))
      exact ⟨by rw [e, a], b⟩
theorem ix_none {l : List UInt8} {c : UInt8} (h : c ∉ l) : Lib.indexByte l c = -1 := by
  induction l with
  | nil => rfl
  | cons x r ih =>
    have hx : x ≠ c := fun e => h (by rw [e]; exact List.mem_cons_self ..)
    have := ih (fun e => h (List.mem_cons_of_mem _ e))
    unfold Lib.indexByte
    rw [if_neg (by simpa using hx), if_pos (by rw [this]; rfl)]
theorem ix_some {c : UInt8} (q : List UInt8) : ∀ {p : List UInt8}, c ∉ p → Lib.indexByte (p ++ c :: q) c = (p.length : Int)
  | [], _ => by simp [Lib.indexByte]
  | x :: r, h => by
    have hx : x ≠ c := fun e => h (by rw [e]; exact List.mem_cons_self ..)
    have ih := ix_some (c := c) q (p := r) (fun e => h (List.mem_cons_of_mem _ e))
    rw [List.cons_append]
    unfold Lib.indexByte
    rw [if_neg (by simpa using hx), ih, if_neg (by first | (simp; done) | (simp; omega))]
    simp
theorem splitK_sp (c : UInt8) : ∀ (k : Nat) (l : List UInt8), l.count c ≤ k → Lib.splitK [c] 0 k l = sp c l
  | 0, l, h => by
    rw [sp_no c l (by rw [← List.count_eq_zero]; omega)]
    rfl
  | k + 1, l, h => by
    unfold Lib.splitK
    rw [Lib.index_one]
    rcases sp_cases c l with h2 | ⟨p, q, rfl, h3⟩
    · rw [ix_none h2, sp_no c l h2]
      rfl
    · have hcnt : q.count c ≤ k := by
        rw [List.count_append, List.count_cons_self] at h
        omega
      rw [ix_some q h3, if_neg (by first | (simp; done) | (simp; omega)), sp_split c p q h3, Nat.add_zero, Int.toNat_natCast, List.take_left]
      rw [show p.length + [c].length = (p ++ [c]).length by simp, show p ++ c :: q = (p ++ [c]) ++ q by simp, List.drop_left, splitK_sp c k q hcnt]
def baL (l : List UInt8) : ByteArray := ⟨l.toArray⟩
theorem baL_list (l : List UInt8) : (baL l).data.toList = l := by simp [baL]
theorem baL_of (a : ByteArray) : baL a.data.toList = a := by
  refine ba_ext ?_
  rw [baL_list]
theorem baL_size (l : List UInt8) : (baL l).size = l.length := by
  show (l.toArray).size = _
  simp
def pcs (c : UInt8) (a : ByteArray) : List ByteArray := (sp c a.data.toList).map baL
theorem implSplit_eq (a : ByteArray) (c : UInt8) (hs : a.size < 4294967281) : strings_Split.f a ⟨#[c]⟩ = some (pcs c a) := by
  unfold strings_Split.f
  rw [if_pos ⟨hs, rfl⟩]
  congr 1
  have h1 := Lib.splitB_data (⟨#[c]⟩ : ByteArray) 0 (Lib.countB a ⟨#[c]⟩) a
  have h2 : Lib.countB a ⟨#[c]⟩ = a.data.toList.count c := Lib.count_one c a.data.toList
  rw [show (⟨#[c]⟩ : ByteArray).data.toList = [c] from rfl, splitK_sp c _ _ (by rw [h2]; exact Nat.le_refl _)] at h1
  unfold pcs
  rw [← h1, List.map_map]
  conv => lhs; rw [← List.map_id (Lib.splitB (⟨#[c]⟩ : ByteArray) 0 (Lib.countB a ⟨#[c]⟩) a)]
  refine List.map_congr_left fun x _ => ?_
  exact (baL_of x).symm
theorem bt_eq (a : ByteArray) (i : Nat) (h : i < a.data.toList.length) : bt a (i : Int) = ((a.data.toList[i]).toNat : Int) := by
  have hs : i < a.size := by rw [← size_data]; exact h
  unfold bt
  rw [dif_pos (by rw [Int.toNat_natCast]; exact hs)]
  simp only [Int.toNat_natCast]
  rfl
theorem byte_eq {x c : UInt8} : ((x.toNat : Int) = (c.toNat : Int)) ↔ x = c := by
  constructor
  · intro h
    exact UInt8.toNat_inj.1 (by exact_mod_cast h)
  · rintro rfl; rfl
theorem l1Split_loop (a : ByteArray) (c : UInt8) (hs : a.size ≤ 1048576) : ∀ (m i fr : Nat) (done : List ByteArray) (pre : List UInt8), i + m = a.size → fr ≤ i → done.length ≤ i → (a.data.toList.drop fr).take (i - fr) = pre → c ∉ pre →
    Ev (fun k => spec_l1Split.l0 k a (c.toNat : Int) done (fr : Int) (i : Int)) (done ++ (sp c (a.data.toList.drop fr)).map baL)
  | 0, i, fr, done, pre, e, hf, hd, hp, hc => by
    obtain rfl : i = a.size := by omega
    have hl : (a.data.toList.drop fr).length = a.size - fr := by rw [List.length_drop, size_data]
    rw [List.take_of_length_le (by omega)] at hp
    refine ev_succ ?_
    simp only [spec_l1Split.l0]
    have hx : a.extract (fr : Int).toNat a.size = baL pre := by
      refine ba_ext ?_
      rw [baL_list, ← hp, ByteArray.data_extract, Array.toList_extract, Int.toNat_natCast, List.extract_eq_take_drop, List.take_of_length_le (by omega)]
    rw [hp, sp_no c pre hc, hx]
    exact ev_neg (by omega) (ev_pos (by omega) (ev_pos (by omega) (ev_pos (by omega) (ev_some _))))
  | m + 1, i, fr, done, pre, e, hf, hd, hp, hc => by
    have hi : i < a.size := by omega
    have hil : i < a.data.toList.length := by rw [size_data]; exact hi
    have hw : wrap64 ((i : Int) + 1) = ((i + 1 : Nat) : Int) := by rw [w64 (by omega) (by omega)]; omega
    have hdr : a.data.toList.drop fr = pre ++ a.data.toList[i] :: a.data.toList.drop (i + 1) := by
      rw [← hp, ← List.drop_eq_getElem_cons hil, show a.data.toList.drop i = (a.data.toList.drop fr).drop (i - fr) by rw [List.drop_drop]; congr 1; omega, List.take_append_drop]
    have hpl : pre.length = i - fr := by
      rw [← hp, List.length_take, List.length_drop, size_data]
      omega
    refine ev_succ ?_
    simp only [spec_l1Split.l0]
    rw [hw, bt_eq a i hil]
    refine ev_pos (by omega) (ev_pos (by omega) (ev_ite (fun h1 => ?_) (fun h1 => ?_)))
    · have hx1 := byte_eq.1 h1
      have hx : a.extract (fr : Int).toNat (i : Int).toNat = baL pre := by
        refine ba_ext ?_
        rw [baL_list, ← hp, ByteArray.data_extract, Array.toList_extract, Int.toNat_natCast, Int.toNat_natCast, List.extract_eq_take_drop]
      have ih := l1Split_loop a c hs m (i + 1) (i + 1) (done ++ [baL pre]) [] (by omega) (Nat.le_refl _) (by simp; omega) (by simp) (by simp)
      rw [hx1] at hdr
      rw [hx, hdr, sp_split c pre _ hc, List.map_cons]
      rw [List.append_assoc] at ih
      exact ev_pos (by omega) (ev_pos (by omega) (ev_pos (by omega) (ev_pos (by omega) ih)))
    · have hx1 : a.data.toList[i] ≠ c := fun e => h1 (byte_eq.2 e)
      refine l1Split_loop a c hs m (i + 1) fr done (pre ++ [a.data.toList[i]]) (by omega) (by omega) (by omega) ?_ ?_
      · rw [hdr, show i + 1 - fr = (pre ++ [a.data.toList[i]]).length by simp; omega, show pre ++ a.data.toList[i] :: a.data.toList.drop (i + 1) = (pre ++ [a.data.toList[i]]) ++ a.data.toList.drop (i + 1) by simp, List.take_left]
      · intro h
        rcases List.mem_append.1 h with h | h
        · exact hc h
        · rw [List.mem_singleton] at h
          exact hx1 h.symm
theorem l1Split_ev (a : ByteArray) (c : UInt8) (hs : a.size ≤ 1048576) : Ev (fun k => spec_l1Split.f k a (c.toNat : Int)) (pcs c a) := by
  unfold spec_l1Split.f
  have := l1Split_loop a c hs a.size 0 0 [] [] (by omega) (Nat.le_refl _) (Nat.zero_le _) (by simp) (by simp)
  rw [List.nil_append, List.drop_zero] at this
  exact this
def dgt (v : Int) : List UInt8 := [dB v]
theorem dB_eq {v : Int} (h0 : 0 ≤ v) (h9 : v ≤ 9) : ((dB v).toNat : Int) = 48 + v := by
  unfold dB
  rw [UInt8.toNat_ofNat', Nat.mod_eq_of_lt (by show 48 + v.toNat < 256; omega)]
  omega
theorem dB_inj {v u : Int} (h0 : 0 ≤ v) (h9 : v ≤ 9) (g0 : 0 ≤ u) (g9 : u ≤ 9) (h : dB v = dB u) : v = u := by
  have h1 := dB_eq h0 h9
  have h2 := dB_eq g0 g9
  rw [h] at h1
  omega
theorem atoi_dgt {v : Int} (h0 : 0 ≤ v) (h9 : v ≤ 9) : Lib.atoiAll (dgt v) = .ok v := by
  have h : ∀ n : Fin 10, Lib.atoiAll (dgt (n.val : Int)) = .ok (n.val : Int) := by decide +kernel
  have := h ⟨v.toNat, by omega⟩
  rwa [show ((v.toNat : Nat) : Int) = v by omega] at this
theorem itoa_dgt {v : Int} (h0 : 0 ≤ v) (h9 : v ≤ 9) : Lib.itoa v = dgt v := by
  unfold Lib.itoa
  rw [if_neg (by omega), Lib.decDigits_one (by omega)]
  rfl
theorem number_dgt {v m : Int} (h0 : 0 ≤ v) (h9 : v ≤ 9) (hm : v ≤ m) : impl_number.g (dgt v) m = (v, true) := by
  unfold impl_number.g
  rw [atoi_dgt h0 h9]
  dsimp only
  rw [if_pos (itoa_dgt h0 h9), if_pos ⟨h0, hm⟩]
theorem number_ok {l : List UInt8} {r : Int} (h : impl_number.g l 9 = (r, true)) : 0 ≤ r ∧ r ≤ 9 ∧ l = dgt r := by
  unfold impl_number.g at h
  cases hA : Lib.atoiAll l with
  | «syntax» => rw [hA] at h; cases h
  | range => rw [hA] at h; cases h
  | ok v =>
    rw [hA] at h
    dsimp only at h
    by_cases c1 : Lib.itoa v = l
    · rw [if_pos c1] at h
      by_cases c2 : 0 ≤ v ∧ v ≤ 9
      · rw [if_pos c2] at h
        injection h with h _
        subst h
        exact ⟨c2.1, c2.2, by rw [← c1, itoa_dgt c2.1 c2.2]⟩
      · rw [if_neg c2] at h
        injection h with _ h
        cases h
    · rw [if_neg c1] at h
      injection h with _ h
      cases h
theorem numberF (a : ByteArray) (m : Int) (hs : a.size ≤ 1048576) : impl_number.f a m = some (impl_number.g a.data.toList m) := by
  unfold impl_number.f
  rw [if_pos (by omega)]
def dgts (vs : List Int) : List (List UInt8) := vs.map dgt
def digs (vs : List Int) : Prop := ∀ v ∈ vs, 0 ≤ v ∧ v ≤ 9
theorem dgts_inj : ∀ {vs us : List Int}, digs vs → digs us → dgts vs = dgts us → vs = us
  | [], [], _, _, _ => rfl
  | [], _ :: _, _, _, h => by cases h
  | _ :: _, [], _, _, h => by cases h
  | v :: vs, u :: us, h1, h2, h => by
    unfold dgts at h
    rw [List.map_cons, List.map_cons] at h
    injection h with e h
    injection e with e _
    rw [dB_inj (h1 v (by simp)).1 (h1 v (by simp)).2 (h2 u (by simp)).1 (h2 u (by simp)).2 e, dgts_inj (fun x hx => h1 x (by simp [hx])) (fun x hx => h2 x (by simp [hx])) h]
def NumZ (ps : List (List UInt8)) (many : Nat) (z : List Int × Bool) : Prop := z.1.length = many ∧ ((z.2 = true ∧ digs z.1 ∧ ps = dgts z.1) ∨ (z.2 = false ∧ ∀ vs : List Int, vs.length = many → digs vs → ps ≠ dgts vs))
theorem rdOf_nat (l : List ByteArray) (i : Nat) (h : i < l.length) : rdOf ByteArray.empty l (i : Int) = l[i] := by
  unfold rdOf
  rw [Int.toNat_natCast, List.getD_eq_getElem?_getD, List.getElem?_eq_getElem h, Option.getD_some]
theorem numbers_loop (ps : List (List UInt8)) (many : Nat) (hm : many ≤ 10) (hsz : ∀ p ∈ ps, p.length ≤ 1048576) (hl : ps.length ≤ 1048577) : ∀ (m i : Nat) (vs : List Int), i + m = ps.length → digs vs → ps.take i = dgts vs →
    ∃ z, Ev (fun k => impl_numbers.l0 k (many : Int) 9 vs (ps.map baL) ((ps.map baL).length : Int) (i : Int)) z ∧ NumZ ps many z
  | 0, i, vs, e, hd, ht => by
    have hi : i = ps.length := by omega
    rw [List.take_of_length_le (by omega)] at ht
    have hvl : vs.length = ps.length := by rw [ht]; simp [dgts]
    by_cases c : vs.length = many
    · refine ⟨(vs, true), ev_succ ?_, c, .inl ⟨rfl, hd, ht⟩⟩
      simp only [impl_numbers.l0]
      exact ev_neg (by rw [List.length_map]; omega) (ev_pos (by omega) (ev_some _))
    · refine ⟨(List.replicate many 0, false), ev_succ ?_, by simp, .inr ⟨rfl, fun us hu _ hp => ?_⟩⟩
      · simp only [impl_numbers.l0]
        refine ev_neg (by rw [List.length_map]; omega) (ev_neg (by omega) (ev_pos (by omega) (ev_pos (by rw [Int.toNat_natCast]; omega) ?_)))
        rw [Int.toNat_natCast]
        exact ev_some _
      · rw [hp] at hvl
        simp [dgts] at hvl
        omega
  | m + 1, i, vs, e, hd, ht => by
    have hi : i < ps.length := by omega
    have hw : wrap64 ((i : Int) + 1) = ((i + 1 : Nat) : Int) := by rw [w64 (by omega) (by omega)]; omega
    have hr : rdOf ByteArray.empty (ps.map baL) (i : Int) = baL ps[i] := by
      rw [rdOf_nat _ _ (by rw [List.length_map]; exact hi), List.getElem_map]
    have hn := numberF (baL ps[i]) 9 (by rw [baL_size]; exact hsz _ (List.getElem_mem _))
    rw [baL_list] at hn
    cases hb : impl_number.g ps[i] 9 with
    | mk r b =>
      rw [hb] at hn
      cases b with
      | true =>
        obtain ⟨r0, r9, hp⟩ := number_ok hb
        have hvl : vs.length = i := by
          have := congrArg List.length ht
          simp [dgts] at this
          omega
        obtain ⟨z, hz, hN⟩ := numbers_loop ps many hm hsz hl m (i + 1) (vs ++ [r]) (by omega) (by
          intro v hv
          rcases List.mem_append.1 hv with hv | hv
          · exact hd v hv
          · rw [List.mem_singleton] at hv; rw [hv]; exact ⟨r0, r9⟩) (by
          rw [List.take_succ_eq_append_getElem hi, ht, hp]
          unfold dgts
          rw [List.map_append]
          rfl)
        refine ⟨z, ev_succ ?_, hN⟩
        simp only [impl_numbers.l0]
        rw [hr, hw]
        exact ev_pos (by rw [List.length_map]; omega) (ev_pos (by omega) (ev_pos (by rw [List.length_map]; omega) (ev_bind (ev_const hn) (ev_pos rfl (ev_pos (by omega) hz)))))
      | false =>
        refine ⟨(List.replicate many 0, false), ev_succ ?_, by simp, .inr ⟨rfl, fun us hu hg hp => ?_⟩⟩
        · simp only [impl_numbers.l0]
          rw [hr]
          refine ev_pos (by rw [List.length_map]; omega) (ev_pos (by omega) (ev_pos (by rw [List.length_map]; omega) (ev_bind (ev_const hn) (ev_neg (by simp) (ev_pos (by omega) (ev_pos (by rw [Int.toNat_natCast]; omega) ?_))))))
          rw [Int.toNat_natCast]
          exact ev_some _
        · have hu2 : i < us.length := by
            rw [hp] at hi
            simpa [dgts] using hi
          have hx : ps[i] = dgt us[i] := by
            have h1 : (dgts us)[i]? = some (dgt us[i]) := by
              unfold dgts
              rw [List.getElem?_map, List.getElem?_eq_getElem hu2]
              rfl
            rw [← hp, List.getElem?_eq_getElem hi] at h1
            exact Option.some.inj h1
          have hv := hg us[i] (List.getElem_mem _)
          rw [hx, number_dgt hv.1 hv.2 hv.2] at hb
          injection hb with _ hb
          cases hb
theorem sp_len (c : UInt8) : ∀ l : List UInt8, (sp c l).length ≤ l.length + 1
  | [] => by simp [sp]
  | x :: r => by
    have := sp_len c r
    have hne := sp_ne c r
    unfold sp
    by_cases h : x = c
    · rw [if_pos h]; simp; omega
    · rw [if_neg h]
      have : 0 < (sp c r).length := List.length_pos_iff.2 hne
      simp
      omega
theorem sp_size (c : UInt8) : ∀ (l : List UInt8) (p : List UInt8), p ∈ sp c l → p.length ≤ l.length
  | [], p, h => by
    rw [sp, List.mem_singleton] at h
    rw [h]
    exact Nat.le_refl _
  | x :: r, p, h => by
    unfold sp at h
    by_cases hx : x = c
    · rw [if_pos hx] at h
      rcases List.mem_cons.1 h with h | h
      · rw [h]; simp
      · have := sp_size c r p h
        simp; omega
    · rw [if_neg hx] at h
      have hne := sp_ne c r
      rcases List.mem_cons.1 h with h | h
      · rw [h]
        have : (sp c r).headD [] ∈ sp c r := by
          cases hs : sp c r with
          | nil => exact absurd hs hne
          | cons a b => simp
        have := sp_size c r _ this
        show ((sp c r).headD []).length + 1 ≤ r.length + 1
        omega
      · have := sp_size c r p (List.mem_of_mem_tail h)
        simp; omega
theorem numbers_ev (a : ByteArray) (c : UInt8) (many : Nat) (hm : many ≤ 10) (hs : a.size ≤ 1048576) : ∃ z, Ev (fun k => impl_numbers.f k a ⟨#[c]⟩ (many : Int) 9) z ∧ NumZ (sp c a.data.toList) many z := by
  have hl := size_data a
  have h1 := sp_len c a.data.toList
  obtain ⟨z, hz, hN⟩ := numbers_loop (sp c a.data.toList) many hm (fun p hp => by have := sp_size c _ p hp; omega) (by omega) (sp c a.data.toList).length 0 [] (by omega) (fun v hv => by cases hv) (by simp [dgts])
  refine ⟨z, ?_, hN⟩
  unfold impl_numbers.f
  exact ev_bind (ev_const (implSplit_eq a c (by omega))) hz
theorem read_loop (p : ByteArray) (hs : p.size ≤ 6) : ∀ (m i : Nat) (acc : Int), i + m = p.size → 1 ≤ acc → acc < 10 ^ i → ∃ r, Ev (fun k => spec_l1Read.l0 k p acc (i : Int)) r ∧ (r = -1 ∨ acc ≤ r ∧ (0 < m → 10 ≤ r))
  | 0, i, acc, e, h1, h2 => by
    refine ⟨acc, ev_succ ?_, .inr ⟨Int.le_refl _, fun h => absurd h (by omega)⟩⟩
    simp only [spec_l1Read.l0]
    exact ev_neg (by omega) (ev_some _)
  | m + 1, i, acc, e, h1, h2 => by
    have hw : wrap64 ((i : Int) + 1) = ((i + 1 : Nat) : Int) := by rw [w64 (by omega) (by omega)]; omega
    have h10 : (10 : Int) ^ i ≤ 10 ^ 6 := by
      have : i ≤ 6 := by omega
      rcases (by omega : i = 0 ∨ i = 1 ∨ i = 2 ∨ i = 3 ∨ i = 4 ∨ i = 5 ∨ i = 6) with rfl | rfl | rfl | rfl | rfl | rfl | rfl <;> decide
    have h11 : (10 : Int) ^ 6 = 1000000 := by decide
    by_cases c1 : bt p (i : Int) < 48
    · refine ⟨-1, ev_succ ?_, .inl rfl⟩
      simp only [spec_l1Read.l0]
      exact ev_pos (by omega) (ev_pos (by omega) (ev_pos c1 (ev_some _)))
    · by_cases c2 : bt p (i : Int) > 57
      · refine ⟨-1, ev_succ ?_, .inl rfl⟩
        simp only [spec_l1Read.l0]
        exact ev_pos (by omega) (ev_pos (by omega) (ev_neg c1 (ev_pos c2 (ev_some _))))
      · generalize hb : bt p (i : Int) = b at *
        have hm : (b - 48) % 256 = b - 48 := by omega
        have hacc : wrap64 (wrap64 (10 * acc) + (b - 48)) = 10 * acc + (b - 48) := by
          rw [w64 (x := 10 * acc) (by omega) (by omega), w64 (by omega) (by omega)]
        have hp : (10 : Int) ^ (i + 1) = 10 ^ i * 10 := Int.pow_succ 10 i
        obtain ⟨r, hr, hor⟩ := read_loop p hs m (i + 1) (10 * acc + (b - 48)) (by omega) (by omega) (by rw [hp]; omega)
        refine ⟨r, ev_succ ?_, ?_⟩
        · simp only [spec_l1Read.l0]
          rw [hb, hm, hacc, hw]
          exact ev_pos (by omega) (ev_pos (by omega) (ev_neg c1 (ev_neg c2 hr)))
        · rcases hor with h | ⟨h, _⟩
          · exact .inl h
          · exact .inr ⟨by omega, fun _ => by omega⟩
theorem read_ev (p : ByteArray) (hs : p.size ≤ 1048576) : ∃ r, Ev (fun k => spec_l1Read.f k p) r ∧ ((∃ v : Int, 0 ≤ v ∧ v ≤ 9 ∧ p.data.toList = dgt v ∧ r = v) ∨ ((∀ v : Int, 0 ≤ v → v ≤ 9 → p.data.toList ≠ dgt v) ∧ (r = -1 ∨ 10 ≤ r))) := by
  have hj : Ev (fun k => spec_l1Read.j0 k p true) (-1) := by
    refine ev_succ ?_
    simp only [spec_l1Read.j0]
    exact ev_pos (by first | rfl | trivial) (ev_some _)
  have hlen : ∀ v : Int, p.data.toList = dgt v → p.size = 1 := fun v h => by
    rw [← size_data, h]
    rfl
  unfold spec_l1Read.f
  by_cases c1 : 1 ≤ p.size ∧ p.size ≤ 6
  · have hin : spec_l1In.f (p.size : Int) 1 6 = some true := by
      rw [in_eq, decide_eq_true (p := (1 : Int) ≤ (p.size : Int)) (by omega), decide_eq_true (p := (p.size : Int) ≤ 6) (by omega)]
      rfl
    by_cases c2 : p.size = 1
    · -- one sign
      have hl : 0 < p.data.toList.length := by rw [size_data]; omega
      have hp1 : p.data.toList = [p.data.toList[0]] := by
        have h2 : p.data.toList.length = 1 := by rw [size_data]; exact c2
        refine List.ext_getElem (by rw [h2]; rfl) (fun i h _ => ?_)
        have hi : i = 0 := by omega
        subst hi
        rfl
      have hb : bt p 0 = ((p.data.toList[0]).toNat : Int) := bt_eq p 0 hl
      have hstart : ∀ r, Ev (fun k => spec_l1Read.l0 k p 0 0) r → Ev (fun k => (spec_l1In.f (p.size : Int) 1 6).bind fun t => if t = true then (if 0 < (p.size : Int) then (if (bt p 0) = 48 then (spec_l1Read.j0 k p (decide ((p.size : Int) > 1))) else (spec_l1Read.j0 k p false)) else (none)) else (spec_l1Read.j0 k p true)) r := by
        intro r hr
        have hf : Ev (fun k => spec_l1Read.j0 k p false) r := by
          refine ev_succ ?_
          simp only [spec_l1Read.j0]
          exact ev_neg (by simp) hr
        refine ev_bind (ev_const hin) (ev_pos rfl (ev_pos (by omega) (ev_ite (fun _ => ?_) (fun _ => hf))))
        rw [decide_eq_false (by omega)]
        exact hf
      by_cases c3 : bt p 0 < 48
      · refine ⟨-1, hstart _ (ev_succ ?_), .inr ⟨fun v h0 h9 h => ?_, .inl rfl⟩⟩
        · simp only [spec_l1Read.l0]
          exact ev_pos (by omega) (ev_pos (by omega) (ev_pos c3 (ev_some _)))
        · rw [hp1] at h
          injection h with h _
          have := dB_eq h0 h9
          rw [hb, h] at c3
          omega
      · by_cases c4 : bt p 0 > 57
        · refine ⟨-1, hstart _ (ev_succ ?_), .inr ⟨fun v h0 h9 h => ?_, .inl rfl⟩⟩
          · simp only [spec_l1Read.l0]
            exact ev_pos (by omega) (ev_pos (by omega) (ev_neg c3 (ev_pos c4 (ev_some _))))
          · rw [hp1] at h
            injection h with h _
            have := dB_eq h0 h9
            rw [hb, h] at c4
            omega
        · generalize hv : bt p 0 = b at *
          have hm : (b - 48) % 256 = b - 48 := by omega
          have hacc : wrap64 (wrap64 (10 * 0) + (b - 48)) = b - 48 := by
            rw [w64 (x := 10 * 0) (by omega) (by omega), w64 (by omega) (by omega)]
            omega
          refine ⟨b - 48, hstart _ (ev_succ ?_), .inl ⟨b - 48, by omega, by omega, ?_, rfl⟩⟩
          · simp only [spec_l1Read.l0]
            rw [hv, hm, hacc, w64 (x := (0 : Int) + 1) (by omega) (by omega)]
            refine ev_pos (by omega) (ev_pos (by omega) (ev_neg c3 (ev_neg c4 (ev_succ ?_))))
            simp only [spec_l1Read.l0]
            exact ev_neg (by omega) (ev_some _)
          · rw [hp1]
            unfold dgt
            congr 1
            have := dB_eq (v := b - 48) (by omega) (by omega)
            refine byte_eq.1 ?_
            rw [this, ← hb]
            omega
    · -- more signs: a number of no one digit, or none
      have hno : ∀ v : Int, 0 ≤ v → v ≤ 9 → p.data.toList ≠ dgt v := fun v _ _ h => c2 (hlen v h)
      have hgo : ∃ r, Ev (fun k => (spec_l1In.f (p.size : Int) 1 6).bind fun t => if t = true then (if 0 < (p.size : Int) then (if (bt p 0) = 48 then (spec_l1Read.j0 k p (decide ((p.size : Int) > 1))) else (spec_l1Read.j0 k p false)) else (none)) else (spec_l1Read.j0 k p true)) r ∧ (r = -1 ∨ 10 ≤ r) := by
        by_cases c3 : bt p 0 = 48
        · refine ⟨-1, ev_bind (ev_const hin) (ev_pos rfl (ev_pos (by omega) (ev_pos c3 ?_))), .inl rfl⟩
          rw [decide_eq_true (by omega)]
          exact hj
        · have hf : ∀ r, Ev (fun k => spec_l1Read.l0 k p 0 0) r → Ev (fun k => spec_l1Read.j0 k p false) r := fun r hr => by
            refine ev_succ ?_
            simp only [spec_l1Read.j0]
            exact ev_neg (by simp) hr
          by_cases c4 : bt p 0 < 48
          · refine ⟨-1, ev_bind (ev_const hin) (ev_pos rfl (ev_pos (by omega) (ev_neg c3 (hf _ (ev_succ ?_))))), .inl rfl⟩
            simp only [spec_l1Read.l0]
            exact ev_pos (by omega) (ev_pos (by omega) (ev_pos c4 (ev_some _)))
          · by_cases c5 : bt p 0 > 57
            · refine ⟨-1, ev_bind (ev_const hin) (ev_pos rfl (ev_pos (by omega) (ev_neg c3 (hf _ (ev_succ ?_))))), .inl rfl⟩
              simp only [spec_l1Read.l0]
              exact ev_pos (by omega) (ev_pos (by omega) (ev_neg c4 (ev_pos c5 (ev_some _))))
            · generalize hv : bt p 0 = b at *
              have hm : (b - 48) % 256 = b - 48 := by omega
              have hacc : wrap64 (wrap64 (10 * 0) + (b - 48)) = b - 48 := by
                rw [w64 (x := 10 * 0) (by omega) (by omega), w64 (by omega) (by omega)]
                omega
              obtain ⟨r, hr, hor⟩ := read_loop p c1.2 (p.size - 1) 1 (b - 48) (by omega) (by omega) (by show b - 48 < 10; omega)
              refine ⟨r, ev_bind (ev_const hin) (ev_pos rfl (ev_pos (by omega) (ev_neg (by omega) (hf _ (ev_succ ?_))))), ?_⟩
              · simp only [spec_l1Read.l0]
                rw [hv, hm, hacc, w64 (x := (0 : Int) + 1) (by omega) (by omega)]
                exact ev_pos (by omega) (ev_pos (by omega) (ev_neg c4 (ev_neg c5 hr)))
              · rcases hor with h | ⟨_, h⟩
                · exact .inl h
                · exact .inr (h (by omega))
      obtain ⟨r, hr, hor⟩ := hgo
      exact ⟨r, hr, .inr ⟨hno, hor⟩⟩
  · refine ⟨-1, ev_bind (a := false) (ev_const ?_) (ev_neg (by simp) hj), .inr ⟨fun v _ _ h => c1 ?_, .inl rfl⟩⟩
    · rw [in_eq]
      congr 1
      rw [Bool.and_eq_false_iff, decide_eq_false_iff_not, decide_eq_false_iff_not]
      omega
    · have := hlen v h
      omega
def mText (w h : Int) (c : ByteArray) (u : Bool) : ByteArray := if u = true then ((((dig w ++ (⟨#[120]⟩ : ByteArray)) ++ dig h) ++ (⟨#[58]⟩ : ByteArray)) ++ c) ++ (⟨#[33]⟩ : ByteArray) else (((dig w ++ (⟨#[120]⟩ : ByteArray)) ++ dig h) ++ (⟨#[58]⟩ : ByteArray)) ++ c
theorem miText_ev {w h : Int} {c : ByteArray} {u : Bool} (w1 : 1 ≤ w) (w9 : w ≤ 9) (h1 : 1 ≤ h) (h9 : h ≤ 9) (hc : c.size ≤ 81) : Ev (fun k => spec_miText.f k w h c u) (mText w h c u) := by
  unfold spec_miText.f mText
  refine ev_bind (l1Num_dig (v := w) (by omega) (by omega)) (ev_pos ?_ (ev_bind (l1Num_dig (v := h) (by omega) (by omega)) (ev_pos ?_ (ev_pos ?_ (ev_pos ?_ ?_)))))
  · rw [dig_size]; decide
  · simp only [ByteArray.size_append, dig_size, one_size]; omega
  · simp only [ByteArray.size_append, dig_size, one_size]; omega
  · simp only [ByteArray.size_append, dig_size, one_size]; omega
  · cases u with
    | true => exact ev_pos rfl (ev_pos (by simp only [ByteArray.size_append, dig_size, one_size]; omega) (ev_some _))
    | false => exact ev_neg (by decide) (ev_some _)
theorem mazeOk_b {w h : Int} {c : ByteArray} (hb : mazeOk w h c = true) : (1 ≤ w ∧ w ≤ 9) ∧ (1 ≤ h ∧ h ≤ 9) ∧ c.size ≤ 81 := by
  unfold mazeOk at hb
  simp only [Bool.and_eq_true, inB_iff, beq_iff_eq] at hb
  obtain ⟨a, b, e, _⟩ := hb
  refine ⟨a, b, ?_⟩
  have e1 : w = 1 ∨ w = 2 ∨ w = 3 ∨ w = 4 ∨ w = 5 ∨ w = 6 ∨ w = 7 ∨ w = 8 ∨ w = 9 := by omega
  rcases e1 with rfl | rfl | rfl | rfl | rfl | rfl | rfl | rfl | rfl <;> (rw [w64 (by omega) (by omega)] at e; omega)
def tx (w h : Int) (c : List UInt8) (u : Bool) : List UInt8 := dB w :: 120 :: dB h :: 58 :: (c ++ (if u = true then [33] else []))
theorem mText_list (w h : Int) (c : ByteArray) (u : Bool) : (mText w h c u).data.toList = tx w h c.data.toList u := by
  unfold mText tx
  cases u with
  | true => simp [ByteArray.data_append, dig]
  | false => simp [ByteArray.data_append, dig]
theorem dB_ne {v : Int} (h0 : 0 ≤ v) (h9 : v ≤ 9) (c : UInt8) (hc : (c.toNat : Int) < 48 ∨ 57 < (c.toNat : Int)) : dB v ≠ c := by
  intro e
  have := dB_eq h0 h9
  rw [e] at this
  omega
def G (a : ByteArray) (w h : Int) (c : ByteArray) (u : Bool) : Prop := mazeOk w h c = true ∧ a.data.toList = tx w h c.data.toList u
theorem mirs {w h : Int} {c : ByteArray} (hb : mazeOk w h c = true) : ∀ x ∈ c.data.toList, x = 46 ∨ x = 90 ∨ x = 83 := by
  unfold mazeOk at hb
  simp only [Bool.and_eq_true] at hb
  obtain ⟨_, _, _, hm⟩ := hb
  intro x hx
  rw [List.all_eq_true] at hm
  have := hm (x.toNat : Int) (by unfold bl; exact List.mem_map.2 ⟨x, hx, rfl⟩)
  unfold mirB at this
  simp only [Bool.or_eq_true, beq_iff_eq] at this
  rcases this with (h | h) | h
  · exact .inl (UInt8.toNat_inj.1 (by exact_mod_cast h))
  · exact .inr (.inl (UInt8.toNat_inj.1 (by exact_mod_cast h)))
  · exact .inr (.inr (UInt8.toNat_inj.1 (by exact_mod_cast h)))
def tail_ (c : List UInt8) (u : Bool) : List UInt8 := c ++ (if u = true then [33] else [])
theorem tx_eq (w h : Int) (c : List UInt8) (u : Bool) : tx w h c u = [dB w, 120, dB h] ++ 58 :: tail_ c u := rfl
theorem head_no {w h : Int} (w1 : 1 ≤ w) (w9 : w ≤ 9) (h1 : 1 ≤ h) (h9 : h ≤ 9) : (58 : UInt8) ∉ [dB w, 120, dB h] := by
  intro e
  simp only [List.mem_cons, List.not_mem_nil, or_false] at e
  rcases e with e | e | e
  · exact dB_ne (by omega) w9 58 (by decide) e.symm
  · exact absurd e (by decide)
  · exact dB_ne (by omega) h9 58 (by decide) e.symm
theorem x_no {w : Int} (w1 : 1 ≤ w) (w9 : w ≤ 9) : (120 : UInt8) ∉ [dB w] := by
  intro e
  rw [List.mem_singleton] at e
  exact dB_ne (by omega) w9 120 (by decide) e.symm
theorem tail_no {c : List UInt8} {u : Bool} (hm : ∀ x ∈ c, x = 46 ∨ x = 90 ∨ x = 83) : (58 : UInt8) ∉ tail_ c u := by
  intro e
  unfold tail_ at e
  rcases List.mem_append.1 e with e | e
  · rcases hm _ e with h | h | h <;> exact absurd h (by decide)
  · cases u with
    | true => simp at e
    | false => simp at e
def cut (q : List UInt8) : List UInt8 × Bool := if q.getLast? = some 33 then (q.dropLast, true) else (q, false)
theorem cut_tail {c : List UInt8} {u : Bool} (hm : ∀ x ∈ c, x = 46 ∨ x = 90 ∨ x = 83) : cut (tail_ c u) = (c, u) := by
  unfold cut tail_
  cases u with
  | true => simp
  | false =>
    rw [show (if (false : Bool) = true then [33] else ([] : List UInt8)) = [] from rfl, List.append_nil, if_neg]
    intro e
    rcases hm 33 (List.mem_of_getLast? e) with h | h | h <;> exact absurd h (by decide)
theorem cut_back (q : List UInt8) : q = tail_ (cut q).1 (cut q).2 := by
  unfold cut tail_
  by_cases h : q.getLast? = some 33
  · rw [if_pos h]
    dsimp only
    rw [if_pos rfl]
    have hne : q ≠ [] := by rintro rfl; cases h
    rw [List.getLast?_eq_some_getLast hne] at h
    have := List.dropLast_concat_getLast hne
    rw [Option.some.inj h] at this
    exact this.symm
  · rw [if_neg h]
    simp
theorem parts {a : ByteArray} {w h : Int} {c : ByteArray} {u : Bool} (g : G a w h c u) : (1 ≤ w ∧ w ≤ 9) ∧ (1 ≤ h ∧ h ≤ 9) ∧ a.data.toList = [dB w, 120, dB h] ++ 58 :: tail_ c.data.toList u ∧ (58 : UInt8) ∉ [dB w, 120, dB h] ∧ (58 : UInt8) ∉ tail_ c.data.toList u ∧ (120 : UInt8) ∉ [dB w] ∧ (120 : UInt8) ∉ [dB h] ∧ cut (tail_ c.data.toList u) = (c.data.toList, u) ∧ a.size ≤ 86 := by
  obtain ⟨hb, ht⟩ := g
  obtain ⟨⟨w1, w9⟩, ⟨h1, h9⟩, hc⟩ := mazeOk_b hb
  have hm := mirs hb
  refine ⟨⟨w1, w9⟩, ⟨h1, h9⟩, ht, head_no w1 w9 h1 h9, tail_no hm, x_no w1 w9, x_no h1 h9, cut_tail hm, ?_⟩
  rw [← size_data, ht, tx_eq]
  have := size_data c
  cases u with
  | true => simp [tail_]; omega
  | false => simp [tail_]; omega
theorem G_uni {a : ByteArray} {w h w' h' : Int} {c c' : ByteArray} {u u' : Bool} (g : G a w h c u) (g' : G a w' h' c' u') : w = w' ∧ h = h' ∧ c = c' ∧ u = u' := by
  obtain ⟨⟨w1, w9⟩, ⟨h1, h9⟩, e, n1, _, _, _, ct, _⟩ := parts g
  obtain ⟨⟨w1', w9'⟩, ⟨h1', h9'⟩, e', n1', _, _, _, ct', _⟩ := parts g'
  obtain ⟨ep, eq⟩ := sp_uni (e.symm.trans e') n1 n1'
  injection ep with a1 ep
  injection ep with _ ep
  injection ep with a2 _
  rw [eq, ct'] at ct
  injection ct with b1 b2
  exact ⟨dB_inj (by omega) w9 (by omega) w9' a1, dB_inj (by omega) h9 (by omega) h9' a2, (ba_ext b1).symm, b2.symm⟩
abbrev Z := Int × Int × ByteArray × Bool × Bool
def Out (a : ByteArray) (z : Z) : Prop := (∃ w h c u, G a w h c u ∧ z = (w, h, c, u, true)) ∨ ((¬ ∃ w h c u, G a w h c u) ∧ z = (0, 0, (⟨#[]⟩ : ByteArray), false, false))
theorem out_uni {a : ByteArray} {z z' : Z} (h : Out a z) (h' : Out a z') : z = z' := by
  rcases h with ⟨w, hh, c, u, g, rfl⟩ | ⟨n, rfl⟩
  · rcases h' with ⟨w', hh', c', u', g', rfl⟩ | ⟨n', _⟩
    · obtain ⟨rfl, rfl, rfl, rfl⟩ := G_uni g g'
      rfl
    · exact absurd ⟨w, hh, c, u, g⟩ n'
  · rcases h' with ⟨w', hh', c', u', g', _⟩ | ⟨_, rfl⟩
    · exact absurd ⟨w', hh', c', u', g'⟩ n
    · rfl
theorem mazeOk_none (w h : Int) : mazeOk w h (baL []) = false := by
  cases hb : mazeOk w h (baL []) with
  | false => rfl
  | true =>
    exfalso
    unfold mazeOk at hb
    simp only [Bool.and_eq_true, inB_iff, beq_iff_eq] at hb
    obtain ⟨a, b, e, _⟩ := hb
    rw [baL_size] at e
    have e1 : w = 1 ∨ w = 2 ∨ w = 3 ∨ w = 4 ∨ w = 5 ∨ w = 6 ∨ w = 7 ∨ w = 8 ∨ w = 9 := by omega
    rcases e1 with rfl | rfl | rfl | rfl | rfl | rfl | rfl | rfl | rfl <;> (rw [w64 (by omega) (by omega)] at e; simp at e; omega)
theorem index_eq (a : ByteArray) (c : UInt8) : stringslite_Index.f a ⟨#[c]⟩ = some (Lib.indexByte a.data.toList c) := by
  unfold stringslite_Index.f
  rw [if_pos (show (⟨#[c]⟩ : ByteArray).size = 1 from rfl)]
  rfl
theorem ex_list (a : ByteArray) (i j : Nat) : (a.extract i j).data.toList = (a.data.toList.take j).drop i := by
  rw [ByteArray.data_extract, Array.toList_extract, List.extract_eq_take_drop, List.drop_take]
theorem cutF_hit (a : ByteArray) (hs : a.size ≤ 1048576) {p q : List UInt8} (h : a.data.toList = p ++ 58 :: q) (hp : (58 : UInt8) ∉ p) : strings_Cut.f a (⟨#[58]⟩ : ByteArray) = some (baL p, baL q, true) := by
  have hl : a.size = p.length + (q.length + 1) := by rw [← size_data, h]; simp
  unfold strings_Cut.f stringslite_Cut.f
  rw [index_eq, h, ix_some q hp]
  have hw : wrap64 ((p.length : Int) + ((⟨#[58]⟩ : ByteArray).size : Int)) = ((p.length + 1 : Nat) : Int) := by
    rw [show (⟨#[58]⟩ : ByteArray).size = 1 from rfl, w64 (by omega) (by omega)]
    omega
  have e1 : a.extract 0 (p.length : Int).toNat = baL p := by
    refine ba_ext ?_
    rw [ex_list, baL_list, h, Int.toNat_natCast, List.take_left, List.drop_zero]
  have e2 : a.extract (((p.length + 1 : Nat) : Int)).toNat a.size = baL q := by
    refine ba_ext ?_
    rw [ex_list, baL_list, Int.toNat_natCast, List.take_of_length_le (by rw [size_data]; exact Nat.le_refl _), h, show p ++ 58 :: q = (p ++ [58]) ++ q by simp, show p.length + 1 = (p ++ [58]).length by simp, List.drop_left]
  simp only [Option.bind_some]
  rw [if_pos (by omega), if_pos (by omega), if_pos (by omega), hw, if_pos (by omega), if_pos (by omega), e1, e2]
  rfl
theorem cutF_miss (a : ByteArray) (h : (58 : UInt8) ∉ a.data.toList) : strings_Cut.f a (⟨#[58]⟩ : ByteArray) = some (a, (⟨#[]⟩ : ByteArray), false) := by
  unfold strings_Cut.f stringslite_Cut.f
  rw [index_eq, ix_none h]
  rfl
theorem toL (a : ByteArray) : a.toList = a.data.toList := Lib.toList_data a
theorem sufF (b : ByteArray) (hs : b.size ≤ 1048576) : strings_CutSuffix.f b (⟨#[33]⟩ : ByteArray) = some (baL (cut b.data.toList).1, (cut b.data.toList).2) := by
  unfold strings_CutSuffix.f stringslite_CutSuffix.f stringslite_HasSuffix.f
  rw [show (⟨#[33]⟩ : ByteArray).size = 1 from rfl]
  have hl := size_data b
  by_cases h0 : b.size = 0
  · rw [if_neg (by omega)]
    have hn : b.data.toList = [] := List.length_eq_zero_iff.1 (by omega)
    have : cut b.data.toList = ([], false) := by rw [hn]; rfl
    rw [this]
    have hb : b = baL [] := ba_ext (by rw [hn, baL_list])
    rw [← hb]
    rfl
  · have hw : wrap64 ((b.size : Int) - ((1 : Nat) : Int)) = ((b.size - 1 : Nat) : Int) := by rw [w64 (by omega) (by omega)]; omega
    rw [if_pos (by omega), hw, if_pos (by omega), if_pos (by omega), Int.toNat_natCast]
    have hne : b.data.toList ≠ [] := by rintro e; rw [e] at hl; simp at hl; omega
    have hlast : (b.extract (b.size - 1) b.size).toList = [b.data.toList.getLast hne] := by
      rw [toL, ex_list, List.take_of_length_le (by omega)]
      have h1 := List.dropLast_concat_getLast hne
      have h2 : b.data.toList.dropLast.length = b.size - 1 := by rw [List.length_dropLast, hl]
      conv => lhs; rw [← h1, ← h2, List.drop_left]
    rw [hlast]
    have h33 : (⟨#[33]⟩ : ByteArray).toList = [33] := by rw [toL]
    rw [h33]
    have hgl := List.getLast?_eq_some_getLast hne
    by_cases c : b.data.toList.getLast hne = 33
    · have hcut : cut b.data.toList = (b.data.toList.dropLast, true) := by
        unfold cut
        rw [hgl, c, if_pos rfl]
      have hx : b.extract 0 (b.size - 1) = baL b.data.toList.dropLast := by
        refine ba_ext ?_
        rw [ex_list, baL_list, List.drop_zero, List.dropLast_eq_take, hl]
      rw [hcut, c, ← hx]
      simp
    · have hcut : cut b.data.toList = (b.data.toList, false) := by
        unfold cut
        rw [hgl, if_neg (fun e => c (Option.some.inj e))]
      rw [hcut, baL_of]
      have : ([b.data.toList.getLast hne] == [33]) = false := by simpa using c
      rw [this]
      rfl
theorem no_G_of_none {a : ByteArray} (h : (58 : UInt8) ∉ a.data.toList) : ¬ ∃ w h c u, G a w h c u := by
  rintro ⟨w, hh, c, u, g⟩
  obtain ⟨_, _, e, _⟩ := parts g
  rw [e] at h
  exact h (by simp)
theorem impl_any (a : ByteArray) (hs : a.size ≤ 1048576) : ∃ z, Ev (fun k => impl_ParseMaze.f k a) z ∧ Out a z := by
  unfold impl_ParseMaze.f
  rcases sp_cases 58 a.data.toList with h | ⟨p, q, h, hp⟩
  · obtain ⟨z1, hz1, hN⟩ := numbers_ev a 120 2 (by omega) hs
    have hsuf := sufF (⟨#[]⟩ : ByteArray) (by decide)
    have hcut : cut (⟨#[]⟩ : ByteArray).data.toList = ([], false) := rfl
    rw [hcut] at hsuf
    have hl : z1.1.length = 2 := hN.1
    refine ⟨(0, 0, (⟨#[]⟩ : ByteArray), false, false), ?_, .inr ⟨no_G_of_none h, rfl⟩⟩
    refine ev_bind (ev_const (cutF_miss a h)) (ev_bind (ev_const hsuf) (ev_bind hz1 (ev_pos (by omega) (ev_pos (by omega) (ev_ite (fun _ => ?_) (fun _ => ev_some _))))))
    refine ev_bind (ev_const (implIsMaze_eq _ _ (baL []) false (by rw [baL_size]; decide))) ?_
    rw [mazeOk_none]
    exact ev_neg (by simp) (ev_some _)
  · have hl : a.size = p.length + (q.length + 1) := by rw [← size_data, h]; simp
    have hps : (baL p).size ≤ 1048576 := by rw [baL_size]; omega
    have hqs : (baL q).size ≤ 1048576 := by rw [baL_size]; omega
    obtain ⟨z1, hz1, hN⟩ := numbers_ev (baL p) 120 2 (by omega) hps
    rw [baL_list] at hN
    have hsuf := sufF (baL q) hqs
    rw [baL_list] at hsuf
    obtain ⟨hlen, hor⟩ := hN
    obtain ⟨⟨vs, b⟩⟩ : Nonempty (List Int × Bool) := ⟨z1⟩
    have hm := implIsMaze_eq (rd z1.1 0) (rd z1.1 1) (baL (cut q).1) (cut q).2 (by
      rw [baL_size]
      unfold cut
      by_cases c : q.getLast? = some 33
      · rw [if_pos c]; simp; omega
      · rw [if_neg c]; simp; omega)
    have step : ∀ z, Ev (fun k => if z1.2 = true then ((impl_IsMaze.f (rd z1.1 0) (rd z1.1 1) (baL (cut q).1) (cut q).2).bind fun t => (if t = true then (some (rd z1.1 0, rd z1.1 1, baL (cut q).1, (cut q).2, true)) else (some (0, 0, (⟨#[]⟩ : ByteArray), false, false)))) else (some (0, 0, (⟨#[]⟩ : ByteArray), false, false))) z → Ev (fun k => (strings_Cut.f a (⟨#[58]⟩ : ByteArray)).bind fun bt177 => ((strings_CutSuffix.f bt177.2.1 (⟨#[33]⟩ : ByteArray)).bind fun bt180 => ((impl_numbers.f k bt177.1 (⟨#[120]⟩ : ByteArray) 2 9).bind fun bt182 => (if 0 < (bt182.1.length : Int) then (if 1 < (bt182.1.length : Int) then (if bt182.2 = true then ((impl_IsMaze.f (rd bt182.1 0) (rd bt182.1 1) bt180.1 bt180.2).bind fun t189 => (if t189 = true then (some (rd bt182.1 0, rd bt182.1 1, bt180.1, bt180.2, true)) else (some (0, 0, (⟨#[]⟩ : ByteArray), false, false)))) else (some (0, 0, (⟨#[]⟩ : ByteArray), false, false))) else (none)) else (none))))) z := by
      intro z hz
      exact ev_bind (ev_const (cutF_hit a hs h hp)) (ev_bind (ev_const hsuf) (ev_bind hz1 (ev_pos (by omega) (ev_pos (by omega) hz))))
    have noG : (∀ vs : List Int, vs.length = 2 → digs vs → sp 120 p = dgts vs → mazeOk (rd vs 0) (rd vs 1) (baL (cut q).1) = false) → ¬ ∃ w h c u, G a w h c u := by
      rintro hno ⟨w, hh, c, u, g⟩
      obtain ⟨⟨w1, w9⟩, ⟨h1, h9⟩, e, n1, _, n3, n4, ct, _⟩ := parts g
      rw [h] at e
      obtain ⟨ep, eq⟩ := sp_uni e hp n1
      have hsp : sp 120 p = dgts [w, hh] := by
        rw [ep, show [dB w, 120, dB hh] = [dB w] ++ 120 :: [dB hh] from rfl, sp_split 120 _ _ n3, sp_no 120 _ n4]
        rfl
      have := hno [w, hh] rfl (fun v hv => by
        simp only [List.mem_cons, List.not_mem_nil, or_false] at hv
        rcases hv with rfl | rfl <;> omega) hsp
      rw [eq, ct, baL_of] at this
      have hg := g.1
      rw [show rd [w, hh] 0 = w from rfl, show rd [w, hh] 1 = hh from rfl] at this
      rw [this] at hg
      cases hg
    rcases hor with ⟨hb, hd, hsp⟩ | ⟨hb, hno⟩
    · cases hmz : mazeOk (rd z1.1 0) (rd z1.1 1) (baL (cut q).1) with
      | true =>
        rw [hmz] at hm
        refine ⟨_, step _ (ev_pos hb (ev_bind (ev_const hm) (ev_pos rfl (ev_some _)))), .inl ⟨_, _, _, _, ⟨hmz, ?_⟩, rfl⟩⟩
        have h2 : z1.1 = [rd z1.1 0, rd z1.1 1] := by
          match hz : z1.1, hlen with
          | [x, y], _ => rfl
        rw [h2] at hsp
        obtain ⟨hpp, _, _⟩ := sp_two (show sp 120 p = [dgt (rd z1.1 0), dgt (rd z1.1 1)] from hsp)
        rw [h, hpp, tx_eq, baL_list, ← cut_back q]
        rfl
      | false =>
        rw [hmz] at hm
        refine ⟨_, step _ (ev_pos hb (ev_bind (ev_const hm) (ev_neg (by simp) (ev_some _)))), .inr ⟨noG fun vs hl2 hd2 hs2 => ?_, rfl⟩⟩
        rw [dgts_inj hd2 hd (hs2.symm.trans hsp)]
        exact hmz
    · exact ⟨_, step _ (ev_neg (by rw [hb]; simp) (ev_some _)), .inr ⟨noG fun vs hl2 hd2 hs2 => absurd hs2 (hno vs hl2 hd2), rfl⟩⟩
theorem rdOf_list (x y : ByteArray) : rdOf ByteArray.empty [x, y] 0 = x ∧ rdOf ByteArray.empty [x, y] 1 = y := ⟨rfl, rfl⟩
theorem spec_end (a : ByteArray) (hs : a.size ≤ 1048576) (r0 r1 : Int) (q : List UInt8) (hq : q.length ≤ 1048576) : ∃ b, Ev (fun k => if ((baL q).size : Int) > 0 then (if 0 ≤ (wrap64 (((baL q).size : Int) - 1)) then (if (wrap64 (((baL q).size : Int) - 1)) < ((baL q).size : Int) then (spec_miParse.j1 k a ((baL q).size : Int) ((bt (baL q) (wrap64 (((baL q).size : Int) - 1))) == 33) r0 r1 (baL q) false) else (none)) else (none)) else (spec_miParse.j1 k a ((baL q).size : Int) false r0 r1 (baL q) false)) (r0, r1, baL (cut q).1, (cut q).2, b) ∧
    b = (mazeOk r0 r1 (baL (cut q).1) && ((mText r0 r1 (baL (cut q).1) (cut q).2).toList == a.toList)) := by
  have hcs : (baL (cut q).1).size ≤ 140737488351232 := by
    rw [baL_size]
    unfold cut
    by_cases c : q.getLast? = some 33
    · rw [if_pos c]; simp; omega
    · rw [if_neg c]; simp; omega
  refine ⟨_, ?_, rfl⟩
  have fin : Ev (fun k => (spec_miGood.f k r0 r1 (baL (cut q).1) (cut q).2).bind fun t135 => (if t135 = true then ((spec_miText.f k r0 r1 (baL (cut q).1) (cut q).2).bind fun t136 => (some (r0, r1, baL (cut q).1, (cut q).2, (t136.toList == a.toList)))) else (some (r0, r1, baL (cut q).1, (cut q).2, false)))) (r0, r1, baL (cut q).1, (cut q).2, mazeOk r0 r1 (baL (cut q).1) && ((mText r0 r1 (baL (cut q).1) (cut q).2).toList == a.toList)) := by
    have h1 := miGood_ev r0 r1 (baL (cut q).1) (cut q).2 hcs
    cases hm : mazeOk r0 r1 (baL (cut q).1) with
    | false =>
      rw [hm] at h1
      rw [Bool.false_and]
      exact ev_bind h1 (ev_neg (by simp) (ev_some _))
    | true =>
      rw [hm] at h1
      obtain ⟨⟨w1, w9⟩, ⟨h1', h9⟩, hc⟩ := mazeOk_b hm
      rw [Bool.true_and]
      exact ev_bind h1 (ev_pos rfl (ev_bind (miText_ev w1 w9 h1' h9 hc) (ev_some _)))
  have hl := baL_size q
  by_cases h0 : q = []
  · subst h0
    have hcut : cut ([] : List UInt8) = ([], false) := rfl
    rw [hcut] at fin ⊢
    refine ev_neg (by rw [hl]; simp) (ev_succ ?_)
    simp only [spec_miParse.j1]
    exact ev_neg (by simp) fin
  · have hpos : 0 < q.length := List.length_pos_iff.2 h0
    have hw : wrap64 (((baL q).size : Int) - 1) = ((q.length - 1 : Nat) : Int) := by rw [hl, w64 (by omega) (by omega)]; omega
    have hbt : bt (baL q) ((q.length - 1 : Nat) : Int) = ((q.getLast h0).toNat : Int) := by
      have h2 : (baL q).data.toList = q := baL_list q
      have h1 := bt_eq (baL q) (q.length - 1) (by rw [h2]; omega)
      rw [h1, List.getLast_eq_getElem]
      congr 2
      try simp only [h2]
    rw [hw, hbt]
    refine ev_pos (by rw [hl]; omega) (ev_pos (by omega) (ev_pos (by rw [hl]; omega) (ev_succ ?_)))
    simp only [spec_miParse.j1]
    have hgl := List.getLast?_eq_some_getLast h0
    by_cases c : q.getLast h0 = 33
    · have hcut : cut q = (q.dropLast, true) := by
        unfold cut
        rw [hgl, c, if_pos rfl]
      have hx : (baL q).extract 0 (((q.length - 1 : Nat) : Int)).toNat = baL q.dropLast := by
        refine ba_ext ?_
        rw [ex_list, baL_list, baL_list, List.drop_zero, List.dropLast_eq_take, Int.toNat_natCast]
      rw [hcut] at fin ⊢
      rw [hw, hx]
      exact ev_pos (by rw [c]; rfl) (ev_pos (by omega) (ev_pos (by rw [hl]; omega) fin))
    · have hcut : cut q = (q, false) := by
        unfold cut
        rw [hgl, if_neg (fun e => c (Option.some.inj e))]
      rw [hcut] at fin ⊢
      refine ev_neg ?_ fin
      rw [beq_iff_eq]
      intro e
      exact c (UInt8.toNat_inj.1 (by exact_mod_cast e))
theorem spec_any (a : ByteArray) (hs : a.size ≤ 1048576) : ∃ z, Ev (fun k => spec_ParseMaze.f k a) z ∧ Out a z := by
  have h58 := l1Split_ev a 58 hs
  have hz0 : ∀ t : List ByteArray, Ev (fun k => spec_miParse.j0 k a t true) (0, 0, (⟨#[]⟩ : ByteArray), false, false) := fun t => by
    refine ev_succ ?_
    simp only [spec_miParse.j0]
    exact ev_pos (by first | rfl | trivial) (ev_some _)
  unfold spec_ParseMaze.f spec_miParse.f
  have fail : ∀ y : Z, y.2.2.2.2 = false → Ev (fun k => (spec_l1Split.f k a 58).bind fun t122 => (if (a.size : Int) > 100 then (spec_miParse.j0 k a t122 true) else (spec_miParse.j0 k a t122 ((t122.length : Int) != 2)))) y → (¬ ∃ w h c u, G a w h c u) → ∃ z, Ev (fun k => ((spec_l1Split.f k a 58).bind fun t122 => (if (a.size : Int) > 100 then (spec_miParse.j0 k a t122 true) else (spec_miParse.j0 k a t122 ((t122.length : Int) != 2)))).bind fun bt140 => (if bt140.2.2.2.2 = true then (some (bt140.1, bt140.2.1, bt140.2.2.1, bt140.2.2.2.1, true)) else (some (0, 0, (⟨#[]⟩ : ByteArray), false, false)))) z ∧ Out a z := by
    intro y hy hev hn
    exact ⟨_, ev_bind hev (ev_neg (by rw [hy]; simp) (ev_some _)), .inr ⟨hn, rfl⟩⟩
  by_cases c1 : a.size > 100
  · refine fail _ rfl (ev_bind h58 (ev_pos (by omega) (hz0 _))) ?_
    rintro ⟨w, hh, c, u, g⟩
    obtain ⟨_, _, _, _, _, _, _, _, hsz⟩ := parts g
    omega
  · have hlen : (pcs 58 a).length = (sp 58 a.data.toList).length := by unfold pcs; rw [List.length_map]
    by_cases c2 : (sp 58 a.data.toList).length = 2
    · match hsp : sp 58 a.data.toList, c2 with
      | [p, q], _ =>
        obtain ⟨h, hp, hq⟩ := sp_two hsp
        have hal : a.size = p.length + (q.length + 1) := by rw [← size_data, h]; simp
        have hpc : pcs 58 a = [baL p, baL q] := by unfold pcs; rw [hsp]; rfl
        rw [hpc] at h58
        have h120 := l1Split_ev (baL p) 120 (by rw [baL_size]; omega)
        have hgo : ∀ z, Ev (fun k => spec_miParse.j0 k a [baL p, baL q] false) z → Ev (fun k => (spec_l1Split.f k a 58).bind fun t122 => (if (a.size : Int) > 100 then (spec_miParse.j0 k a t122 true) else (spec_miParse.j0 k a t122 ((t122.length : Int) != 2)))) z := fun z hz => ev_bind h58 (ev_neg (by omega) hz)
        by_cases c3 : (sp 120 p).length = 2
        · match hsx : sp 120 p, c3 with
          | [x, y], _ =>
            obtain ⟨hpx, hx, hy⟩ := sp_two hsx
            have hpl : p.length = x.length + (y.length + 1) := by rw [hpx]; simp
            have hpcx : pcs 120 (baL p) = [baL x, baL y] := by unfold pcs; rw [baL_list, hsx]; rfl
            rw [hpcx] at h120
            obtain ⟨r0, hr0, o0⟩ := read_ev (baL x) (by rw [baL_size]; omega)
            obtain ⟨r1, hr1, o1⟩ := read_ev (baL y) (by rw [baL_size]; omega)
            rw [baL_list] at o0 o1
            obtain ⟨b, hb, hbe⟩ := spec_end a hs r0 r1 q (by omega)
            have hj : Ev (fun k => spec_miParse.j0 k a [baL p, baL q] false) (r0, r1, baL (cut q).1, (cut q).2, b) := by
              refine ev_succ ?_
              simp only [spec_miParse.j0]
              refine ev_neg (by simp) (ev_pos (by simp) (ev_bind h120 (ev_pos (by simp) (ev_pos (by simp) (ev_bind hr0 (ev_pos (by simp) (ev_bind hr1 (ev_pos (by simp) hb))))))))
            have noG : mazeOk r0 r1 (baL (cut q).1) = false → ¬ ∃ w h c u, G a w h c u := by
              rintro hmf ⟨w, hh, c, u, g⟩
              obtain ⟨⟨w1, w9⟩, ⟨z1, z9⟩, e, n1, _, n3, n4, ct, _⟩ := parts g
              rw [h] at e
              obtain ⟨ep, eq⟩ := sp_uni e hp n1
              rw [hpx, show [dB w, 120, dB hh] = [dB w] ++ 120 :: [dB hh] from rfl] at ep
              obtain ⟨ex, ey⟩ := sp_uni ep hx n3
              have q0 : r0 = w := by
                rcases o0 with ⟨v, v0, v9, hv, rfl⟩ | ⟨hno, _⟩
                · rw [ex] at hv
                  injection hv with hv _
                  exact dB_inj v0 v9 (by omega) w9 hv.symm
                · exact absurd ex (hno w (by omega) w9)
              have q1 : r1 = hh := by
                rcases o1 with ⟨v, v0, v9, hv, rfl⟩ | ⟨hno, _⟩
                · rw [ey] at hv
                  injection hv with hv _
                  exact dB_inj v0 v9 (by omega) z9 hv.symm
                · exact absurd ey (hno hh (by omega) z9)
              rw [eq, ct, baL_of, q0, q1, g.1] at hmf
              cases hmf
            cases hm : mazeOk r0 r1 (baL (cut q).1) with
            | false =>
              rw [hm, Bool.false_and] at hbe
              exact fail _ hbe (hgo _ hj) (noG hm)
            | true =>
              obtain ⟨⟨w1, w9⟩, ⟨z1, z9⟩, hcz⟩ := mazeOk_b hm
              have ex : x = dgt r0 := by
                rcases o0 with ⟨v, v0, v9, hv, rfl⟩ | ⟨_, h1 | h1⟩
                · exact hv
                · omega
                · omega
              have ey : y = dgt r1 := by
                rcases o1 with ⟨v, v0, v9, hv, rfl⟩ | ⟨_, h1 | h1⟩
                · exact hv
                · omega
                · omega
              have htx : a.data.toList = tx r0 r1 (baL (cut q).1).data.toList (cut q).2 := by
                rw [h, hpx, ex, ey, tx_eq, baL_list, ← cut_back q]
                rfl
              rw [hm, Bool.true_and, toL, toL, mText_list, ← htx] at hbe
              have hbt : b = true := by rw [hbe]; simp
              refine ⟨_, ev_bind (hgo _ hj) (ev_pos hbt (ev_some _)), .inl ⟨_, _, _, _, ⟨hm, htx⟩, rfl⟩⟩
        · have hnl : (pcs 120 (baL p)).length = (sp 120 p).length := by unfold pcs; rw [List.length_map, baL_list]
          refine fail _ rfl (hgo (0, 0, (⟨#[]⟩ : ByteArray), false, false) (ev_succ ?_)) ?_
          · simp only [spec_miParse.j0]
            exact ev_neg (by simp) (ev_pos (by simp) (ev_bind h120 (ev_neg (by rw [hnl]; omega) (ev_some _))))
          · rintro ⟨w, hh, c, u, g⟩
            obtain ⟨_, _, e, n1, _, n3, n4, _, _⟩ := parts g
            rw [h] at e
            obtain ⟨ep, _⟩ := sp_uni e hp n1
            apply c3
            rw [ep, show [dB w, 120, dB hh] = [dB w] ++ 120 :: [dB hh] from rfl, sp_split 120 _ _ n3, sp_no 120 _ n4]
            rfl
    · refine fail (0, 0, (⟨#[]⟩ : ByteArray), false, false) rfl (ev_bind h58 (ev_neg (by omega) ?_)) ?_
      · have : (((pcs 58 a).length : Int) != 2) = true := by
          rw [bne_iff_ne, hlen]
          omega
        rw [this]
        exact hz0 _
      · rintro ⟨w, hh, c, u, g⟩
        obtain ⟨_, _, e, n1, n2, _, _, _, _⟩ := parts g
        apply c2
        rw [e, sp_split 58 _ _ n1, sp_no 58 _ n2]
        rfl
theorem FnExactParseMaze : LawHolds := by
  intro a ha
  refine ev_out (g := fun k => laws_FnExactParseMaze.f k a) ?_
  unfold laws_FnExactParseMaze.f
  refine ev_ite (fun _ => ev_some _) (fun hc => ?_)
  obtain ⟨z, hz, oz⟩ := spec_any a (by omega)
  obtain ⟨y, hy, oy⟩ := impl_any a (by omega)
  obtain rfl := out_uni oz oy
  refine ev_bind hz (ev_bind hy (ev_bind (a := true) (ev_const ?_) (ev_pos rfl (ev_neg (by simp) (ev_some _)))))
  simp [laws_eqMaze.f]

end Go.Proofs.YtjhokefoocajpaaDoor.Pure
