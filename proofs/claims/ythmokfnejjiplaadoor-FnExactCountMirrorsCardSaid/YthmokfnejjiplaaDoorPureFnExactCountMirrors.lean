/- CountMirrors of the program and of the reference agree at every maze. Conditions: those of reading alone. -/
import Derived.Test.YthmokfnejjiplaaDoorQFnExactCountMirrors
namespace Go.Proofs.YthmokfnejjiplaaDoor.Pure
open Go.RowKit Go.Proofs.YthmokfnejjiplaaDoor.PFnExactCountMirrors Go.Proofs.YthmokfnejjiplaaDoorW.PrintWords Go.Proofs.YthmokfnejjiplaaDoorW.PrintLast
set_option linter.unusedVariables false
set_option linter.unusedSimpArgs false
/-! ### rounds: what holds from some number of rounds on -/
theorem ev_succ {α : Type} {g : Nat → Option α} {r : α} (h : Ev (fun k => g (k + 1)) r) : Ev g r := by
  obtain ⟨K, h⟩ := h
  refine ⟨K + 1, fun k hk => ?_⟩
  obtain ⟨j, rfl⟩ : ∃ j, k = j + 1 := ⟨k - 1, by omega⟩
  exact h j (by omega)
theorem ev_some {α : Type} (r : α) : Ev (fun _ => some r) r := ⟨0, fun _ _ => rfl⟩
theorem ev_const {α : Type} {x : Option α} {r : α} (h : x = some r) : Ev (fun _ => x) r := ⟨0, fun _ _ => h⟩
theorem ev_bind {α β : Type} {g : Nat → Option α} {f : Nat → α → Option β} {a : α} {r : β} (h : Ev g a) (k : Ev (fun n => f n a) r) : Ev (fun n => (g n).bind (f n)) r := by
  obtain ⟨K, h⟩ := h
  obtain ⟨L, k⟩ := k
  exact ⟨max K L, fun n hn => by show (g n).bind (f n) = some r; rw [h n (by omega)]; exact k n (by omega)⟩
theorem ev_pos {α : Type} {c : Prop} [Decidable c] {f g : Nat → Option α} {r : α} (hc : c) (h : Ev f r) : Ev (fun k => if c then f k else g k) r := by
  obtain ⟨K, h⟩ := h
  exact ⟨K, fun n hn => by show (if c then f n else g n) = some r; rw [if_pos hc]; exact h n hn⟩
theorem ev_neg {α : Type} {c : Prop} [Decidable c] {f g : Nat → Option α} {r : α} (hc : ¬ c) (h : Ev g r) : Ev (fun k => if c then f k else g k) r := by
  obtain ⟨K, h⟩ := h
  exact ⟨K, fun n hn => by show (if c then f n else g n) = some r; rw [if_neg hc]; exact h n hn⟩
theorem ev_ite {α : Type} {c : Prop} [Decidable c] {f g : Nat → Option α} {r : α} (h1 : c → Ev f r) (h2 : ¬ c → Ev g r) : Ev (fun k => if c then f k else g k) r := by
  by_cases hc : c
  · exact ev_pos hc (h1 hc)
  · exact ev_neg hc (h2 hc)
theorem ev_out {α : Type} {g : Nat → Option α} {r : α} (h : Ev g r) : ∃ k, g k = some r := by
  obtain ⟨K, h⟩ := h
  exact ⟨K, h K (Nat.le_refl _)⟩
theorem ev_uni {α : Type} {g : Nat → Option α} {r r' : α} (h : Ev g r) (h' : Ev g r') : r = r' := by
  obtain ⟨K, h⟩ := h
  obtain ⟨L, h'⟩ := h'
  have := (h (max K L) (by omega)).symm.trans (h' (max K L) (by omega))
  exact Option.some.inj this
theorem w64 {x : Int} (h1 : -9223372036854775808 ≤ x) (h2 : x ≤ 9223372036854775807) : wrap64 x = x := by
  unfold wrap64
  omega
theorem i64_range {x : Int} (h : (Lit.int .i64 x).wf = true) : -9223372036854775808 ≤ x ∧ x ≤ 9223372036854775807 := by
  have e1 : IntKind.i64.min = -9223372036854775808 := by decide
  have e2 : IntKind.i64.max = 9223372036854775807 := by decide
  have h' : IntKind.i64.min ≤ x ∧ x ≤ IntKind.i64.max := by simpa [Lit.wf] using h
  omega
theorem maxLen_eq : maxLen = 9223372036854775807 := rfl
/-! ### bytes of a string as a list of numbers -/
def bl (a : ByteArray) : List Int := a.data.toList.map (fun b => (b.toNat : Int))
theorem size_data (a : ByteArray) : a.data.toList.length = a.size := by
  rw [Array.length_toList]
  rfl
theorem bl_length (a : ByteArray) : (bl a).length = a.size := by
  unfold bl
  rw [List.length_map, size_data]
theorem bl_get? (a : ByteArray) (i : Nat) (h : i < a.size) : (bl a)[i]? = some (bt a (i : Int)) := by
  unfold bl bt
  rw [List.getElem?_map, Array.getElem?_toList]
  have e : ((i : Int)).toNat = i := Int.toNat_natCast i
  have h2 : a.data[i]? = some (a.data[i]'h) := Array.getElem?_eq_getElem h
  rw [h2, dif_pos (by rw [e]; exact h)]
  simp only [e]
  rfl
theorem bl_get (a : ByteArray) (i : Nat) (h : i < (bl a).length) : (bl a)[i] = bt a (i : Int) := by
  have h2 := bl_get? a i (by rw [← bl_length]; exact h)
  rw [List.getElem?_eq_getElem h] at h2
  exact Option.some.inj h2
theorem bl_drop (a : ByteArray) (i : Nat) (h : i < a.size) : (bl a).drop i = bt a (i : Int) :: (bl a).drop (i + 1) := by
  have h' : i < (bl a).length := by rw [bl_length]; exact h
  rw [List.drop_eq_getElem_cons h', bl_get a i h']
theorem bl_drop_size (a : ByteArray) : (bl a).drop a.size = [] := by
  rw [List.drop_eq_nil_iff, bl_length]
  exact Nat.le_refl _
theorem bt_at_nat (a : ByteArray) (x : Int) (h : 0 ≤ x) : bt a x = bt a ((x.toNat : Nat) : Int) := by
  rw [Int.toNat_of_nonneg h]
theorem bl_range (a : ByteArray) : ∀ x ∈ bl a, 0 ≤ x ∧ x ≤ 255 := by
  intro x hx
  unfold bl at hx
  rw [List.mem_map] at hx
  obtain ⟨b, _, rfl⟩ := hx
  have := b.toNat_lt
  omega
theorem bl_inj {a b : ByteArray} (h : bl a = bl b) : a = b := by
  unfold bl at h
  have h2 : a.data.toList = b.data.toList := by
    refine List.map_inj_right (f := fun b : UInt8 => (b.toNat : Int)) ?_ |>.1 h
    intro x y e
    exact UInt8.toNat_inj.1 (by exact_mod_cast e)
  cases a with
  | mk x =>
    cases b with
    | mk y =>
      simp only at h2
      rw [Array.toList_inj.1 h2]
/-! ### numbers within bounds -/
theorem in_eq (n lo hi : Int) : spec_l1In.f n lo hi = some (decide (lo ≤ n) && decide (n ≤ hi)) := by
  unfold spec_l1In.f
  by_cases h : n ≥ lo
  · rw [if_pos h]
    simp [show lo ≤ n from h]
  · rw [if_neg h]
    simp [show ¬ lo ≤ n from h]
theorem within_eq (n lo hi : Int) : impl_within.f n lo hi = some (decide (lo ≤ n) && decide (n ≤ hi)) := by
  unfold impl_within.f
  by_cases h : lo ≤ n
  · rw [if_pos h]
    simp [h]
  · rw [if_neg h]
    simp [h]
def inB (n lo hi : Int) : Bool := decide (lo ≤ n) && decide (n ≤ hi)
theorem inB_iff {n lo hi : Int} : inB n lo hi = true ↔ lo ≤ n ∧ n ≤ hi := by unfold inB; simp
theorem l1In_eq (n lo hi : Int) : spec_l1In.f n lo hi = some (inB n lo hi) := in_eq n lo hi
theorem wi_eq (n lo hi : Int) : impl_within.f n lo hi = some (inB n lo hi) := within_eq n lo hi
theorem ev_and {b r : Bool} {g : Nat → Option Bool} {f : Nat → Option Bool} (h : Ev g b) (k : b = true → Ev f r) : Ev (fun n => (g n).bind fun t => if t = true then f n else some false) (b && r) := by
  refine ev_bind h ?_
  cases b with
  | true => exact ev_pos rfl (k rfl)
  | false => exact ev_neg (by decide) (ev_some _)
theorem ev_and2 {b r : Bool} {g : Nat → Option Bool} {f E : Nat → Option Bool} (hE : Ev E false) (h : Ev g b) (k : b = true → Ev f r) : Ev (fun n => (g n).bind fun t => if t = true then f n else E n) (b && r) := by
  refine ev_bind h ?_
  cases b with
  | true => exact ev_pos rfl (k rfl)
  | false => exact ev_neg (by decide) hE
theorem ev_id {b : Bool} {g : Nat → Option Bool} (h : Ev g b) : Ev (fun n => (g n).bind fun t => some t) b := ev_bind h (ev_some _)
/-! ### strings.Trim leaves nothing -/
theorem dropWhile_all {α : Type} (p : α → Bool) : ∀ l : List α, (∀ x ∈ l.dropWhile p, p x = true) → l.dropWhile p = []
  | [], _ => rfl
  | a :: t, h => by
    by_cases ha : p a = true
    · rw [List.dropWhile_cons_of_pos ha] at h ⊢
      exact dropWhile_all p t h
    · rw [List.dropWhile_cons_of_neg ha] at h
      exact absurd (h a (List.mem_cons_self ..)) ha
theorem dropWhile_nil {α : Type} (p : α → Bool) : ∀ l : List α, l.dropWhile p = [] ↔ ∀ x ∈ l, p x = true
  | [] => by simp
  | a :: t => by
    by_cases ha : p a = true
    · rw [List.dropWhile_cons_of_pos ha, dropWhile_nil p t]
      simp [ha]
    · rw [List.dropWhile_cons_of_neg ha]
      simp [ha]
theorem trimS_nil (l cs : List UInt8) : Lib.trimS l cs = [] ↔ ∀ x ∈ l, cs.contains x = true := by
  unfold Lib.trimS Lib.trimLeftS Lib.trimRightS
  constructor
  · intro h
    rw [dropWhile_nil] at h
    have h2 : ∀ x ∈ l.reverse.dropWhile (cs.contains ·), cs.contains x = true := fun x hx => h x (List.mem_reverse.2 hx)
    have h3 := dropWhile_all (cs.contains ·) _ h2
    rw [dropWhile_nil] at h3
    exact fun x hx => h3 x (List.mem_reverse.2 hx)
  · intro h
    rw [dropWhile_nil]
    intro x hx
    rw [List.mem_reverse] at hx
    exact h x (List.mem_reverse.1 ((List.dropWhile_sublist _).subset hx))
theorem bl_all (a : ByteArray) (p : Int → Bool) : (bl a).all p = a.data.toList.all (fun b => p (b.toNat : Int)) := by
  unfold bl
  rw [List.all_map]
  rfl
theorem trim_empty (a c : ByteArray) (ha : a.size ≤ 140737488351232) (hc : c.size < 4294967281) (h8 : c.data.toList.all (fun b => decide (b.toNat < 128)) = true) (p : Int → Bool)
    (hp : ∀ b : UInt8, c.data.toList.contains b = p (b.toNat : Int)) : (strings_Trim.f a c).bind (fun t => some (t.toList == ([] : List UInt8))) = some ((bl a).all p) := by
  unfold strings_Trim.f
  rw [if_pos ⟨by omega, hc, h8⟩]
  show some _ = some _
  congr 1
  have e : ∀ l : List UInt8, (⟨l.toArray⟩ : ByteArray).toList = l := fun l => by rw [Lib.toList_data]
  rw [e, bl_all]
  rw [Bool.eq_iff_iff, beq_iff_eq, trimS_nil, List.all_eq_true]
  exact forall_congr' fun x => by rw [hp x]
/-! ### mazes -/
def mirB (x : Int) : Bool := x == 46 || x == 90 || x == 83
def mazeOk (w h : Int) (c : ByteArray) : Bool := inB w 1 9 && (inB h 1 9 && (((c.size : Int) == wrap64 (w * h)) && (bl c).all mirB))
theorem miGood_loop (w h : Int) (c : ByteArray) (u : Bool) (hs : c.size ≤ 140737488351232) : ∀ (n i : Nat), i + n = c.size → Ev (fun k => spec_miGood.l0 k (i : Int) w h c u) (((bl c).drop i).all mirB)
  | 0, i, e => by
    refine ev_succ ?_
    simp only [spec_miGood.l0]
    have : i = c.size := by omega
    subst this
    rw [bl_drop_size, List.all_nil]
    exact ev_neg (by omega) (ev_some _)
  | n + 1, i, e => by
    refine ev_succ ?_
    simp only [spec_miGood.l0]
    have hw : wrap64 ((i : Int) + 1) = ((i + 1 : Nat) : Int) := by rw [w64 (by omega) (by omega)]; omega
    have ih := miGood_loop w h c u hs n (i + 1) (by omega)
    rw [hw, bl_drop c i (by omega), List.all_cons]
    refine ev_pos (by omega) (ev_pos (by omega) ?_)
    refine ev_ite (fun h1 => ?_) (fun h1 => ev_ite (fun h2 => ?_) (fun h2 => ev_ite (fun h3 => ?_) (fun h3 => ?_)))
    · rw [h1]; exact ih
    · rw [h2]; exact ih
    · rw [h3]; exact ih
    · have : mirB (bt c (i : Int)) = false := by unfold mirB; simp [h1, h2, h3]
      rw [this, Bool.false_and]
      exact ev_some _
theorem miGood_ev (w h : Int) (c : ByteArray) (u : Bool) (hs : c.size ≤ 140737488351232) : Ev (fun k => spec_miGood.f k w h c u) (mazeOk w h c) := by
  unfold spec_miGood.f mazeOk
  have hE : Ev (fun k => spec_miGood.j0 k true w h c u) false := by
    refine ev_succ ?_
    simp only [spec_miGood.j0]
    exact ev_pos (by first | rfl | trivial) (ev_some _)
  refine ev_and2 hE (ev_const (l1In_eq _ _ _)) fun _ => ev_and2 hE (ev_const (l1In_eq _ _ _)) fun _ => ?_
  refine ev_succ ?_
  simp only [spec_miGood.j0]
  have hl := miGood_loop w h c u hs c.size 0 (by omega)
  rw [List.drop_zero] at hl
  by_cases he : (c.size : Int) = wrap64 (w * h)
  · rw [show ((c.size : Int) == wrap64 (w * h)) = true from beq_iff_eq.2 he, Bool.true_and]
    exact ev_neg (by simp [he]) hl
  · rw [show ((c.size : Int) == wrap64 (w * h)) = false from beq_eq_false_iff_ne.2 he, Bool.false_and]
    exact ev_pos (by simp [he]) (ev_some _)
theorem mirs_has (b : UInt8) : (⟨#[46, 90, 83]⟩ : ByteArray).data.toList.contains b = mirB (b.toNat : Int) := by
  have h : ∀ n : Fin 256, (⟨#[46, 90, 83]⟩ : ByteArray).data.toList.contains (UInt8.ofNat n.val) = mirB (n.val : Int) := by decide +kernel
  have := h ⟨b.toNat, b.toNat_lt⟩
  rwa [UInt8.ofNat_toNat] at this
theorem implIsSize_eq (w h : Int) : impl_isSize.f w h = some (inB w 1 9 && inB h 1 9) := by
  unfold impl_isSize.f
  rw [wi_eq, wi_eq]
  cases inB w 1 9 <;> rfl
theorem implIsMaze_eq (w h : Int) (c : ByteArray) (u : Bool) (hs : c.size ≤ 140737488351232) : impl_IsMaze.f w h c u = some (mazeOk w h c) := by
  unfold impl_IsMaze.f mazeOk
  rw [implIsSize_eq]
  rw [trim_empty c _ hs (by decide) (by decide +kernel) mirB mirs_has]
  cases inB w 1 9 with
  | false => rfl
  | true =>
    cases inB h 1 9 with
    | false => rfl
    | true =>
      by_cases he : (c.size : Int) = wrap64 (w * h)
      · simp [he]
      · simp [he]
theorem toMaze_eq (w h : Int) (c : ByteArray) (u : Bool) : laws_toMaze.f w h c u = some (w, h, c, u) := rfl
theorem szMaze_ev (w h : Int) (c : ByteArray) (u : Bool) (m : Int) : ∃ t, laws_szMaze.f w h c u m = some t := by
  unfold laws_szMaze.f
  split <;> exact ⟨_, rfl⟩
theorem bl_count (a : ByteArray) (c : UInt8) : (Lib.countByte a.data.toList c : Int) = ((bl a).count (c.toNat : Int) : Int) := by
  unfold Lib.countByte bl
  congr 1
  generalize a.data.toList = l
  induction l with
  | nil => rfl
  | cons x t ih =>
    rw [List.map_cons, List.count_cons, List.count_cons, ih]
    congr 1
    by_cases h : x = c
    · subst h
      simp
    · have h2 : ¬ ((x.toNat : Int) = (c.toNat : Int)) := fun e => h (UInt8.toNat_inj.1 (by exact_mod_cast e))
      simp [h, h2]
theorem count_loop (w h : Int) (c : ByteArray) (u : Bool) (hs : c.size ≤ 140737488351232) : ∀ (n i : Nat) (p q : Int), i + n = c.size → 0 ≤ p → p ≤ i → 0 ≤ q → q ≤ i → Ev (fun k => spec_CountMirrors.l0 k p q (i : Int) w h c u) (p + (((bl c).drop i).count 90 : Int), q + (((bl c).drop i).count 83 : Int), true)
  | 0, i, p, q, e, _, _, _, _ => by
    refine ev_succ ?_
    simp only [spec_CountMirrors.l0]
    have : i = c.size := by omega
    subst this
    rw [bl_drop_size]
    simp only [List.count_nil, Int.natCast_zero, Int.add_zero]
    exact ev_neg (by omega) (ev_some _)
  | n + 1, i, p, q, e, h1, h2, h3, h4 => by
    refine ev_succ ?_
    simp only [spec_CountMirrors.l0]
    have hw : wrap64 ((i : Int) + 1) = ((i + 1 : Nat) : Int) := by rw [w64 (by omega) (by omega)]; omega
    have hp : wrap64 (p + 1) = p + 1 := w64 (by omega) (by omega)
    have hq : wrap64 (q + 1) = q + 1 := w64 (by omega) (by omega)
    rw [hw, hp, hq, bl_drop c i (by omega)]
    refine ev_pos (by omega) (ev_pos (by omega) ?_)
    by_cases c1 : bt c (i : Int) = 90
    · have e1 : (bt c (i : Int) :: (bl c).drop (i + 1)).count 90 = ((bl c).drop (i + 1)).count 90 + 1 := by rw [c1, List.count_cons_self]
      have e2 : (bt c (i : Int) :: (bl c).drop (i + 1)).count 83 = ((bl c).drop (i + 1)).count 83 := List.count_cons_of_ne (by rw [c1]; decide)
      rw [e1, e2]
      refine ev_pos c1 (ev_neg (by rw [c1]; decide) ?_)
      have := count_loop w h c u hs n (i + 1) (p + 1) q (by omega) (by omega) (by omega) (by omega) (by omega)
      rw [show p + 1 + (((bl c).drop (i + 1)).count 90 : Int) = p + (((bl c).drop (i + 1)).count 90 + 1 : Nat) by omega] at this
      exact this
    · have e1 : (bt c (i : Int) :: (bl c).drop (i + 1)).count 90 = ((bl c).drop (i + 1)).count 90 := List.count_cons_of_ne c1
      rw [e1]
      refine ev_neg c1 ?_
      by_cases c2 : bt c (i : Int) = 83
      · have e2 : (bt c (i : Int) :: (bl c).drop (i + 1)).count 83 = ((bl c).drop (i + 1)).count 83 + 1 := by rw [c2, List.count_cons_self]
        rw [e2]
        refine ev_pos c2 ?_
        have := count_loop w h c u hs n (i + 1) p (q + 1) (by omega) (by omega) (by omega) (by omega) (by omega)
        rw [show q + 1 + (((bl c).drop (i + 1)).count 83 : Int) = q + (((bl c).drop (i + 1)).count 83 + 1 : Nat) by omega] at this
        exact this
      · have e2 : (bt c (i : Int) :: (bl c).drop (i + 1)).count 83 = ((bl c).drop (i + 1)).count 83 := List.count_cons_of_ne c2
        rw [e2]
        exact ev_neg c2 (count_loop w h c u hs n (i + 1) p q (by omega) (by omega) (by omega) (by omega) (by omega))
theorem FnExactCountMirrors : LawHolds := by
  intro w h c u hw hh hc hu
  refine ev_out (g := fun k => laws_FnExactCountMirrors.f k w h c u) ?_
  obtain ⟨t, ht⟩ := szMaze_ev w h c u 1048576
  unfold laws_FnExactCountMirrors.f
  refine ev_bind (ev_const ht) (ev_ite (fun _ => ev_some _) (fun _ => ev_bind (ev_const (toMaze_eq w h c u)) ?_))
  obtain ⟨z, h1, h2⟩ : ∃ z : Int × Int × Bool, Ev (fun k => spec_CountMirrors.f k w h c u) z ∧ impl_CountMirrors.f w h c u = some z := by
    unfold spec_CountMirrors.f impl_CountMirrors.f
    have e1 := miGood_ev w h c u hc
    rw [implIsMaze_eq w h c u hc]
    cases hb : mazeOk w h c with
    | false =>
      rw [hb] at e1
      exact ⟨_, ev_bind e1 (ev_neg (by decide) (ev_some _)), rfl⟩
    | true =>
      rw [hb] at e1
      have hl := count_loop w h c u hc c.size 0 0 0 (by omega) (by omega) (by omega) (by omega) (by omega)
      refine ⟨_, ev_bind e1 (ev_pos rfl hl), ?_⟩
      have z1 : strings_Count.f c (⟨#[90]⟩ : ByteArray) = some (((bl c).count 90 : Int)) := congrArg some (bl_count c 90)
      have z2 : strings_Count.f c (⟨#[83]⟩ : ByteArray) = some (((bl c).count 83 : Int)) := congrArg some (bl_count c 83)
      rw [z1, z2]
      simp
  exact ev_bind h1 (ev_bind (ev_const (toMaze_eq w h c u)) (ev_bind (ev_const h2) (ev_pos rfl (ev_pos rfl (ev_neg (by simp) (ev_some _))))))

end Go.Proofs.YthmokfnejjiplaaDoor.Pure
