/- CountWorlds of the program and of the reference agree at every rule and size. Conditions: those of reading alone. -/
import Derived.Test.YtggpolgcbojmeaaDoorQFnExactCountWorlds
namespace Go.Proofs.YtggpolgcbojmeaaDoor.Pure
open Go.RowKit Go.Proofs.YtggpolgcbojmeaaDoor.PFnExactCountWorlds Go.Proofs.YtggpolgcbojmeaaDoorW.PrintWords Go.Proofs.YtggpolgcbojmeaaDoorW.PrintLast
set_option linter.unusedVariables false
set_option linter.unusedSimpArgs false
/-! ### rounds: what holds from some number of rounds on -/
theorem ev_succ {α : Type} {g : Nat → Option α} {r : α} (h : Ev (fun k => g (k + 1)) r) : Ev g r := by
  obtain ⟨K, h⟩ := h
  refine ⟨K + 1, fun k hk => ?_⟩
  obtain ⟨j, rfl⟩ : ∃ j, k = j + 1 := ⟨k - 1, by omega⟩
  exact h j (by omega)
theorem ev_some {α : Type} (r : α) : Ev (fun _ => some r) r := ⟨0, fun _ _ => rfl⟩
theorem ev_const {α : Type} {x : Option α} {r : α} (h : x = some r) : Ev (fun _ => x) r := ⟨0, fun _ _ => h⟩
theorem ev_bind {α β : Type} {g : Nat → Option α} {f : Nat → α → Option β} {a : α} {r : β} (h : Ev g a) (k : Ev (fun n => f n a) r) : Ev (fun n => (g n).bind (f n)) r := by
  obtain ⟨K, h⟩ := h
  obtain ⟨L, k⟩ := k
  exact ⟨max K L, fun n hn => by show (g n).bind (f n) = some r; rw [h n (by omega)]; exact k n (by omega)⟩
theorem ev_pos {α : Type} {c : Prop} [Decidable c] {f g : Nat → Option α} {r : α} (hc : c) (h : Ev f r) : Ev (fun k => if c then f k else g k) r := by
  obtain ⟨K, h⟩ := h
  exact ⟨K, fun n hn => by show (if c then f n else g n) = some r; rw [if_pos hc]; exact h n hn⟩
theorem ev_neg {α : Type} {c : Prop} [Decidable c] {f g : Nat → Option α} {r : α} (hc : ¬ c) (h : Ev g r) : Ev (fun k => if c then f k else g k) r := by
  obtain ⟨K, h⟩ := h
  exact ⟨K, fun n hn => by show (if c then f n else g n) = some r; rw [if_neg hc]; exact h n hn⟩
theorem ev_ite {α : Type} {c : Prop} [Decidable c] {f g : Nat → Option α} {r : α} (h1 : c → Ev f r) (h2 : ¬ c → Ev g r) : Ev (fun k => if c then f k else g k) r := by
  by_cases hc : c
  · exact ev_pos hc (h1 hc)
  · exact ev_neg hc (h2 hc)
theorem ev_out {α : Type} {g : Nat → Option α} {r : α} (h : Ev g r) : ∃ k, g k = some r := by
  obtain ⟨K, h⟩ := h
  exact ⟨K, h K (Nat.le_refl _)⟩
theorem ev_uni {α : Type} {g : Nat → Option α} {r r' : α} (h : Ev g r) (h' : Ev g r') : r = r' := by
  obtain ⟨K, h⟩ := h
  obtain ⟨L, h'⟩ := h'
  have := (h (max K L) (by omega)).symm.trans (h' (max K L) (by omega))
  exact Option.some.inj this
theorem w64 {x : Int} (h1 : -9223372036854775808 ≤ x) (h2 : x ≤ 9223372036854775807) : wrap64 x = x := by
  unfold wrap64
  omega
theorem i64_range {x : Int} (h : (Lit.int .i64 x).wf = true) : -9223372036854775808 ≤ x ∧ x ≤ 9223372036854775807 := by
  have e1 : IntKind.i64.min = -9223372036854775808 := by decide
  have e2 : IntKind.i64.max = 9223372036854775807 := by decide
  have h' : IntKind.i64.min ≤ x ∧ x ≤ IntKind.i64.max := by simpa [Lit.wf] using h
  omega
theorem maxLen_eq : maxLen = 9223372036854775807 := rfl
/-! ### bytes of a string as a list of numbers -/
def bl (a : ByteArray) : List Int := a.data.toList.map (fun b => (b.toNat : Int))
theorem size_data (a : ByteArray) : a.data.toList.length = a.size := by
  rw [Array.length_toList]
  rfl
theorem bl_length (a : ByteArray) : (bl a).length = a.size := by
  unfold bl
  rw [List.length_map, size_data]
theorem bl_get? (a : ByteArray) (i : Nat) (h : i < a.size) : (bl a)[i]? = some (bt a (i : Int)) := by
  unfold bl bt
  rw [List.getElem?_map, Array.getElem?_toList]
  have e : ((i : Int)).toNat = i := Int.toNat_natCast i
  have h2 : a.data[i]? = some (a.data[i]'h) := Array.getElem?_eq_getElem h
  rw [h2, dif_pos (by rw [e]; exact h)]
  simp only [e]
  rfl
theorem bl_get (a : ByteArray) (i : Nat) (h : i < (bl a).length) : (bl a)[i] = bt a (i : Int) := by
  have h2 := bl_get? a i (by rw [← bl_length]; exact h)
  rw [List.getElem?_eq_getElem h] at h2
  exact Option.some.inj h2
theorem bl_drop (a : ByteArray) (i : Nat) (h : i < a.size) : (bl a).drop i = bt a (i : Int) :: (bl a).drop (i + 1) := by
  have h' : i < (bl a).length := by rw [bl_length]; exact h
  rw [List.drop_eq_getElem_cons h', bl_get a i h']
theorem bl_drop_size (a : ByteArray) : (bl a).drop a.size = [] := by
  rw [List.drop_eq_nil_iff, bl_length]
  exact Nat.le_refl _
theorem bt_at_nat (a : ByteArray) (x : Int) (h : 0 ≤ x) : bt a x = bt a ((x.toNat : Nat) : Int) := by
  rw [Int.toNat_of_nonneg h]
theorem bl_range (a : ByteArray) : ∀ x ∈ bl a, 0 ≤ x ∧ x ≤ 255 := by
  intro x hx
  unfold bl at hx
  rw [List.mem_map] at hx
  obtain ⟨b, _, rfl⟩ := hx
  have := b.toNat_lt
  omega
theorem bl_inj {a b : ByteArray} (h : bl a = bl b) : a = b := by
  unfold bl at h
  have h2 : a.data.toList = b.data.toList := by
    refine List.map_inj_right (f := fun b : UInt8 => (b.toNat : Int)) ?_ |>.1 h
    intro x y e
    exact UInt8.toNat_inj.1 (by exact_mod_cast e)
  cases a with
  | mk x =>
    cases b with
    | mk y =>
      simp only at h2
      rw [Array.toList_inj.1 h2]
/-! ### numbers within bounds -/
theorem in_eq (n lo hi : Int) : spec_l1In.f n lo hi = some (decide (lo ≤ n) && decide (n ≤ hi)) := by
  unfold spec_l1In.f
  by_cases h : n ≥ lo
  · rw [if_pos h]
    simp [show lo ≤ n from h]
  · rw [if_neg h]
    simp [show ¬ lo ≤ n from h]
theorem within_eq (n lo hi : Int) : impl_within.f n lo hi = some (decide (lo ≤ n) && decide (n ≤ hi)) := by
  unfold impl_within.f
  by_cases h : lo ≤ n
  · rw [if_pos h]
    simp [h]
  · rw [if_neg h]
    simp [h]
def inB (n lo hi : Int) : Bool := decide (lo ≤ n) && decide (n ≤ hi)
theorem inB_iff {n lo hi : Int} : inB n lo hi = true ↔ lo ≤ n ∧ n ≤ hi := by unfold inB; simp
theorem l1In_eq (n lo hi : Int) : spec_l1In.f n lo hi = some (inB n lo hi) := in_eq n lo hi
theorem wi_eq (n lo hi : Int) : impl_within.f n lo hi = some (inB n lo hi) := within_eq n lo hi
theorem ev_and {b r : Bool} {g : Nat → Option Bool} {f : Nat → Option Bool} (h : Ev g b) (k : b = true → Ev f r) : Ev (fun n => (g n).bind fun t => if t = true then f n else some false) (b && r) := by
  refine ev_bind h ?_
  cases b with
  | true => exact ev_pos rfl (k rfl)
  | false => exact ev_neg (by decide) (ev_some _)
theorem ev_and2 {b r : Bool} {g : Nat → Option Bool} {f E : Nat → Option Bool} (hE : Ev E false) (h : Ev g b) (k : b = true → Ev f r) : Ev (fun n => (g n).bind fun t => if t = true then f n else E n) (b && r) := by
  refine ev_bind h ?_
  cases b with
  | true => exact ev_pos rfl (k rfl)
  | false => exact ev_neg (by decide) hE
theorem ev_id {b : Bool} {g : Nat → Option Bool} (h : Ev g b) : Ev (fun n => (g n).bind fun t => some t) b := ev_bind h (ev_some _)
/-! ### strings.Trim leaves nothing -/
theorem dropWhile_all {α : Type} (p : α → Bool) : ∀ l : List α, (∀ x ∈ l.dropWhile p, p x = true) → l.dropWhile p = []
  | [], _ => rfl
  | a :: t, h => by
    by_cases ha : p a = true
    · rw [List.dropWhile_cons_of_pos ha] at h ⊢
      exact dropWhile_all p t h
    · rw [List.dropWhile_cons_of_neg ha] at h
      exact absurd (h a (List.mem_cons_self ..)) ha
theorem dropWhile_nil {α : Type} (p : α → Bool) : ∀ l : List α, l.dropWhile p = [] ↔ ∀ x ∈ l, p x = true
  | [] => by simp
  | a :: t => by
    by_cases ha : p a = true
    · rw [List.dropWhile_cons_of_pos ha, dropWhile_nil p t]
      simp [ha]
    · rw [List.dropWhile_cons_of_neg ha]
      simp [ha]
theorem trimS_nil (l cs : List UInt8) : Lib.trimS l cs = [] ↔ ∀ x ∈ l, cs.contains x = true := by
  unfold Lib.trimS Lib.trimLeftS Lib.trimRightS
  constructor
  · intro h
    rw [dropWhile_nil] at h
    have h2 : ∀ x ∈ l.reverse.dropWhile (cs.contains ·), cs.contains x = true := fun x hx => h x (List.mem_reverse.2 hx)
    have h3 := dropWhile_all (cs.contains ·) _ h2
    rw [dropWhile_nil] at h3
    exact fun x hx => h3 x (List.mem_reverse.2 hx)
  · intro h
    rw [dropWhile_nil]
    intro x hx
    rw [List.mem_reverse] at hx
    exact h x (List.mem_reverse.1 ((List.dropWhile_sublist _).subset hx))
theorem bl_all (a : ByteArray) (p : Int → Bool) : (bl a).all p = a.data.toList.all (fun b => p (b.toNat : Int)) := by
  unfold bl
  rw [List.all_map]
  rfl
theorem trim_empty (a c : ByteArray) (ha : a.size ≤ 140737488351232) (hc : c.size < 4294967281) (h8 : c.data.toList.all (fun b => decide (b.toNat < 128)) = true) (p : Int → Bool)
    (hp : ∀ b : UInt8, c.data.toList.contains b = p (b.toNat : Int)) : (strings_Trim.f a c).bind (fun t => some (t.toList == ([] : List UInt8))) = some ((bl a).all p) := by
  unfold strings_Trim.f
  rw [if_pos ⟨by omega, hc, h8⟩]
  show some _ = some _
  congr 1
  have e : ∀ l : List UInt8, (⟨l.toArray⟩ : ByteArray).toList = l := fun l => by rw [Lib.toList_data]
  rw [e, bl_all]
  rw [Bool.eq_iff_iff, beq_iff_eq, trimS_nil, List.all_eq_true]
  exact forall_congr' fun x => by rw [hp x]
/-! ### rules -/
def signB (x : Int) : Bool := x == 76 || x == 82 || x == 78 || x == 85
def ruleOk (a : ByteArray) : Bool := decide (1 ≤ a.size) && decide (a.size ≤ 6) && (bl a).all signB
theorem woRule_loop (a : ByteArray) (hs : a.size ≤ 140737488351232) : ∀ (n i : Nat), i + n = a.size → Ev (fun k => spec_woRule.l0 k a (i : Int)) (((bl a).drop i).all signB)
  | 0, i, h => by
    refine ev_succ ?_
    simp only [spec_woRule.l0]
    have : i = a.size := by omega
    subst this
    rw [bl_drop_size]
    exact ev_neg (by omega) (ev_some _)
  | n + 1, i, h => by
    refine ev_succ ?_
    simp only [spec_woRule.l0]
    have hw : wrap64 ((i : Int) + 1) = ((i + 1 : Nat) : Int) := by rw [w64 (by omega) (by omega)]; omega
    have ih := woRule_loop a hs n (i + 1) (by omega)
    rw [hw, bl_drop a i (by omega), List.all_cons]
    refine ev_pos (by omega) (ev_pos (by omega) ?_)
    refine ev_ite (fun h1 => ?_) (fun h1 => ev_ite (fun h2 => ?_) (fun h2 => ev_ite (fun h3 => ?_) (fun h3 => ev_ite (fun h4 => ?_) (fun h4 => ?_))))
    · rw [h1]; exact ih
    · rw [h2]; exact ih
    · rw [h3]; exact ih
    · rw [h4]; exact ih
    · have : signB (bt a (i : Int)) = false := by unfold signB; simp [h1, h2, h3, h4]
      rw [this, Bool.false_and]
      exact ev_some _
theorem woRule_ev (a : ByteArray) (hs : a.size ≤ 140737488351232) : Ev (fun k => spec_woRule.f k a) (ruleOk a) := by
  unfold spec_woRule.f
  refine ev_bind (ev_const (in_eq _ _ _)) ?_
  unfold ruleOk
  by_cases h1 : 1 ≤ a.size
  · by_cases h2 : a.size ≤ 6
    · have := woRule_loop a hs a.size 0 (by omega)
      rw [List.drop_zero] at this
      rw [decide_eq_true (p := (1:Int) ≤ (a.size : Int)) (by omega), decide_eq_true (p := (a.size : Int) ≤ 6) (by omega), decide_eq_true h1, decide_eq_true h2]
      exact ev_pos rfl this
    · rw [decide_eq_false (p := (a.size : Int) ≤ 6) (by omega), decide_eq_false h2, Bool.and_false, Bool.and_false, Bool.false_and]
      exact ev_neg (by decide) (ev_some _)
  · rw [decide_eq_false (p := (1:Int) ≤ (a.size : Int)) (by omega), decide_eq_false h1, Bool.false_and, Bool.false_and, Bool.false_and]
    exact ev_neg (by decide) (ev_some _)
theorem signs_has (b : UInt8) : (⟨#[76, 82, 78, 85]⟩ : ByteArray).data.toList.contains b = signB (b.toNat : Int) := by
  have h : ∀ n : Fin 256, (⟨#[76, 82, 78, 85]⟩ : ByteArray).data.toList.contains (UInt8.ofNat n.val) = signB (n.val : Int) := by decide +kernel
  have := h ⟨b.toNat, b.toNat_lt⟩
  rwa [UInt8.ofNat_toNat] at this
theorem implIsRule_eq (a : ByteArray) (hs : a.size ≤ 140737488351232) : impl_IsRule.f a = some (ruleOk a) := by
  unfold impl_IsRule.f
  rw [within_eq]
  show (if _ then _ else _) = _
  rw [trim_empty a _ hs (by decide) (by decide +kernel) signB signs_has]
  unfold ruleOk
  by_cases h1 : 1 ≤ a.size
  · by_cases h2 : a.size ≤ 6
    · rw [decide_eq_true (p := (1:Int) ≤ (a.size : Int)) (by omega), decide_eq_true (p := (a.size : Int) ≤ 6) (by omega), decide_eq_true h1, decide_eq_true h2]
      rfl
    · rw [decide_eq_false (p := (a.size : Int) ≤ 6) (by omega), decide_eq_false h2, Bool.and_false, Bool.and_false, Bool.false_and]
      rfl
  · rw [decide_eq_false (p := (1:Int) ≤ (a.size : Int)) (by omega), decide_eq_false h1, Bool.false_and, Bool.false_and, Bool.false_and]
    rfl
theorem implIsSize_eq (w h : Int) : impl_isSize.f w h = some (inB w 1 9 && inB h 1 9) := by
  unfold impl_isSize.f
  rw [wi_eq, wi_eq]
  cases inB w 1 9 <;> rfl
def manyF (s : Int) : Nat → Int → Int
  | 0, x => x
  | n + 1, x => if wrap64 (x * s) > 3000 then 0 else manyF s n (wrap64 (x * s))
def capF (s : Int) : Nat → Int → Int
  | 0, x => x
  | n + 1, x => capF s n (mn (wrap64 (x * s)) (wrap64 (3000 + 1)))
theorem many_ev (r : ByteArray) : ∀ (n : Nat) (x : Int), n ≤ 1000000 → Ev (fun k => spec_loMany.l0 k r x (n : Int)) (manyF (r.size : Int) n x)
  | 0, x, _ => by
    refine ev_succ ?_
    simp only [spec_loMany.l0]
    exact ev_neg (by omega) (ev_some _)
  | n + 1, x, hn => by
    refine ev_succ ?_
    simp only [spec_loMany.l0, manyF]
    have hw : wrap64 (((n + 1 : Nat) : Int) - 1) = (n : Int) := by rw [w64 (by omega) (by omega)]; omega
    rw [hw]
    refine ev_pos (by omega) ?_
    by_cases c : wrap64 (x * (r.size : Int)) > 3000
    · rw [if_pos c]
      exact ev_pos c (ev_some _)
    · rw [if_neg c]
      exact ev_neg c (many_ev r n _ (by omega))
theorem cap_ev (s m : Int) : ∀ (n i : Nat) (x : Int), (i : Int) + n = m → m ≤ 1000000 → Ev (fun k => impl_boards.l0 k s 3000 x m (i : Int)) (capF s n x)
  | 0, i, x, e, _ => by
    refine ev_succ ?_
    simp only [impl_boards.l0]
    exact ev_neg (by omega) (ev_some _)
  | n + 1, i, x, e, hm => by
    refine ev_succ ?_
    simp only [impl_boards.l0, capF]
    have hw : wrap64 ((i : Int) + 1) = ((i + 1 : Nat) : Int) := by rw [w64 (by omega) (by omega)]; omega
    rw [hw]
    exact ev_pos (by omega) (cap_ev s m n (i + 1) _ (by omega) hm)
theorem mul_bounds {a b : Int} (h1 : 1 ≤ a) (h2 : a ≤ 9) (h3 : 1 ≤ b) (h4 : b ≤ 9) : 1 ≤ a * b ∧ a * b ≤ 81 := by
  have e1 : a = 1 ∨ a = 2 ∨ a = 3 ∨ a = 4 ∨ a = 5 ∨ a = 6 ∨ a = 7 ∨ a = 8 ∨ a = 9 := by omega
  rcases e1 with rfl | rfl | rfl | rfl | rfl | rfl | rfl | rfl | rfl <;> omega
def specR (s w h : Int) : Int × Bool :=
  if (if manyF s (w * h).toNat (wrap64 (wrap64 (4 * w) * h)) > 0 then decide (wrap64 (wrap64 (4 * w) * h) ≤ 3000) else false) = true then (manyF s (w * h).toNat (wrap64 (wrap64 (4 * w) * h)), true) else (0, false)
def implR (s w h : Int) : Int × Bool :=
  if wrap64 (wrap64 (wrap64 (capF s (w * h).toNat 1 * w) * h) * 4) > 3000 then (0, false) else (wrap64 (wrap64 (wrap64 (capF s (w * h).toNat 1 * w) * h) * 4), true)
theorem count_same : ∀ (s : Fin 6) (w h : Fin 9), specR (s.val + 1 : Nat) (w.val + 1 : Nat) (h.val + 1 : Nat) = implR (s.val + 1 : Nat) (w.val + 1 : Nat) (h.val + 1 : Nat) := by decide +kernel
theorem count_eq {s w h : Int} (s1 : 1 ≤ s) (s6 : s ≤ 6) (w1 : 1 ≤ w) (w9 : w ≤ 9) (h1 : 1 ≤ h) (h9 : h ≤ 9) : specR s w h = implR s w h := by
  have := count_same ⟨(s - 1).toNat, by omega⟩ ⟨(w - 1).toNat, by omega⟩ ⟨(h - 1).toNat, by omega⟩
  have e1 : (((s - 1).toNat + 1 : Nat) : Int) = s := by omega
  have e2 : (((w - 1).toNat + 1 : Nat) : Int) = w := by omega
  have e3 : (((h - 1).toNat + 1 : Nat) : Int) = h := by omega
  simpa only [e1, e2, e3] using this
theorem FnExactCountWorlds : LawHolds := by
  intro r w h hr hw hh
  refine ev_out (g := fun n => laws_FnExactCountWorlds.f n r w h) ?_
  unfold laws_FnExactCountWorlds.f
  refine ev_ite (fun _ => ev_some _) (fun _ => ?_)
  have hj0 : Ev (fun k => impl_CountWorlds.j0 k r w h true) (0, false) := by
    refine ev_succ ?_
    simp only [impl_CountWorlds.j0]
    exact ev_pos (by first | rfl | trivial) (ev_some _)
  obtain ⟨z, h1, h2⟩ : ∃ z : Int × Bool, Ev (fun n => spec_CountWorlds.f n r w h) z ∧ Ev (fun n => impl_CountWorlds.f n r w h) z := by
    unfold spec_CountWorlds.f impl_CountWorlds.f spec_loAsked.f
    have e1 := woRule_ev r hr
    cases hb : ruleOk r with
    | false =>
      rw [hb] at e1
      exact ⟨(0, false), ev_bind (ev_bind e1 (ev_neg (by decide) (ev_some _))) (ev_neg (by decide) (ev_some _)), ev_bind (ev_const ((implIsRule_eq r hr).trans (by rw [hb]))) (ev_neg (by decide) hj0)⟩
    | true =>
      rw [hb] at e1
      have ei : impl_IsRule.f r = some true := (implIsRule_eq r hr).trans (by rw [hb])
      cases hb1 : inB w 1 9 with
      | false => exact ⟨(0, false), ev_bind (ev_bind e1 (ev_pos rfl (ev_bind (ev_const ((l1In_eq w 1 9).trans (by rw [hb1]))) (ev_neg (by decide) (ev_some _))))) (ev_neg (by decide) (ev_some _)), ev_bind (ev_const ei) (ev_pos rfl (ev_bind (a := false) (ev_const ((implIsSize_eq w h).trans (by rw [hb1]; rfl))) hj0))⟩
      | true =>
        cases hb2 : inB h 1 9 with
        | false => exact ⟨(0, false), ev_bind (ev_bind e1 (ev_pos rfl (ev_bind (ev_const ((l1In_eq w 1 9).trans (by rw [hb1]))) (ev_pos rfl (ev_bind (ev_const ((l1In_eq h 1 9).trans (by rw [hb2]))) (ev_neg (by decide) (ev_some _))))))) (ev_neg (by decide) (ev_some _)), ev_bind (ev_const ei) (ev_pos rfl (ev_bind (a := false) (ev_const ((implIsSize_eq w h).trans (by rw [hb1, hb2]; rfl))) hj0))⟩
        | true =>
          have b1 := inB_iff.1 hb1
          have b2 := inB_iff.1 hb2
          have hm := mul_bounds b1.1 b1.2 b2.1 b2.2
          have hs : (1 : Int) ≤ (r.size : Int) ∧ (r.size : Int) ≤ 6 := by
            unfold ruleOk at hb
            simp only [Bool.and_eq_true, decide_eq_true_eq] at hb
            omega
          have hwr : wrap64 (w * h) = ((w * h).toNat : Int) := by rw [w64 (by omega) (by omega)]; omega
          have hmany : Ev (fun k => spec_loMany.f k r w h) (manyF (r.size : Int) (w * h).toNat (wrap64 (wrap64 (4 * w) * h))) := by
            unfold spec_loMany.f
            rw [hwr]
            exact many_ev r _ _ (by omega)
          have hcap : Ev (fun k => impl_boards.f k (r.size : Int) (wrap64 (w * h)) 3000) (capF (r.size : Int) (w * h).toNat 1) := by
            unfold impl_boards.f
            rw [hwr]
            exact cap_ev _ _ (w * h).toNat 0 1 (by omega) (by omega)
          have hsame := count_eq hs.1 hs.2 b1.1 b1.2 b2.1 b2.2
          refine ⟨specR (r.size : Int) w h, ?_, ?_⟩
          · unfold specR
            refine ev_bind (a := if manyF (r.size : Int) (w * h).toNat (wrap64 (wrap64 (4 * w) * h)) > 0 then decide (wrap64 (wrap64 (4 * w) * h) ≤ 3000) else false) (ev_bind e1 (ev_pos rfl (ev_bind (ev_const ((l1In_eq w 1 9).trans (by rw [hb1]))) (ev_pos rfl (ev_bind (ev_const ((l1In_eq h 1 9).trans (by rw [hb2]))) (ev_pos rfl (ev_bind hmany ?_))))))) ?_
            · by_cases c : manyF (r.size : Int) (w * h).toNat (wrap64 (wrap64 (4 * w) * h)) > 0
              · simp only [if_pos c]
                exact ev_some _
              · simp only [if_neg c]
                exact ev_some _
            · generalize (if manyF (r.size : Int) (w * h).toNat (wrap64 (wrap64 (4 * w) * h)) > 0 then decide (wrap64 (wrap64 (4 * w) * h) ≤ 3000) else false) = bb
              cases bb with
              | true => exact ev_pos rfl (ev_bind hmany (ev_some _))
              | false => exact ev_neg (by decide) (ev_some _)
          · rw [hsame]
            unfold implR
            refine ev_bind (ev_const ei) (ev_pos rfl (ev_bind (a := true) (ev_const ((implIsSize_eq w h).trans (by rw [hb1, hb2]; rfl))) ?_))
            refine ev_succ ?_
            simp only [impl_CountWorlds.j0]
            refine ev_neg (by decide) (ev_bind hcap ?_)
            by_cases c : wrap64 (wrap64 (wrap64 (capF (r.size : Int) (w * h).toNat 1 * w) * h) * 4) > 3000
            · simp only [if_pos c]
              exact ev_some _
            · simp only [if_neg c]
              exact ev_some _
  exact ev_bind h1 (ev_bind h2 (ev_pos rfl (ev_neg (by simp) (ev_some _))))

end Go.Proofs.YtggpolgcbojmeaaDoor.Pure
