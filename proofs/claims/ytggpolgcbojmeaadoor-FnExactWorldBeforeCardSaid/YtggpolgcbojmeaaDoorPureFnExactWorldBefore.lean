/- WorldBefore of the program and of the reference agree at every world and number of steps. Conditions: those of reading alone. -/
import Derived.Test.YtggpolgcbojmeaaDoorQFnExactWorldBefore
namespace Go.Proofs.YtggpolgcbojmeaaDoor.Pure
open Go.RowKit Go.Proofs.YtggpolgcbojmeaaDoor.PFnExactWorldBefore Go.Proofs.YtggpolgcbojmeaaDoorW.PrintWords Go.Proofs.YtggpolgcbojmeaaDoorW.PrintLast
set_option linter.unusedVariables false
set_option linter.unusedSimpArgs false
theorem ev_succ {α : Type} {g : Nat → Option α} {r : α} (h : Ev (fun k => g (k + 1)) r) : Ev g r := by
  obtain ⟨K, h⟩ := h
  refine ⟨K + 1, fun k hk => ?_⟩
  obtain ⟨j, rfl⟩ : ∃ j, k = j + 1 := ⟨k - 1, by omega⟩
  exact h j (by omega)
theorem ev_some {α : Type} (r : α) : Ev (fun _ => some r) r := ⟨0, fun _ _ => rfl⟩
theorem ev_const {α : Type} {x : Option α} {r : α} (h : x = some r) : Ev (fun _ => x) r := ⟨0, fun _ _ => h⟩
theorem ev_bind {α β : Type} {g : Nat → Option α} {f : Nat → α → Option β} {a : α} {r : β} (h : Ev g a) (k : Ev (fun n => f n a) r) : Ev (fun n => (g n).bind (f n)) r := by
  obtain ⟨K, h⟩ := h
  obtain ⟨L, k⟩ := k
  exact ⟨max K L, fun n hn => by show (g n).bind (f n) = some r; rw [h n (by omega)]; exact k n (by omega)⟩
theorem ev_pos {α : Type} {c : Prop} [Decidable c] {f g : Nat → Option α} {r : α} (hc : c) (h : Ev f r) : Ev (fun k => if c then f k else g k) r := by
  obtain ⟨K, h⟩ := h
  exact ⟨K, fun n hn => by show (if c then f n else g n) = some r; rw [if_pos hc]; exact h n hn⟩
theorem ev_neg {α : Type} {c : Prop} [Decidable c] {f g : Nat → Option α} {r : α} (hc : ¬ c) (h : Ev g r) : Ev (fun k => if c then f k else g k) r := by
  obtain ⟨K, h⟩ := h
  exact ⟨K, fun n hn => by show (if c then f n else g n) = some r; rw [if_neg hc]; exact h n hn⟩
theorem ev_ite {α : Type} {c : Prop} [Decidable c] {f g : Nat → Option α} {r : α} (h1 : c → Ev f r) (h2 : ¬ c → Ev g r) : Ev (fun k => if c then f k else g k) r := by
  by_cases hc : c
  · exact ev_pos hc (h1 hc)
  · exact ev_neg hc (h2 hc)
theorem ev_out {α : Type} {g : Nat → Option α} {r : α} (h : Ev g r) : ∃ k, g k = some r := by
  obtain ⟨K, h⟩ := h
  exact ⟨K, h K (Nat.le_refl _)⟩
theorem ev_uni {α : Type} {g : Nat → Option α} {r r' : α} (h : Ev g r) (h' : Ev g r') : r = r' := by
  obtain ⟨K, h⟩ := h
  obtain ⟨L, h'⟩ := h'
  have := (h (max K L) (by omega)).symm.trans (h' (max K L) (by omega))
  exact Option.some.inj this
theorem w64 {x : Int} (h1 : -9223372036854775808 ≤ x) (h2 : x ≤ 9223372036854775807) : wrap64 x = x := by
  unfold wrap64
  omega
theorem i64_range {x : Int} (h : (Lit.int .i64 x).wf = true) : -9223372036854775808 ≤ x ∧ x ≤ 9223372036854775807 := by
  have e1 : IntKind.i64.min = -9223372036854775808 := by decide
  have e2 : IntKind.i64.max = 9223372036854775807 := by decide
  have h' : IntKind.i64.min ≤ x ∧ x ≤ IntKind.i64.max := by simpa [Lit.wf] using h
  omega
theorem maxLen_eq : maxLen = 9223372036854775807 := rfl
def bl (a : ByteArray) : List Int := a.data.toList.map (fun b => (b.toNat : Int))
theorem size_data (a : ByteArray) : a.data.toList.length = a.size := by
  rw [Array.length_toList]
  rfl
theorem bl_length (a : ByteArray) : (bl a).length = a.size := by
  unfold bl
  rw [List.length_map, size_data]
theorem bl_get? (a : ByteArray) (i : Nat) (h : i < a.size) : (bl a)[i]? = some (bt a (i : Int)) := by
  unfold bl bt
  rw [List.getElem?_map, Array.getElem?_toList]
  have e : ((i : Int)).toNat = i := Int.toNat_natCast i
  have h2 : a.data[i]? = some (a.data[i]'h) := Array.getElem?_eq_getElem h
  rw [h2, dif_pos (by rw [e]; exact h)]
  simp only [e]
  rfl
theorem bl_get (a : ByteArray) (i : Nat) (h : i < (bl a).length) : (bl a)[i] = bt a (i : Int) := by
  have h2 := bl_get? a i (by rw [← bl_length]; exact h)
  rw [List.getElem?_eq_getElem h] at h2
  exact Option.some.inj h2
theorem bl_drop (a : ByteArray) (i : Nat) (h : i < a.size) : (bl a).drop i = bt a (i : Int) :: (bl a).drop (i + 1) := by
  have h' : i < (bl a).length := by rw [bl_length]; exact h
  rw [List.drop_eq_getElem_cons h', bl_get a i h']
theorem bl_drop_size (a : ByteArray) : (bl a).drop a.size = [] := by
  rw [List.drop_eq_nil_iff, bl_length]
  exact Nat.le_refl _
theorem bt_at_nat (a : ByteArray) (x : Int) (h : 0 ≤ x) : bt a x = bt a ((x.toNat : Nat) : Int) := by
  rw [Int.toNat_of_nonneg h]
theorem bl_range (a : ByteArray) : ∀ x ∈ bl a, 0 ≤ x ∧ x ≤ 255 := by
  intro x hx
  unfold bl at hx
  rw [List.mem_map] at hx
  obtain ⟨b, _, rfl⟩ := hx
  have := b.toNat_lt
  omega
theorem bl_inj {a b : ByteArray} (h : bl a = bl b) : a = b := by
  unfold bl at h
  have h2 : a.data.toList = b.data.toList := by
    refine List.map_inj_right (f := fun b : UInt8 => (b.toNat : Int)) ?_ |>.1 h
    intro x y e
    exact UInt8.toNat_inj.1 (by exact_mod_cast e)
  cases a with
  | mk x =>
    cases b with
    | mk y =>
      simp only at h2
      rw [Array.toList_inj.1 h2]
theorem in_eq (n lo hi : Int) : spec_l1In.f n lo hi = some (decide (lo ≤ n) && decide (n ≤ hi)) := by
  unfold spec_l1In.f
  by_cases h : n ≥ lo
  · rw [if_pos h]
    simp [show lo ≤ n from h]
  · rw [if_neg h]
    simp [show ¬ lo ≤ n from h]
theorem within_eq (n lo hi : Int) : impl_within.f n lo hi = some (decide (lo ≤ n) && decide (n ≤ hi)) := by
  unfold impl_within.f
  by_cases h : lo ≤ n
  · rw [if_pos h]
    simp [h]
  · rw [if_neg h]
    simp [h]
def inB (n lo hi : Int) : Bool := decide (lo ≤ n) && decide (n ≤ hi)
theorem inB_iff {n lo hi : Int} : inB n lo hi = true ↔ lo ≤ n ∧ n ≤ hi := by unfold inB; simp
theorem l1In_eq (n lo hi : Int) : spec_l1In.f n lo hi = some (inB n lo hi) := in_eq n lo hi
theorem wi_eq (n lo hi : Int) : impl_within.f n lo hi = some (inB n lo hi) := within_eq n lo hi
theorem ev_and {b r : Bool} {g : Nat → Option Bool} {f : Nat → Option Bool} (h : Ev g b) (k : b = true → Ev f r) : Ev (fun n => (g n).bind fun t => if t = true then f n else some false) (b && r) := by
  refine ev_bind h ?_
  cases b with
  | true => exact ev_pos rfl (k rfl)
  | false => exact ev_neg (by decide) (ev_some _)
theorem ev_and2 {b r : Bool} {g : Nat → Option Bool} {f E : Nat → Option Bool} (hE : Ev E false) (h : Ev g b) (k : b = true → Ev f r) : Ev (fun n => (g n).bind fun t => if t = true then f n else E n) (b && r) := by
  refine ev_bind h ?_
  cases b with
  | true => exact ev_pos rfl (k rfl)
  | false => exact ev_neg (by decide) hE
theorem ev_id {b : Bool} {g : Nat → Option Bool} (h : Ev g b) : Ev (fun n => (g n).bind fun t => some t) b := ev_bind h (ev_some _)
theorem dropWhile_all {α : Type} (p : α → Bool) : ∀ l : List α, (∀ x ∈ l.dropWhile p, p x = true) → l.dropWhile p = []
  | [], _ => rfl
  | a :: t, h => by
    by_cases ha : p a = true
    · rw [List.dropWhile_cons_of_pos ha] at h ⊢
      exact dropWhile_all p t h
    · rw [List.dropWhile_cons_of_neg ha] at h
      exact absurd (h a (List.mem_cons_self ..)) ha
theorem dropWhile_nil {α : Type} (p : α → Bool) : ∀ l : List α, l.dropWhile p = [] ↔ ∀ x ∈ l, p x = true
  | [] => by simp
  | a :: t => by
    by_cases ha : p a = true
    · rw [List.dropWhile_cons_of_pos ha, dropWhile_nil p t]
      simp [ha]
    · rw [List.dropWhile_cons_of_neg ha]
      simp [ha]
theorem trimS_nil (l cs : List UInt8) : Lib.trimS l cs = [] ↔ ∀ x ∈ l, cs.contains x = true := by
  unfold Lib.trimS Lib.trimLeftS Lib.trimRightS
  constructor
  · intro h
    rw [dropWhile_nil] at h
    have h2 : ∀ x ∈ l.reverse.dropWhile (cs.contains ·), cs.contains x = true := fun x hx => h x (List.mem_reverse.2 hx)
    have h3 := dropWhile_all (cs.contains ·) _ h2
    rw [dropWhile_nil] at h3
    exact fun x hx => h3 x (List.mem_reverse.2 hx)
  · intro h
    rw [dropWhile_nil]
    intro x hx
    rw [List.mem_reverse] at hx
    exact h x (List.mem_reverse.1 ((List.dropWhile_sublist _).subset hx))
theorem bl_all (a : ByteArray) (p : Int → Bool) : (bl a).all p = a.data.toList.all (fun b => p (b.toNat : Int)) := by
  unfold bl
  rw [List.all_map]
  rfl
theorem trim_empty (a c : ByteArray) (ha : a.size ≤ 140737488351232) (hc : c.size < 4294967281) (h8 : c.data.toList.all (fun b => decide (b.toNat < 128)) = true) (p : Int → Bool)
    (hp : ∀ b : UInt8, c.data.toList.contains b = p (b.toNat : Int)) : (strings_Trim.f a c).bind (fun t => some (t.toList == ([] : List UInt8))) = some ((bl a).all p) := by
  unfold strings_Trim.f
  rw [if_pos ⟨by omega, hc, h8⟩]
  show some _ = some _
  congr 1
  have e : ∀ l : List UInt8, (⟨l.toArray⟩ : ByteArray).toList = l := fun l => by rw [Lib.toList_data]
  rw [e, bl_all]
  rw [Bool.eq_iff_iff, beq_iff_eq, trimS_nil, List.all_eq_true]
  exact forall_congr' fun x => by rw [hp x]
def signB (x : Int) : Bool := x == 76 || x == 82 || x == 78 || x == 85
def ruleOk (a : ByteArray) : Bool := decide (1 ≤ a.size) && decide (a.size ≤ 6) && (bl a).all signB
theorem woRule_loop (a : ByteArray) (hs : a.size ≤ 140737488351232) : ∀ (n i : Nat), i + n = a.size → Ev (fun k => spec_woRule.l0 k a (i : Int)) (((bl a).drop i).all signB)
  | 0, i, h => by
    refine ev_succ ?_
    simp only [spec_woRule.l0]
    have : i = a.size := by omega
    subst this
    rw [bl_drop_size]
    exact ev_neg (by omega) (ev_some _)
  | n + 1, i, h => by
    refine ev_succ ?_
    simp only [spec_woRule.l0]
    have hw : wrap64 ((i : Int) + 1) = ((i + 1 : Nat) : Int) := by rw [w64 (by omega) (by omega)]; omega
    have ih := woRule_loop a hs n (i + 1) (by omega)
    rw [hw, bl_drop a i (by omega), List.all_cons]
    refine ev_pos (by omega) (ev_pos (by omega) ?_)
    refine ev_ite (fun h1 => ?_) (fun h1 => ev_ite (fun h2 => ?_) (fun h2 => ev_ite (fun h3 => ?_) (fun h3 => ev_ite (fun h4 => ?_) (fun h4 => ?_))))
    · rw [h1]; exact ih
    · rw [h2]; exact ih
    · rw [h3]; exact ih
    · rw [h4]; exact ih
    · have : signB (bt a (i : Int)) = false := by unfold signB; simp [h1, h2, h3, h4]
      rw [this, Bool.false_and]
      exact ev_some _
theorem woRule_ev (a : ByteArray) (hs : a.size ≤ 140737488351232) : Ev (fun k => spec_woRule.f k a) (ruleOk a) := by
  unfold spec_woRule.f
  refine ev_bind (ev_const (in_eq _ _ _)) ?_
  unfold ruleOk
  by_cases h1 : 1 ≤ a.size
  · by_cases h2 : a.size ≤ 6
    · have := woRule_loop a hs a.size 0 (by omega)
      rw [List.drop_zero] at this
      rw [decide_eq_true (p := (1:Int) ≤ (a.size : Int)) (by omega), decide_eq_true (p := (a.size : Int) ≤ 6) (by omega), decide_eq_true h1, decide_eq_true h2]
      exact ev_pos rfl this
    · rw [decide_eq_false (p := (a.size : Int) ≤ 6) (by omega), decide_eq_false h2, Bool.and_false, Bool.and_false, Bool.false_and]
      exact ev_neg (by decide) (ev_some _)
  · rw [decide_eq_false (p := (1:Int) ≤ (a.size : Int)) (by omega), decide_eq_false h1, Bool.false_and, Bool.false_and, Bool.false_and]
    exact ev_neg (by decide) (ev_some _)
theorem signs_has (b : UInt8) : (⟨#[76, 82, 78, 85]⟩ : ByteArray).data.toList.contains b = signB (b.toNat : Int) := by
  have h : ∀ n : Fin 256, (⟨#[76, 82, 78, 85]⟩ : ByteArray).data.toList.contains (UInt8.ofNat n.val) = signB (n.val : Int) := by decide +kernel
  have := h ⟨b.toNat, b.toNat_lt⟩
  rwa [UInt8.ofNat_toNat] at this
theorem implIsRule_eq (a : ByteArray) (hs : a.size ≤ 140737488351232) : impl_IsRule.f a = some (ruleOk a) := by
  unfold impl_IsRule.f
  rw [within_eq]
  show (if _ then _ else _) = _
  rw [trim_empty a _ hs (by decide) (by decide +kernel) signB signs_has]
  unfold ruleOk
  by_cases h1 : 1 ≤ a.size
  · by_cases h2 : a.size ≤ 6
    · rw [decide_eq_true (p := (1:Int) ≤ (a.size : Int)) (by omega), decide_eq_true (p := (a.size : Int) ≤ 6) (by omega), decide_eq_true h1, decide_eq_true h2]
      rfl
    · rw [decide_eq_false (p := (a.size : Int) ≤ 6) (by omega), decide_eq_false h2, Bool.and_false, Bool.and_false, Bool.false_and]
      rfl
  · rw [decide_eq_false (p := (1:Int) ≤ (a.size : Int)) (by omega), decide_eq_false h1, Bool.false_and, Bool.false_and, Bool.false_and]
    rfl
def antB (w h x y d : Int) : Bool := inB x 0 (wrap64 (w - 1)) && (inB y 0 (wrap64 (h - 1)) && inB d 0 3)
theorem implIsAnt_eq (w h x y d : Int) : impl_isAnt.f w h x y d = some (antB w h x y d) := by
  unfold impl_isAnt.f impl_isWay.f antB
  rw [wi_eq, wi_eq, wi_eq]
  cases inB x 0 (wrap64 (w - 1)) <;> cases inB y 0 (wrap64 (h - 1)) <;> rfl
def cellB (m x : Int) : Bool := inB (x - 48) 0 (m - 1)
def worldOk (r : ByteArray) (w h : Int) (c : ByteArray) (x y d : Int) : Bool := ruleOk r && (inB w 1 9 && (inB h 1 9 && (((c.size : Int) == wrap64 (w * h)) && ((bl c).all (cellB (r.size : Int)) && antB w h x y d))))
theorem bt_cell (c : ByteArray) (i m : Int) (hm : 0 ≤ m ∧ m ≤ 140737488351232) : inB (wrap64 (wrap64 (bt c i) - 48)) 0 (wrap64 (m - 1)) = cellB m (bt c i) := by
  have := bt_range c i
  rw [w64 (x := bt c i) (by omega) (by omega), w64 (by omega) (by omega), w64 (by omega) (by omega)]
  rfl
theorem woGood_loop (r : ByteArray) (w h : Int) (c : ByteArray) (x y d : Int) (hr : r.size ≤ 140737488351232) (hs : c.size ≤ 140737488351232) : ∀ (n i : Nat), i + n = c.size → Ev (fun k => spec_woGood.l0 k (i : Int) r w h c x y d) (((bl c).drop i).all (cellB (r.size : Int)) && antB w h x y d)
  | 0, i, e => by
    refine ev_succ ?_
    simp only [spec_woGood.l0]
    have : i = c.size := by omega
    subst this
    rw [bl_drop_size, List.all_nil, Bool.true_and]
    unfold antB
    refine ev_neg (by omega) ?_
    exact ev_and (ev_const (l1In_eq _ _ _)) fun _ => ev_and (ev_const (l1In_eq _ _ _)) fun _ => ev_id (ev_const (l1In_eq _ _ _))
  | n + 1, i, e => by
    refine ev_succ ?_
    simp only [spec_woGood.l0]
    have hw : wrap64 ((i : Int) + 1) = ((i + 1 : Nat) : Int) := by rw [w64 (by omega) (by omega)]; omega
    have ih := woGood_loop r w h c x y d hr hs n (i + 1) (by omega)
    rw [hw, bl_drop c i (by omega), List.all_cons, Bool.and_assoc]
    refine ev_pos (by omega) (ev_pos (by omega) ?_)
    rw [← bt_cell c (i : Int) (r.size : Int) ⟨by omega, by omega⟩]
    exact ev_and (ev_const (l1In_eq _ _ _)) fun _ => ih
theorem woGood_ev (r : ByteArray) (w h : Int) (c : ByteArray) (x y d : Int) (hr : r.size ≤ 140737488351232) (hs : c.size ≤ 140737488351232) : Ev (fun k => spec_woGood.f k r w h c x y d) (worldOk r w h c x y d) := by
  unfold spec_woGood.f worldOk
  have hE : Ev (fun k => spec_woGood.j0 k true r w h c x y d) false := by
    refine ev_succ ?_
    simp only [spec_woGood.j0]
    exact ev_pos (by first | rfl | trivial) (ev_some _)
  refine ev_and2 hE (woRule_ev r hr) fun _ => ev_and2 hE (ev_const (l1In_eq _ _ _)) fun _ => ev_and2 hE (ev_const (l1In_eq _ _ _)) fun _ => ?_
  refine ev_succ ?_
  simp only [spec_woGood.j0]
  have hl := woGood_loop r w h c x y d hr hs c.size 0 (by omega)
  rw [List.drop_zero] at hl
  by_cases he : (c.size : Int) = wrap64 (w * h)
  · rw [show ((c.size : Int) == wrap64 (w * h)) = true from beq_iff_eq.2 he, Bool.true_and]
    exact ev_neg (by simp [he]) hl
  · rw [show ((c.size : Int) == wrap64 (w * h)) = false from beq_eq_false_iff_ne.2 he, Bool.false_and]
    exact ev_pos (by simp [he]) (ev_some _)
theorem isWorld_ev (r : ByteArray) (w h : Int) (c : ByteArray) (x y d : Int) (hr : r.size ≤ 140737488351232) (hs : c.size ≤ 140737488351232) : Ev (fun k => impl_IsWorld.f k r w h c x y d) (worldOk r w h c x y d) := by
  have areCells : ∀ (n i : Nat), i + n = c.size → Ev (fun k => impl_areCells.l0 k c (wrap64 (w * h)) (r.size : Int) (c.size : Int) (i : Int)) (((bl c).drop i).all (cellB (r.size : Int)) && ((c.size : Int) == wrap64 (w * h))) := by
    intro n
    induction n with
    | zero =>
      intro i e
      refine ev_succ ?_
      simp only [impl_areCells.l0]
      have : i = c.size := by omega
      subst this
      rw [bl_drop_size]
      exact ev_neg (by omega) (ev_some _)
    | succ n ihn =>
      intro i e
      refine ev_succ ?_
      simp only [impl_areCells.l0]
      have hw : wrap64 ((i : Int) + 1) = ((i + 1 : Nat) : Int) := by rw [w64 (by omega) (by omega)]; omega
      rw [hw, bl_drop c i (by omega), List.all_cons, Bool.and_assoc]
      refine ev_pos (by omega) (ev_pos (by omega) (ev_pos (by omega) ?_))
      rw [← bt_cell c (i : Int) (r.size : Int) ⟨by omega, by omega⟩]
      exact ev_and (ev_const (wi_eq _ _ _)) fun _ => ihn (i + 1) (by omega)
  have hsz : impl_isSize.f w h = some (inB w 1 9 && inB h 1 9) := by
    unfold impl_isSize.f
    rw [wi_eq, wi_eq]
    cases inB w 1 9 <;> rfl
  have hant : impl_isAnt.f w h x y d = some (antB w h x y d) := by
    unfold impl_isAnt.f impl_isWay.f antB
    rw [wi_eq, wi_eq, wi_eq]
    cases inB x 0 (wrap64 (w - 1)) <;> cases inB y 0 (wrap64 (h - 1)) <;> rfl
  have hc := areCells c.size 0 (by omega)
  rw [List.drop_zero] at hc
  have : worldOk r w h c x y d = (ruleOk r && ((inB w 1 9 && inB h 1 9) && (((bl c).all (cellB (r.size : Int)) && ((c.size : Int) == wrap64 (w * h))) && antB w h x y d))) := by
    unfold worldOk
    ac_rfl
  rw [this]
  unfold impl_IsWorld.f
  refine ev_and (ev_const (implIsRule_eq r hr)) fun _ => ev_and (ev_const hsz) fun _ => ev_and ?_ fun _ => ev_id (ev_const hant)
  unfold impl_areCells.f
  exact hc
theorem toWorld_eq (r : ByteArray) (w h : Int) (c : ByteArray) (x y d : Int) : laws_toWorld.f r w h c x y d = some (r, w, h, c, x, y, d) := rfl
theorem szWorld_ev (r : ByteArray) (w h : Int) (c : ByteArray) (x y d m : Int) : ∃ t, laws_szWorld.f r w h c x y d m = some t := by
  unfold laws_szWorld.f
  split
  · exact ⟨_, rfl⟩
  · split <;> exact ⟨_, rfl⟩
structure WorldF (r : ByteArray) (w h : Int) (c : ByteArray) (x y d : Int) : Prop where
  r1 : 1 ≤ r.size
  r6 : r.size ≤ 6
  signs : ∀ s ∈ bl r, signB s = true
  w1 : 1 ≤ w
  w9 : w ≤ 9
  h1 : 1 ≤ h
  h9 : h ≤ 9
  cs : (c.size : Int) = w * h
  cells : ∀ s ∈ bl c, 0 ≤ s - 48 ∧ s - 48 ≤ (r.size : Int) - 1
  x0 : 0 ≤ x
  x1 : x < w
  y0 : 0 ≤ y
  y1 : y < h
  d0 : 0 ≤ d
  d3 : d ≤ 3
theorem mul_bounds {a b : Int} (h1 : 1 ≤ a) (h2 : a ≤ 9) (h3 : 1 ≤ b) (h4 : b ≤ 9) : 1 ≤ a * b ∧ a * b ≤ 81 := by
  have e1 : a = 1 ∨ a = 2 ∨ a = 3 ∨ a = 4 ∨ a = 5 ∨ a = 6 ∨ a = 7 ∨ a = 8 ∨ a = 9 := by omega
  rcases e1 with rfl | rfl | rfl | rfl | rfl | rfl | rfl | rfl | rfl <;> omega
theorem worldF {r : ByteArray} {w h : Int} {c : ByteArray} {x y d : Int} (e : worldOk r w h c x y d = true) : WorldF r w h c x y d := by
  unfold worldOk ruleOk antB at e
  simp only [Bool.and_eq_true, decide_eq_true_eq, inB_iff, beq_iff_eq, List.all_eq_true] at e
  obtain ⟨⟨⟨a1, a2⟩, a3⟩, ⟨b1, b2⟩, ⟨c1, c2⟩, d1, e1, ⟨f1, f2⟩, ⟨g1, g2⟩, i1, i2⟩ := e
  have hm := mul_bounds b1 b2 c1 c2
  rw [w64 (by omega) (by omega)] at d1 f2 g2
  exact ⟨a1, a2, a3, b1, b2, c1, c2, d1, fun s hs => inB_iff.1 (e1 s hs), f1, by omega, g1, by omega, i1, i2⟩
theorem worldOk_mk {r : ByteArray} {w h : Int} {c : ByteArray} {x y d : Int} (F : WorldF r w h c x y d) : worldOk r w h c x y d = true := by
  have hm := mul_bounds F.w1 F.w9 F.h1 F.h9
  have := F.w1
  have := F.w9
  have := F.h1
  have := F.h9
  have := F.x1
  have := F.y1
  unfold worldOk ruleOk antB
  simp only [Bool.and_eq_true, decide_eq_true_eq, inB_iff, beq_iff_eq, List.all_eq_true]
  rw [w64 (x := w * h) (by omega) (by omega), w64 (x := w - 1) (by omega) (by omega), w64 (x := h - 1) (by omega) (by omega)]
  exact ⟨⟨⟨F.r1, F.r6⟩, F.signs⟩, ⟨F.w1, F.w9⟩, ⟨F.h1, F.h9⟩, F.cs, fun s hs => inB_iff.2 (F.cells s hs), ⟨F.x0, by omega⟩, ⟨F.y0, by omega⟩, F.d0, F.d3⟩
theorem at_eq {w h x y : Int} (w1 : 1 ≤ w) (w9 : w ≤ 9) (h1 : 1 ≤ h) (h9 : h ≤ 9) (x0 : 0 ≤ x) (x1 : x < w) (y0 : 0 ≤ y) (y1 : y < h) :
    wrap64 (wrap64 (y * w) + x) = y * w + x ∧ 0 ≤ y * w + x ∧ y * w + x < w * h := by
  have e1 : w = 1 ∨ w = 2 ∨ w = 3 ∨ w = 4 ∨ w = 5 ∨ w = 6 ∨ w = 7 ∨ w = 8 ∨ w = 9 := by omega
  rcases e1 with rfl | rfl | rfl | rfl | rfl | rfl | rfl | rfl | rfl <;> refine ⟨?_, by omega, by omega⟩ <;> rw [w64 (x := y * _) (by omega) (by omega), w64 (by omega) (by omega)]
theorem bt_bl {c : ByteArray} {i : Int} (h0 : 0 ≤ i) (h1 : i < (c.size : Int)) : bt c i ∈ bl c := by
  have e : i = ((i.toNat : Nat) : Int) := by omega
  rw [e, ← bl_get c i.toNat (by rw [bl_length]; omega)]
  exact List.getElem_mem _
def toB (cs : List Int) : ByteArray := strOfNums cs
def isByte (cs : List Int) : Prop := ∀ x ∈ cs, 0 ≤ x ∧ x ≤ 255
theorem bl_toB {cs : List Int} (h : isByte cs) : bl (toB cs) = cs := by
  unfold bl toB strOfNums
  simp only [List.map_map]
  rw [List.map_congr_left (g := id), List.map_id]
  intro x hx
  have := h x hx
  simp only [Function.comp, id]
  have e : (UInt8.ofNat x.toNat).toNat = x.toNat := by
    rw [UInt8.toNat_ofNat']
    exact Nat.mod_eq_of_lt (by show x.toNat < 256; omega)
  rw [e]
  omega
theorem toB_bl (c : ByteArray) : toB (bl c) = c := bl_inj (bl_toB (bl_range c))
theorem toB_size (cs : List Int) : (toB cs).size = cs.length := by
  show ((cs.map _).toArray).size = _
  simp
theorem bl_append (a b : ByteArray) : bl (a ++ b) = bl a ++ bl b := by
  unfold bl
  rw [ByteArray.data_append, Array.toList_append, List.map_append]
theorem bl_extract (a : ByteArray) (i j : Nat) : bl (a.extract i j) = ((bl a).take j).drop i := by
  unfold bl
  rw [ByteArray.data_extract, Array.toList_extract, List.extract_eq_take_drop, List.map_take, List.map_drop, List.drop_take]
theorem cut_put (c s : ByteArray) (v : Int) (i : Nat) (h : i < c.size) (hs : bl s = [v]) : (c.extract 0 i ++ s) ++ c.extract (i + 1) c.size = toB ((bl c).set i v) := by
  refine bl_inj ?_
  rw [bl_append, bl_append, bl_extract, bl_extract, hs, bl_toB, List.drop_zero]
  · rw [← bl_length, List.take_length, List.set_eq_take_append_cons_drop, if_pos (by rw [bl_length]; exact h), List.append_assoc]
    rfl
  · intro x hx
    rcases List.mem_or_eq_of_mem_set hx with hx | rfl
    · exact bl_range c x hx
    · exact bl_range s x (by rw [hs]; simp)
theorem digit_byte {v : Int} (h0 : 0 ≤ v) (h1 : v ≤ 9) : wrap64 (48 + v) % 256 = 48 + v := by
  rw [w64 (by omega) (by omega)]; omega
theorem l1Num_ev {v : Int} (h0 : 0 ≤ v) (h1 : v ≤ 9) : Ev (fun k => spec_l1Num.f k v) (toB [48 + v]) := by
  refine ev_succ ?_
  simp only [spec_l1Num.f]
  rw [digit_byte h0 h1]
  exact ev_pos (by omega) (ev_some _)
def putC (c : ByteArray) (i v : Int) : ByteArray := toB ((bl c).set i.toNat (48 + v))
theorem putC_size (c : ByteArray) (i v : Int) : (putC c i v).size = c.size := by
  unfold putC
  rw [toB_size, List.length_set, bl_length]
theorem bl_putC {c : ByteArray} {i v : Int} (h0 : 0 ≤ v) (h1 : v ≤ 9) : bl (putC c i v) = (bl c).set i.toNat (48 + v) := by
  unfold putC
  refine bl_toB fun x hx => ?_
  rcases List.mem_or_eq_of_mem_set hx with hx | rfl
  · exact bl_range c x hx
  · omega
theorem painted_eq {c : ByteArray} {i v : Int} (hc : c.size ≤ 81) (h0 : 0 ≤ v) (h1 : v ≤ 9) (i0 : 0 ≤ i) (i1 : i < (c.size : Int)) : impl_painted.f c i v = some (putC c i v) := by
  unfold impl_painted.f
  rw [if_pos ⟨by omega, i0, i1⟩, digit_byte h0 h1]
  rfl
theorem woPaint_ev {r : ByteArray} {w h : Int} {c : ByteArray} {x y d p q v : Int} (hc : c.size ≤ 81) (e : wrap64 (wrap64 (q * w) + p) = q * w + p) (i0 : 0 ≤ q * w + p) (i1 : q * w + p < (c.size : Int)) (h0 : 0 ≤ v) (h1 : v ≤ 9) :
    Ev (fun k => spec_woPaint.f k r w h c x y d p q v) (r, w, h, putC c (q * w + p) v, x, y, d) := by
  unfold spec_woPaint.f
  rw [e]
  obtain ⟨i, hi⟩ := Int.eq_ofNat_of_zero_le i0
  rw [hi] at i1 ⊢
  have hw : wrap64 ((i : Int) + 1) = ((i + 1 : Nat) : Int) := by rw [w64 (by omega) (by omega)]; omega
  rw [hw]
  refine ev_pos (by omega) (ev_pos (by omega) (ev_bind (l1Num_ev h0 h1) ?_))
  have hn : (toB [48 + v]).size = 1 := toB_size _
  refine ev_pos ?_ (ev_pos (by omega) (ev_pos (by omega) (ev_pos ?_ ?_)))
  · rw [ByteArray.size_extract, hn]; omega
  · rw [ByteArray.size_append, ByteArray.size_extract, ByteArray.size_extract, hn]; omega
  · refine ev_const ?_
    have hs : bl (toB [48 + v]) = [48 + v] := bl_toB fun x hx => by
      rw [List.mem_singleton] at hx
      subst hx
      omega
    rw [show ((i : Nat) : Int).toNat = i from rfl, show ((i + 1 : Nat) : Int).toNat = i + 1 from rfl, cut_put c _ _ i (by omega) hs]
    rfl
theorem WorldF.size {r : ByteArray} {w h : Int} {c : ByteArray} {x y d : Int} (F : WorldF r w h c x y d) : c.size ≤ 81 := by
  have := mul_bounds F.w1 F.w9 F.h1 F.h9
  have := F.cs
  omega
theorem WorldF.put {r : ByteArray} {w h : Int} {c : ByteArray} {x y d i v : Int} (F : WorldF r w h c x y d) (h0 : 0 ≤ v) (h1 : v ≤ (r.size : Int) - 1) : WorldF r w h (putC c i v) x y d := by
  have := F.r6
  refine ⟨F.r1, F.r6, F.signs, F.w1, F.w9, F.h1, F.h9, by rw [putC_size]; exact F.cs, ?_, F.x0, F.x1, F.y0, F.y1, F.d0, F.d3⟩
  rw [bl_putC h0 (by omega)]
  intro s hs
  rcases List.mem_or_eq_of_mem_set hs with hs | rfl
  · exact F.cells s hs
  · omega
theorem eqWorld_self : ∀ (r : ByteArray) (w h : Int) (c : ByteArray) (x y d : Int), laws_eqWorld.f r w h c x y d r w h c x y d = some true := by
  intros
  simp [laws_eqWorld.f]
def modT (n m : Int) : Int := Int.tmod (wrap64 (n + m)) m
theorem modT_tab : ∀ m : Fin 10, ∀ n : Fin 12, 1 ≤ m.1 → n.1 ≤ m.1 + 1 → (0 ≤ modT ((n.1 : Int) - 1) (m.1 : Int) ∧ modT ((n.1 : Int) - 1) (m.1 : Int) < (m.1 : Int)) ∧ Int.tmod (wrap64 (Int.tmod ((n.1 : Int) - 1) (m.1 : Int) + (m.1 : Int))) (m.1 : Int) = modT ((n.1 : Int) - 1) (m.1 : Int) ∧ (1 ≤ n.1 → n.1 ≤ m.1 → modT ((n.1 : Int) - 1) (m.1 : Int) = (n.1 : Int) - 1) := by decide +kernel
theorem modT_all {n m : Int} (m1 : 1 ≤ m) (m9 : m ≤ 9) (n0 : -1 ≤ n) (n1 : n ≤ m) : (0 ≤ modT n m ∧ modT n m < m) ∧ spec_l1Mod.f n m = some (modT n m) ∧ (0 ≤ n → n < m → modT n m = n) := by
  have e := modT_tab ⟨m.toNat, by omega⟩ ⟨(n + 1).toNat, by omega⟩ (by show 1 ≤ m.toNat; omega) (by show (n + 1).toNat ≤ m.toNat + 1; omega)
  simp only at e
  rw [show ((m.toNat : Nat) : Int) = m by omega, show (((n + 1).toNat : Nat) : Int) - 1 = n by omega] at e
  refine ⟨e.1, ?_, fun a b => e.2.2 (by omega) (by omega)⟩
  unfold spec_l1Mod.f
  rw [if_neg (by omega), e.2.1]
def dX (d : Int) : Int := rd [0, 1, 0, -1] d
def dY (d : Int) : Int := rd [-1, 0, 1, 0] d
theorem dXY (d : Int) (h0 : 0 ≤ d) (h3 : d ≤ 3) : impl_ahead.f d = some (dX d, dY d) := by
  have e : d = 0 ∨ d = 1 ∨ d = 2 ∨ d = 3 := by omega
  rcases e with rfl | rfl | rfl | rfl <;> decide +kernel
theorem gone_eq {r : ByteArray} {w h : Int} {c : ByteArray} {x y d s : Int} (F : WorldF r w h c x y d) (hs : s = 1 ∨ s = -1) :
    impl_World_gone.f r w h c x y d s = some (r, w, h, c, modT (x + s * dX d) w, modT (y + s * dY d) h, d) ∧ spec_woGo.f r w h c x y d s = some (r, w, h, c, modT (x + s * dX d) w, modT (y + s * dY d) h, d) ∧
    WorldF r w h c (modT (x + s * dX d) w) (modT (y + s * dY d) h) d := by
  have w1 := F.w1
  have w9 := F.w9
  have h1 := F.h1
  have h9 := F.h9
  have x0 := F.x0
  have x1 := F.x1
  have y0 := F.y0
  have y1 := F.y1
  have d0 := F.d0
  have d3 := F.d3
  have mx := fun (n : Int) (a : -1 ≤ n) (b : n ≤ w) => modT_all w1 w9 a b
  have my := fun (n : Int) (a : -1 ≤ n) (b : n ≤ h) => modT_all h1 h9 a b
  have key : ∀ a b : Int, dX d = a → dY d = b → (-1 ≤ a ∧ a ≤ 1) → (-1 ≤ b ∧ b ≤ 1) → (a = 0 ∨ b = 0) → impl_World_gone.f r w h c x y d s = some (r, w, h, c, modT (x + s * a) w, modT (y + s * b) h, d) ∧ WorldF r w h c (modT (x + s * a) w) (modT (y + s * b) h) d ∧
      (b = 0 → modT (y + s * b) h = y) ∧ (a = 0 → modT (x + s * a) w = x) ∧ spec_l1Mod.f (wrap64 (x + s * a)) w = some (modT (x + s * a) w) ∧ spec_l1Mod.f (wrap64 (y + s * b)) h = some (modT (y + s * b) h) := by
    intro a b ea eb ha hb hz
    have sa : -1 ≤ s * a ∧ s * a ≤ 1 := by rcases hs with rfl | rfl <;> omega
    have sb : -1 ≤ s * b ∧ s * b ≤ 1 := by rcases hs with rfl | rfl <;> omega
    have qx := mx (x + s * a) (by omega) (by omega)
    have qy := my (y + s * b) (by omega) (by omega)
    refine ⟨?_, ⟨F.r1, F.r6, F.signs, w1, w9, h1, h9, F.cs, F.cells, qx.1.1, qx.1.2, qy.1.1, qy.1.2, d0, d3⟩, fun z => ?_, fun z => ?_, ?_, ?_⟩
    · unfold impl_World_gone.f
      rw [dXY d d0 d3, ea, eb]
      show (if w = 0 then none else if h = 0 then none else _) = _
      rw [if_neg (by omega), if_neg (by omega), w64 (x := s * a) (by omega) (by omega), w64 (x := s * b) (by omega) (by omega), w64 (x := x + s * a) (by omega) (by omega), w64 (x := y + s * b) (by omega) (by omega)]
      rfl
    · subst z
      rw [Int.mul_zero, Int.add_zero] at qy ⊢
      exact qy.2.2 y0 y1
    · subst z
      rw [Int.mul_zero, Int.add_zero] at qx ⊢
      exact qx.2.2 x0 x1
    · rw [w64 (by omega) (by omega)]; exact qx.2.1
    · rw [w64 (by omega) (by omega)]; exact qy.2.1
  have e : d = 0 ∨ d = 1 ∨ d = 2 ∨ d = 3 := by omega
  unfold spec_woGo.f
  rcases e with rfl | rfl | rfl | rfl
  · obtain ⟨k1, k2, k3, k4, k5, k6⟩ := key 0 (-1) (by decide) (by decide) (by omega) (by omega) (by omega)
    rw [show dX 0 = 0 by decide, show dY 0 = -1 by decide]
    refine ⟨k1, ?_, k2⟩
    rw [if_pos rfl, show y - s = y + s * -1 by omega, k6, k4 rfl]
    rfl
  · obtain ⟨k1, k2, k3, k4, k5, k6⟩ := key 1 0 (by decide) (by decide) (by omega) (by omega) (by omega)
    rw [show dX 1 = 1 by decide, show dY 1 = 0 by decide]
    refine ⟨k1, ?_, k2⟩
    rw [if_neg (by decide), if_pos rfl, show x + s = x + s * 1 by omega, k5, k3 rfl]
    rfl
  · obtain ⟨k1, k2, k3, k4, k5, k6⟩ := key 0 1 (by decide) (by decide) (by omega) (by omega) (by omega)
    rw [show dX 2 = 0 by decide, show dY 2 = 1 by decide]
    refine ⟨k1, ?_, k2⟩
    rw [if_neg (by decide), if_neg (by decide), if_pos rfl, show y + s = y + s * 1 by omega, k6, k4 rfl]
    rfl
  · obtain ⟨k1, k2, k3, k4, k5, k6⟩ := key (-1) 0 (by decide) (by decide) (by omega) (by omega) (by omega)
    rw [show dX 3 = -1 by decide, show dY 3 = 0 by decide]
    refine ⟨k1, ?_, k2⟩
    rw [if_neg (by decide), if_neg (by decide), if_neg (by decide), show x - s = x + s * -1 by omega, k5, k3 rfl]
    rfl
def turnN (s : Int) : Int := if s = 76 then 3 else if s = 82 then 1 else if s = 85 then 2 else 0
theorem quarters_eq (s : Int) : impl_quarters.f s = some (turnN s) := by
  unfold impl_quarters.f turnN
  by_cases h1 : s = 76
  · rw [if_pos h1, if_pos h1]
  · rw [if_neg h1, if_neg h1]
    by_cases h2 : s = 82
    · rw [if_pos h2, if_pos h2]
    · rw [if_neg h2, if_neg h2]
      by_cases h3 : s = 85
      · rw [if_pos h3, if_pos h3]
      · rw [if_neg h3, if_neg h3]
theorem woTurn_eq (s : Int) : spec_woTurn.f s = some (turnN s) := by
  unfold spec_woTurn.f turnN
  by_cases h1 : s = 82
  · subst h1; rfl
  · rw [if_neg h1]
    by_cases h2 : s = 85
    · subst h2; rfl
    · rw [if_neg h2]
      by_cases h3 : s = 76
      · rw [if_pos h3, if_pos h3]
      · rw [if_neg h3, if_neg h3, if_neg h1, if_neg h2]
theorem turnN_range (s : Int) : 0 ≤ turnN s ∧ turnN s ≤ 3 := by
  unfold turnN
  by_cases h1 : s = 76
  · rw [if_pos h1]; omega
  · rw [if_neg h1]
    by_cases h2 : s = 82
    · rw [if_pos h2]; omega
    · rw [if_neg h2]
      by_cases h3 : s = 85
      · rw [if_pos h3]; omega
      · rw [if_neg h3]; omega
theorem way_tab : ∀ d : Fin 4, ∀ t : Fin 4, Int.tmod (wrap64 (Int.tmod (wrap64 ((d.1 : Int) - (t.1 : Int))) 4 + 4)) 4 = Int.tmod (wrap64 ((wrap64 ((d.1 : Int) + 4)) - (t.1 : Int))) 4 ∧ 0 ≤ Int.tmod (wrap64 ((wrap64 ((d.1 : Int) + 4)) - (t.1 : Int))) 4 ∧ Int.tmod (wrap64 ((wrap64 ((d.1 : Int) + 4)) - (t.1 : Int))) 4 ≤ 3 := by decide +kernel
def wayBack (d t : Int) : Int := Int.tmod (wrap64 ((wrap64 (d + 4)) - t)) 4
theorem wayBack_eq {d t : Int} (d0 : 0 ≤ d) (d3 : d ≤ 3) (t0 : 0 ≤ t) (t3 : t ≤ 3) : spec_l1Mod.f (wrap64 (d - t)) 4 = some (wayBack d t) ∧ 0 ≤ wayBack d t ∧ wayBack d t ≤ 3 := by
  have e := way_tab ⟨d.toNat, by omega⟩ ⟨t.toNat, by omega⟩
  simp only at e
  rw [show ((d.toNat : Nat) : Int) = d by omega, show ((t.toNat : Nat) : Int) = t by omega] at e
  refine ⟨?_, e.2⟩
  unfold spec_l1Mod.f
  rw [if_neg (by decide), e.1]
  rfl
theorem colour_eq {r : ByteArray} {w h : Int} {c : ByteArray} {x y d : Int} (F : WorldF r w h c x y d) : ∃ v : Int, 0 ≤ v ∧ v ≤ (r.size : Int) - 1 ∧ spec_woColour.f r w h c x y d x y = some v ∧ impl_World_colour.f r w h c x y d = some v := by
  obtain ⟨e, i0, i1⟩ := at_eq F.w1 F.w9 F.h1 F.h9 F.x0 F.x1 F.y0 F.y1
  rw [← F.cs] at i1
  have hb := F.cells _ (bt_bl i0 i1)
  have r6 := F.r6
  refine ⟨bt c (y * w + x) - 48, hb.1, hb.2, ?_, ?_⟩
  · unfold spec_woColour.f
    rw [e, if_pos i0, if_pos i1, show (bt c (y * w + x) - 48) % 256 = bt c (y * w + x) - 48 by omega]
  · unfold impl_World_colour.f impl_World_at.f
    show (if 0 ≤ wrap64 (wrap64 (y * w) + x) then _ else _) = _
    rw [e, if_pos i0, if_pos i1, show (bt c (y * w + x) - 48) % 256 = bt c (y * w + x) - 48 by omega]
theorem back_ev {r : ByteArray} {w h : Int} {c : ByteArray} {x y d : Int} (F : WorldF r w h c x y d) :
    ∃ c' x' y' d', Ev (fun k => spec_woBack.f k r w h c x y d) (r, w, h, c', x', y', d') ∧ impl_World_back.f r w h c x y d = some (r, w, h, c', x', y', d') ∧ WorldF r w h c' x' y' d' := by
  obtain ⟨g1, g2, G⟩ := gone_eq F (s := -1) (.inr rfl)
  generalize modT (x + -1 * dX d) w = x' at g1 g2 G
  generalize modT (y + -1 * dY d) h = y' at g1 g2 G
  obtain ⟨v, v0, v1, c1, c2⟩ := colour_eq G
  obtain ⟨e, i0, i1⟩ := at_eq G.w1 G.w9 G.h1 G.h9 G.x0 G.x1 G.y0 G.y1
  rw [← G.cs] at i1
  have r1 := F.r1
  have r6 := F.r6
  have M := modT_all (n := v - 1) (m := (r.size : Int)) (by omega) (by omega) (by omega) (by omega)
  have hm : Int.tmod (wrap64 ((wrap64 (v + (r.size : Int))) - 1)) (r.size : Int) = modT (v - 1) (r.size : Int) := by
    unfold modT
    rw [w64 (x := v + _) (by omega) (by omega), show v + (r.size : Int) - 1 = v - 1 + (r.size : Int) by omega]
  have T := turnN_range (bt r (modT (v - 1) (r.size : Int)))
  have W := wayBack_eq G.d0 G.d3 T.1 T.2
  have P := G.put (i := y' * w + x') M.1.1 (show modT (v - 1) (r.size : Int) ≤ (r.size : Int) - 1 by omega)
  refine ⟨putC c (y' * w + x') (modT (v - 1) (r.size : Int)), x', y', wayBack d (turnN (bt r (modT (v - 1) (r.size : Int)))), ?_, ?_, ⟨P.r1, P.r6, P.signs, P.w1, P.w9, P.h1, P.h9, P.cs, P.cells, P.x0, P.x1, P.y0, P.y1, W.2.1, W.2.2⟩⟩
  · unfold spec_woBack.f
    refine ev_bind (ev_const g2) (ev_bind (ev_const c1) (ev_bind (ev_const ((congrArg (spec_l1Mod.f · (r.size : Int)) (w64 (by omega) (by omega))).trans M.2.1)) (ev_bind (woPaint_ev G.size e i0 i1 M.1.1 (by omega)) (ev_pos M.1.1 (ev_pos M.1.2 (ev_bind (ev_const (woTurn_eq _)) (ev_bind (ev_const W.1) (ev_some _))))))))
  · unfold impl_World_back.f
    rw [g1]
    simp only [Option.bind_some]
    rw [c2]
    simp only [Option.bind_some, hm]
    rw [if_neg (by omega), if_pos M.1.1, if_pos M.1.2, quarters_eq]
    simp only [Option.bind_some, impl_World_at.f]
    rw [e, painted_eq G.size M.1.1 (by omega) i0 i1]
    rfl
abbrev Wd := ByteArray × Int × Int × ByteArray × Int × Int × Int × Bool
theorem before_ev (r : ByteArray) (w h : Int) (m : Nat) (hm : m ≤ 3000) : ∀ (n i : Nat), i + n = m → ∀ (c : ByteArray) (x y d : Int), WorldF r w h c x y d →
    ∃ z : Wd, Ev (fun k => spec_WorldBefore.l0 k (n : Int) r w h c x y d) z ∧ Ev (fun k => impl_WorldBefore.l0 k (m : Int) (i : Int) r w h c x y d) z
  | 0, i, hi, c, x, y, d, F => by
    refine ⟨(r, w, h, c, x, y, d, true), ev_succ ?_, ev_succ ?_⟩
    · simp only [spec_WorldBefore.l0]
      exact ev_neg (by omega) (ev_some _)
    · simp only [impl_WorldBefore.l0]
      exact ev_neg (by omega) (ev_some _)
  | n + 1, i, hi, c, x, y, d, F => by
    obtain ⟨c', x', y', d', b1, b2, G⟩ := back_ev F
    obtain ⟨z, z1, z2⟩ := before_ev r w h m hm n (i + 1) (by omega) c' x' y' d' G
    refine ⟨z, ev_succ ?_, ev_succ ?_⟩
    · simp only [spec_WorldBefore.l0]
      rw [show wrap64 (((n + 1 : Nat) : Int) - 1) = (n : Int) by rw [w64 (by omega) (by omega)]; omega]
      exact ev_pos (by omega) (ev_bind b1 z1)
    · simp only [impl_WorldBefore.l0]
      rw [show wrap64 ((i : Int) + 1) = ((i + 1 : Nat) : Int) by rw [w64 (by omega) (by omega)]; omega]
      exact ev_pos (by omega) (ev_bind (ev_const b2) z2)
theorem isGoing_ev (r : ByteArray) (w h : Int) (c : ByteArray) (x y d s : Int) (hr : r.size ≤ 140737488351232) (hs : c.size ≤ 140737488351232) : Ev (fun k => impl_isGoing.f k r w h c x y d s) (worldOk r w h c x y d && inB s 0 3000) := by
  unfold impl_isGoing.f
  exact ev_and (isWorld_ev r w h c x y d hr hs) fun _ => ev_id (ev_const (wi_eq _ _ _))
theorem FnExactWorldBefore : LawHolds := by
  intro r w h c x y d s hr hw hh hc hx hy hd hs
  refine ev_out (g := fun k => laws_FnExactWorldBefore.f k r w h c x y d s) ?_
  obtain ⟨t, ht⟩ := szWorld_ev r w h c x y d 1048576
  unfold laws_FnExactWorldBefore.f
  refine ev_bind (ev_const ht) (ev_ite (fun _ => ev_some _) (fun _ => ev_bind (ev_const (toWorld_eq r w h c x y d)) ?_))
  have h1 : Ev (fun k => spec_woSteps.f k r w h c x y d s) (worldOk r w h c x y d && inB s 0 3000) := by
    unfold spec_woSteps.f
    exact ev_and (woGood_ev r w h c x y d hr hc) fun _ => ev_id (ev_const (l1In_eq _ _ _))
  have h2 := isGoing_ev r w h c x y d s hr hc
  obtain ⟨z, hz1, hz2⟩ : ∃ z : Wd, Ev (fun k => spec_WorldBefore.f k r w h c x y d s) z ∧ Ev (fun k => impl_WorldBefore.f k r w h c x y d s) z := by
    unfold spec_WorldBefore.f impl_WorldBefore.f
    cases hb : worldOk r w h c x y d && inB s 0 3000 with
    | false =>
      rw [hb] at h1 h2
      exact ⟨_, ev_bind h1 (ev_neg (by decide) (ev_some _)), ev_bind h2 (ev_neg (by decide) (ev_some _))⟩
    | true =>
      rw [hb] at h1 h2
      rw [Bool.and_eq_true, inB_iff] at hb
      obtain ⟨F, s0, s1⟩ := hb
      obtain ⟨m, rfl⟩ := Int.eq_ofNat_of_zero_le s0
      obtain ⟨z, z1, z2⟩ := before_ev r w h m (by omega) m 0 (by omega) c x y d (worldF F)
      exact ⟨z, ev_bind h1 (ev_pos rfl z1), ev_bind h2 (ev_pos rfl z2)⟩
  exact ev_bind hz1 (ev_bind (ev_const (toWorld_eq r w h c x y d)) (ev_bind hz2 (ev_bind (ev_const (eqWorld_self ..)) (ev_pos rfl (ev_neg (by simp) (ev_some _))))))

end Go.Proofs.YtggpolgcbojmeaaDoor.Pure
