/- PlainOfWorld of the program and of the reference agree at every world. Conditions: those of reading alone. -/
import Derived.Test.YtpfnichcpbgikaaDoorQFnExactPlainOfWorld
namespace Go.Proofs.YtpfnichcpbgikaaDoor.Pure
open Go.RowKit Go.Proofs.YtpfnichcpbgikaaDoor.PFnExactPlainOfWorld Go.Proofs.YtpfnichcpbgikaaDoorW.PrintWords Go.Proofs.YtpfnichcpbgikaaDoorW.PrintLast
set_option linter.unusedVariables false
set_option linter.unusedSimpArgs false
theorem ev_succ {α : Type} {g : Nat → Option α} {r : α} (h : Ev (fun k => g (k + 1)) r) : Ev g r := by
  obtain ⟨K, h⟩ := h
  refine ⟨K + 1, fun k hk => ?_⟩
  obtain ⟨j, rfl⟩ : ∃ j, k = j + 1 := ⟨k - 1, by omega⟩
  exact h j (by omega)
theorem ev_some {α : Type} (r : α) : Ev (fun _ => some r) r := ⟨0, fun _ _ => rfl⟩
theorem ev_const {α : Type} {x : Option α} {r : α} (h : x = some r) : Ev (fun _ => x) r := ⟨0, fun _ _ => h⟩
theorem ev_bind {α β : Type} {g : Nat → Option α} {f : Nat → α → Option β} {a : α} {r : β} (h : Ev g a) (k : Ev (fun n => f n a) r) : Ev (fun n => (g n).bind (f n)) r := by
  obtain ⟨K, h⟩ := h
  obtain ⟨L, k⟩ := k
  exact ⟨max K L, fun n hn => by show (g n).bind (f n) = some r; rw [h n (by omega)]; exact k n (by omega)⟩
theorem ev_pos {α : Type} {c : Prop} [Decidable c] {f g : Nat → Option α} {r : α} (hc : c) (h : Ev f r) : Ev (fun k => if c then f k else g k) r := by
  obtain ⟨K, h⟩ := h
  exact ⟨K, fun n hn => by show (if c then f n else g n) = some r; rw [if_pos hc]; exact h n hn⟩
theorem ev_neg {α : Type} {c : Prop} [Decidable c] {f g : Nat → Option α} {r : α} (hc : ¬ c) (h : Ev g r) : Ev (fun k => if c then f k else g k) r := by
  obtain ⟨K, h⟩ := h
  exact ⟨K, fun n hn => by show (if c then f n else g n) = some r; rw [if_neg hc]; exact h n hn⟩
theorem ev_ite {α : Type} {c : Prop} [Decidable c] {f g : Nat → Option α} {r : α} (h1 : c → Ev f r) (h2 : ¬ c → Ev g r) : Ev (fun k => if c then f k else g k) r := by
  by_cases hc : c
  · exact ev_pos hc (h1 hc)
  · exact ev_neg hc (h2 hc)
theorem ev_out {α : Type} {g : Nat → Option α} {r : α} (h : Ev g r) : ∃ k, g k = some r := by
  obtain ⟨K, h⟩ := h
  exact ⟨K, h K (Nat.le_refl _)⟩
theorem ev_uni {α : Type} {g : Nat → Option α} {r r' : α} (h : Ev g r) (h' : Ev g r') : r = r' := by
  obtain ⟨K, h⟩ := h
  obtain ⟨L, h'⟩ := h'
  have := (h (max K L) (by omega)).symm.trans (h' (max K L) (by omega))
  exact Option.some.inj this
theorem w64 {x : Int} (h1 : -9223372036854775808 ≤ x) (h2 : x ≤ 9223372036854775807) : wrap64 x = x := by
  unfold wrap64
  omega
theorem i64_range {x : Int} (h : (Lit.int .i64 x).wf = true) : -9223372036854775808 ≤ x ∧ x ≤ 9223372036854775807 := by
  have e1 : IntKind.i64.min = -9223372036854775808 := by decide
  have e2 : IntKind.i64.max = 9223372036854775807 := by decide
  have h' : IntKind.i64.min ≤ x ∧ x ≤ IntKind.i64.max := by simpa [Lit.wf] using h
  omega
theorem maxLen_eq : maxLen = 9223372036854775807 := rfl
def bl (a : ByteArray) : List Int := a.data.toList.map (fun b => (b.toNat : Int))
theorem size_data (a : ByteArray) : a.data.toList.length = a.size := by
  rw [Array.length_toList]
  rfl
theorem bl_length (a : ByteArray) : (bl a).length = a.size := by
  unfold bl
  rw [List.length_map, size_data]
theorem bl_get? (a : ByteArray) (i : Nat) (h : i < a.size) : (bl a)[i]? = some (bt a (i : Int)) := by
  unfold bl bt
  rw [List.getElem?_map, Array.getElem?_toList]
  have e : ((i : Int)).toNat = i := Int.toNat_natCast i
  have h2 : a.data[i]? = some (a.data[i]'h) := Array.getElem?_eq_getElem h
  rw [h2, dif_pos (by rw [e]; exact h)]
  simp only [e]
  rfl
theorem bl_get (a : ByteArray) (i : Nat) (h : i < (bl a).length) : (bl a)[i] = bt a (i : Int) := by
  have h2 := bl_get? a i (by rw [← bl_length]; exact h)
  rw [List.getElem?_eq_getElem h] at h2
  exact Option.some.inj h2
theorem bl_drop (a : ByteArray) (i : Nat) (h : i < a.size) : (bl a).drop i = bt a (i : Int) :: (bl a).drop (i + 1) := by
  have h' : i < (bl a).length := by rw [bl_length]; exact h
  rw [List.drop_eq_getElem_cons h', bl_get a i h']
theorem bl_drop_size (a : ByteArray) : (bl a).drop a.size = [] := by
  rw [List.drop_eq_nil_iff, bl_length]
  exact Nat.le_refl _
theorem bt_at_nat (a : ByteArray) (x : Int) (h : 0 ≤ x) : bt a x = bt a ((x.toNat : Nat) : Int) := by
  rw [Int.toNat_of_nonneg h]
theorem bl_range (a : ByteArray) : ∀ x ∈ bl a, 0 ≤ x ∧ x ≤ 255 := by
  intro x hx
  unfold bl at hx
  rw [List.mem_map] at hx
  obtain ⟨b, _, rfl⟩ := hx
  have := b.toNat_lt
  omega
theorem bl_inj {a b : ByteArray} (h : bl a = bl b) : a = b := by
  unfold bl at h
  have h2 : a.data.toList = b.data.toList := by
    refine List.map_inj_right (f := fun b : UInt8 => (b.toNat : Int)) ?_ |>.1 h
    intro x y e
    exact UInt8.toNat_inj.1 (by exact_mod_cast e)
  cases a with
  | mk x =>
    cases b with
    | mk y =>
      simp only at h2
      rw [Array.toList_inj.1 h2]
theorem in_eq (n lo hi : Int) : spec_l1In.f n lo hi = some (decide (lo ≤ n) && decide (n ≤ hi)) := by
  unfold spec_l1In.f
  by_cases h : n ≥ lo
  · rw [if_pos h]
    simp [show lo ≤ n from h]
  · rw [if_neg h]
    simp [show ¬ lo ≤ n from h]
theorem within_eq (n lo hi : Int) : impl_within.f n lo hi = some (decide (lo ≤ n) && decide (n ≤ hi)) := by
  unfold impl_within.f
  by_cases h : lo ≤ n
  · rw [if_pos h]
    simp [h]
  · rw [if_neg h]
    simp [h]
def inB (n lo hi : Int) : Bool := decide (lo ≤ n) && decide (n ≤ hi)
theorem inB_iff {n lo hi : Int} : inB n lo hi = true ↔ lo ≤ n ∧ n ≤ hi := by unfold inB; simp
theorem l1In_eq (n lo hi : Int) : spec_l1In.f n lo hi = some (inB n lo hi) := in_eq n lo hi
theorem wi_eq (n lo hi : Int) : impl_within.f n lo hi = some (inB n lo hi) := within_eq n lo hi
theorem ev_and {b r : Bool} {g : Nat → Option Bool} {f : Nat → Option Bool} (h : Ev g b) (k : b = true → Ev f r) : Ev (fun n => (g n).bind fun t => if t = true then f n else some false) (b && r) := by
  refine ev_bind h ?_
  cases b with
  | true => exact ev_pos rfl (k rfl)
  | false => exact ev_neg (by decide) (ev_some _)
theorem ev_and2 {b r : Bool} {g : Nat → Option Bool} {f E : Nat → Option Bool} (hE : Ev E false) (h : Ev g b) (k : b = true → Ev f r) : Ev (fun n => (g n).bind fun t => if t = true then f n else E n) (b && r) := by
  refine ev_bind h ?_
  cases b with
  | true => exact ev_pos rfl (k rfl)
  | false => exact ev_neg (by decide) hE
theorem ev_id {b : Bool} {g : Nat → Option Bool} (h : Ev g b) : Ev (fun n => (g n).bind fun t => some t) b := ev_bind h (ev_some _)
theorem dropWhile_all {α : Type} (p : α → Bool) : ∀ l : List α, (∀ x ∈ l.dropWhile p, p x = true) → l.dropWhile p = []
  | [], _ => rfl
  | a :: t, h => by
    by_cases ha : p a = true
    · rw [List.dropWhile_cons_of_pos ha] at h ⊢
      exact dropWhile_all p t h
    · rw [List.dropWhile_cons_of_neg ha] at h
      exact absurd (h a (List.mem_cons_self ..)) ha
theorem dropWhile_nil {α : Type} (p : α → Bool) : ∀ l : List α, l.dropWhile p = [] ↔ ∀ x ∈ l, p x = true
  | [] => by simp
  | a :: t => by
    by_cases ha : p a = true
    · rw [List.dropWhile_cons_of_pos ha, dropWhile_nil p t]
      simp [ha]
    · rw [List.dropWhile_cons_of_neg ha]
      simp [ha]
theorem trimS_nil (l cs : List UInt8) : Lib.trimS l cs = [] ↔ ∀ x ∈ l, cs.contains x = true := by
  unfold Lib.trimS Lib.trimLeftS Lib.trimRightS
  constructor
  · intro h
    rw [dropWhile_nil] at h
    have h2 : ∀ x ∈ l.reverse.dropWhile (cs.contains ·), cs.contains x = true := fun x hx => h x (List.mem_reverse.2 hx)
    have h3 := dropWhile_all (cs.contains ·) _ h2
    rw [dropWhile_nil] at h3
    exact fun x hx => h3 x (List.mem_reverse.2 hx)
  · intro h
    rw [dropWhile_nil]
    intro x hx
    rw [List.mem_reverse] at hx
    exact h x (List.mem_reverse.1 ((List.dropWhile_sublist _).subset hx))
theorem bl_all (a : ByteArray) (p : Int → Bool) : (bl a).all p = a.data.toList.all (fun b => p (b.toNat : Int)) := by
  unfold bl
  rw [List.all_map]
  rfl
theorem trim_empty (a c : ByteArray) (ha : a.size ≤ 140737488351232) (hc : c.size < 4294967281) (h8 : c.data.toList.all (fun b => decide (b.toNat < 128)) = true) (p : Int → Bool)
    (hp : ∀ b : UInt8, c.data.toList.contains b = p (b.toNat : Int)) : (strings_Trim.f a c).bind (fun t => some (t.toList == ([] : List UInt8))) = some ((bl a).all p) := by
  unfold strings_Trim.f
  rw [if_pos ⟨by omega, hc, h8⟩]
  show some _ = some _
  congr 1
  have e : ∀ l : List UInt8, (⟨l.toArray⟩ : ByteArray).toList = l := fun l => by rw [Lib.toList_data]
  rw [e, bl_all]
  rw [Bool.eq_iff_iff, beq_iff_eq, trimS_nil, List.all_eq_true]
  exact forall_congr' fun x => by rw [hp x]
def signB (x : Int) : Bool := x == 76 || x == 82 || x == 78 || x == 85
def ruleOk (a : ByteArray) : Bool := decide (1 ≤ a.size) && decide (a.size ≤ 6) && (bl a).all signB
theorem woRule_loop (a : ByteArray) (hs : a.size ≤ 140737488351232) : ∀ (n i : Nat), i + n = a.size → Ev (fun k => spec_woRule.l0 k a (i : Int)) (((bl a).drop i).all signB)
  | 0, i, h => by
    refine ev_succ ?_
    simp only [spec_woRule.l0]
    have : i = a.size := by omega
    subst this
    rw [bl_drop_size]
    exact ev_neg (by omega) (ev_some _)
  | n + 1, i, h => by
    refine ev_succ ?_
    simp only [spec_woRule.l0]
    have hw : wrap64 ((i : Int) + 1) = ((i + 1 : Nat) : Int) := by rw [w64 (by omega) (by omega)]; omega
    have ih := woRule_loop a hs n (i + 1) (by omega)
    rw [hw, bl_drop a i (by omega), List.all_cons]
    refine ev_pos (by omega) (ev_pos (by omega) ?_)
    refine ev_ite (fun h1 => ?_) (fun h1 => ev_ite (fun h2 => ?_) (fun h2 => ev_ite (fun h3 => ?_) (fun h3 => ev_ite (fun h4 => ?_) (fun h4 => ?_))))
    · rw [h1]; exact ih
    · rw [h2]; exact ih
    · rw [h3]; exact ih
    · rw [h4]; exact ih
    · have : signB (bt a (i : Int)) = false := by unfold signB; simp [h1, h2, h3, h4]
      rw [this, Bool.false_and]
      exact ev_some _
theorem woRule_ev (a : ByteArray) (hs : a.size ≤ 140737488351232) : Ev (fun k => spec_woRule.f k a) (ruleOk a) := by
  unfold spec_woRule.f
  refine ev_bind (ev_const (in_eq _ _ _)) ?_
  unfold ruleOk
  by_cases h1 : 1 ≤ a.size
  · by_cases h2 : a.size ≤ 6
    · have := woRule_loop a hs a.size 0 (by omega)
      rw [List.drop_zero] at this
      rw [decide_eq_true (p := (1:Int) ≤ (a.size : Int)) (by omega), decide_eq_true (p := (a.size : Int) ≤ 6) (by omega), decide_eq_true h1, decide_eq_true h2]
      exact ev_pos rfl this
    · rw [decide_eq_false (p := (a.size : Int) ≤ 6) (by omega), decide_eq_false h2, Bool.and_false, Bool.and_false, Bool.false_and]
      exact ev_neg (by decide) (ev_some _)
  · rw [decide_eq_false (p := (1:Int) ≤ (a.size : Int)) (by omega), decide_eq_false h1, Bool.false_and, Bool.false_and, Bool.false_and]
    exact ev_neg (by decide) (ev_some _)
theorem signs_has (b : UInt8) : (⟨#[76, 82, 78, 85]⟩ : ByteArray).data.toList.contains b = signB (b.toNat : Int) := by
  have h : ∀ n : Fin 256, (⟨#[76, 82, 78, 85]⟩ : ByteArray).data.toList.contains (UInt8.ofNat n.val) = signB (n.val : Int) := by decide +kernel
  have := h ⟨b.toNat, b.toNat_lt⟩
  rwa [UInt8.ofNat_toNat] at this
theorem implIsRule_eq (a : ByteArray) (hs : a.size ≤ 140737488351232) : impl_IsRule.f a = some (ruleOk a) := by
  unfold impl_IsRule.f
  rw [within_eq]
  show (if _ then _ else _) = _
  rw [trim_empty a _ hs (by decide) (by decide +kernel) signB signs_has]
  unfold ruleOk
  by_cases h1 : 1 ≤ a.size
  · by_cases h2 : a.size ≤ 6
    · rw [decide_eq_true (p := (1:Int) ≤ (a.size : Int)) (by omega), decide_eq_true (p := (a.size : Int) ≤ 6) (by omega), decide_eq_true h1, decide_eq_true h2]
      rfl
    · rw [decide_eq_false (p := (a.size : Int) ≤ 6) (by omega), decide_eq_false h2, Bool.and_false, Bool.and_false, Bool.false_and]
      rfl
  · rw [decide_eq_false (p := (1:Int) ≤ (a.size : Int)) (by omega), decide_eq_false h1, Bool.false_and, Bool.false_and, Bool.false_and]
    rfl
def antB (w h x y d : Int) : Bool := inB x 0 (wrap64 (w - 1)) && (inB y 0 (wrap64 (h - 1)) && inB d 0 3)
theorem implIsAnt_eq (w h x y d : Int) : impl_isAnt.f w h x y d = some (antB w h x y d) := by
  unfold impl_isAnt.f impl_isWay.f antB
  rw [wi_eq, wi_eq, wi_eq]
  cases inB x 0 (wrap64 (w - 1)) <;> cases inB y 0 (wrap64 (h - 1)) <;> rfl
def cellB (m x : Int) : Bool := inB (x - 48) 0 (m - 1)
def worldOk (r : ByteArray) (w h : Int) (c : ByteArray) (x y d : Int) : Bool := ruleOk r && (inB w 1 9 && (inB h 1 9 && (((c.size : Int) == wrap64 (w * h)) && ((bl c).all (cellB (r.size : Int)) && antB w h x y d))))
theorem bt_cell (c : ByteArray) (i m : Int) (hm : 0 ≤ m ∧ m ≤ 140737488351232) : inB (wrap64 (wrap64 (bt c i) - 48)) 0 (wrap64 (m - 1)) = cellB m (bt c i) := by
  have := bt_range c i
  rw [w64 (x := bt c i) (by omega) (by omega), w64 (by omega) (by omega), w64 (by omega) (by omega)]
  rfl
theorem woGood_loop (r : ByteArray) (w h : Int) (c : ByteArray) (x y d : Int) (hr : r.size ≤ 140737488351232) (hs : c.size ≤ 140737488351232) : ∀ (n i : Nat), i + n = c.size → Ev (fun k => spec_woGood.l0 k (i : Int) r w h c x y d) (((bl c).drop i).all (cellB (r.size : Int)) && antB w h x y d)
  | 0, i, e => by
    refine ev_succ ?_
    simp only [spec_woGood.l0]
    have : i = c.size := by omega
    subst this
    rw [bl_drop_size, List.all_nil, Bool.true_and]
    unfold antB
    refine ev_neg (by omega) ?_
    exact ev_and (ev_const (l1In_eq _ _ _)) fun _ => ev_and (ev_const (l1In_eq _ _ _)) fun _ => ev_id (ev_const (l1In_eq _ _ _))
  | n + 1, i, e => by
    refine ev_succ ?_
    simp only [spec_woGood.l0]
    have hw : wrap64 ((i : Int) + 1) = ((i + 1 : Nat) : Int) := by rw [w64 (by omega) (by omega)]; omega
    have ih := woGood_loop r w h c x y d hr hs n (i + 1) (by omega)
    rw [hw, bl_drop c i (by omega), List.all_cons, Bool.and_assoc]
    refine ev_pos (by omega) (ev_pos (by omega) ?_)
    rw [← bt_cell c (i : Int) (r.size : Int) ⟨by omega, by omega⟩]
    exact ev_and (ev_const (l1In_eq _ _ _)) fun _ => ih
theorem woGood_ev (r : ByteArray) (w h : Int) (c : ByteArray) (x y d : Int) (hr : r.size ≤ 140737488351232) (hs : c.size ≤ 140737488351232) : Ev (fun k => spec_woGood.f k r w h c x y d) (worldOk r w h c x y d) := by
  unfold spec_woGood.f worldOk
  have hE : Ev (fun k => spec_woGood.j0 k true r w h c x y d) false := by
    refine ev_succ ?_
    simp only [spec_woGood.j0]
    exact ev_pos (by first | rfl | trivial) (ev_some _)
  refine ev_and2 hE (woRule_ev r hr) fun _ => ev_and2 hE (ev_const (l1In_eq _ _ _)) fun _ => ev_and2 hE (ev_const (l1In_eq _ _ _)) fun _ => ?_
  refine ev_succ ?_
  simp only [spec_woGood.j0]
  have hl := woGood_loop r w h c x y d hr hs c.size 0 (by omega)
  rw [List.drop_zero] at hl
  by_cases he : (c.size : Int) = wrap64 (w * h)
  · rw [show ((c.size : Int) == wrap64 (w * h)) = true from beq_iff_eq.2 he, Bool.true_and]
    exact ev_neg (by simp [he]) hl
  · rw [show ((c.size : Int) == wrap64 (w * h)) = false from beq_eq_false_iff_ne.2 he, Bool.false_and]
    exact ev_pos (by simp [he]) (ev_some _)
theorem isWorld_ev (r : ByteArray) (w h : Int) (c : ByteArray) (x y d : Int) (hr : r.size ≤ 140737488351232) (hs : c.size ≤ 140737488351232) : Ev (fun k => impl_IsWorld.f k r w h c x y d) (worldOk r w h c x y d) := by
  have areCells : ∀ (n i : Nat), i + n = c.size → Ev (fun k => impl_areCells.l0 k c (wrap64 (w * h)) (r.size : Int) (c.size : Int) (i : Int)) (((bl c).drop i).all (cellB (r.size : Int)) && ((c.size : Int) == wrap64 (w * h))) := by
    intro n
    induction n with
    | zero =>
      intro i e
      refine ev_succ ?_
      simp only [impl_areCells.l0]
      have : i = c.size := by omega
      subst this
      rw [bl_drop_size]
      exact ev_neg (by omega) (ev_some _)
    | succ n ihn =>
      intro i e
      refine ev_succ ?_
      simp only [impl_areCells.l0]
      have hw : wrap64 ((i : Int) + 1) = ((i + 1 : Nat) : Int) := by rw [w64 (by omega) (by omega)]; omega
      rw [hw, bl_drop c i (by omega), List.all_cons, Bool.and_assoc]
      refine ev_pos (by omega) (ev_pos (by omega) (ev_pos (by omega) ?_))
      rw [← bt_cell c (i : Int) (r.size : Int) ⟨by omega, by omega⟩]
      exact ev_and (ev_const (wi_eq _ _ _)) fun _ => ihn (i + 1) (by omega)
  have hsz : impl_isSize.f w h = some (inB w 1 9 && inB h 1 9) := by
    unfold impl_isSize.f
    rw [wi_eq, wi_eq]
    cases inB w 1 9 <;> rfl
  have hant : impl_isAnt.f w h x y d = some (antB w h x y d) := by
    unfold impl_isAnt.f impl_isWay.f antB
    rw [wi_eq, wi_eq, wi_eq]
    cases inB x 0 (wrap64 (w - 1)) <;> cases inB y 0 (wrap64 (h - 1)) <;> rfl
  have hc := areCells c.size 0 (by omega)
  rw [List.drop_zero] at hc
  have : worldOk r w h c x y d = (ruleOk r && ((inB w 1 9 && inB h 1 9) && (((bl c).all (cellB (r.size : Int)) && ((c.size : Int) == wrap64 (w * h))) && antB w h x y d))) := by
    unfold worldOk
    ac_rfl
  rw [this]
  unfold impl_IsWorld.f
  refine ev_and (ev_const (implIsRule_eq r hr)) fun _ => ev_and (ev_const hsz) fun _ => ev_and ?_ fun _ => ev_id (ev_const hant)
  unfold impl_areCells.f
  exact hc
theorem toWorld_eq (r : ByteArray) (w h : Int) (c : ByteArray) (x y d : Int) : laws_toWorld.f r w h c x y d = some (r, w, h, c, x, y, d) := rfl
theorem szWorld_ev (r : ByteArray) (w h : Int) (c : ByteArray) (x y d m : Int) : ∃ t, laws_szWorld.f r w h c x y d m = some t := by
  unfold laws_szWorld.f
  split
  · exact ⟨_, rfl⟩
  · split <;> exact ⟨_, rfl⟩
structure WorldF (r : ByteArray) (w h : Int) (c : ByteArray) (x y d : Int) : Prop where
  r1 : 1 ≤ r.size
  r6 : r.size ≤ 6
  signs : ∀ s ∈ bl r, signB s = true
  w1 : 1 ≤ w
  w9 : w ≤ 9
  h1 : 1 ≤ h
  h9 : h ≤ 9
  cs : (c.size : Int) = w * h
  cells : ∀ s ∈ bl c, 0 ≤ s - 48 ∧ s - 48 ≤ (r.size : Int) - 1
  x0 : 0 ≤ x
  x1 : x < w
  y0 : 0 ≤ y
  y1 : y < h
  d0 : 0 ≤ d
  d3 : d ≤ 3
theorem mul_bounds {a b : Int} (h1 : 1 ≤ a) (h2 : a ≤ 9) (h3 : 1 ≤ b) (h4 : b ≤ 9) : 1 ≤ a * b ∧ a * b ≤ 81 := by
  have e1 : a = 1 ∨ a = 2 ∨ a = 3 ∨ a = 4 ∨ a = 5 ∨ a = 6 ∨ a = 7 ∨ a = 8 ∨ a = 9 := by omega
  rcases e1 with rfl | rfl | rfl | rfl | rfl | rfl | rfl | rfl | rfl <;> omega
theorem worldF {r : ByteArray} {w h : Int} {c : ByteArray} {x y d : Int} (e : worldOk r w h c x y d = true) : WorldF r w h c x y d := by
  unfold worldOk ruleOk antB at e
  simp only [Bool.and_eq_true, decide_eq_true_eq, inB_iff, beq_iff_eq, List.all_eq_true] at e
  obtain ⟨⟨⟨a1, a2⟩, a3⟩, ⟨b1, b2⟩, ⟨c1, c2⟩, d1, e1, ⟨f1, f2⟩, ⟨g1, g2⟩, i1, i2⟩ := e
  have hm := mul_bounds b1 b2 c1 c2
  rw [w64 (by omega) (by omega)] at d1 f2 g2
  exact ⟨a1, a2, a3, b1, b2, c1, c2, d1, fun s hs => inB_iff.1 (e1 s hs), f1, by omega, g1, by omega, i1, i2⟩
theorem worldOk_mk {r : ByteArray} {w h : Int} {c : ByteArray} {x y d : Int} (F : WorldF r w h c x y d) : worldOk r w h c x y d = true := by
  have hm := mul_bounds F.w1 F.w9 F.h1 F.h9
  have := F.w1
  have := F.w9
  have := F.h1
  have := F.h9
  have := F.x1
  have := F.y1
  unfold worldOk ruleOk antB
  simp only [Bool.and_eq_true, decide_eq_true_eq, inB_iff, beq_iff_eq, List.all_eq_true]
  rw [w64 (x := w * h) (by omega) (by omega), w64 (x := w - 1) (by omega) (by omega), w64 (x := h - 1) (by omega) (by omega)]
  exact ⟨⟨⟨F.r1, F.r6⟩, F.signs⟩, ⟨F.w1, F.w9⟩, ⟨F.h1, F.h9⟩, F.cs, fun s hs => inB_iff.2 (F.cells s hs), ⟨F.x0, by omega⟩, ⟨F.y0, by omega⟩, F.d0, F.d3⟩
theorem at_eq {w h x y : Int} (w1 : 1 ≤ w) (w9 : w ≤ 9) (h1 : 1 ≤ h) (h9 : h ≤ 9) (x0 : 0 ≤ x) (x1 : x < w) (y0 : 0 ≤ y) (y1 : y < h) :
    wrap64 (wrap64 (y * w) + x) = y * w + x ∧ 0 ≤ y * w + x ∧ y * w + x < w * h := by
  have e1 : w = 1 ∨ w = 2 ∨ w = 3 ∨ w = 4 ∨ w = 5 ∨ w = 6 ∨ w = 7 ∨ w = 8 ∨ w = 9 := by omega
  rcases e1 with rfl | rfl | rfl | rfl | rfl | rfl | rfl | rfl | rfl <;> refine ⟨?_, by omega, by omega⟩ <;> rw [w64 (x := y * _) (by omega) (by omega), w64 (by omega) (by omega)]
theorem bt_bl {c : ByteArray} {i : Int} (h0 : 0 ≤ i) (h1 : i < (c.size : Int)) : bt c i ∈ bl c := by
  have e : i = ((i.toNat : Nat) : Int) := by omega
  rw [e, ← bl_get c i.toNat (by rw [bl_length]; omega)]
  exact List.getElem_mem _
abbrev Sp := S62
abbrev rdSp := rd_T62
theorem rdSp_get (l : List Sp) (i : Nat) (h : i < l.length) : rdSp l (i : Int) = l[i] := by
  unfold rdSp rd_T62
  rw [Int.toNat_natCast, List.getD_eq_getElem?_getD, List.getElem?_eq_getElem h]
  rfl
theorem rdS_get (l : List S62) (i : Nat) (h : i < l.length) : rd_T62 l (i : Int) = l[i] := by
  unfold rd_T62
  rw [Int.toNat_natCast, List.getD_eq_getElem?_getD, List.getElem?_eq_getElem h]
  rfl
theorem eqSpotS_loop (l : List S62) (hl : l.length ≤ 140737488351232) : ∀ (n i : Nat), i + n = l.length → Ev (fun k => laws_eqSpotS.l0 k l l (i : Int)) true
  | 0, i, e => by
    refine ev_succ ?_
    simp only [laws_eqSpotS.l0]
    exact ev_neg (by omega) (ev_some _)
  | n + 1, i, e => by
    refine ev_succ ?_
    simp only [laws_eqSpotS.l0]
    have hw : wrap64 ((i : Int) + 1) = ((i + 1 : Nat) : Int) := by rw [w64 (by omega) (by omega)]; omega
    rw [hw]
    have he : ∀ a b c : Int, laws_eqSpot.f a b c a b c = some true := by
      intros
      simp [laws_eqSpot.f]
    exact ev_pos (by omega) (ev_pos (by omega) (ev_pos (by omega) (ev_bind (ev_const (he ..)) (ev_pos rfl (eqSpotS_loop l hl n (i + 1) (by omega))))))
theorem eqSpotS_ev (l : List S62) (hl : l.length ≤ 140737488351232) : Ev (fun k => laws_eqSpotS.f k l l) true := by
  unfold laws_eqSpotS.f
  exact ev_pos rfl (eqSpotS_loop l hl l.length 0 (by omega))
theorem eqPlain_ev (r : ByteArray) (l : List S62) (x y d : Int) (hl : l.length ≤ 140737488351232) : Ev (fun k => laws_eqPlain.f k r l x y d r l x y d) true := by
  unfold laws_eqPlain.f
  exact ev_pos rfl (ev_bind (eqSpotS_ev l hl) (ev_pos rfl (ev_pos rfl (ev_pos rfl (ev_pos rfl (ev_some _))))))
def genS : Nat → Int → List Sp
  | 0, _ => []
  | n + 1, m => ⟨m, m + 1, m + 2⟩ :: genS n (m + 3)
theorem genS_length : ∀ (n : Nat) (m : Int), (genS n m).length = n
  | 0, _ => rfl
  | n + 1, m => by rw [genS, List.length_cons, genS_length n]
theorem rdSp_set (l : List Sp) (i : Nat) (v : Sp) (h : i < l.length) : rdSp (l.set i v) (i : Int) = v := by
  rw [rdSp_get _ i (by rw [List.length_set]; exact h), List.getElem_set_self]
theorem markS_loop (len : Nat) (hl : len ≤ 1000) : ∀ (n i : Nat) (l : List Sp) (m : Int), l.length = len → i + n = len → 0 ≤ m → m ≤ 1 + 3 * i → Ev (fun k => laws_markSpotS.l0 k l m (i : Int)) (m + 3 * n, l.take i ++ genS n m)
  | 0, i, l, m, hll, e, h0, h1 => by
    refine ev_succ ?_
    simp only [laws_markSpotS.l0]
    rw [List.take_of_length_le (by omega)]
    simp only [genS, List.append_nil, Int.natCast_zero, Int.mul_zero, Int.add_zero]
    exact ev_neg (by omega) (ev_some _)
  | n + 1, i, l, m, hll, e, h0, h1 => by
    refine ev_succ ?_
    simp only [laws_markSpotS.l0]
    have hw : wrap64 ((i : Int) + 1) = ((i + 1 : Nat) : Int) := by rw [w64 (by omega) (by omega)]; omega
    have hm1 : wrap64 (m + 1) = m + 1 := w64 (by omega) (by omega)
    have hm2 : wrap64 (m + 1 + 1) = m + 2 := by rw [w64 (by omega) (by omega)]; omega
    have hm3 : wrap64 (m + 2 + 1) = m + 3 := by rw [w64 (by omega) (by omega)]; omega
    have hi : i < l.length := by omega
    rw [hw, hm1, hm2, hm3]
    simp only [Int.toNat_natCast]
    refine ev_pos (by omega) (ev_pos (by omega) (ev_bind (ev_some _) (ev_bind (ev_some _) ?_)))
    have rr : ∀ v : Sp, rd_T62 (l.set i v) (i : Int) = v := fun v => rdSp_set l i v hi
    simp only [rr, List.set_set]
    have ih := markS_loop len hl n (i + 1) (l.set i (⟨m, m + 1, m + 2⟩ : Sp)) (m + 3) (by rw [List.length_set]; exact hll) (by omega) (by omega) (by omega)
    have e1 : (l.set i (⟨m, m + 1, m + 2⟩ : Sp)).take (i + 1) ++ genS n (m + 3) = l.take i ++ genS (n + 1) m := by
      rw [List.take_succ_eq_append_getElem (by rw [List.length_set]; omega), List.take_set_of_le (Nat.le_refl i), List.getElem_set_self, List.append_assoc]
      rfl
    rw [e1, show m + 3 + 3 * (n : Int) = m + 3 * ((n + 1 : Nat) : Int) by omega] at ih
    exact ih
theorem heldS_loop (L : List Sp) (hl : L.length ≤ 1000) : ∀ (n i : Nat) (m : Int), i + n = L.length → L.drop i = genS n m → 0 ≤ m → m ≤ 1 + 3 * i → Ev (fun k => laws_heldSpotS.l0 k L m (i : Int)) (m + 3 * n)
  | 0, i, m, e, _, _, _ => by
    refine ev_succ ?_
    simp only [laws_heldSpotS.l0, Int.natCast_zero, Int.mul_zero, Int.add_zero]
    exact ev_neg (by omega) (ev_some _)
  | n + 1, i, m, e, hd, h0, h1 => by
    refine ev_succ ?_
    simp only [laws_heldSpotS.l0]
    have hw : wrap64 ((i : Int) + 1) = ((i + 1 : Nat) : Int) := by rw [w64 (by omega) (by omega)]; omega
    have hm1 : wrap64 (m + 1) = m + 1 := w64 (by omega) (by omega)
    have hm2 : wrap64 (m + 1 + 1) = m + 2 := by rw [w64 (by omega) (by omega)]; omega
    have hm3 : wrap64 (m + 2 + 1) = m + 3 := by rw [w64 (by omega) (by omega)]; omega
    have hi : i < L.length := by omega
    have hd2 := hd
    rw [List.drop_eq_getElem_cons hi] at hd2
    simp only [genS, List.cons.injEq] at hd2
    have hg : rd_T62 L (i : Int) = (⟨m, m + 1, m + 2⟩ : Sp) := (rdSp_get L i hi).trans hd2.1
    rw [hw, hm1, hm2, hm3, hg]
    have ih := heldS_loop L hl n (i + 1) (m + 3) (by omega) hd2.2 (by omega) (by omega)
    rw [show m + 3 + 3 * (n : Int) = m + 3 * ((n + 1 : Nat) : Int) by omega] at ih
    exact ev_pos (by omega) (ev_pos (by omega) (ev_pos rfl (ev_pos rfl (ev_pos rfl ih))))
theorem markPlain_ev (r : ByteArray) (l : List Sp) (x y d : Int) (hl : l.length ≤ 1000) : Ev (fun k => laws_markPlain.f k r l x y d 1) (1 + 3 * (l.length : Int), genS l.length 1) := by
  unfold laws_markPlain.f laws_markSpotS.f
  have := markS_loop l.length hl l.length 0 l 1 rfl (by omega) (by omega) (by omega)
  exact ev_bind this (ev_some _)
theorem heldPlain_ev (r : ByteArray) (n : Nat) (x y d : Int) (hl : n ≤ 1000) : Ev (fun k => laws_heldPlain.f k r (genS n 1) x y d 1) (1 + 3 * (n : Int)) := by
  unfold laws_heldPlain.f laws_heldSpotS.f
  have := heldS_loop (genS n 1) (by rw [genS_length]; exact hl) n 0 1 (by rw [genS_length]; omega) (by rw [List.drop_zero]) (by omega) (by omega)
  exact ev_bind this (ev_neg (by omega) (ev_some _))
def colB (c : ByteArray) (k : Nat) : Int := (bt c (k : Int) - 48) % 256
def addS (c : ByteArray) (W k : Nat) : List Sp := if colB c k > 0 then [⟨((k % W : Nat) : Int), ((k / W : Nat) : Int), colB c k⟩] else []
def listFrom (c : ByteArray) (W : Nat) : Nat → Nat → List Sp
  | 0, _ => []
  | n + 1, k => addS c W k ++ listFrom c W n (k + 1)
theorem addS_length (c : ByteArray) (W k : Nat) : (addS c W k).length ≤ 1 := by
  unfold addS
  split <;> simp
theorem listFrom_length (c : ByteArray) (W : Nat) : ∀ n k, (listFrom c W n k).length ≤ n
  | 0, _ => Nat.le_refl _
  | n + 1, k => by
    rw [listFrom, List.length_append]
    have := addS_length c W k
    have := listFrom_length c W n (k + 1)
    omega
theorem listFrom_add (c : ByteArray) (W : Nat) : ∀ m n k, listFrom c W (m + n) k = listFrom c W m k ++ listFrom c W n (k + m)
  | 0, n, k => by simp [listFrom]
  | m + 1, n, k => by
    rw [show m + 1 + n = (m + n) + 1 by omega, listFrom, listFrom, listFrom_add c W m n (k + 1), List.append_assoc, show k + 1 + m = k + (m + 1) by omega]
theorem implList (r r' : ByteArray) (W : Nat) (hW : 1 ≤ W) (h : Int) (c : ByteArray) (x y d x' y' d' : Int) (hc : c.size ≤ 81) : ∀ (n k : Nat) (acc : List Sp), k + n = c.size → acc.length ≤ k → Ev (fun q => impl_PlainOfWorld.l0 q (c.size : Int) (k : Int) r (W : Int) h c x y d r' acc x' y' d') (r', acc ++ listFrom c W n k, x', y', d', true)
  | 0, k, acc, e, _ => by
    refine ev_succ ?_
    simp only [impl_PlainOfWorld.l0, listFrom, List.append_nil]
    exact ev_neg (by omega) (ev_some _)
  | n + 1, k, acc, e, ha => by
    refine ev_succ ?_
    simp only [impl_PlainOfWorld.l0]
    have hw : wrap64 ((k : Int) + 1) = ((k + 1 : Nat) : Int) := by rw [w64 (by omega) (by omega)]; omega
    have ht : Int.tmod (k : Int) (W : Int) = ((k % W : Nat) : Int) := rfl
    have hd1 : Int.tdiv (k : Int) (W : Int) = ((k / W : Nat) : Int) := rfl
    have hkd : k / W ≤ k := Nat.div_le_self k W
    have key : ∀ q : Nat, q ≤ k → wrap64 (q : Int) = (q : Int) := fun q hq => w64 (by omega) (by omega)
    have hd2 : wrap64 (((k / W : Nat) : Int)) = ((k / W : Nat) : Int) := key _ hkd
    rw [hw, ht, hd1, hd2]
    refine ev_pos (by omega) (ev_pos (by omega) (ev_pos (by omega) ?_))
    rw [listFrom]
    by_cases cc : colB c k > 0
    · have e1 : addS c W k = [⟨((k % W : Nat) : Int), ((k / W : Nat) : Int), colB c k⟩] := if_pos cc
      rw [e1, ← List.append_assoc]
      exact ev_pos cc (ev_neg (by omega) (ev_pos (by omega) (implList r r' W hW h c x y d x' y' d' hc n (k + 1) _ (by omega) (by rw [List.length_append, List.length_singleton]; omega))))
    · have e1 : addS c W k = [] := if_neg cc
      rw [e1, List.nil_append]
      exact ev_neg cc (implList r r' W hW h c x y d x' y' d' hc n (k + 1) acc (by omega) (by omega))
set_option maxHeartbeats 4000000 in
theorem specRow (r r' : ByteArray) (W H : Nat) (hW : 1 ≤ W) (hW9 : W ≤ 9) (hH9 : H ≤ 9) (c : ByteArray) (hcs : c.size = W * H) (x y d x' y' d' : Int) (v rest : Nat) (hv : v < H)
    (nx : ∀ acc : List Sp, acc.length ≤ (v + 1) * W → Ev (fun q => spec_PlainOfWorld.l0 q ((v + 1 : Nat) : Int) r (W : Int) (H : Int) c x y d r' acc x' y' d') (r', acc ++ listFrom c W rest ((v + 1) * W), x', y', d', true)) :
    ∀ (m u : Nat) (acc : List Sp), u + m = W → acc.length ≤ v * W + u → Ev (fun q => spec_PlainOfWorld.l1 q (v : Int) (u : Int) r (W : Int) (H : Int) c x y d r' acc x' y' d') (r', acc ++ listFrom c W (m + rest) (v * W + u), x', y', d', true)
  | 0, u, acc, e, ha => by
    refine ev_succ ?_
    simp only [spec_PlainOfWorld.l1]
    have hw : wrap64 ((v : Int) + 1) = ((v + 1 : Nat) : Int) := by rw [w64 (by omega) (by omega)]; omega
    have e1 : v * W + u = (v + 1) * W := by rw [Nat.add_mul, Nat.one_mul]; omega
    rw [hw, Nat.zero_add, e1]
    exact ev_neg (by omega) (nx acc (by omega))
  | m + 1, u, acc, e, ha => by
    refine ev_succ ?_
    simp only [spec_PlainOfWorld.l1]
    have hw : wrap64 ((u : Int) + 1) = ((u + 1 : Nat) : Int) := by rw [w64 (by omega) (by omega)]; omega
    obtain ⟨a1, a2, a3⟩ := at_eq (w := (W : Int)) (h := (H : Int)) (x := (u : Int)) (y := (v : Int)) (by omega) (by omega) (by omega) (by omega) (by omega) (by omega) (by omega) (by omega)
    have ecast : (v : Int) * (W : Int) + (u : Int) = ((v * W + u : Nat) : Int) := by push_cast; rfl
    have hsz : (c.size : Int) = (W : Int) * (H : Int) := by rw [hcs]; push_cast; rfl
    have hcol : spec_woColour.f r (W : Int) (H : Int) c x y d (u : Int) (v : Int) = some (colB c (v * W + u)) := by
      unfold spec_woColour.f colB
      rw [a1, if_pos a2, if_pos (by rw [hsz]; exact a3), ecast]
    have hmod : (v * W + u) % W = u := by rw [Nat.add_comm, Nat.add_mul_mod_self_right, Nat.mod_eq_of_lt (by omega)]
    have hdiv : (v * W + u) / W = v := by rw [Nat.add_comm, Nat.add_mul_div_right _ _ (by omega), Nat.div_eq_of_lt (by omega), Nat.zero_add]
    have hv8 : v ≤ 8 := by omega
    have hvW : v * W ≤ 8 * 9 := Nat.mul_le_mul hv8 hW9
    have hu9 : u ≤ 9 := by omega
    have hlen : v * W + u < 1000 := Nat.lt_of_le_of_lt (Nat.add_le_add hvW hu9) (by decide)
    have hacc : acc.length < 5864062014805 := Nat.lt_of_le_of_lt ha (Nat.lt_trans hlen (by decide))
    rw [hw, show m + 1 + rest = (m + rest) + 1 by omega, listFrom]
    refine ev_pos (by omega) (ev_bind (ev_const hcol) ?_)
    by_cases cc : colB c (v * W + u) > 0
    · have e1 : addS c W (v * W + u) = [⟨(u : Int), (v : Int), colB c (v * W + u)⟩] := by
        unfold addS
        rw [if_pos cc, hmod, hdiv]
      rw [e1, ← List.append_assoc]
      exact ev_pos cc (ev_pos hacc (specRow r r' W H hW hW9 hH9 c hcs x y d x' y' d' v rest hv nx m (u + 1) _ (by omega) (by rw [List.length_append, List.length_singleton]; exact Nat.succ_le_succ ha)))
    · have e1 : addS c W (v * W + u) = [] := if_neg cc
      rw [e1, List.nil_append]
      exact ev_neg cc (specRow r r' W H hW hW9 hH9 c hcs x y d x' y' d' v rest hv nx m (u + 1) acc (by omega) (Nat.le_succ_of_le ha))
theorem specRows (r r' : ByteArray) (W H : Nat) (hW : 1 ≤ W) (hW9 : W ≤ 9) (hH9 : H ≤ 9) (c : ByteArray) (hcs : c.size = W * H) (x y d x' y' d' : Int) : ∀ (n v : Nat) (acc : List Sp), v + n = H → acc.length ≤ v * W → Ev (fun q => spec_PlainOfWorld.l0 q (v : Int) r (W : Int) (H : Int) c x y d r' acc x' y' d') (r', acc ++ listFrom c W (n * W) (v * W), x', y', d', true)
  | 0, v, acc, e, _ => by
    refine ev_succ ?_
    simp only [spec_PlainOfWorld.l0, Nat.zero_mul, listFrom, List.append_nil]
    exact ev_neg (by omega) (ev_some _)
  | n + 1, v, acc, e, ha => by
    refine ev_succ ?_
    simp only [spec_PlainOfWorld.l0]
    refine ev_pos (by omega) ?_
    have := specRow r r' W H hW hW9 hH9 c hcs x y d x' y' d' v (n * W) (by omega) (fun acc' h' => specRows r r' W H hW hW9 hH9 c hcs x y d x' y' d' n (v + 1) acc' (by omega) h') W 0 acc (by omega) (by omega)
    rw [Nat.add_zero, show W + n * W = (n + 1) * W by rw [Nat.add_mul, Nat.one_mul]; omega] at this
    exact this
theorem FnExactPlainOfWorld : LawHolds := by
  intro r w h c x y d hr hw hh hc hx hy hd
  refine ev_out (g := fun k => laws_FnExactPlainOfWorld.f k r w h c x y d) ?_
  obtain ⟨t, ht⟩ := szWorld_ev r w h c x y d 1048576
  have hto := ev_const (toWorld_eq r w h c x y d)
  obtain ⟨r', l, x', y', d', b, hl, h1, h2⟩ : ∃ (r' : ByteArray) (l : List Sp) (x' y' d' : Int) (b : Bool), l.length ≤ 1000 ∧ Ev (fun k => spec_PlainOfWorld.f k r w h c x y d) (r', l, x', y', d', b) ∧ Ev (fun k => impl_PlainOfWorld.f k r w h c x y d) (r', l, x', y', d', b) := by
    unfold spec_PlainOfWorld.f impl_PlainOfWorld.f
    have e1 := woGood_ev r w h c x y d hr hc
    have e2 := isWorld_ev r w h c x y d hr hc
    cases hb : worldOk r w h c x y d with
    | false =>
      rw [hb] at e1 e2
      exact ⟨_, _, _, _, _, _, Nat.zero_le _, ev_bind e1 (ev_neg (by decide) (ev_some _)), ev_bind e2 (ev_neg (by decide) (ev_some _))⟩
    | true =>
      rw [hb] at e1 e2
      have F := worldF hb
      obtain ⟨W, rfl⟩ := Int.eq_ofNat_of_zero_le (show 0 ≤ w by have := F.w1; omega)
      obtain ⟨H, rfl⟩ := Int.eq_ofNat_of_zero_le (show 0 ≤ h by have := F.h1; omega)
      have f1 := F.w1
      have f2 := F.w9
      have f3 := F.h1
      have f4 := F.h9
      have hcs : c.size = W * H := by have := F.cs; exact_mod_cast this
      have h81 : W * H ≤ 81 := Nat.mul_le_mul (show W ≤ 9 by omega) (show H ≤ 9 by omega)
      have s1 := specRows r r W H (by omega) (by omega) (by omega) c hcs x y d x y d H 0 [] (by omega) (by simp)
      have s2 := implList r r W (by omega) H c x y d x y d (by omega) c.size 0 [] (by omega) (by simp)
      rw [Nat.zero_mul, show H * W = c.size by rw [hcs, Nat.mul_comm]] at s1
      refine ⟨r, listFrom c W c.size 0, x, y, d, true, ?_, ev_bind e1 (ev_pos rfl ?_), ev_bind e2 (ev_pos rfl ?_)⟩
      · have := listFrom_length c W c.size 0
        omega
      · simpa using s1
      · simpa using s2
  have heq := eqPlain_ev r' l x' y' d' (by omega)
  unfold laws_FnExactPlainOfWorld.f
  refine ev_bind (ev_const ht) (ev_ite (fun _ => ev_some _) (fun _ => ev_bind hto (ev_bind h1 (ev_bind hto (ev_bind h2 (ev_bind heq (ev_pos rfl ?_)))))))
  refine ev_succ ?_
  simp only [laws_FnExactPlainOfWorld.j0]
  have hm := markPlain_ev r' l x' y' d' hl
  have hh := heldPlain_ev r' l.length x' y' d' hl
  refine ev_neg (by simp) (ev_bind hm (ev_bind hh (ev_neg (by omega) (ev_pos (by first | rfl | trivial) (ev_bind hto (ev_bind h2 (ev_bind heq (ev_pos rfl ?_))))))))
  refine ev_succ ?_
  simp only [laws_FnExactPlainOfWorld.j1]
  exact ev_neg (by simp) (ev_bind hh (ev_neg (by omega) (ev_pos (by first | rfl | trivial) (ev_some _))))

end Go.Proofs.YtpfnichcpbgikaaDoor.Pure
