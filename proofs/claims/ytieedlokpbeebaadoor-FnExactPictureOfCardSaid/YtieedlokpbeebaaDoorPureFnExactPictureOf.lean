/- PictureOf of the program and of the reference agree at every plain. Conditions: those of reading alone. -/
import Derived.Test.YtieedlokpbeebaaDoorQFnExactPictureOf
namespace Go.Proofs.YtieedlokpbeebaaDoor.Pure
open Go.RowKit Go.Proofs.YtieedlokpbeebaaDoor.PFnExactPictureOf Go.Proofs.YtieedlokpbeebaaDoorW.PrintWords Go.Proofs.YtieedlokpbeebaaDoorW.PrintLast
set_option linter.unusedVariables false
set_option linter.unusedSimpArgs false
theorem ev_succ {α : Type} {g : Nat → Option α} {r : α} (h : Ev (fun k => g (k + 1)) r) : Ev g r := by
  obtain ⟨K, h⟩ := h
  refine ⟨K + 1, fun k hk => ?_⟩
  obtain ⟨j, rfl⟩ : ∃ j, k = j + 1 := ⟨k - 1, by omega⟩
  exact h j (by omega)
theorem ev_some {α : Type} (r : α) : Ev (fun _ => some r) r := ⟨0, fun _ _ => rfl⟩
theorem ev_const {α : Type} {x : Option α} {r : α} (h : x = some r) : Ev (fun _ => x) r := ⟨0, fun _ _ => h⟩
theorem ev_bind {α β : Type} {g : Nat → Option α} {f : Nat → α → Option β} {a : α} {r : β} (h : Ev g a) (k : Ev (fun n => f n a) r) : Ev (fun n => (g n).bind (f n)) r := by
  obtain ⟨K, h⟩ := h
  obtain ⟨L, k⟩ := k
  exact ⟨max K L, fun n hn => by show (g n).bind (f n) = some r; rw [h n (by omega)]; exact k n (by omega)⟩
theorem ev_pos {α : Type} {c : Prop} [Decidable c] {f g : Nat → Option α} {r : α} (hc : c) (h : Ev f r) : Ev (fun k => if c then f k else g k) r := by
  obtain ⟨K, h⟩ := h
  exact ⟨K, fun n hn => by show (if c then f n else g n) = some r; rw [if_pos hc]; exact h n hn⟩
theorem ev_neg {α : Type} {c : Prop} [Decidable c] {f g : Nat → Option α} {r : α} (hc : ¬ c) (h : Ev g r) : Ev (fun k => if c then f k else g k) r := by
  obtain ⟨K, h⟩ := h
  exact ⟨K, fun n hn => by show (if c then f n else g n) = some r; rw [if_neg hc]; exact h n hn⟩
theorem ev_ite {α : Type} {c : Prop} [Decidable c] {f g : Nat → Option α} {r : α} (h1 : c → Ev f r) (h2 : ¬ c → Ev g r) : Ev (fun k => if c then f k else g k) r := by
  by_cases hc : c
  · exact ev_pos hc (h1 hc)
  · exact ev_neg hc (h2 hc)
theorem ev_out {α : Type} {g : Nat → Option α} {r : α} (h : Ev g r) : ∃ k, g k = some r := by
  obtain ⟨K, h⟩ := h
  exact ⟨K, h K (Nat.le_refl _)⟩
theorem ev_uni {α : Type} {g : Nat → Option α} {r r' : α} (h : Ev g r) (h' : Ev g r') : r = r' := by
  obtain ⟨K, h⟩ := h
  obtain ⟨L, h'⟩ := h'
  have := (h (max K L) (by omega)).symm.trans (h' (max K L) (by omega))
  exact Option.some.inj this
theorem w64 {x : Int} (h1 : -9223372036854775808 ≤ x) (h2 : x ≤ 9223372036854775807) : wrap64 x = x := by
  unfold wrap64
  omega
theorem i64_range {x : Int} (h : (Lit.int .i64 x).wf = true) : -9223372036854775808 ≤ x ∧ x ≤ 9223372036854775807 := by
  have e1 : IntKind.i64.min = -9223372036854775808 := by decide
  have e2 : IntKind.i64.max = 9223372036854775807 := by decide
  have h' : IntKind.i64.min ≤ x ∧ x ≤ IntKind.i64.max := by simpa [Lit.wf] using h
  omega
theorem maxLen_eq : maxLen = 9223372036854775807 := rfl
def bl (a : ByteArray) : List Int := a.data.toList.map (fun b => (b.toNat : Int))
theorem size_data (a : ByteArray) : a.data.toList.length = a.size := by
  rw [Array.length_toList]
  rfl
theorem bl_length (a : ByteArray) : (bl a).length = a.size := by
  unfold bl
  rw [List.length_map, size_data]
theorem bl_get? (a : ByteArray) (i : Nat) (h : i < a.size) : (bl a)[i]? = some (bt a (i : Int)) := by
  unfold bl bt
  rw [List.getElem?_map, Array.getElem?_toList]
  have e : ((i : Int)).toNat = i := Int.toNat_natCast i
  have h2 : a.data[i]? = some (a.data[i]'h) := Array.getElem?_eq_getElem h
  rw [h2, dif_pos (by rw [e]; exact h)]
  simp only [e]
  rfl
theorem bl_get (a : ByteArray) (i : Nat) (h : i < (bl a).length) : (bl a)[i] = bt a (i : Int) := by
  have h2 := bl_get? a i (by rw [← bl_length]; exact h)
  rw [List.getElem?_eq_getElem h] at h2
  exact Option.some.inj h2
theorem bl_drop (a : ByteArray) (i : Nat) (h : i < a.size) : (bl a).drop i = bt a (i : Int) :: (bl a).drop (i + 1) := by
  have h' : i < (bl a).length := by rw [bl_length]; exact h
  rw [List.drop_eq_getElem_cons h', bl_get a i h']
theorem bl_drop_size (a : ByteArray) : (bl a).drop a.size = [] := by
  rw [List.drop_eq_nil_iff, bl_length]
  exact Nat.le_refl _
theorem bt_at_nat (a : ByteArray) (x : Int) (h : 0 ≤ x) : bt a x = bt a ((x.toNat : Nat) : Int) := by
  rw [Int.toNat_of_nonneg h]
theorem bl_range (a : ByteArray) : ∀ x ∈ bl a, 0 ≤ x ∧ x ≤ 255 := by
  intro x hx
  unfold bl at hx
  rw [List.mem_map] at hx
  obtain ⟨b, _, rfl⟩ := hx
  have := b.toNat_lt
  omega
theorem bl_inj {a b : ByteArray} (h : bl a = bl b) : a = b := by
  unfold bl at h
  have h2 : a.data.toList = b.data.toList := by
    refine List.map_inj_right (f := fun b : UInt8 => (b.toNat : Int)) ?_ |>.1 h
    intro x y e
    exact UInt8.toNat_inj.1 (by exact_mod_cast e)
  cases a with
  | mk x =>
    cases b with
    | mk y =>
      simp only at h2
      rw [Array.toList_inj.1 h2]
theorem in_eq (n lo hi : Int) : spec_l1In.f n lo hi = some (decide (lo ≤ n) && decide (n ≤ hi)) := by
  unfold spec_l1In.f
  by_cases h : n ≥ lo
  · rw [if_pos h]
    simp [show lo ≤ n from h]
  · rw [if_neg h]
    simp [show ¬ lo ≤ n from h]
theorem within_eq (n lo hi : Int) : impl_within.f n lo hi = some (decide (lo ≤ n) && decide (n ≤ hi)) := by
  unfold impl_within.f
  by_cases h : lo ≤ n
  · rw [if_pos h]
    simp [h]
  · rw [if_neg h]
    simp [h]
def inB (n lo hi : Int) : Bool := decide (lo ≤ n) && decide (n ≤ hi)
theorem inB_iff {n lo hi : Int} : inB n lo hi = true ↔ lo ≤ n ∧ n ≤ hi := by unfold inB; simp
theorem l1In_eq (n lo hi : Int) : spec_l1In.f n lo hi = some (inB n lo hi) := in_eq n lo hi
theorem wi_eq (n lo hi : Int) : impl_within.f n lo hi = some (inB n lo hi) := within_eq n lo hi
theorem ev_and {b r : Bool} {g : Nat → Option Bool} {f : Nat → Option Bool} (h : Ev g b) (k : b = true → Ev f r) : Ev (fun n => (g n).bind fun t => if t = true then f n else some false) (b && r) := by
  refine ev_bind h ?_
  cases b with
  | true => exact ev_pos rfl (k rfl)
  | false => exact ev_neg (by decide) (ev_some _)
theorem ev_and2 {b r : Bool} {g : Nat → Option Bool} {f E : Nat → Option Bool} (hE : Ev E false) (h : Ev g b) (k : b = true → Ev f r) : Ev (fun n => (g n).bind fun t => if t = true then f n else E n) (b && r) := by
  refine ev_bind h ?_
  cases b with
  | true => exact ev_pos rfl (k rfl)
  | false => exact ev_neg (by decide) hE
theorem ev_id {b : Bool} {g : Nat → Option Bool} (h : Ev g b) : Ev (fun n => (g n).bind fun t => some t) b := ev_bind h (ev_some _)
theorem dropWhile_all {α : Type} (p : α → Bool) : ∀ l : List α, (∀ x ∈ l.dropWhile p, p x = true) → l.dropWhile p = []
  | [], _ => rfl
  | a :: t, h => by
    by_cases ha : p a = true
    · rw [List.dropWhile_cons_of_pos ha] at h ⊢
      exact dropWhile_all p t h
    · rw [List.dropWhile_cons_of_neg ha] at h
      exact absurd (h a (List.mem_cons_self ..)) ha
theorem dropWhile_nil {α : Type} (p : α → Bool) : ∀ l : List α, l.dropWhile p = [] ↔ ∀ x ∈ l, p x = true
  | [] => by simp
  | a :: t => by
    by_cases ha : p a = true
    · rw [List.dropWhile_cons_of_pos ha, dropWhile_nil p t]
      simp [ha]
    · rw [List.dropWhile_cons_of_neg ha]
      simp [ha]
theorem trimS_nil (l cs : List UInt8) : Lib.trimS l cs = [] ↔ ∀ x ∈ l, cs.contains x = true := by
  unfold Lib.trimS Lib.trimLeftS Lib.trimRightS
  constructor
  · intro h
    rw [dropWhile_nil] at h
    have h2 : ∀ x ∈ l.reverse.dropWhile (cs.contains ·), cs.contains x = true := fun x hx => h x (List.mem_reverse.2 hx)
    have h3 := dropWhile_all (cs.contains ·) _ h2
    rw [dropWhile_nil] at h3
    exact fun x hx => h3 x (List.mem_reverse.2 hx)
  · intro h
    rw [dropWhile_nil]
    intro x hx
    rw [List.mem_reverse] at hx
    exact h x (List.mem_reverse.1 ((List.dropWhile_sublist _).subset hx))
theorem bl_all (a : ByteArray) (p : Int → Bool) : (bl a).all p = a.data.toList.all (fun b => p (b.toNat : Int)) := by
  unfold bl
  rw [List.all_map]
  rfl
theorem trim_empty (a c : ByteArray) (ha : a.size ≤ 140737488351232) (hc : c.size < 4294967281) (h8 : c.data.toList.all (fun b => decide (b.toNat < 128)) = true) (p : Int → Bool)
    (hp : ∀ b : UInt8, c.data.toList.contains b = p (b.toNat : Int)) : (strings_Trim.f a c).bind (fun t => some (t.toList == ([] : List UInt8))) = some ((bl a).all p) := by
  unfold strings_Trim.f
  rw [if_pos ⟨by omega, hc, h8⟩]
  show some _ = some _
  congr 1
  have e : ∀ l : List UInt8, (⟨l.toArray⟩ : ByteArray).toList = l := fun l => by rw [Lib.toList_data]
  rw [e, bl_all]
  rw [Bool.eq_iff_iff, beq_iff_eq, trimS_nil, List.all_eq_true]
  exact forall_congr' fun x => by rw [hp x]
def signB (x : Int) : Bool := x == 76 || x == 82 || x == 78 || x == 85
def ruleOk (a : ByteArray) : Bool := decide (1 ≤ a.size) && decide (a.size ≤ 6) && (bl a).all signB
theorem woRule_loop (a : ByteArray) (hs : a.size ≤ 140737488351232) : ∀ (n i : Nat), i + n = a.size → Ev (fun k => spec_woRule.l0 k a (i : Int)) (((bl a).drop i).all signB)
  | 0, i, h => by
    refine ev_succ ?_
    simp only [spec_woRule.l0]
    have : i = a.size := by omega
    subst this
    rw [bl_drop_size]
    exact ev_neg (by omega) (ev_some _)
  | n + 1, i, h => by
    refine ev_succ ?_
    simp only [spec_woRule.l0]
    have hw : wrap64 ((i : Int) + 1) = ((i + 1 : Nat) : Int) := by rw [w64 (by omega) (by omega)]; omega
    have ih := woRule_loop a hs n (i + 1) (by omega)
    rw [hw, bl_drop a i (by omega), List.all_cons]
    refine ev_pos (by omega) (ev_pos (by omega) ?_)
    refine ev_ite (fun h1 => ?_) (fun h1 => ev_ite (fun h2 => ?_) (fun h2 => ev_ite (fun h3 => ?_) (fun h3 => ev_ite (fun h4 => ?_) (fun h4 => ?_))))
    · rw [h1]; exact ih
    · rw [h2]; exact ih
    · rw [h3]; exact ih
    · rw [h4]; exact ih
    · have : signB (bt a (i : Int)) = false := by unfold signB; simp [h1, h2, h3, h4]
      rw [this, Bool.false_and]
      exact ev_some _
theorem woRule_ev (a : ByteArray) (hs : a.size ≤ 140737488351232) : Ev (fun k => spec_woRule.f k a) (ruleOk a) := by
  unfold spec_woRule.f
  refine ev_bind (ev_const (in_eq _ _ _)) ?_
  unfold ruleOk
  by_cases h1 : 1 ≤ a.size
  · by_cases h2 : a.size ≤ 6
    · have := woRule_loop a hs a.size 0 (by omega)
      rw [List.drop_zero] at this
      rw [decide_eq_true (p := (1:Int) ≤ (a.size : Int)) (by omega), decide_eq_true (p := (a.size : Int) ≤ 6) (by omega), decide_eq_true h1, decide_eq_true h2]
      exact ev_pos rfl this
    · rw [decide_eq_false (p := (a.size : Int) ≤ 6) (by omega), decide_eq_false h2, Bool.and_false, Bool.and_false, Bool.false_and]
      exact ev_neg (by decide) (ev_some _)
  · rw [decide_eq_false (p := (1:Int) ≤ (a.size : Int)) (by omega), decide_eq_false h1, Bool.false_and, Bool.false_and, Bool.false_and]
    exact ev_neg (by decide) (ev_some _)
theorem signs_has (b : UInt8) : (⟨#[76, 82, 78, 85]⟩ : ByteArray).data.toList.contains b = signB (b.toNat : Int) := by
  have h : ∀ n : Fin 256, (⟨#[76, 82, 78, 85]⟩ : ByteArray).data.toList.contains (UInt8.ofNat n.val) = signB (n.val : Int) := by decide +kernel
  have := h ⟨b.toNat, b.toNat_lt⟩
  rwa [UInt8.ofNat_toNat] at this
theorem implIsRule_eq (a : ByteArray) (hs : a.size ≤ 140737488351232) : impl_IsRule.f a = some (ruleOk a) := by
  unfold impl_IsRule.f
  rw [within_eq]
  show (if _ then _ else _) = _
  rw [trim_empty a _ hs (by decide) (by decide +kernel) signB signs_has]
  unfold ruleOk
  by_cases h1 : 1 ≤ a.size
  · by_cases h2 : a.size ≤ 6
    · rw [decide_eq_true (p := (1:Int) ≤ (a.size : Int)) (by omega), decide_eq_true (p := (a.size : Int) ≤ 6) (by omega), decide_eq_true h1, decide_eq_true h2]
      rfl
    · rw [decide_eq_false (p := (a.size : Int) ≤ 6) (by omega), decide_eq_false h2, Bool.and_false, Bool.and_false, Bool.false_and]
      rfl
  · rw [decide_eq_false (p := (1:Int) ≤ (a.size : Int)) (by omega), decide_eq_false h1, Bool.false_and, Bool.false_and, Bool.false_and]
    rfl
abbrev Sp := S78
abbrev rdSp := rd_T78
abbrev SpL := S80
def conv (s : SpL) : Sp := ⟨s.f0, s.f1, s.f2⟩
theorem rdSp_get (l : List Sp) (i : Nat) (h : i < l.length) : rdSp l (i : Int) = l[i] := by
  unfold rdSp rd_T78
  rw [Int.toNat_natCast, List.getD_eq_getElem?_getD, List.getElem?_eq_getElem h]
  rfl
theorem rdSpL_get (l : List SpL) (i : Nat) (h : i < l.length) : rd_T80 l (i : Int) = l[i] := by
  unfold rd_T80
  rw [Int.toNat_natCast, List.getD_eq_getElem?_getD, List.getElem?_eq_getElem h]
  rfl
theorem toSpotS_loop (l : List SpL) (hl : l.length ≤ 140737488351232) : ∀ (n i : Nat) (acc : List Sp), i + n = l.length → acc.length = l.length → Ev (fun k => laws_toSpotS.l0 k l acc (i : Int)) (acc.take i ++ (l.drop i).map conv)
  | 0, i, acc, e, ha => by
    refine ev_succ ?_
    simp only [laws_toSpotS.l0]
    rw [List.take_of_length_le (by omega), List.drop_eq_nil_of_le (by omega), List.map_nil, List.append_nil]
    exact ev_neg (by omega) (ev_some _)
  | n + 1, i, acc, e, ha => by
    refine ev_succ ?_
    simp only [laws_toSpotS.l0]
    have hw : wrap64 ((i : Int) + 1) = ((i + 1 : Nat) : Int) := by rw [w64 (by omega) (by omega)]; omega
    have hi : i < l.length := by omega
    rw [hw, rdSpL_get l i hi]
    have ih := toSpotS_loop l hl n (i + 1) (acc.set i (conv l[i])) (by omega) (by rw [List.length_set]; exact ha)
    have e2 : (acc.set i (conv l[i])).take (i + 1) ++ (l.drop (i + 1)).map conv = acc.take i ++ (l.drop i).map conv := by
      rw [List.drop_eq_getElem_cons hi, List.map_cons, List.take_succ_eq_append_getElem (by rw [List.length_set]; omega), List.take_set_of_le (Nat.le_refl i), List.getElem_set_self, List.append_assoc]
      rfl
    rw [e2] at ih
    refine ev_pos (by omega) (ev_pos (by omega) (ev_bind (a := (l[i].f0, l[i].f1, l[i].f2)) (ev_const rfl) (ev_pos (by omega) ?_)))
    rw [Int.toNat_natCast]
    exact ih
theorem toSpotS_ev (l : List SpL) (hl : l.length * 24 ≤ 140737488351232) : Ev (fun k => laws_toSpotS.f k l) (l.map conv) := by
  unfold laws_toSpotS.f
  refine ev_pos (by omega) (ev_pos (by omega) ?_)
  have := toSpotS_loop l (by omega) l.length 0 (List.replicate ((l.length : Int)).toNat z78) (by omega) (by simp)
  simpa using this
theorem toPlain_ev (r : ByteArray) (l : List SpL) (x y d : Int) (hl : l.length * 24 ≤ 140737488351232) : Ev (fun k => laws_toPlain.f k r l x y d) (r, l.map conv, x, y, d) := by
  unfold laws_toPlain.f
  exact ev_bind (toSpotS_ev l hl) (ev_some _)
theorem szPlain_ev (r : ByteArray) (l : List SpL) (x y d m : Int) : ∃ t, laws_szPlain.f r l x y d m = some t := by
  unfold laws_szPlain.f laws_szSpotS.f
  split
  · exact ⟨_, rfl⟩
  · split
    · exact ⟨-1, by simp⟩
    · simp only [Option.bind_some]
      split <;> exact ⟨_, rfl⟩
def nearB (x : Int) : Bool := inB x (-1000) 1000
def spotB (m : Int) (s : Sp) : Bool := nearB s.f0 && (nearB s.f1 && inB s.f2 1 (wrap64 (m - 1)))
def lessB (a b : Sp) : Bool := decide (a.f1 < b.f1) || (decide (a.f1 = b.f1) && decide (a.f0 < b.f0))
def spotsB (m : Int) : List Sp → Option Sp → Bool
  | [], _ => true
  | s :: t, none => spotB m s && spotsB m t (some s)
  | s :: t, some p => spotB m s && (lessB p s && spotsB m t (some s))
def prevS (l : List Sp) (i : Nat) : Option Sp := if i = 0 then none else l[i - 1]?
theorem far_eq (x : Int) : spec_enFar.f x = some (nearB x) := by
  unfold spec_enFar.f nearB
  rw [l1In_eq]
  rfl
theorem less_eq (a b : Sp) : spec_enLess.f a.f0 a.f1 a.f2 b.f0 b.f1 b.f2 = some (lessB a b) := by
  unfold spec_enLess.f lessB
  by_cases h : a.f1 < b.f1
  · simp [h]
  · by_cases h2 : a.f1 = b.f1
    · simp [h2]
    · simp [h, h2]
theorem prevS_succ (l : List Sp) (i : Nat) (h : i < l.length) : prevS l (i + 1) = some l[i] := by
  unfold prevS
  rw [if_neg (by omega)]
  simp [h]
theorem specSpots_loop (r : ByteArray) (l : List Sp) (x y d : Int) (hl : l.length ≤ 140737488351232) : ∀ (n i : Nat), i + n = l.length → Ev (fun k => spec_enGood.l0 k l (l.length : Int) (i : Int) r l x y d) (spotsB (r.size : Int) (l.drop i) (prevS l i))
  | 0, i, e => by
    refine ev_succ ?_
    simp only [spec_enGood.l0]
    rw [List.drop_eq_nil_of_le (by omega)]
    have : spotsB (r.size : Int) [] (prevS l i) = true := by cases prevS l i <;> rfl
    rw [this]
    exact ev_neg (by omega) (ev_some _)
  | n + 1, i, e => by
    refine ev_succ ?_
    simp only [spec_enGood.l0]
    have hw : wrap64 ((i : Int) + 1) = ((i + 1 : Nat) : Int) := by rw [w64 (by omega) (by omega)]; omega
    have hi : i < l.length := by omega
    have ih := specSpots_loop r l x y d hl n (i + 1) (by omega)
    rw [prevS_succ l i hi] at ih
    have hg : rd_T78 l (i : Int) = l[i] := rdSp_get l i hi
    rw [hw, hg, List.drop_eq_getElem_cons hi]
    refine ev_pos (by omega) (ev_pos (by omega) (ev_pos (by omega) ?_))
    rcases Nat.eq_zero_or_pos i with h0 | h0
    · subst h0
      have : prevS l 0 = none := rfl
      rw [this]
      show Ev _ (spotB (r.size : Int) l[0] && spotsB (r.size : Int) (l.drop 1) (some l[0]))
      unfold spotB
      rw [Bool.and_assoc, Bool.and_assoc]
      exact ev_and (ev_const (far_eq _)) fun _ => ev_and (ev_const (far_eq _)) fun _ => ev_and (ev_const (l1In_eq _ _ _)) fun _ => ev_neg (by omega) ih
    · have hp : prevS l i = some l[i - 1] := by
        have := prevS_succ l (i - 1) (by omega)
        rw [show i - 1 + 1 = i by omega] at this
        exact this
      have hw2 : wrap64 ((i : Int) - 1) = ((i - 1 : Nat) : Int) := by rw [w64 (by omega) (by omega)]; omega
      have hg2 : rd_T78 l ((i - 1 : Nat) : Int) = l[i - 1] := rdSp_get l (i - 1) (by omega)
      rw [hp, hw2, hg2]
      show Ev _ (spotB (r.size : Int) l[i] && (lessB l[i - 1] l[i] && spotsB (r.size : Int) (l.drop (i + 1)) (some l[i])))
      unfold spotB
      rw [Bool.and_assoc, Bool.and_assoc]
      exact ev_and (ev_const (far_eq _)) fun _ => ev_and (ev_const (far_eq _)) fun _ => ev_and (ev_const (l1In_eq _ _ _)) fun _ => ev_pos (by omega) (ev_pos (by omega) (ev_pos (by omega) (ev_and (ev_const (less_eq _ _)) fun _ => ih)))
def plainOk (r : ByteArray) (l : List Sp) (x y d : Int) : Bool := ruleOk r && (decide ((l.length : Int) ≤ 300) && (nearB x && (nearB y && (inB d 0 3 && spotsB (r.size : Int) l none))))
theorem enGood_ev (r : ByteArray) (l : List Sp) (x y d : Int) (hr : r.size ≤ 140737488351232) (hl : l.length ≤ 140737488351232) : Ev (fun k => spec_enGood.f k r l x y d) (plainOk r l x y d) := by
  unfold spec_enGood.f plainOk
  have hE : Ev (fun k => spec_enGood.j0 k true r l x y d) false := by
    refine ev_succ ?_
    simp only [spec_enGood.j0]
    exact ev_pos (by first | rfl | trivial) (ev_some _)
  refine ev_and2 hE (woRule_ev r hr) fun _ => ?_
  by_cases c : (l.length : Int) > 300
  · rw [decide_eq_false (by omega), Bool.false_and]
    exact ev_pos c hE
  · rw [decide_eq_true (by omega), Bool.true_and]
    refine ev_neg c (ev_and2 hE (ev_const (far_eq _)) fun _ => ev_and2 hE (ev_const (far_eq _)) fun _ => ?_)
    refine ev_bind (ev_const (l1In_eq _ _ _)) ?_
    have hlp := specSpots_loop r l x y d hl l.length 0 (by omega)
    rw [List.drop_zero] at hlp
    cases inB d 0 3 with
    | true =>
      refine ev_succ ?_
      simp only [spec_enGood.j0]
      exact ev_neg (by decide) hlp
    | false => exact hE
theorem near2 (x y : Int) : impl_isNear.f [x, y] = some (nearB x && nearB y) := by
  unfold impl_isNear.f impl_areWithin.f
  simp [impl_areWithin.ok, nearB, inB, List.all_cons]
theorem spotB_near {m : Int} {s : Sp} (h : spotB m s = true) : (-1000 ≤ s.f0 ∧ s.f0 ≤ 1000) ∧ -1000 ≤ s.f1 ∧ s.f1 ≤ 1000 := by
  unfold spotB nearB at h
  simp only [Bool.and_eq_true, inB_iff] at h
  exact ⟨h.1, h.2.1⟩
theorem compare_ev {a b : Sp} {m : Int} (ha : spotB m a = true) (hb : (nearB b.f0 && nearB b.f1) = true) : ∃ t, impl_compareSpots.f a.f0 a.f1 a.f2 b.f0 b.f1 b.f2 = some t ∧ (t ≥ 0 ↔ lessB a b = false) := by
  obtain ⟨⟨a1, a2⟩, a3, a4⟩ := spotB_near ha
  unfold nearB at hb
  simp only [Bool.and_eq_true, inB_iff] at hb
  obtain ⟨⟨b1, b2⟩, b3, b4⟩ := hb
  unfold impl_compareSpots.f lessB
  by_cases h : a.f1 = b.f1
  · refine ⟨wrap64 (a.f0 - b.f0), if_pos h, ?_⟩
    rw [w64 (by omega) (by omega)]
    simp [h]
  · refine ⟨wrap64 (a.f1 - b.f1), if_neg h, ?_⟩
    rw [w64 (by omega) (by omega)]
    simp [h]
theorem implSpots_loop (r : ByteArray) (l : List Sp) (x y d : Int) (hl : l.length ≤ 140737488351232) : ∀ (n i : Nat), i + n = l.length → (∀ p, prevS l i = some p → spotB (r.size : Int) p = true) → Ev (fun k => impl_IsPlain.l0 k l (l.length : Int) (i : Int) r l x y d) (spotsB (r.size : Int) (l.drop i) (prevS l i))
  | 0, i, e, _ => by
    refine ev_succ ?_
    simp only [impl_IsPlain.l0]
    rw [List.drop_eq_nil_of_le (by omega)]
    have : spotsB (r.size : Int) [] (prevS l i) = true := by cases prevS l i <;> rfl
    rw [this]
    exact ev_neg (by omega) (ev_some _)
  | n + 1, i, e, hpn => by
    refine ev_succ ?_
    simp only [impl_IsPlain.l0]
    have hw : wrap64 ((i : Int) + 1) = ((i + 1 : Nat) : Int) := by rw [w64 (by omega) (by omega)]; omega
    have hi : i < l.length := by omega
    have ih := implSpots_loop r l x y d hl n (i + 1) (by omega)
    rw [prevS_succ l i hi] at ih
    have hg : rd_T78 l (i : Int) = l[i] := rdSp_get l i hi
    have hs : spotB (r.size : Int) l[i] = ((nearB l[i].f0 && nearB l[i].f1) && inB l[i].f2 1 (wrap64 ((r.size : Int) - 1))) := by
      unfold spotB
      rw [Bool.and_assoc]
    rw [hw, hg, List.drop_eq_getElem_cons hi]
    refine ev_pos (by omega) (ev_pos (by omega) (ev_pos (by omega) ?_))
    rcases Nat.eq_zero_or_pos i with h0 | h0
    · subst h0
      have : prevS l 0 = none := rfl
      rw [this]
      show Ev _ (spotB (r.size : Int) l[0] && spotsB (r.size : Int) (l.drop 1) (some l[0]))
      rw [hs, Bool.and_assoc]
      refine ev_and (ev_const (near2 _ _)) fun g1 => ev_and (ev_const (wi_eq _ _ _)) fun g2 => ev_neg (by omega) (ih ?_)
      intro p hp
      cases hp
      rw [hs, g1, g2]
      rfl
    · have hp : prevS l i = some l[i - 1] := by
        have := prevS_succ l (i - 1) (by omega)
        rw [show i - 1 + 1 = i by omega] at this
        exact this
      have hok := hpn _ hp
      have hw2 : wrap64 ((i : Int) - 1) = ((i - 1 : Nat) : Int) := by rw [w64 (by omega) (by omega)]; omega
      have hg2 : rd_T78 l ((i - 1 : Nat) : Int) = l[i - 1] := rdSp_get l (i - 1) (by omega)
      rw [hp, hw2, hg2]
      show Ev _ (spotB (r.size : Int) l[i] && (lessB l[i - 1] l[i] && spotsB (r.size : Int) (l.drop (i + 1)) (some l[i])))
      rw [hs, Bool.and_assoc]
      refine ev_and (ev_const (near2 _ _)) fun g1 => ev_and (ev_const (wi_eq _ _ _)) fun g2 => ev_pos (by omega) (ev_pos (by omega) (ev_pos (by omega) ?_))
      obtain ⟨t, ht, hiff⟩ := compare_ev hok g1
      refine ev_bind (ev_const ht) ?_
      cases hless : lessB l[i - 1] l[i] with
      | false => exact ev_pos (hiff.2 hless) (ev_some _)
      | true =>
        refine ev_neg (fun hge => by rw [hiff.1 hge] at hless; cases hless) (ih ?_)
        intro p hp
        cases hp
        rw [hs, g1, g2]
        rfl
theorem implIsPlain_ev (r : ByteArray) (l : List Sp) (x y d : Int) (hr : r.size ≤ 140737488351232) (hl : l.length ≤ 140737488351232) : Ev (fun k => impl_IsPlain.f k r l x y d) (plainOk r l x y d) := by
  unfold impl_IsPlain.f plainOk
  have hE : Ev (fun k => impl_IsPlain.j0 k true r l x y d) false := by
    refine ev_succ ?_
    simp only [impl_IsPlain.j0]
    exact ev_pos (by first | rfl | trivial) (ev_some _)
  refine ev_and2 hE (ev_const (implIsRule_eq r hr)) fun _ => ?_
  by_cases c : (l.length : Int) > 300
  · rw [decide_eq_false (by omega), Bool.false_and]
    exact ev_pos c hE
  · rw [decide_eq_true (by omega), Bool.true_and, ← Bool.and_assoc]
    refine ev_neg c (ev_and2 hE (ev_const (near2 _ _)) fun _ => ?_)
    have hway : impl_isWay.f d = some (inB d 0 3) := by
      unfold impl_isWay.f
      rw [wi_eq]
      rfl
    refine ev_bind (ev_const hway) ?_
    have hlp := implSpots_loop r l x y d hl l.length 0 (by omega) (fun p hp => by cases hp)
    rw [List.drop_zero] at hlp
    cases inB d 0 3 with
    | true =>
      refine ev_succ ?_
      simp only [impl_IsPlain.j0]
      exact ev_neg (by decide) hlp
    | false => exact hE
theorem rdS_get (l : List S78) (i : Nat) (h : i < l.length) : rd_T78 l (i : Int) = l[i] := by
  unfold rd_T78
  rw [Int.toNat_natCast, List.getD_eq_getElem?_getD, List.getElem?_eq_getElem h]
  rfl
theorem eqSpotS_loop (l : List S78) (hl : l.length ≤ 140737488351232) : ∀ (n i : Nat), i + n = l.length → Ev (fun k => laws_eqSpotS.l0 k l l (i : Int)) true
  | 0, i, e => by
    refine ev_succ ?_
    simp only [laws_eqSpotS.l0]
    exact ev_neg (by omega) (ev_some _)
  | n + 1, i, e => by
    refine ev_succ ?_
    simp only [laws_eqSpotS.l0]
    have hw : wrap64 ((i : Int) + 1) = ((i + 1 : Nat) : Int) := by rw [w64 (by omega) (by omega)]; omega
    rw [hw]
    have he : ∀ a b c : Int, laws_eqSpot.f a b c a b c = some true := by
      intros
      simp [laws_eqSpot.f]
    exact ev_pos (by omega) (ev_pos (by omega) (ev_pos (by omega) (ev_bind (ev_const (he ..)) (ev_pos rfl (eqSpotS_loop l hl n (i + 1) (by omega))))))
theorem eqSpotS_ev (l : List S78) (hl : l.length ≤ 140737488351232) : Ev (fun k => laws_eqSpotS.f k l l) true := by
  unfold laws_eqSpotS.f
  exact ev_pos rfl (eqSpotS_loop l hl l.length 0 (by omega))
theorem eqPlain_ev (r : ByteArray) (l : List S78) (x y d : Int) (hl : l.length ≤ 140737488351232) : Ev (fun k => laws_eqPlain.f k r l x y d r l x y d) true := by
  unfold laws_eqPlain.f
  exact ev_pos rfl (ev_bind (eqSpotS_ev l hl) (ev_pos rfl (ev_pos rfl (ev_pos rfl (ev_pos rfl (ev_some _))))))
theorem lessB_iff {a b : Sp} : lessB a b = true ↔ a.f1 < b.f1 ∨ (a.f1 = b.f1 ∧ a.f0 < b.f0) := by
  unfold lessB
  simp
theorem lessB_trans {a b c : Sp} (h1 : lessB a b = true) (h2 : lessB b c = true) : lessB a c = true := by
  rw [lessB_iff] at *
  omega
def Sorted (l : List Sp) : Prop := l.Pairwise (fun a b => lessB a b = true)
theorem spotsB_all {m : Int} : ∀ {l : List Sp} {p : Option Sp}, spotsB m l p = true → ∀ s ∈ l, spotB m s = true
  | [], _, _, s, hs => by cases hs
  | a :: t, none, h, s, hs => by
    simp only [spotsB, Bool.and_eq_true] at h
    rcases List.mem_cons.1 hs with rfl | hs
    · exact h.1
    · exact spotsB_all h.2 s hs
  | a :: t, some p, h, s, hs => by
    simp only [spotsB, Bool.and_eq_true] at h
    rcases List.mem_cons.1 hs with rfl | hs
    · exact h.1
    · exact spotsB_all h.2.2 s hs
theorem spotsB_above {m : Int} : ∀ {l : List Sp} {p : Sp}, spotsB m l (some p) = true → ∀ s ∈ l, lessB p s = true
  | [], _, _, s, hs => by cases hs
  | a :: t, p, h, s, hs => by
    simp only [spotsB, Bool.and_eq_true] at h
    rcases List.mem_cons.1 hs with rfl | hs
    · exact h.2.1
    · exact lessB_trans h.2.1 (spotsB_above h.2.2 s hs)
theorem spotsB_sorted {m : Int} : ∀ {l : List Sp} {p : Option Sp}, spotsB m l p = true → Sorted l
  | [], _, _ => List.Pairwise.nil
  | a :: t, none, h => by
    simp only [spotsB, Bool.and_eq_true] at h
    exact List.Pairwise.cons (spotsB_above h.2) (spotsB_sorted h.2)
  | a :: t, some p, h => by
    simp only [spotsB, Bool.and_eq_true] at h
    exact List.Pairwise.cons (spotsB_above h.2.2) (spotsB_sorted h.2.2)
def atB (x y : Int) (s : Sp) : Bool := s.f0 == x && s.f1 == y
theorem atB_iff {x y : Int} {s : Sp} : atB x y s = true ↔ s.f0 = x ∧ s.f1 = y := by
  unfold atB
  simp
def col (l : List Sp) (x y : Int) : Int := match l.find? (atB x y) with
  | some s => s.f2
  | none => 0
structure Place (l : List Sp) (x y : Int) (i : Nat) : Prop where
  le : i ≤ l.length
  below : ∀ j (h : j < l.length), j < i → lessB l[j] ⟨x, y, 0⟩ = true
  above : ∀ j (h : j < l.length), i ≤ j → lessB l[j] ⟨x, y, 0⟩ = false
theorem sorted_less {l : List Sp} (hs : Sorted l) {i j : Nat} (hij : i < j) (hj : j < l.length) : lessB (l[i]'(by omega)) l[j] = true := List.pairwise_iff_getElem.1 hs i j (by omega) hj hij
theorem at_place {l : List Sp} (hs : Sorted l) {x y : Int} {i : Nat} (hp : Place l x y i) {j : Nat} (hj : j < l.length) (h : atB x y l[j] = true) : j = i := by
  rw [atB_iff] at h
  have h0 : lessB l[j] ⟨x, y, 0⟩ = false := by
    cases hb : lessB l[j] ⟨x, y, 0⟩ with
    | false => rfl
    | true =>
      rw [lessB_iff] at hb
      dsimp only at hb
      omega
  rcases Nat.lt_trichotomy j i with c | c | c
  · rw [hp.below j hj c] at h0; cases h0
  · exact c
  · have h1 := hp.above i (by omega) (Nat.le_refl _)
    have h2 := sorted_less hs c hj
    rw [lessB_iff] at h2
    have : lessB (l[i]'(by omega)) ⟨x, y, 0⟩ = true := by
      rw [lessB_iff]
      dsimp only
      omega
    rw [this] at h1; cases h1
theorem col_at {l : List Sp} (hs : Sorted l) {x y : Int} {i : Nat} (hp : Place l x y i) (hi : i < l.length) (h : atB x y l[i] = true) : col l x y = l[i].f2 := by
  unfold col
  cases hf : l.find? (atB x y) with
  | none =>
    rw [List.find?_eq_none] at hf
    exact absurd h (hf _ (List.getElem_mem hi))
  | some s =>
    obtain ⟨j, hj, rfl⟩ := List.getElem_of_mem (List.mem_of_find?_eq_some hf)
    have := at_place hs hp hj (List.find?_some hf)
    subst this
    rfl
theorem col_no {l : List Sp} (hs : Sorted l) {x y : Int} {i : Nat} (hp : Place l x y i) (h : ∀ hi : i < l.length, atB x y l[i] = false) : col l x y = 0 := by
  unfold col
  cases hf : l.find? (atB x y) with
  | none => rfl
  | some s =>
    obtain ⟨j, hj, rfl⟩ := List.getElem_of_mem (List.mem_of_find?_eq_some hf)
    have e := List.find?_some hf
    have := at_place hs hp hj e
    subst this
    rw [h hj] at e
    cases e
theorem mid_eq {a b : Nat} (h : a + b ≤ 100000) : wrap64 (Int.tdiv (wrap64 ((a : Int) + (b : Int))) 2) = (((a + b) / 2 : Nat) : Int) := by
  have e : (a : Int) + (b : Int) = ((a + b : Nat) : Int) := by omega
  rw [e, w64 (x := ((a + b : Nat) : Int)) (by omega) (by omega), show Int.tdiv ((a + b : Nat) : Int) 2 = (((a + b) / 2 : Nat) : Int) from rfl, w64 (by omega) (by omega)]
theorem enAt_loop {l : List Sp} (hs : Sorted l) (hn : l.length ≤ 1000) (x y : Int) : ∀ (m lo hi : Nat), hi - lo ≤ m → lo ≤ hi → hi ≤ l.length → (∀ j (h : j < l.length), j < lo → lessB l[j] ⟨x, y, 0⟩ = true) → (∀ j (h : j < l.length), hi ≤ j → lessB l[j] ⟨x, y, 0⟩ = false) →
    ∃ i, Place l x y i ∧ Ev (fun k => spec_enAt.l0 k l x y (lo : Int) (hi : Int)) ((i : Int), decide (∃ h : i < l.length, atB x y l[i] = true)) := by
  intro m
  induction m with
  | zero =>
    intro lo hi hm h1 h2 hb ha
    obtain rfl : hi = lo := by omega
    refine ⟨hi, ⟨h2, hb, ha⟩, ev_succ ?_⟩
    simp only [spec_enAt.l0]
    refine ev_neg (Int.lt_irrefl _) ?_
    by_cases c : hi < l.length
    · refine ev_pos (Int.ofNat_lt.2 c) (ev_pos (Int.natCast_nonneg _) ?_)
      have hg : rd_T78 l (hi : Int) = l[hi] := rdSp_get l hi c
      rw [hg]
      by_cases e : l[hi].f0 = x
      · refine ev_pos e (ev_const ?_)
        congr 2
        by_cases e2 : l[hi].f1 = y
        · rw [decide_eq_true ⟨c, atB_iff.2 ⟨e, e2⟩⟩]
          exact beq_iff_eq.2 e2
        · rw [decide_eq_false (fun ⟨_, h⟩ => e2 (atB_iff.1 h).2)]
          exact beq_eq_false_iff_ne.2 e2
      · refine ev_neg e (ev_const ?_)
        rw [decide_eq_false (fun ⟨_, h⟩ => e (atB_iff.1 h).1)]
    · refine ev_neg (fun h => c (Int.ofNat_lt.1 h)) (ev_const ?_)
      rw [decide_eq_false (fun ⟨h, _⟩ => c h)]
  | succ m ih =>
    intro lo hi hm h1 h2 hb ha
    by_cases c0 : lo < hi
    · have hmid : (lo + hi) / 2 < l.length := by omega
      have em := mid_eq (a := lo) (b := hi) (by omega)
      have hg : rd_T78 l (((lo + hi) / 2 : Nat) : Int) = l[(lo + hi) / 2] := rdSp_get l _ hmid
      have hless := less_eq l[(lo + hi) / 2] ⟨x, y, 0⟩
      cases hl : lessB l[(lo + hi) / 2] ⟨x, y, 0⟩ with
      | true =>
        obtain ⟨i, hp, he⟩ := ih ((lo + hi) / 2 + 1) hi (by omega) (by omega) h2 (fun j h hj => by
          rcases Nat.lt_or_ge j ((lo + hi) / 2) with c | c
          · have := sorted_less hs c hmid
            exact lessB_trans this hl
          · obtain rfl : j = (lo + hi) / 2 := by omega
            exact hl) ha
        refine ⟨i, hp, ev_succ ?_⟩
        simp only [spec_enAt.l0]
        rw [em, hg]
        have w1 : wrap64 ((((lo + hi) / 2 : Nat) : Int) + 1) = (((lo + hi) / 2 + 1 : Nat) : Int) := by rw [w64 (by omega) (by omega)]; omega
        rw [w1]
        rw [hl] at hless
        exact ev_pos (Int.ofNat_lt.2 c0) (ev_pos (Int.natCast_nonneg _) (ev_pos (Int.ofNat_lt.2 hmid) (ev_bind (ev_const hless) (ev_pos rfl he))))
      | false =>
        obtain ⟨i, hp, he⟩ := ih lo ((lo + hi) / 2) (by omega) (by omega) (by omega) hb (fun j h hj => by
          rcases Nat.lt_or_ge ((lo + hi) / 2) j with c | c
          · have h3 := sorted_less hs c h
            cases hj2 : lessB l[j] ⟨x, y, 0⟩ with
            | false => rfl
            | true =>
              rw [lessB_trans h3 hj2] at hl
              cases hl
          · obtain rfl : j = (lo + hi) / 2 := by omega
            exact hl)
        refine ⟨i, hp, ev_succ ?_⟩
        simp only [spec_enAt.l0]
        rw [em, hg]
        rw [hl] at hless
        exact ev_pos (Int.ofNat_lt.2 c0) (ev_pos (Int.natCast_nonneg _) (ev_pos (Int.ofNat_lt.2 hmid) (ev_bind (ev_const hless) (ev_neg (by decide) he))))
    · exact ih lo hi (by omega) h1 h2 hb ha
theorem enAt_ev {l : List Sp} (hs : Sorted l) (hn : l.length ≤ 1000) (x y : Int) : ∃ i, Place l x y i ∧ Ev (fun k => spec_enAt.f k l x y) ((i : Int), decide (∃ h : i < l.length, atB x y l[i] = true)) := by
  unfold spec_enAt.f
  exact enAt_loop hs hn x y l.length 0 l.length (by omega) (by omega) (Nat.le_refl _) (fun j _ hj => absurd hj (by omega)) (fun j h hj => absurd h (by omega))
theorem enColour_ev {r : ByteArray} {l : List Sp} {px py d : Int} (hs : Sorted l) (hn : l.length ≤ 1000) (x y : Int) : Ev (fun k => spec_enColour.f k r l px py d x y) (col l x y) := by
  unfold spec_enColour.f
  obtain ⟨i, hp, he⟩ := enAt_ev hs hn x y
  refine ev_bind he ?_
  by_cases c : ∃ h : i < l.length, atB x y l[i] = true
  · obtain ⟨hi, h⟩ := c
    have hg : rd_T78 l (i : Int) = l[i] := rdSp_get l i hi
    dsimp only
    rw [hg]
    refine ev_pos (decide_eq_true ⟨hi, h⟩) (ev_pos (Int.natCast_nonneg _) (ev_pos (Int.ofNat_lt.2 hi) (ev_const ?_)))
    rw [col_at hs hp hi h]
  · refine ev_neg (by simp only [decide_eq_true_eq]; exact c) (ev_const ?_)
    rw [col_no hs hp (fun hi => by
      cases hb : atB x y l[i] with
      | false => rfl
      | true => exact absurd ⟨hi, hb⟩ c)]
theorem fold_col (x y : Int) : ∀ (l : List Sp) (G : Int → Int → Int), Sorted l → l.foldl (fun F s => XMapP.upd F s.f0 s.f1 s.f2) G x y = match l.find? (atB x y) with
    | some s => s.f2
    | none => G x y
  | [], G, _ => rfl
  | a :: t, G, hs => by
    rw [List.foldl_cons, fold_col x y t _ (List.Pairwise.of_cons hs)]
    by_cases h : atB x y a = true
    · rw [List.find?_cons_of_pos h]
      have hn : t.find? (atB x y) = none := by
        rw [List.find?_eq_none]
        intro s hm he
        have hl := List.rel_of_pairwise_cons hs hm
        rw [lessB_iff] at hl
        rw [atB_iff] at h he
        omega
      rw [hn]
      dsimp only
      unfold XMapP.upd
      rw [atB_iff] at h
      rw [if_pos ⟨h.1.symm, h.2.symm⟩]
    · rw [List.find?_cons_of_neg h]
      cases t.find? (atB x y) with
      | some s => rfl
      | none =>
        dsimp only
        unfold XMapP.upd
        rw [if_neg (fun e => h (atB_iff.2 ⟨e.1.symm, e.2.symm⟩))]
theorem going_F {l : List Sp} (hs : Sorted l) (x y : Int) : impl_Plain_going.F l x y = col l x y := fold_col x y l _ hs
structure PlainF (r : ByteArray) (l : List Sp) (x y d : Int) : Prop where
  n : l.length ≤ 300
  r1 : 1 ≤ r.size
  r6 : r.size ≤ 6
  x : -1000 ≤ x ∧ x ≤ 1000
  y : -1000 ≤ y ∧ y ≤ 1000
  d : 0 ≤ d ∧ d ≤ 3
  sorted : Sorted l
  near : ∀ s ∈ l, (-1000 ≤ s.f0 ∧ s.f0 ≤ 1000) ∧ (-1000 ≤ s.f1 ∧ s.f1 ≤ 1000) ∧ 1 ≤ s.f2 ∧ s.f2 ≤ (r.size : Int) - 1
theorem plainF {r : ByteArray} {l : List Sp} {x y d : Int} (h : plainOk r l x y d = true) : PlainF r l x y d := by
  unfold plainOk ruleOk at h
  simp only [Bool.and_eq_true, decide_eq_true_eq, nearB, inB_iff] at h
  obtain ⟨⟨⟨h1, h2⟩, _⟩, h3, h4, h5, h6, h7⟩ := h
  refine ⟨by omega, h1, h2, h4, h5, h6, spotsB_sorted h7, fun s hs => ?_⟩
  have := spotsB_all h7 s hs
  unfold spotB nearB at this
  simp only [Bool.and_eq_true, inB_iff] at this
  rw [w64 (by omega) (by omega)] at this
  exact this
theorem going_eq {r : ByteArray} {l : List Sp} {x y d : Int} (F : PlainF r l x y d) : impl_Plain_going.f r l x y d = some (impl_Plain_going.F l) := by
  unfold impl_Plain_going.f
  rw [if_pos]
  rw [List.all_eq_true]
  intro s hs
  have := F.near s hs
  have := F.r6
  unfold impl_Plain_going.ok
  rw [decide_eq_true (show XMapP.In64 s.f0 from ⟨by omega, by omega⟩), decide_eq_true (show XMapP.In64 s.f1 from ⟨by omega, by omega⟩), decide_eq_true (show XMapP.In64 s.f2 from ⟨by omega, by omega⟩)]
  rfl
theorem look_eq {F : Int → Int → Int} {x y : Int} (hx : -1000000 ≤ x ∧ x ≤ 1000000) (hy : -1000000 ≤ y ∧ y ≤ 1000000) : impl_look.f F x y = some (F x y) := by
  unfold impl_look.f
  rw [if_pos (by unfold XMapP.In64; omega), if_pos (by unfold XMapP.In64; omega)]
abbrev Pt := S62
theorem rdPt_get (l : List Pt) (i : Nat) (h : i < l.length) : rd_T62 l (i : Int) = l[i] := by
  unfold rd_T62
  rw [Int.toNat_natCast, List.getD_eq_getElem?_getD, List.getElem?_eq_getElem h]
  rfl
def toPt (s : Sp) : Pt := ⟨s.f0, s.f1⟩
def boxF : List Pt → Int → Int → Int → Int → List Int
  | [], a, b, c, d => [a, b, c, d]
  | p :: l, a, b, c, d => boxF l (mn a p.f0) (mx b p.f0) (mn c p.f1) (mx d p.f1)
theorem boxF_length : ∀ (l : List Pt) (a b c d : Int), (boxF l a b c d).length = 4
  | [], _, _, _, _ => rfl
  | p :: l, a, b, c, d => boxF_length l _ _ _ _
theorem least_eq (a b : Int) : spec_l1Least.f a b = some (mn a b) := by
  unfold spec_l1Least.f mn
  by_cases h : a < b
  · rw [if_pos h, if_neg (by omega)]
  · rw [if_neg h]
    by_cases h2 : b < a
    · rw [if_pos h2]
    · rw [if_neg h2, show a = b by omega]
theorem most_eq (a b : Int) : spec_l1Most.f a b = some (mx a b) := by
  unfold spec_l1Most.f mx
  by_cases h : a > b
  · rw [if_pos h, if_neg (by omega)]
  · rw [if_neg h]
    by_cases h2 : a < b
    · rw [if_pos h2]
    · rw [if_neg h2, show a = b by omega]
theorem specBox_loop (l : List Sp) (hl : l.length ≤ 2000000) : ∀ (n i : Nat) (a b c d : Int), i + n = l.length → Ev (fun k => spec_enBox.l0 k [a, b, c, d] l (l.length : Int) (i : Int)) (boxF ((l.drop i).map toPt) a b c d)
  | 0, i, a, b, c, d, e => by
    refine ev_succ ?_
    simp only [spec_enBox.l0]
    rw [List.drop_of_length_le (by omega)]
    exact ev_neg (by omega) (ev_some _)
  | n + 1, i, a, b, c, d, e => by
    have hi : i < l.length := by omega
    have ih := specBox_loop l hl n (i + 1) (mn a l[i].f0) (mx b l[i].f0) (mn c l[i].f1) (mx d l[i].f1) (by omega)
    rw [List.drop_eq_getElem_cons hi]
    refine ev_succ ?_
    simp only [spec_enBox.l0]
    have hg : rd_T78 l (i : Int) = l[i] := rdSp_get l i hi
    rw [hg, w64 (x := (i : Int) + 1) (by omega) (by omega)]
    refine ev_pos (by omega) (ev_pos (by omega) (ev_pos (by omega) (ev_pos (by simp) (ev_bind (ev_const (least_eq a l[i].f0)) (ev_bind (ev_some [mn a l[i].f0, b, c, d]) (ev_pos (by simp) (ev_bind (ev_const (most_eq b l[i].f0)) (ev_bind (ev_some [mn a l[i].f0, mx b l[i].f0, c, d]) (ev_pos (by simp) (ev_bind (ev_const (least_eq c l[i].f1)) (ev_bind (ev_some [mn a l[i].f0, mx b l[i].f0, mn c l[i].f1, d]) (ev_pos (by simp) (ev_bind (ev_const (most_eq d l[i].f1)) ?_)))))))))))))
    exact ih
theorem implBox_loop (l : List Pt) (hl : l.length ≤ 2000000) : ∀ (n i : Nat) (a b c d : Int), i + n = l.length → Ev (fun k => impl_box.l0 k [a, b, c, d] l (l.length : Int) (i : Int)) (boxF (l.drop i) a b c d)
  | 0, i, a, b, c, d, e => by
    refine ev_succ ?_
    simp only [impl_box.l0]
    rw [List.drop_of_length_le (by omega)]
    exact ev_neg (by omega) (ev_some _)
  | n + 1, i, a, b, c, d, e => by
    have hi : i < l.length := by omega
    have ih := implBox_loop l hl n (i + 1) (mn a l[i].f0) (mx b l[i].f0) (mn c l[i].f1) (mx d l[i].f1) (by omega)
    rw [List.drop_eq_getElem_cons hi]
    refine ev_succ ?_
    simp only [impl_box.l0]
    rw [rdPt_get l i hi, w64 (x := (i : Int) + 1) (by omega) (by omega)]
    exact ev_pos (by omega) (ev_pos (by omega) (ev_pos (by omega) (ev_pos (by simp) (ev_pos (by simp) (ev_pos (by simp) (ev_pos (by simp) ih))))))
theorem mn_self (a : Int) : mn a a = a := by simp [mn]
theorem mx_self (a : Int) : mx a a = a := by simp [mx]
theorem implBox_ev (l : List Pt) (x y : Int) (hl : l.length ≤ 1000000) : Ev (fun k => impl_box.f k ((⟨x, y⟩ : Pt) :: l)) (boxF l x x y y) := by
  have h := implBox_loop ((⟨x, y⟩ : Pt) :: l) (by rw [List.length_cons]; omega) (l.length + 1) 0 x x y y (by rw [List.length_cons]; omega)
  rw [List.drop_zero, boxF] at h
  simp only [mn_self, mx_self] at h
  unfold impl_box.f
  rw [show rd_T62 ((⟨x, y⟩ : Pt) :: l) 0 = ⟨x, y⟩ from rfl]
  exact ev_pos (by rw [List.length_cons]; omega) h
theorem plainBox_loop (l : List Sp) (hl : l.length ≤ 1000000) (x y : Int) : ∀ (n i : Nat), i + n = l.length → Ev (fun k => impl_Plain_box.l0 k ((⟨x, y⟩ : Pt) :: (l.take i).map toPt) l (l.length : Int) (i : Int)) (boxF (l.map toPt) x x y y)
  | 0, i, e => by
    refine ev_succ ?_
    simp only [impl_Plain_box.l0]
    rw [List.take_of_length_le (by omega)]
    exact ev_neg (by omega) (ev_bind (implBox_ev _ x y (by rw [List.length_map]; omega)) (ev_some _))
  | n + 1, i, e => by
    have hi : i < l.length := by omega
    have ih := plainBox_loop l hl x y n (i + 1) (by omega)
    refine ev_succ ?_
    simp only [impl_Plain_box.l0]
    have hg : rd_T78 l (i : Int) = l[i] := rdSp_get l i hi
    rw [List.take_succ_eq_append_getElem hi, List.map_append] at ih
    rw [hg, w64 (x := (i : Int) + 1) (by omega) (by omega)]
    exact ev_pos (by omega) (ev_pos (by omega) (ev_pos (by omega) (ev_pos (by rw [List.length_cons, List.length_map, List.length_take]; omega) ih)))
theorem boxF_spec : ∀ (L : List Pt) (a b c d : Int), (∀ p ∈ L, (-1000 ≤ p.f0 ∧ p.f0 ≤ 1000) ∧ -1000 ≤ p.f1 ∧ p.f1 ≤ 1000) → -1000 ≤ a → a ≤ b → b ≤ 1000 → -1000 ≤ c → c ≤ d → d ≤ 1000 →
    ∃ a' b' c' d' : Int, boxF L a b c d = [a', b', c', d'] ∧ -1000 ≤ a' ∧ a' ≤ b' ∧ b' ≤ 1000 ∧ -1000 ≤ c' ∧ c' ≤ d' ∧ d' ≤ 1000
  | [], a, b, c, d, _, h1, h2, h3, h4, h5, h6 => ⟨a, b, c, d, rfl, h1, h2, h3, h4, h5, h6⟩
  | p :: L, a, b, c, d, hL, h1, h2, h3, h4, h5, h6 => by
    have hp := hL p List.mem_cons_self
    have m1 : -1000 ≤ mn a p.f0 ∧ mn a p.f0 ≤ a := by unfold mn; split <;> omega
    have m2 : b ≤ mx b p.f0 ∧ mx b p.f0 ≤ 1000 := by unfold mx; split <;> omega
    have m3 : -1000 ≤ mn c p.f1 ∧ mn c p.f1 ≤ c := by unfold mn; split <;> omega
    have m4 : d ≤ mx d p.f1 ∧ mx d p.f1 ≤ 1000 := by unfold mx; split <;> omega
    exact boxF_spec L _ _ _ _ (fun q hq => hL q (List.mem_cons_of_mem _ hq)) m1.1 (by omega) m2.2 m3.1 (by omega) m4.2
theorem ba_ext {a b : ByteArray} (h : a.data.toList = b.data.toList) : a = b := by
  obtain ⟨⟨x⟩⟩ := a
  obtain ⟨⟨y⟩⟩ := b
  have : x = y := h
  rw [this]
def dB (v : Int) : UInt8 := UInt8.ofNat (48 + v.toNat)
def dig (v : Int) : ByteArray := ⟨#[dB v]⟩
theorem dig_size (v : Int) : (dig v).size = 1 := rfl
theorem one_size (b : UInt8) : (⟨#[b]⟩ : ByteArray).size = 1 := rfl
theorem dig_list (v : Int) : (dig v).data.toList = [dB v] := rfl
theorem l1Num_dig {v : Int} (h0 : 0 ≤ v) (h1 : v ≤ 9) : Ev (fun k => spec_l1Num.f k v) (dig v) := by
  refine ev_succ ?_
  simp only [spec_l1Num.f]
  have e : wrap64 (48 + v) % 256 = 48 + v := by
    rw [w64 (by omega) (by omega)]; omega
  rw [e]
  have e2 : strOfNums [48 + v] = dig v := by
    refine ba_ext ?_
    show [UInt8.ofNat (48 + v).toNat] = [UInt8.ofNat (48 + v.toNat)]
    rw [show (48 + v).toNat = 48 + v.toNat by omega]
  rw [← e2]
  exact ev_pos (by omega) (ev_some _)
theorem join_snoc (L : List (List UInt8)) (r s : List UInt8) : Lib.join (L ++ [r]) s = (if L = [] then r else Lib.join L s ++ (s ++ r)) := by
  cases L with
  | nil => rw [List.nil_append, if_pos rfl, Lib.join_one]
  | cons x t =>
    rw [if_neg (by simp), List.cons_append, Lib.join_cons, Lib.join_cons, List.append_assoc]
    unfold Lib.joinTail
    rw [List.map_append, List.flatten_append]
    simp
def oB (l : List UInt8) : ByteArray := ⟨l.toArray⟩
theorem oB_size (l : List UInt8) : (oB l).size = l.length := by
  show l.toArray.size = l.length
  simp
theorem oB_app (a b : List UInt8) : oB a ++ oB b = oB (a ++ b) := by
  refine ba_ext ?_
  unfold oB
  simp [ByteArray.data_append]
def rowU (l : List Sp) (b0 y : Int) (j : Nat) : List UInt8 := (List.range j).map (fun (i : Nat) => dB (col l (b0 + (i : Int)) y))
def numsU (l : List Sp) (b0 y : Int) (j : Nat) : List Int := (List.range j).map (fun (i : Nat) => 48 + col l (b0 + (i : Int)) y)
theorem rowU_succ (l : List Sp) (b0 y : Int) (j : Nat) : rowU l b0 y (j + 1) = rowU l b0 y j ++ [dB (col l (b0 + (j : Int)) y)] := by
  unfold rowU
  rw [List.range_succ, List.map_append]
  rfl
theorem numsU_succ (l : List Sp) (b0 y : Int) (j : Nat) : numsU l b0 y (j + 1) = numsU l b0 y j ++ [48 + col l (b0 + (j : Int)) y] := by
  unfold numsU
  rw [List.range_succ, List.map_append]
  rfl
theorem rowU_len (l : List Sp) (b0 y : Int) (j : Nat) : (rowU l b0 y j).length = j := by
  unfold rowU
  rw [List.length_map, List.length_range]
theorem numsU_len (l : List Sp) (b0 y : Int) (j : Nat) : (numsU l b0 y j).length = j := by
  unfold numsU
  rw [List.length_map, List.length_range]
def sepU (i : Nat) (T : List UInt8) : List UInt8 := if i = 0 then T else T ++ [47]
def picU (l : List Sp) (b0 b2 : Int) (W : Nat) : Nat → List UInt8
  | 0 => []
  | i + 1 => sepU i (picU l b0 b2 W i) ++ rowU l b0 (b2 + (i : Int)) W
theorem sepU_len (i : Nat) (T : List UInt8) : (sepU i T).length ≤ T.length + 1 := by
  unfold sepU
  split
  · omega
  · rw [List.length_append]; simp
theorem picU_len (l : List Sp) (b0 b2 : Int) {W : Nat} (hW : W ≤ 40) : ∀ i, (picU l b0 b2 W i).length ≤ 41 * i
  | 0 => Nat.le_refl _
  | i + 1 => by
    have ih := picU_len l b0 b2 hW i
    have := sepU_len i (picU l b0 b2 W i)
    show (sepU i (picU l b0 b2 W i) ++ rowU l b0 (b2 + (i : Int)) W).length ≤ _
    rw [List.length_append, rowU_len]
    omega
theorem join_pic (l : List Sp) (b0 b2 : Int) (W : Nat) : ∀ i, Lib.join ((List.range i).map (fun q => rowU l b0 (b2 + ((q : Nat) : Int)) W)) [47] = picU l b0 b2 W i
  | 0 => rfl
  | i + 1 => by
    rw [List.range_succ, List.map_append, List.map_cons, List.map_nil, join_snoc, join_pic l b0 b2 W i]
    show _ = sepU i (picU l b0 b2 W i) ++ rowU l b0 (b2 + (i : Int)) W
    unfold sepU
    by_cases h : i = 0
    · subst h
      rfl
    · rw [if_neg h, if_neg (by
        intro e
        have := congrArg List.length e
        rw [List.length_map, List.length_range] at this
        exact h this), List.append_assoc]
structure Pic (l : List Sp) (a b c d : Int) (W H : Nat) : Prop where
  a0 : -1000 ≤ a
  b0 : b ≤ 1000
  c0 : -1000 ≤ c
  d0 : d ≤ 1000
  w : (W : Int) = b - a + 1
  h : (H : Int) = d - c + 1
  W40 : W ≤ 40
  H40 : H ≤ 40
  sorted : Sorted l
  n : l.length ≤ 300
  colours : ∀ x y, 0 ≤ col l x y ∧ col l x y ≤ 9
theorem nums_row {l : List Sp} {a b c d : Int} {W H : Nat} (F : Pic l a b c d W H) (y : Int) (j : Nat) : (strOfNums (numsU l a y j)).data.toList = rowU l a y j := by
  show (numsU l a y j).map (fun v => UInt8.ofNat v.toNat) = _
  unfold numsU rowU
  rw [List.map_map]
  refine List.map_congr_left fun i _ => ?_
  have := F.colours (a + (i : Int)) y
  show UInt8.ofNat (48 + _ : Int).toNat = UInt8.ofNat (48 + Int.toNat _)
  congr 1
  omega
theorem join_rows {l : List Sp} {a b c d : Int} {W H : Nat} (F : Pic l a b c d W H) : strings_Join.f ((List.range H).map (fun q => strOfNums (numsU l a (c + ((q : Nat) : Int)) W))) (⟨#[47]⟩ : ByteArray) = some (oB (picU l a c W H)) := by
  have e : (((List.range H).map (fun q => strOfNums (numsU l a (c + ((q : Nat) : Int)) W))).map (·.data.toList)) = (List.range H).map (fun q => rowU l a (c + ((q : Nat) : Int)) W) := by
    rw [List.map_map]
    refine List.map_congr_left fun i _ => ?_
    exact nums_row F _ _
  have hl := picU_len l a c F.W40 H
  have hH := F.H40
  unfold strings_Join.f
  rw [if_pos (by rw [List.length_map, List.length_range]; omega), e]
  show (if (Lib.join _ [47]).length ≤ _ then some (⟨(Lib.join _ [47]).toArray⟩ : ByteArray) else none) = _
  rw [join_pic, if_pos (by omega)]
  rfl
theorem spec_row {r : ByteArray} {l : List Sp} {a b c d px py pd : Int} {W H : Nat} (F : Pic l a b c d W H) {i : Nat} (hi : i < H) {z : ByteArray × Bool} (T : List UInt8) (hT : T.length ≤ 100000)
    (hz : Ev (fun k => spec_PictureOf.l0 k [a, b, c, d] (oB (T ++ rowU l a (c + (i : Int)) W)) (c + ((i + 1 : Nat) : Int)) r l px py pd) z) : ∀ (m j : Nat), j + m = W → Ev (fun k => spec_PictureOf.l1 k [a, b, c, d] (oB (T ++ rowU l a (c + (i : Int)) j)) (c + (i : Int)) (a + (j : Int)) r l px py pd) z
  | 0, j, e => by
    obtain rfl : j = W := by omega
    have hW := F.w
    have hH := F.h
    have h1 := F.c0
    have h2 := F.d0
    have w1 : wrap64 (c + (i : Int) + 1) = c + ((i + 1 : Nat) : Int) := by rw [w64 (by omega) (by omega)]; omega
    refine ev_succ ?_
    simp only [spec_PictureOf.l1]
    rw [w1]
    exact ev_pos (by simp) (ev_neg (by show ¬ a + (j : Int) ≤ b; omega) hz)
  | m + 1, j, e => by
    have hW := F.w
    have h1 := F.a0
    have h2 := F.b0
    have h40 := F.W40
    have hc := F.colours (a + (j : Int)) (c + (i : Int))
    have w1 : wrap64 (a + (j : Int) + 1) = a + ((j + 1 : Nat) : Int) := by rw [w64 (by omega) (by omega)]; omega
    have ih := spec_row F hi T hT hz m (j + 1) (by omega)
    have ea : oB (T ++ rowU l a (c + (i : Int)) j) ++ dig (col l (a + (j : Int)) (c + (i : Int))) = oB (T ++ rowU l a (c + (i : Int)) (j + 1)) := by
      show _ ++ oB [dB _] = _
      rw [oB_app, rowU_succ, List.append_assoc]
    refine ev_succ ?_
    simp only [spec_PictureOf.l1]
    rw [w1]
    refine ev_pos (by simp) (ev_pos (by show a + (j : Int) ≤ b; omega) (ev_bind (enColour_ev F.sorted (by have := F.n; omega) _ _) (ev_bind (l1Num_dig hc.1 hc.2) (ev_pos ?_ ?_))))
    · rw [oB_size, dig_size, List.length_append, rowU_len]
      omega
    · rw [ea]
      exact ih
theorem spec_rows {r : ByteArray} {l : List Sp} {a b c d px py pd : Int} {W H : Nat} (F : Pic l a b c d W H) : ∀ (m i : Nat), i + m = H → Ev (fun k => spec_PictureOf.l0 k [a, b, c, d] (oB (picU l a c W i)) (c + (i : Int)) r l px py pd) (oB (picU l a c W H), true)
  | 0, i, e => by
    obtain rfl : i = H := by omega
    have hH := F.h
    refine ev_succ ?_
    simp only [spec_PictureOf.l0]
    exact ev_pos (by simp) (ev_neg (by show ¬ c + (i : Int) ≤ d; omega) (ev_some _))
  | m + 1, i, e => by
    have hH := F.h
    have h40 := F.H40
    have hl := picU_len l a c F.W40 i
    have hs := sepU_len i (picU l a c W i)
    have ih := spec_rows (r := r) (px := px) (py := py) (pd := pd) F m (i + 1) (by omega)
    have hr := spec_row F (i := i) (by omega) (sepU i (picU l a c W i)) (by omega) ih W 0 (by omega)
    rw [show rowU l a (c + (i : Int)) 0 = [] from rfl, List.append_nil, show a + ((0 : Nat) : Int) = a by omega] at hr
    have hj : Ev (fun k => spec_PictureOf.j2 k [a, b, c, d] (oB (sepU i (picU l a c W i))) (c + (i : Int)) r l px py pd) (oB (picU l a c W H), true) := by
      refine ev_succ ?_
      simp only [spec_PictureOf.j2]
      exact ev_pos (by simp) hr
    refine ev_succ ?_
    simp only [spec_PictureOf.l0]
    refine ev_pos (by simp) (ev_pos (by show c + (i : Int) ≤ d; omega) (ev_pos (by simp) ?_))
    by_cases h0 : i = 0
    · subst h0
      refine ev_neg (by show ¬ c + ((0 : Nat) : Int) > c; omega) ?_
      exact hj
    · refine ev_pos (by show c + (i : Int) > c; omega) (ev_pos (by rw [oB_size]; omega) ?_)
      have ea : oB (picU l a c W i) ++ (⟨#[47]⟩ : ByteArray) = oB (sepU i (picU l a c W i)) := by
        show _ ++ oB [47] = _
        rw [oB_app]
        unfold sepU
        rw [if_neg h0]
      rw [ea]
      exact hj
theorem impl_row {l : List Sp} {a b c d : Int} {W H : Nat} (F : Pic l a b c d W H) {i : Nat} (hi : i < H) {z : ByteArray × Bool} (R : List ByteArray) (hR : R.length ≤ 100000)
    (hz : Ev (fun k => impl_PictureOf.l0 k [a, b, c, d] (impl_Plain_going.F l) (R ++ [strOfNums (numsU l a (c + (i : Int)) W)]) (c + ((i + 1 : Nat) : Int))) z) : ∀ (m j : Nat), j + m = W → Ev (fun k => impl_PictureOf.l1 k [a, b, c, d] (impl_Plain_going.F l) R (c + (i : Int)) (numsU l a (c + (i : Int)) j) (a + (j : Int))) z
  | 0, j, e => by
    obtain rfl : j = W := by omega
    have hW := F.w
    have hH := F.h
    have h1 := F.c0
    have h2 := F.d0
    have w1 : wrap64 (c + (i : Int) + 1) = c + ((i + 1 : Nat) : Int) := by rw [w64 (by omega) (by omega)]; omega
    refine ev_succ ?_
    simp only [impl_PictureOf.l1]
    rw [w1]
    exact ev_pos (by simp) (ev_neg (by show ¬ a + (j : Int) ≤ b; omega) (ev_pos (by omega) hz))
  | m + 1, j, e => by
    have hW := F.w
    have hH := F.h
    have h1 := F.a0
    have h2 := F.b0
    have h3 := F.c0
    have h4 := F.d0
    have h40 := F.W40
    have hc := F.colours (a + (j : Int)) (c + (i : Int))
    have w1 : wrap64 (a + (j : Int) + 1) = a + ((j + 1 : Nat) : Int) := by rw [w64 (by omega) (by omega)]; omega
    have ih := impl_row F hi R hR hz m (j + 1) (by omega)
    rw [numsU_succ] at ih
    have hl := look_eq (F := impl_Plain_going.F l) (x := a + (j : Int)) (y := c + (i : Int)) (by omega) (by omega)
    rw [going_F F.sorted] at hl
    have e8 : wrap64 (48 + col l (a + (j : Int)) (c + (i : Int))) % 256 = 48 + col l (a + (j : Int)) (c + (i : Int)) := by
      rw [w64 (by omega) (by omega)]; omega
    refine ev_succ ?_
    simp only [impl_PictureOf.l1]
    rw [w1]
    refine ev_pos (by simp) (ev_pos (by show a + (j : Int) ≤ b; omega) (ev_bind (ev_const hl) (ev_pos (by rw [numsU_len]; omega) ?_)))
    rw [e8]
    exact ih
theorem impl_rows {l : List Sp} {a b c d : Int} {W H : Nat} (F : Pic l a b c d W H) : ∀ (m i : Nat), i + m = H → Ev (fun k => impl_PictureOf.l0 k [a, b, c, d] (impl_Plain_going.F l) ((List.range i).map (fun q => strOfNums (numsU l a (c + ((q : Nat) : Int)) W))) (c + (i : Int))) (oB (picU l a c W H), true)
  | 0, i, e => by
    obtain rfl : i = H := by omega
    have hH := F.h
    refine ev_succ ?_
    simp only [impl_PictureOf.l0]
    exact ev_pos (by simp) (ev_neg (by show ¬ c + (i : Int) ≤ d; omega) (ev_bind (ev_const (join_rows F)) (ev_some _)))
  | m + 1, i, e => by
    have hH := F.h
    have h40 := F.H40
    have ih := impl_rows F m (i + 1) (by omega)
    rw [List.range_succ, List.map_append, List.map_cons, List.map_nil] at ih
    have hr := impl_row F (i := i) (by omega) _ (by rw [List.length_map, List.length_range]; omega) ih W 0 (by omega)
    rw [show numsU l a (c + (i : Int)) 0 = [] from rfl, show a + ((0 : Nat) : Int) = a by omega] at hr
    refine ev_succ ?_
    simp only [impl_PictureOf.l0]
    exact ev_pos (by simp) (ev_pos (by show c + (i : Int) ≤ d; omega) (ev_pos (by simp) hr))
theorem col_range {r : ByteArray} {l : List Sp} {x y d : Int} (F : PlainF r l x y d) (p q : Int) : 0 ≤ col l p q ∧ col l p q ≤ 9 := by
  unfold col
  cases hf : l.find? (atB p q) with
  | none => exact ⟨Int.le_refl _, by decide⟩
  | some s =>
    have := F.near s (List.mem_of_find?_eq_some hf)
    have := F.r6
    dsimp only
    omega
theorem FnExactPictureOf : LawHolds := by
  intro r l x y d hr hl hx hy hd
  obtain ⟨hl1, hl2, _⟩ := hl
  refine ev_out (g := fun n => laws_FnExactPictureOf.f n r l x y d) ?_
  obtain ⟨t, ht⟩ := szPlain_ev r l x y d 1048576
  have hto := toPlain_ev r l x y d hl2
  have hlen : (l.map conv).length ≤ 140737488351232 := by rw [List.length_map]; omega
  unfold laws_FnExactPictureOf.f
  refine ev_bind (ev_const ht) (ev_ite (fun _ => ev_some _) (fun _ => ev_bind hto ?_))
  have heq := eqPlain_ev r (l.map conv) x y d hlen
  generalize hL : l.map conv = L at *
  have h1 := enGood_ev r L x y d hr hlen
  have h2 := implIsPlain_ev r L x y d hr hlen
  obtain ⟨z, hz1, hz2⟩ : ∃ z : ByteArray × Bool, Ev (fun k => spec_PictureOf.f k r L x y d) z ∧ Ev (fun k => impl_PictureOf.f k r L x y d) z := by
    unfold spec_PictureOf.f impl_PictureOf.f
    cases hb : plainOk r L x y d with
    | false =>
      rw [hb] at h1 h2
      exact ⟨((⟨#[]⟩ : ByteArray), false), ev_bind h1 (ev_neg (by decide) (ev_some _)), ev_bind h2 (ev_neg (by decide) (ev_some _))⟩
    | true =>
      rw [hb] at h1 h2
      have F := plainF hb
      have hg := going_eq F
      have hn := F.n
      obtain ⟨a, b, c, e, hbox, a0, ab, b0, c0, ce, e0⟩ := boxF_spec (L.map toPt) x x y y (fun p hp => by
        rw [List.mem_map] at hp
        obtain ⟨s, hs, rfl⟩ := hp
        have := F.near s hs
        exact ⟨this.1, this.2.1⟩) F.x.1 (Int.le_refl _) F.x.2 F.y.1 (Int.le_refl _) F.y.2
      have b1 : Ev (fun k => spec_enBox.f k r L x y d) [a, b, c, e] := by
        have := specBox_loop L (by omega) L.length 0 x x y y (by omega)
        rw [List.drop_zero, hbox] at this
        exact this
      have b2 : Ev (fun k => impl_Plain_box.f k r L x y d) [a, b, c, e] := by
        have := plainBox_loop L (by omega) x y L.length 0 (by omega)
        rw [hbox] at this
        exact this
      have w1 : wrap64 (b - a) = b - a := w64 (by omega) (by omega)
      have w2 : wrap64 (e - c) = e - c := w64 (by omega) (by omega)
      have s0 : Ev (fun k => spec_PictureOf.j0 k [a, b, c, e] true r L x y d) ((⟨#[]⟩ : ByteArray), false) := by
        refine ev_succ ?_
        simp only [spec_PictureOf.j0]
        exact ev_pos (by first | rfl | trivial) (ev_some _)
      have i0 : Ev (fun k => impl_PictureOf.j0 k [a, b, c, e] (impl_Plain_going.F L) [] true) ((⟨#[]⟩ : ByteArray), false) := by
        refine ev_succ ?_
        simp only [impl_PictureOf.j0]
        exact ev_pos (by first | rfl | trivial) (ev_some _)
      by_cases c1 : b - a > 39
      · refine ⟨((⟨#[]⟩ : ByteArray), false), ev_bind h1 (ev_pos rfl (ev_bind b1 (ev_pos (by simp) (ev_pos (by simp) (ev_pos ?_ s0))))), ev_bind h2 (ev_pos rfl (ev_bind b2 (ev_bind (ev_const hg) (ev_bind (ev_some _) (ev_pos (by simp) (ev_pos (by simp) (ev_pos ?_ i0)))))))⟩
        · show wrap64 (b - a) > 39
          omega
        · show wrap64 (b - a) ≥ 40
          omega
      · by_cases c2 : e - c > 39
        · refine ⟨((⟨#[]⟩ : ByteArray), false), ev_bind h1 (ev_pos rfl (ev_bind b1 (ev_pos (by simp) (ev_pos (by simp) (ev_neg ?_ (ev_pos (by simp) (ev_pos (by simp) ?_))))))), ev_bind h2 (ev_pos rfl (ev_bind b2 (ev_bind (ev_const hg) (ev_bind (ev_some _) (ev_pos (by simp) (ev_pos (by simp) (ev_neg ?_ (ev_pos (by simp) (ev_pos (by simp) ?_)))))))))⟩
          · show ¬ wrap64 (b - a) > 39
            omega
          · exact ((decide_eq_true (show wrap64 (e - c) > 39 by omega)).symm ▸ s0 : Ev (fun k => spec_PictureOf.j0 k [a, b, c, e] (decide (wrap64 (e - c) > 39)) r L x y d) _)
          · show ¬ wrap64 (b - a) ≥ 40
            omega
          · exact ((decide_eq_true (show wrap64 (e - c) ≥ 40 by omega)).symm ▸ i0 : Ev (fun k => impl_PictureOf.j0 k [a, b, c, e] (impl_Plain_going.F L) [] (decide (wrap64 (e - c) ≥ 40))) _)
        · have P : Pic L a b c e (b - a + 1).toNat (e - c + 1).toNat := ⟨a0, b0, c0, e0, by omega, by omega, by omega, by omega, F.sorted, hn, col_range F⟩
          have hs := spec_rows (r := r) (px := x) (py := y) (pd := d) P (e - c + 1).toNat 0 (by omega)
          have hi := impl_rows P (e - c + 1).toNat 0 (by omega)
          rw [show c + ((0 : Nat) : Int) = c by omega] at hs hi
          have s1 : Ev (fun k => spec_PictureOf.j0 k [a, b, c, e] false r L x y d) (oB (picU L a c (b - a + 1).toNat (e - c + 1).toNat), true) := by
            refine ev_succ ?_
            simp only [spec_PictureOf.j0]
            exact ev_neg (by decide) (ev_pos (by simp) hs)
          have i1 : Ev (fun k => impl_PictureOf.j0 k [a, b, c, e] (impl_Plain_going.F L) [] false) (oB (picU L a c (b - a + 1).toNat (e - c + 1).toNat), true) := by
            refine ev_succ ?_
            simp only [impl_PictureOf.j0]
            exact ev_neg (by decide) (ev_pos (by simp) hi)
          refine ⟨(oB (picU L a c (b - a + 1).toNat (e - c + 1).toNat), true), ev_bind h1 (ev_pos rfl (ev_bind b1 (ev_pos (by simp) (ev_pos (by simp) (ev_neg ?_ (ev_pos (by simp) (ev_pos (by simp) ?_))))))), ev_bind h2 (ev_pos rfl (ev_bind b2 (ev_bind (ev_const hg) (ev_bind (ev_some _) (ev_pos (by simp) (ev_pos (by simp) (ev_neg ?_ (ev_pos (by simp) (ev_pos (by simp) ?_)))))))))⟩
          · show ¬ wrap64 (b - a) > 39
            omega
          · exact ((decide_eq_false (show ¬ wrap64 (e - c) > 39 by omega)).symm ▸ s1 : Ev (fun k => spec_PictureOf.j0 k [a, b, c, e] (decide (wrap64 (e - c) > 39)) r L x y d) _)
          · show ¬ wrap64 (b - a) ≥ 40
            omega
          · exact ((decide_eq_false (show ¬ wrap64 (e - c) ≥ 40 by omega)).symm ▸ i1 : Ev (fun k => impl_PictureOf.j0 k [a, b, c, e] (impl_Plain_going.F L) [] (decide (wrap64 (e - c) ≥ 40))) _)
  refine ev_bind hz1 (ev_bind hto (ev_bind hz2 (ev_pos rfl ?_)))
  refine ev_succ ?_
  simp only [laws_FnExactPictureOf.j0]
  exact ev_neg (by simp) (ev_bind hto (ev_bind heq (ev_pos rfl (ev_some _))))

end Go.Proofs.YtieedlokpbeebaaDoor.Pure
