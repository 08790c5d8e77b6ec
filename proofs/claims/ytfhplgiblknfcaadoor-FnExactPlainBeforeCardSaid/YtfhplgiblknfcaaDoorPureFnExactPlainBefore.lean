/- PlainBefore of the program and of the reference agree at every plain and number of steps. Conditions: those of reading alone. -/
import Derived.Test.YtfhplgiblknfcaaDoorQFnExactPlainBefore
namespace Go.Proofs.YtfhplgiblknfcaaDoor.Pure
open Go.RowKit Go.Proofs.YtfhplgiblknfcaaDoor.PFnExactPlainBefore Go.Proofs.YtfhplgiblknfcaaDoorW.PrintWords Go.Proofs.YtfhplgiblknfcaaDoorW.PrintLast
set_option linter.unusedVariables false
set_option linter.unusedSimpArgs false
theorem ev_succ {α : Type} {g : Nat → Option α} {r : α} (h : Ev (fun k => g (k + 1)) r) : Ev g r := by
  obtain ⟨K, h⟩ := h
  refine ⟨K + 1, fun k hk => ?_⟩
  obtain ⟨j, rfl⟩ : ∃ j, k = j + 1 := ⟨k - 1, by omega⟩
  exact h j (by omega)
theorem ev_some {α : Type} (r : α) : Ev (fun _ => some r) r := ⟨0, fun _ _ => rfl⟩
theorem ev_const {α : Type} {x : Option α} {r : α} (h : x = some r) : Ev (fun _ => x) r := ⟨0, fun _ _ => h⟩
theorem ev_bind {α β : Type} {g : Nat → Option α} {f : Nat → α → Option β} {a : α} {r : β} (h : Ev g a) (k : Ev (fun n => f n a) r) : Ev (fun n => (g n).bind (f n)) r := by
  obtain ⟨K, h⟩ := h
  obtain ⟨L, k⟩ := k
  exact ⟨max K L, fun n hn => by show (g n).bind (f n) = some r; rw [h n (by omega)]; exact k n (by omega)⟩
theorem ev_pos {α : Type} {c : Prop} [Decidable c] {f g : Nat → Option α} {r : α} (hc : c) (h : Ev f r) : Ev (fun k => if c then f k else g k) r := by
  obtain ⟨K, h⟩ := h
  exact ⟨K, fun n hn => by show (if c then f n else g n) = some r; rw [if_pos hc]; exact h n hn⟩
theorem ev_neg {α : Type} {c : Prop} [Decidable c] {f g : Nat → Option α} {r : α} (hc : ¬ c) (h : Ev g r) : Ev (fun k => if c then f k else g k) r := by
  obtain ⟨K, h⟩ := h
  exact ⟨K, fun n hn => by show (if c then f n else g n) = some r; rw [if_neg hc]; exact h n hn⟩
theorem ev_ite {α : Type} {c : Prop} [Decidable c] {f g : Nat → Option α} {r : α} (h1 : c → Ev f r) (h2 : ¬ c → Ev g r) : Ev (fun k => if c then f k else g k) r := by
  by_cases hc : c
  · exact ev_pos hc (h1 hc)
  · exact ev_neg hc (h2 hc)
theorem ev_out {α : Type} {g : Nat → Option α} {r : α} (h : Ev g r) : ∃ k, g k = some r := by
  obtain ⟨K, h⟩ := h
  exact ⟨K, h K (Nat.le_refl _)⟩
theorem ev_uni {α : Type} {g : Nat → Option α} {r r' : α} (h : Ev g r) (h' : Ev g r') : r = r' := by
  obtain ⟨K, h⟩ := h
  obtain ⟨L, h'⟩ := h'
  have := (h (max K L) (by omega)).symm.trans (h' (max K L) (by omega))
  exact Option.some.inj this
theorem w64 {x : Int} (h1 : -9223372036854775808 ≤ x) (h2 : x ≤ 9223372036854775807) : wrap64 x = x := by
  unfold wrap64
  omega
theorem i64_range {x : Int} (h : (Lit.int .i64 x).wf = true) : -9223372036854775808 ≤ x ∧ x ≤ 9223372036854775807 := by
  have e1 : IntKind.i64.min = -9223372036854775808 := by decide
  have e2 : IntKind.i64.max = 9223372036854775807 := by decide
  have h' : IntKind.i64.min ≤ x ∧ x ≤ IntKind.i64.max := by simpa [Lit.wf] using h
  omega
theorem maxLen_eq : maxLen = 9223372036854775807 := rfl
def bl (a : ByteArray) : List Int := a.data.toList.map (fun b => (b.toNat : Int))
theorem size_data (a : ByteArray) : a.data.toList.length = a.size := by
  rw [Array.length_toList]
  rfl
theorem bl_length (a : ByteArray) : (bl a).length = a.size := by
  unfold bl
  rw [List.length_map, size_data]
theorem bl_get? (a : ByteArray) (i : Nat) (h : i < a.size) : (bl a)[i]? = some (bt a (i : Int)) := by
  unfold bl bt
  rw [List.getElem?_map, Array.getElem?_toList]
  have e : ((i : Int)).toNat = i := Int.toNat_natCast i
  have h2 : a.data[i]? = some (a.data[i]'h) := Array.getElem?_eq_getElem h
  rw [h2, dif_pos (by rw [e]; exact h)]
  simp only [e]
  rfl
theorem bl_get (a : ByteArray) (i : Nat) (h : i < (bl a).length) : (bl a)[i] = bt a (i : Int) := by
  have h2 := bl_get? a i (by rw [← bl_length]; exact h)
  rw [List.getElem?_eq_getElem h] at h2
  exact Option.some.inj h2
theorem bl_drop (a : ByteArray) (i : Nat) (h : i < a.size) : (bl a).drop i = bt a (i : Int) :: (bl a).drop (i + 1) := by
  have h' : i < (bl a).length := by rw [bl_length]; exact h
  rw [List.drop_eq_getElem_cons h', bl_get a i h']
theorem bl_drop_size (a : ByteArray) : (bl a).drop a.size = [] := by
  rw [List.drop_eq_nil_iff, bl_length]
  exact Nat.le_refl _
theorem bt_at_nat (a : ByteArray) (x : Int) (h : 0 ≤ x) : bt a x = bt a ((x.toNat : Nat) : Int) := by
  rw [Int.toNat_of_nonneg h]
theorem bl_range (a : ByteArray) : ∀ x ∈ bl a, 0 ≤ x ∧ x ≤ 255 := by
  intro x hx
  unfold bl at hx
  rw [List.mem_map] at hx
  obtain ⟨b, _, rfl⟩ := hx
  have := b.toNat_lt
  omega
theorem bl_inj {a b : ByteArray} (h : bl a = bl b) : a = b := by
  unfold bl at h
  have h2 : a.data.toList = b.data.toList := by
    refine List.map_inj_right (f := fun b : UInt8 => (b.toNat : Int)) ?_ |>.1 h
    intro x y e
    exact UInt8.toNat_inj.1 (by exact_mod_cast e)
  cases a with
  | mk x =>
    cases b with
    | mk y =>
      simp only at h2
      rw [Array.toList_inj.1 h2]
theorem in_eq (n lo hi : Int) : spec_l1In.f n lo hi = some (decide (lo ≤ n) && decide (n ≤ hi)) := by
  unfold spec_l1In.f
  by_cases h : n ≥ lo
  · rw [if_pos h]
    simp [show lo ≤ n from h]
  · rw [if_neg h]
    simp [show ¬ lo ≤ n from h]
theorem within_eq (n lo hi : Int) : impl_within.f n lo hi = some (decide (lo ≤ n) && decide (n ≤ hi)) := by
  unfold impl_within.f
  by_cases h : lo ≤ n
  · rw [if_pos h]
    simp [h]
  · rw [if_neg h]
    simp [h]
def inB (n lo hi : Int) : Bool := decide (lo ≤ n) && decide (n ≤ hi)
theorem inB_iff {n lo hi : Int} : inB n lo hi = true ↔ lo ≤ n ∧ n ≤ hi := by unfold inB; simp
theorem l1In_eq (n lo hi : Int) : spec_l1In.f n lo hi = some (inB n lo hi) := in_eq n lo hi
theorem wi_eq (n lo hi : Int) : impl_within.f n lo hi = some (inB n lo hi) := within_eq n lo hi
theorem ev_and {b r : Bool} {g : Nat → Option Bool} {f : Nat → Option Bool} (h : Ev g b) (k : b = true → Ev f r) : Ev (fun n => (g n).bind fun t => if t = true then f n else some false) (b && r) := by
  refine ev_bind h ?_
  cases b with
  | true => exact ev_pos rfl (k rfl)
  | false => exact ev_neg (by decide) (ev_some _)
theorem ev_and2 {b r : Bool} {g : Nat → Option Bool} {f E : Nat → Option Bool} (hE : Ev E false) (h : Ev g b) (k : b = true → Ev f r) : Ev (fun n => (g n).bind fun t => if t = true then f n else E n) (b && r) := by
  refine ev_bind h ?_
  cases b with
  | true => exact ev_pos rfl (k rfl)
  | false => exact ev_neg (by decide) hE
theorem ev_id {b : Bool} {g : Nat → Option Bool} (h : Ev g b) : Ev (fun n => (g n).bind fun t => some t) b := ev_bind h (ev_some _)
theorem dropWhile_all {α : Type} (p : α → Bool) : ∀ l : List α, (∀ x ∈ l.dropWhile p, p x = true) → l.dropWhile p = []
  | [], _ => rfl
  | a :: t, h => by
    by_cases ha : p a = true
    · rw [List.dropWhile_cons_of_pos ha] at h ⊢
      exact dropWhile_all p t h
    · rw [List.dropWhile_cons_of_neg ha] at h
      exact absurd (h a (List.mem_cons_self ..)) ha
theorem dropWhile_nil {α : Type} (p : α → Bool) : ∀ l : List α, l.dropWhile p = [] ↔ ∀ x ∈ l, p x = true
  | [] => by simp
  | a :: t => by
    by_cases ha : p a = true
    · rw [List.dropWhile_cons_of_pos ha, dropWhile_nil p t]
      simp [ha]
    · rw [List.dropWhile_cons_of_neg ha]
      simp [ha]
theorem trimS_nil (l cs : List UInt8) : Lib.trimS l cs = [] ↔ ∀ x ∈ l, cs.contains x = true := by
  unfold Lib.trimS Lib.trimLeftS Lib.trimRightS
  constructor
  · intro h
    rw [dropWhile_nil] at h
    have h2 : ∀ x ∈ l.reverse.dropWhile (cs.contains ·), cs.contains x = true := fun x hx => h x (List.mem_reverse.2 hx)
    have h3 := dropWhile_all (cs.contains ·) _ h2
    rw [dropWhile_nil] at h3
    exact fun x hx => h3 x (List.mem_reverse.2 hx)
  · intro h
    rw [dropWhile_nil]
    intro x hx
    rw [List.mem_reverse] at hx
    exact h x (List.mem_reverse.1 ((List.dropWhile_sublist _).subset hx))
theorem bl_all (a : ByteArray) (p : Int → Bool) : (bl a).all p = a.data.toList.all (fun b => p (b.toNat : Int)) := by
  unfold bl
  rw [List.all_map]
  rfl
theorem trim_empty (a c : ByteArray) (ha : a.size ≤ 140737488351232) (hc : c.size < 4294967281) (h8 : c.data.toList.all (fun b => decide (b.toNat < 128)) = true) (p : Int → Bool)
    (hp : ∀ b : UInt8, c.data.toList.contains b = p (b.toNat : Int)) : (strings_Trim.f a c).bind (fun t => some (t.toList == ([] : List UInt8))) = some ((bl a).all p) := by
  unfold strings_Trim.f
  rw [if_pos ⟨by omega, hc, h8⟩]
  show some _ = some _
  congr 1
  have e : ∀ l : List UInt8, (⟨l.toArray⟩ : ByteArray).toList = l := fun l => by rw [Lib.toList_data]
  rw [e, bl_all]
  rw [Bool.eq_iff_iff, beq_iff_eq, trimS_nil, List.all_eq_true]
  exact forall_congr' fun x => by rw [hp x]
def signB (x : Int) : Bool := x == 76 || x == 82 || x == 78 || x == 85
def ruleOk (a : ByteArray) : Bool := decide (1 ≤ a.size) && decide (a.size ≤ 6) && (bl a).all signB
theorem woRule_loop (a : ByteArray) (hs : a.size ≤ 140737488351232) : ∀ (n i : Nat), i + n = a.size → Ev (fun k => spec_woRule.l0 k a (i : Int)) (((bl a).drop i).all signB)
  | 0, i, h => by
    refine ev_succ ?_
    simp only [spec_woRule.l0]
    have : i = a.size := by omega
    subst this
    rw [bl_drop_size]
    exact ev_neg (by omega) (ev_some _)
  | n + 1, i, h => by
    refine ev_succ ?_
    simp only [spec_woRule.l0]
    have hw : wrap64 ((i : Int) + 1) = ((i + 1 : Nat) : Int) := by rw [w64 (by omega) (by omega)]; omega
    have ih := woRule_loop a hs n (i + 1) (by omega)
    rw [hw, bl_drop a i (by omega), List.all_cons]
    refine ev_pos (by omega) (ev_pos (by omega) ?_)
    refine ev_ite (fun h1 => ?_) (fun h1 => ev_ite (fun h2 => ?_) (fun h2 => ev_ite (fun h3 => ?_) (fun h3 => ev_ite (fun h4 => ?_) (fun h4 => ?_))))
    · rw [h1]; exact ih
    · rw [h2]; exact ih
    · rw [h3]; exact ih
    · rw [h4]; exact ih
    · have : signB (bt a (i : Int)) = false := by unfold signB; simp [h1, h2, h3, h4]
      rw [this, Bool.false_and]
      exact ev_some _
theorem woRule_ev (a : ByteArray) (hs : a.size ≤ 140737488351232) : Ev (fun k => spec_woRule.f k a) (ruleOk a) := by
  unfold spec_woRule.f
  refine ev_bind (ev_const (in_eq _ _ _)) ?_
  unfold ruleOk
  by_cases h1 : 1 ≤ a.size
  · by_cases h2 : a.size ≤ 6
    · have := woRule_loop a hs a.size 0 (by omega)
      rw [List.drop_zero] at this
      rw [decide_eq_true (p := (1:Int) ≤ (a.size : Int)) (by omega), decide_eq_true (p := (a.size : Int) ≤ 6) (by omega), decide_eq_true h1, decide_eq_true h2]
      exact ev_pos rfl this
    · rw [decide_eq_false (p := (a.size : Int) ≤ 6) (by omega), decide_eq_false h2, Bool.and_false, Bool.and_false, Bool.false_and]
      exact ev_neg (by decide) (ev_some _)
  · rw [decide_eq_false (p := (1:Int) ≤ (a.size : Int)) (by omega), decide_eq_false h1, Bool.false_and, Bool.false_and, Bool.false_and]
    exact ev_neg (by decide) (ev_some _)
theorem signs_has (b : UInt8) : (⟨#[76, 82, 78, 85]⟩ : ByteArray).data.toList.contains b = signB (b.toNat : Int) := by
  have h : ∀ n : Fin 256, (⟨#[76, 82, 78, 85]⟩ : ByteArray).data.toList.contains (UInt8.ofNat n.val) = signB (n.val : Int) := by decide +kernel
  have := h ⟨b.toNat, b.toNat_lt⟩
  rwa [UInt8.ofNat_toNat] at this
theorem implIsRule_eq (a : ByteArray) (hs : a.size ≤ 140737488351232) : impl_IsRule.f a = some (ruleOk a) := by
  unfold impl_IsRule.f
  rw [within_eq]
  show (if _ then _ else _) = _
  rw [trim_empty a _ hs (by decide) (by decide +kernel) signB signs_has]
  unfold ruleOk
  by_cases h1 : 1 ≤ a.size
  · by_cases h2 : a.size ≤ 6
    · rw [decide_eq_true (p := (1:Int) ≤ (a.size : Int)) (by omega), decide_eq_true (p := (a.size : Int) ≤ 6) (by omega), decide_eq_true h1, decide_eq_true h2]
      rfl
    · rw [decide_eq_false (p := (a.size : Int) ≤ 6) (by omega), decide_eq_false h2, Bool.and_false, Bool.and_false, Bool.false_and]
      rfl
  · rw [decide_eq_false (p := (1:Int) ≤ (a.size : Int)) (by omega), decide_eq_false h1, Bool.false_and, Bool.false_and, Bool.false_and]
    rfl
abbrev Sp := S60
abbrev rdSp := rd_T60
abbrev SpL := S62
def conv (s : SpL) : Sp := ⟨s.f0, s.f1, s.f2⟩
theorem rdSp_get (l : List Sp) (i : Nat) (h : i < l.length) : rdSp l (i : Int) = l[i] := by
  unfold rdSp rd_T60
  rw [Int.toNat_natCast, List.getD_eq_getElem?_getD, List.getElem?_eq_getElem h]
  rfl
theorem rdSpL_get (l : List SpL) (i : Nat) (h : i < l.length) : rd_T62 l (i : Int) = l[i] := by
  unfold rd_T62
  rw [Int.toNat_natCast, List.getD_eq_getElem?_getD, List.getElem?_eq_getElem h]
  rfl
theorem toSpotS_loop (l : List SpL) (hl : l.length ≤ 140737488351232) : ∀ (n i : Nat) (acc : List Sp), i + n = l.length → acc.length = l.length → Ev (fun k => laws_toSpotS.l0 k l acc (i : Int)) (acc.take i ++ (l.drop i).map conv)
  | 0, i, acc, e, ha => by
    refine ev_succ ?_
    simp only [laws_toSpotS.l0]
    rw [List.take_of_length_le (by omega), List.drop_eq_nil_of_le (by omega), List.map_nil, List.append_nil]
    exact ev_neg (by omega) (ev_some _)
  | n + 1, i, acc, e, ha => by
    refine ev_succ ?_
    simp only [laws_toSpotS.l0]
    have hw : wrap64 ((i : Int) + 1) = ((i + 1 : Nat) : Int) := by rw [w64 (by omega) (by omega)]; omega
    have hi : i < l.length := by omega
    rw [hw, rdSpL_get l i hi]
    have ih := toSpotS_loop l hl n (i + 1) (acc.set i (conv l[i])) (by omega) (by rw [List.length_set]; exact ha)
    have e2 : (acc.set i (conv l[i])).take (i + 1) ++ (l.drop (i + 1)).map conv = acc.take i ++ (l.drop i).map conv := by
      rw [List.drop_eq_getElem_cons hi, List.map_cons, List.take_succ_eq_append_getElem (by rw [List.length_set]; omega), List.take_set_of_le (Nat.le_refl i), List.getElem_set_self, List.append_assoc]
      rfl
    rw [e2] at ih
    refine ev_pos (by omega) (ev_pos (by omega) (ev_bind (a := (l[i].f0, l[i].f1, l[i].f2)) (ev_const rfl) (ev_pos (by omega) ?_)))
    rw [Int.toNat_natCast]
    exact ih
theorem toSpotS_ev (l : List SpL) (hl : l.length * 24 ≤ 140737488351232) : Ev (fun k => laws_toSpotS.f k l) (l.map conv) := by
  unfold laws_toSpotS.f
  refine ev_pos (by omega) (ev_pos (by omega) ?_)
  have := toSpotS_loop l (by omega) l.length 0 (List.replicate ((l.length : Int)).toNat z60) (by omega) (by simp)
  simpa using this
theorem toPlain_ev (r : ByteArray) (l : List SpL) (x y d : Int) (hl : l.length * 24 ≤ 140737488351232) : Ev (fun k => laws_toPlain.f k r l x y d) (r, l.map conv, x, y, d) := by
  unfold laws_toPlain.f
  exact ev_bind (toSpotS_ev l hl) (ev_some _)
theorem szPlain_ev (r : ByteArray) (l : List SpL) (x y d m : Int) : ∃ t, laws_szPlain.f r l x y d m = some t := by
  unfold laws_szPlain.f laws_szSpotS.f
  split
  · exact ⟨_, rfl⟩
  · split
    · exact ⟨-1, by simp⟩
    · simp only [Option.bind_some]
      split <;> exact ⟨_, rfl⟩
def nearB (x : Int) : Bool := inB x (-1000) 1000
def spotB (m : Int) (s : Sp) : Bool := nearB s.f0 && (nearB s.f1 && inB s.f2 1 (wrap64 (m - 1)))
def lessB (a b : Sp) : Bool := decide (a.f1 < b.f1) || (decide (a.f1 = b.f1) && decide (a.f0 < b.f0))
def spotsB (m : Int) : List Sp → Option Sp → Bool
  | [], _ => true
  | s :: t, none => spotB m s && spotsB m t (some s)
  | s :: t, some p => spotB m s && (lessB p s && spotsB m t (some s))
def prevS (l : List Sp) (i : Nat) : Option Sp := if i = 0 then none else l[i - 1]?
theorem far_eq (x : Int) : spec_enFar.f x = some (nearB x) := by
  unfold spec_enFar.f nearB
  rw [l1In_eq]
  rfl
theorem less_eq (a b : Sp) : spec_enLess.f a.f0 a.f1 a.f2 b.f0 b.f1 b.f2 = some (lessB a b) := by
  unfold spec_enLess.f lessB
  by_cases h : a.f1 < b.f1
  · simp [h]
  · by_cases h2 : a.f1 = b.f1
    · simp [h2]
    · simp [h, h2]
theorem prevS_succ (l : List Sp) (i : Nat) (h : i < l.length) : prevS l (i + 1) = some l[i] := by
  unfold prevS
  rw [if_neg (by omega)]
  simp [h]
theorem specSpots_loop (r : ByteArray) (l : List Sp) (x y d : Int) (hl : l.length ≤ 140737488351232) : ∀ (n i : Nat), i + n = l.length → Ev (fun k => spec_enGood.l0 k l (l.length : Int) (i : Int) r l x y d) (spotsB (r.size : Int) (l.drop i) (prevS l i))
  | 0, i, e => by
    refine ev_succ ?_
    simp only [spec_enGood.l0]
    rw [List.drop_eq_nil_of_le (by omega)]
    have : spotsB (r.size : Int) [] (prevS l i) = true := by cases prevS l i <;> rfl
    rw [this]
    exact ev_neg (by omega) (ev_some _)
  | n + 1, i, e => by
    refine ev_succ ?_
    simp only [spec_enGood.l0]
    have hw : wrap64 ((i : Int) + 1) = ((i + 1 : Nat) : Int) := by rw [w64 (by omega) (by omega)]; omega
    have hi : i < l.length := by omega
    have ih := specSpots_loop r l x y d hl n (i + 1) (by omega)
    rw [prevS_succ l i hi] at ih
    have hg : rd_T60 l (i : Int) = l[i] := rdSp_get l i hi
    rw [hw, hg, List.drop_eq_getElem_cons hi]
    refine ev_pos (by omega) (ev_pos (by omega) (ev_pos (by omega) ?_))
    rcases Nat.eq_zero_or_pos i with h0 | h0
    · subst h0
      have : prevS l 0 = none := rfl
      rw [this]
      show Ev _ (spotB (r.size : Int) l[0] && spotsB (r.size : Int) (l.drop 1) (some l[0]))
      unfold spotB
      rw [Bool.and_assoc, Bool.and_assoc]
      exact ev_and (ev_const (far_eq _)) fun _ => ev_and (ev_const (far_eq _)) fun _ => ev_and (ev_const (l1In_eq _ _ _)) fun _ => ev_neg (by omega) ih
    · have hp : prevS l i = some l[i - 1] := by
        have := prevS_succ l (i - 1) (by omega)
        rw [show i - 1 + 1 = i by omega] at this
        exact this
      have hw2 : wrap64 ((i : Int) - 1) = ((i - 1 : Nat) : Int) := by rw [w64 (by omega) (by omega)]; omega
      have hg2 : rd_T60 l ((i - 1 : Nat) : Int) = l[i - 1] := rdSp_get l (i - 1) (by omega)
      rw [hp, hw2, hg2]
      show Ev _ (spotB (r.size : Int) l[i] && (lessB l[i - 1] l[i] && spotsB (r.size : Int) (l.drop (i + 1)) (some l[i])))
      unfold spotB
      rw [Bool.and_assoc, Bool.and_assoc]
      exact ev_and (ev_const (far_eq _)) fun _ => ev_and (ev_const (far_eq _)) fun _ => ev_and (ev_const (l1In_eq _ _ _)) fun _ => ev_pos (by omega) (ev_pos (by omega) (ev_pos (by omega) (ev_and (ev_const (less_eq _ _)) fun _ => ih)))
def plainOk (r : ByteArray) (l : List Sp) (x y d : Int) : Bool := ruleOk r && (decide ((l.length : Int) ≤ 300) && (nearB x && (nearB y && (inB d 0 3 && spotsB (r.size : Int) l none))))
theorem enGood_ev (r : ByteArray) (l : List Sp) (x y d : Int) (hr : r.size ≤ 140737488351232) (hl : l.length ≤ 140737488351232) : Ev (fun k => spec_enGood.f k r l x y d) (plainOk r l x y d) := by
  unfold spec_enGood.f plainOk
  have hE : Ev (fun k => spec_enGood.j0 k true r l x y d) false := by
    refine ev_succ ?_
    simp only [spec_enGood.j0]
    exact ev_pos (by first | rfl | trivial) (ev_some _)
  refine ev_and2 hE (woRule_ev r hr) fun _ => ?_
  by_cases c : (l.length : Int) > 300
  · rw [decide_eq_false (by omega), Bool.false_and]
    exact ev_pos c hE
  · rw [decide_eq_true (by omega), Bool.true_and]
    refine ev_neg c (ev_and2 hE (ev_const (far_eq _)) fun _ => ev_and2 hE (ev_const (far_eq _)) fun _ => ?_)
    refine ev_bind (ev_const (l1In_eq _ _ _)) ?_
    have hlp := specSpots_loop r l x y d hl l.length 0 (by omega)
    rw [List.drop_zero] at hlp
    cases inB d 0 3 with
    | true =>
      refine ev_succ ?_
      simp only [spec_enGood.j0]
      exact ev_neg (by decide) hlp
    | false => exact hE
theorem near2 (x y : Int) : impl_isNear.f [x, y] = some (nearB x && nearB y) := by
  unfold impl_isNear.f impl_areWithin.f
  simp [impl_areWithin.ok, nearB, inB, List.all_cons]
theorem spotB_near {m : Int} {s : Sp} (h : spotB m s = true) : (-1000 ≤ s.f0 ∧ s.f0 ≤ 1000) ∧ -1000 ≤ s.f1 ∧ s.f1 ≤ 1000 := by
  unfold spotB nearB at h
  simp only [Bool.and_eq_true, inB_iff] at h
  exact ⟨h.1, h.2.1⟩
theorem compare_ev {a b : Sp} {m : Int} (ha : spotB m a = true) (hb : (nearB b.f0 && nearB b.f1) = true) : ∃ t, impl_compareSpots.f a.f0 a.f1 a.f2 b.f0 b.f1 b.f2 = some t ∧ (t ≥ 0 ↔ lessB a b = false) := by
  obtain ⟨⟨a1, a2⟩, a3, a4⟩ := spotB_near ha
  unfold nearB at hb
  simp only [Bool.and_eq_true, inB_iff] at hb
  obtain ⟨⟨b1, b2⟩, b3, b4⟩ := hb
  unfold impl_compareSpots.f lessB
  by_cases h : a.f1 = b.f1
  · refine ⟨wrap64 (a.f0 - b.f0), if_pos h, ?_⟩
    rw [w64 (by omega) (by omega)]
    simp [h]
  · refine ⟨wrap64 (a.f1 - b.f1), if_neg h, ?_⟩
    rw [w64 (by omega) (by omega)]
    simp [h]
theorem implSpots_loop (r : ByteArray) (l : List Sp) (x y d : Int) (hl : l.length ≤ 140737488351232) : ∀ (n i : Nat), i + n = l.length → (∀ p, prevS l i = some p → spotB (r.size : Int) p = true) → Ev (fun k => impl_IsPlain.l0 k l (l.length : Int) (i : Int) r l x y d) (spotsB (r.size : Int) (l.drop i) (prevS l i))
  | 0, i, e, _ => by
    refine ev_succ ?_
    simp only [impl_IsPlain.l0]
    rw [List.drop_eq_nil_of_le (by omega)]
    have : spotsB (r.size : Int) [] (prevS l i) = true := by cases prevS l i <;> rfl
    rw [this]
    exact ev_neg (by omega) (ev_some _)
  | n + 1, i, e, hpn => by
    refine ev_succ ?_
    simp only [impl_IsPlain.l0]
    have hw : wrap64 ((i : Int) + 1) = ((i + 1 : Nat) : Int) := by rw [w64 (by omega) (by omega)]; omega
    have hi : i < l.length := by omega
    have ih := implSpots_loop r l x y d hl n (i + 1) (by omega)
    rw [prevS_succ l i hi] at ih
    have hg : rd_T60 l (i : Int) = l[i] := rdSp_get l i hi
    have hs : spotB (r.size : Int) l[i] = ((nearB l[i].f0 && nearB l[i].f1) && inB l[i].f2 1 (wrap64 ((r.size : Int) - 1))) := by
      unfold spotB
      rw [Bool.and_assoc]
    rw [hw, hg, List.drop_eq_getElem_cons hi]
    refine ev_pos (by omega) (ev_pos (by omega) (ev_pos (by omega) ?_))
    rcases Nat.eq_zero_or_pos i with h0 | h0
    · subst h0
      have : prevS l 0 = none := rfl
      rw [this]
      show Ev _ (spotB (r.size : Int) l[0] && spotsB (r.size : Int) (l.drop 1) (some l[0]))
      rw [hs, Bool.and_assoc]
      refine ev_and (ev_const (near2 _ _)) fun g1 => ev_and (ev_const (wi_eq _ _ _)) fun g2 => ev_neg (by omega) (ih ?_)
      intro p hp
      cases hp
      rw [hs, g1, g2]
      rfl
    · have hp : prevS l i = some l[i - 1] := by
        have := prevS_succ l (i - 1) (by omega)
        rw [show i - 1 + 1 = i by omega] at this
        exact this
      have hok := hpn _ hp
      have hw2 : wrap64 ((i : Int) - 1) = ((i - 1 : Nat) : Int) := by rw [w64 (by omega) (by omega)]; omega
      have hg2 : rd_T60 l ((i - 1 : Nat) : Int) = l[i - 1] := rdSp_get l (i - 1) (by omega)
      rw [hp, hw2, hg2]
      show Ev _ (spotB (r.size : Int) l[i] && (lessB l[i - 1] l[i] && spotsB (r.size : Int) (l.drop (i + 1)) (some l[i])))
      rw [hs, Bool.and_assoc]
      refine ev_and (ev_const (near2 _ _)) fun g1 => ev_and (ev_const (wi_eq _ _ _)) fun g2 => ev_pos (by omega) (ev_pos (by omega) (ev_pos (by omega) ?_))
      obtain ⟨t, ht, hiff⟩ := compare_ev hok g1
      refine ev_bind (ev_const ht) ?_
      cases hless : lessB l[i - 1] l[i] with
      | false => exact ev_pos (hiff.2 hless) (ev_some _)
      | true =>
        refine ev_neg (fun hge => by rw [hiff.1 hge] at hless; cases hless) (ih ?_)
        intro p hp
        cases hp
        rw [hs, g1, g2]
        rfl
theorem implIsPlain_ev (r : ByteArray) (l : List Sp) (x y d : Int) (hr : r.size ≤ 140737488351232) (hl : l.length ≤ 140737488351232) : Ev (fun k => impl_IsPlain.f k r l x y d) (plainOk r l x y d) := by
  unfold impl_IsPlain.f plainOk
  have hE : Ev (fun k => impl_IsPlain.j0 k true r l x y d) false := by
    refine ev_succ ?_
    simp only [impl_IsPlain.j0]
    exact ev_pos (by first | rfl | trivial) (ev_some _)
  refine ev_and2 hE (ev_const (implIsRule_eq r hr)) fun _ => ?_
  by_cases c : (l.length : Int) > 300
  · rw [decide_eq_false (by omega), Bool.false_and]
    exact ev_pos c hE
  · rw [decide_eq_true (by omega), Bool.true_and, ← Bool.and_assoc]
    refine ev_neg c (ev_and2 hE (ev_const (near2 _ _)) fun _ => ?_)
    have hway : impl_isWay.f d = some (inB d 0 3) := by
      unfold impl_isWay.f
      rw [wi_eq]
      rfl
    refine ev_bind (ev_const hway) ?_
    have hlp := implSpots_loop r l x y d hl l.length 0 (by omega) (fun p hp => by cases hp)
    rw [List.drop_zero] at hlp
    cases inB d 0 3 with
    | true =>
      refine ev_succ ?_
      simp only [impl_IsPlain.j0]
      exact ev_neg (by decide) hlp
    | false => exact hE
theorem rdS_get (l : List S60) (i : Nat) (h : i < l.length) : rd_T60 l (i : Int) = l[i] := by
  unfold rd_T60
  rw [Int.toNat_natCast, List.getD_eq_getElem?_getD, List.getElem?_eq_getElem h]
  rfl
theorem eqSpotS_loop (l : List S60) (hl : l.length ≤ 140737488351232) : ∀ (n i : Nat), i + n = l.length → Ev (fun k => laws_eqSpotS.l0 k l l (i : Int)) true
  | 0, i, e => by
    refine ev_succ ?_
    simp only [laws_eqSpotS.l0]
    exact ev_neg (by omega) (ev_some _)
  | n + 1, i, e => by
    refine ev_succ ?_
    simp only [laws_eqSpotS.l0]
    have hw : wrap64 ((i : Int) + 1) = ((i + 1 : Nat) : Int) := by rw [w64 (by omega) (by omega)]; omega
    rw [hw]
    have he : ∀ a b c : Int, laws_eqSpot.f a b c a b c = some true := by
      intros
      simp [laws_eqSpot.f]
    exact ev_pos (by omega) (ev_pos (by omega) (ev_pos (by omega) (ev_bind (ev_const (he ..)) (ev_pos rfl (eqSpotS_loop l hl n (i + 1) (by omega))))))
theorem eqSpotS_ev (l : List S60) (hl : l.length ≤ 140737488351232) : Ev (fun k => laws_eqSpotS.f k l l) true := by
  unfold laws_eqSpotS.f
  exact ev_pos rfl (eqSpotS_loop l hl l.length 0 (by omega))
theorem eqPlain_ev (r : ByteArray) (l : List S60) (x y d : Int) (hl : l.length ≤ 140737488351232) : Ev (fun k => laws_eqPlain.f k r l x y d r l x y d) true := by
  unfold laws_eqPlain.f
  exact ev_pos rfl (ev_bind (eqSpotS_ev l hl) (ev_pos rfl (ev_pos rfl (ev_pos rfl (ev_pos rfl (ev_some _))))))
theorem lessB_iff {a b : Sp} : lessB a b = true ↔ a.f1 < b.f1 ∨ (a.f1 = b.f1 ∧ a.f0 < b.f0) := by
  unfold lessB
  simp
theorem lessB_trans {a b c : Sp} (h1 : lessB a b = true) (h2 : lessB b c = true) : lessB a c = true := by
  rw [lessB_iff] at *
  omega
def Sorted (l : List Sp) : Prop := l.Pairwise (fun a b => lessB a b = true)
theorem spotsB_all {m : Int} : ∀ {l : List Sp} {p : Option Sp}, spotsB m l p = true → ∀ s ∈ l, spotB m s = true
  | [], _, _, s, hs => by cases hs
  | a :: t, none, h, s, hs => by
    simp only [spotsB, Bool.and_eq_true] at h
    rcases List.mem_cons.1 hs with rfl | hs
    · exact h.1
    · exact spotsB_all h.2 s hs
  | a :: t, some p, h, s, hs => by
    simp only [spotsB, Bool.and_eq_true] at h
    rcases List.mem_cons.1 hs with rfl | hs
    · exact h.1
    · exact spotsB_all h.2.2 s hs
theorem spotsB_above {m : Int} : ∀ {l : List Sp} {p : Sp}, spotsB m l (some p) = true → ∀ s ∈ l, lessB p s = true
  | [], _, _, s, hs => by cases hs
  | a :: t, p, h, s, hs => by
    simp only [spotsB, Bool.and_eq_true] at h
    rcases List.mem_cons.1 hs with rfl | hs
    · exact h.2.1
    · exact lessB_trans h.2.1 (spotsB_above h.2.2 s hs)
theorem spotsB_sorted {m : Int} : ∀ {l : List Sp} {p : Option Sp}, spotsB m l p = true → Sorted l
  | [], _, _ => List.Pairwise.nil
  | a :: t, none, h => by
    simp only [spotsB, Bool.and_eq_true] at h
    exact List.Pairwise.cons (spotsB_above h.2) (spotsB_sorted h.2)
  | a :: t, some p, h => by
    simp only [spotsB, Bool.and_eq_true] at h
    exact List.Pairwise.cons (spotsB_above h.2.2) (spotsB_sorted h.2.2)
def atB (x y : Int) (s : Sp) : Bool := s.f0 == x && s.f1 == y
theorem atB_iff {x y : Int} {s : Sp} : atB x y s = true ↔ s.f0 = x ∧ s.f1 = y := by
  unfold atB
  simp
def col (l : List Sp) (x y : Int) : Int := match l.find? (atB x y) with
  | some s => s.f2
  | none => 0
structure Place (l : List Sp) (x y : Int) (i : Nat) : Prop where
  le : i ≤ l.length
  below : ∀ j (h : j < l.length), j < i → lessB l[j] ⟨x, y, 0⟩ = true
  above : ∀ j (h : j < l.length), i ≤ j → lessB l[j] ⟨x, y, 0⟩ = false
theorem sorted_less {l : List Sp} (hs : Sorted l) {i j : Nat} (hij : i < j) (hj : j < l.length) : lessB (l[i]'(by omega)) l[j] = true := List.pairwise_iff_getElem.1 hs i j (by omega) hj hij
theorem at_place {l : List Sp} (hs : Sorted l) {x y : Int} {i : Nat} (hp : Place l x y i) {j : Nat} (hj : j < l.length) (h : atB x y l[j] = true) : j = i := by
  rw [atB_iff] at h
  have h0 : lessB l[j] ⟨x, y, 0⟩ = false := by
    cases hb : lessB l[j] ⟨x, y, 0⟩ with
    | false => rfl
    | true =>
      rw [lessB_iff] at hb
      dsimp only at hb
      omega
  rcases Nat.lt_trichotomy j i with c | c | c
  · rw [hp.below j hj c] at h0; cases h0
  · exact c
  · have h1 := hp.above i (by omega) (Nat.le_refl _)
    have h2 := sorted_less hs c hj
    rw [lessB_iff] at h2
    have : lessB (l[i]'(by omega)) ⟨x, y, 0⟩ = true := by
      rw [lessB_iff]
      dsimp only
      omega
    rw [this] at h1; cases h1
theorem col_at {l : List Sp} (hs : Sorted l) {x y : Int} {i : Nat} (hp : Place l x y i) (hi : i < l.length) (h : atB x y l[i] = true) : col l x y = l[i].f2 := by
  unfold col
  cases hf : l.find? (atB x y) with
  | none =>
    rw [List.find?_eq_none] at hf
    exact absurd h (hf _ (List.getElem_mem hi))
  | some s =>
    obtain ⟨j, hj, rfl⟩ := List.getElem_of_mem (List.mem_of_find?_eq_some hf)
    have := at_place hs hp hj (List.find?_some hf)
    subst this
    rfl
theorem col_no {l : List Sp} (hs : Sorted l) {x y : Int} {i : Nat} (hp : Place l x y i) (h : ∀ hi : i < l.length, atB x y l[i] = false) : col l x y = 0 := by
  unfold col
  cases hf : l.find? (atB x y) with
  | none => rfl
  | some s =>
    obtain ⟨j, hj, rfl⟩ := List.getElem_of_mem (List.mem_of_find?_eq_some hf)
    have e := List.find?_some hf
    have := at_place hs hp hj e
    subst this
    rw [h hj] at e
    cases e
theorem mid_eq {a b : Nat} (h : a + b ≤ 100000) : wrap64 (Int.tdiv (wrap64 ((a : Int) + (b : Int))) 2) = (((a + b) / 2 : Nat) : Int) := by
  have e : (a : Int) + (b : Int) = ((a + b : Nat) : Int) := by omega
  rw [e, w64 (x := ((a + b : Nat) : Int)) (by omega) (by omega), show Int.tdiv ((a + b : Nat) : Int) 2 = (((a + b) / 2 : Nat) : Int) from rfl, w64 (by omega) (by omega)]
theorem enAt_loop {l : List Sp} (hs : Sorted l) (hn : l.length ≤ 1000) (x y : Int) : ∀ (m lo hi : Nat), hi - lo ≤ m → lo ≤ hi → hi ≤ l.length → (∀ j (h : j < l.length), j < lo → lessB l[j] ⟨x, y, 0⟩ = true) → (∀ j (h : j < l.length), hi ≤ j → lessB l[j] ⟨x, y, 0⟩ = false) →
    ∃ i, Place l x y i ∧ Ev (fun k => spec_enAt.l0 k l x y (lo : Int) (hi : Int)) ((i : Int), decide (∃ h : i < l.length, atB x y l[i] = true)) := by
  intro m
  induction m with
  | zero =>
    intro lo hi hm h1 h2 hb ha
    obtain rfl : hi = lo := by omega
    refine ⟨hi, ⟨h2, hb, ha⟩, ev_succ ?_⟩
    simp only [spec_enAt.l0]
    refine ev_neg (Int.lt_irrefl _) ?_
    by_cases c : hi < l.length
    · refine ev_pos (Int.ofNat_lt.2 c) (ev_pos (Int.natCast_nonneg _) ?_)
      have hg : rd_T60 l (hi : Int) = l[hi] := rdSp_get l hi c
      rw [hg]
      by_cases e : l[hi].f0 = x
      · refine ev_pos e (ev_const ?_)
        congr 2
        by_cases e2 : l[hi].f1 = y
        · rw [decide_eq_true ⟨c, atB_iff.2 ⟨e, e2⟩⟩]
          exact beq_iff_eq.2 e2
        · rw [decide_eq_false (fun ⟨_, h⟩ => e2 (atB_iff.1 h).2)]
          exact beq_eq_false_iff_ne.2 e2
      · refine ev_neg e (ev_const ?_)
        rw [decide_eq_false (fun ⟨_, h⟩ => e (atB_iff.1 h).1)]
    · refine ev_neg (fun h => c (Int.ofNat_lt.1 h)) (ev_const ?_)
      rw [decide_eq_false (fun ⟨h, _⟩ => c h)]
  | succ m ih =>
    intro lo hi hm h1 h2 hb ha
    by_cases c0 : lo < hi
    · have hmid : (lo + hi) / 2 < l.length := by omega
      have em := mid_eq (a := lo) (b := hi) (by omega)
      have hg : rd_T60 l (((lo + hi) / 2 : Nat) : Int) = l[(lo + hi) / 2] := rdSp_get l _ hmid
      have hless := less_eq l[(lo + hi) / 2] ⟨x, y, 0⟩
      cases hl : lessB l[(lo + hi) / 2] ⟨x, y, 0⟩ with
      | true =>
        obtain ⟨i, hp, he⟩ := ih ((lo + hi) / 2 + 1) hi (by omega) (by omega) h2 (fun j h hj => by
          rcases Nat.lt_or_ge j ((lo + hi) / 2) with c | c
          · have := sorted_less hs c hmid
            exact lessB_trans this hl
          · obtain rfl : j = (lo + hi) / 2 := by omega
            exact hl) ha
        refine ⟨i, hp, ev_succ ?_⟩
        simp only [spec_enAt.l0]
        rw [em, hg]
        have w1 : wrap64 ((((lo + hi) / 2 : Nat) : Int) + 1) = (((lo + hi) / 2 + 1 : Nat) : Int) := by rw [w64 (by omega) (by omega)]; omega
        rw [w1]
        rw [hl] at hless
        exact ev_pos (Int.ofNat_lt.2 c0) (ev_pos (Int.natCast_nonneg _) (ev_pos (Int.ofNat_lt.2 hmid) (ev_bind (ev_const hless) (ev_pos rfl he))))
      | false =>
        obtain ⟨i, hp, he⟩ := ih lo ((lo + hi) / 2) (by omega) (by omega) (by omega) hb (fun j h hj => by
          rcases Nat.lt_or_ge ((lo + hi) / 2) j with c | c
          · have h3 := sorted_less hs c h
            cases hj2 : lessB l[j] ⟨x, y, 0⟩ with
            | false => rfl
            | true =>
              rw [lessB_trans h3 hj2] at hl
              cases hl
          · obtain rfl : j = (lo + hi) / 2 := by omega
            exact hl)
        refine ⟨i, hp, ev_succ ?_⟩
        simp only [spec_enAt.l0]
        rw [em, hg]
        rw [hl] at hless
        exact ev_pos (Int.ofNat_lt.2 c0) (ev_pos (Int.natCast_nonneg _) (ev_pos (Int.ofNat_lt.2 hmid) (ev_bind (ev_const hless) (ev_neg (by decide) he))))
    · exact ih lo hi (by omega) h1 h2 hb ha
theorem enAt_ev {l : List Sp} (hs : Sorted l) (hn : l.length ≤ 1000) (x y : Int) : ∃ i, Place l x y i ∧ Ev (fun k => spec_enAt.f k l x y) ((i : Int), decide (∃ h : i < l.length, atB x y l[i] = true)) := by
  unfold spec_enAt.f
  exact enAt_loop hs hn x y l.length 0 l.length (by omega) (by omega) (Nat.le_refl _) (fun j _ hj => absurd hj (by omega)) (fun j h hj => absurd h (by omega))
structure PlainF (r : ByteArray) (l : List Sp) (x y d : Int) : Prop where
  n : l.length ≤ 300
  r1 : 1 ≤ r.size
  r6 : r.size ≤ 6
  x : -1000 ≤ x ∧ x ≤ 1000
  y : -1000 ≤ y ∧ y ≤ 1000
  d : 0 ≤ d ∧ d ≤ 3
  sorted : Sorted l
  near : ∀ s ∈ l, (-1000 ≤ s.f0 ∧ s.f0 ≤ 1000) ∧ (-1000 ≤ s.f1 ∧ s.f1 ≤ 1000) ∧ 1 ≤ s.f2 ∧ s.f2 ≤ (r.size : Int) - 1
theorem plainF {r : ByteArray} {l : List Sp} {x y d : Int} (h : plainOk r l x y d = true) : PlainF r l x y d := by
  unfold plainOk ruleOk at h
  simp only [Bool.and_eq_true, decide_eq_true_eq, nearB, inB_iff] at h
  obtain ⟨⟨⟨h1, h2⟩, _⟩, h3, h4, h5, h6, h7⟩ := h
  refine ⟨by omega, h1, h2, h4, h5, h6, spotsB_sorted h7, fun s hs => ?_⟩
  have := spotsB_all h7 s hs
  unfold spotB nearB at this
  simp only [Bool.and_eq_true, inB_iff] at this
  rw [w64 (by omega) (by omega)] at this
  exact this
theorem enColour_ev {r : ByteArray} {l : List Sp} {px py d : Int} (hs : Sorted l) (hn : l.length ≤ 1000) (x y : Int) : Ev (fun k => spec_enColour.f k r l px py d x y) (col l x y) := by
  unfold spec_enColour.f
  obtain ⟨i, hp, he⟩ := enAt_ev hs hn x y
  refine ev_bind he ?_
  by_cases c : ∃ h : i < l.length, atB x y l[i] = true
  · obtain ⟨hi, h⟩ := c
    have hg : rd_T60 l (i : Int) = l[i] := rdSp_get l i hi
    dsimp only
    rw [hg]
    refine ev_pos (decide_eq_true ⟨hi, h⟩) (ev_pos (Int.natCast_nonneg _) (ev_pos (Int.ofNat_lt.2 hi) (ev_const ?_)))
    rw [col_at hs hp hi h]
  · refine ev_neg (by simp only [decide_eq_true_eq]; exact c) (ev_const ?_)
    rw [col_no hs hp (fun hi => by
      cases hb : atB x y l[i] with
      | false => rfl
      | true => exact absurd ⟨hi, hb⟩ c)]
theorem ltS_eq (a b : Sp) : ltS a b = lessB a b := by
  unfold ltS lessB
  by_cases h : a.f1 < b.f1 <;> by_cases h2 : a.f1 = b.f1 <;> by_cases h3 : a.f0 < b.f0 <;> simp [h, h2, h3]
theorem uniqS : ∀ (l' l : List Sp), l.Perm l' → (l.Pairwise fun s t => lessB t s = false) → Sorted l' → l = l'
  | [], l, hp, _, _ => hp.eq_nil
  | b :: r', l, hp, h1, h2 => by
    cases l with
    | nil => exact absurd hp.symm.eq_nil (by simp)
    | cons a r =>
      obtain ⟨p1, p2⟩ := List.pairwise_cons.1 h1
      obtain ⟨q1, q2⟩ := List.pairwise_cons.1 h2
      have hab : a = b := by
        rcases List.mem_cons.1 (hp.mem_iff.2 (List.mem_cons_self : b ∈ b :: r')) with e | hb
        · exact e.symm
        · rcases List.mem_cons.1 (hp.mem_iff.1 (List.mem_cons_self : a ∈ a :: r)) with e | ha
          · exact e
          · have x1 := p1 b hb
            rw [q1 a ha] at x1
            cases x1
      subst hab
      rw [uniqS r' r ((List.perm_cons a).1 hp) p2 q2]
theorem sortF_of {S : List Sp} {L : List XMapL.Sp} (hs : Sorted S) (hp : (gL.F S).Perm L) : sortF L = S := by
  have e : (gL.F S).map mkS = S := by
    unfold gL.F
    rw [List.map_map]
    conv => rhs; rw [← List.map_id S]
    rfl
  have h1 := hp.map mkS
  rw [e] at h1
  unfold sortF
  refine uniqS S _ ((List.mergeSort_perm _ _).trans h1.symm) ?_ hs
  refine (List.pairwise_mergeSort (le := fun s t => !ltS t s) ?_ ?_ (L.map mkS)).imp ?_
  · intro a b c h1 h2
    simp only [ltS_eq, Bool.not_eq_true'] at *
    unfold lessB at *
    simp only [Bool.or_eq_false_iff, Bool.and_eq_false_iff, decide_eq_false_iff_not] at *
    omega
  · intro a b
    simp only [ltS_eq]
    cases h : lessB b a with
    | false => rfl
    | true =>
      cases h' : lessB a b with
      | false => rfl
      | true =>
        rw [lessB_iff] at h h'
        omega
  · intro a b h
    simp only [ltS_eq, Bool.not_eq_true'] at h
    exact h
def put1 (x y c : Int) : List Sp := if c > 0 then [⟨x, y, c⟩] else []
def paintL (l : List Sp) (i : Nat) (x y c : Int) : List Sp := l.take i ++ (put1 x y c ++ l.drop (if (∃ h : i < l.length, atB x y l[i] = true) then i + 1 else i))
theorem lessB_at {s : Sp} {x y c : Int} : lessB s ⟨x, y, c⟩ = lessB s ⟨x, y, 0⟩ := rfl
theorem take_below {l : List Sp} {x y : Int} {i : Nat} (hp : Place l x y i) : ∀ s ∈ l.take i, lessB s ⟨x, y, 0⟩ = true := by
  intro s hs
  obtain ⟨j, hj, rfl⟩ := List.getElem_of_mem hs
  rw [List.length_take] at hj
  rw [List.getElem_take]
  exact hp.below j (by omega) (by omega)
theorem drop_above {l : List Sp} (hs : Sorted l) {x y : Int} {i : Nat} (hp : Place l x y i) : ∀ s ∈ l.drop (if (∃ h : i < l.length, atB x y l[i] = true) then i + 1 else i), lessB ⟨x, y, 0⟩ s = true := by
  intro s hm
  obtain ⟨j, hj, rfl⟩ := List.getElem_of_mem hm
  rw [List.length_drop] at hj
  rw [List.getElem_drop]
  generalize hk : (if (∃ h : i < l.length, atB x y l[i] = true) then i + 1 else i) = k at *
  have hki : i ≤ k := by rw [← hk]; split <;> omega
  have h1 := hp.above (k + j) (by omega) (by omega)
  have h2 : atB x y (l[k + j]'(by omega)) = false := by
    cases ha : atB x y (l[k + j]'(by omega)) with
    | false => rfl
    | true =>
      have e := at_place hs hp (by omega) ha
      have e0 : j = 0 := by omega
      subst e0
      have ek : k = i := by omega
      subst ek
      rw [if_pos ⟨by omega, ha⟩] at hk
      omega
  cases hb : lessB ⟨x, y, 0⟩ (l[k + j]'(by omega)) with
  | true => rfl
  | false =>
    exfalso
    unfold lessB atB at *
    simp only [Bool.or_eq_false_iff, Bool.and_eq_false_iff, decide_eq_false_iff_not, beq_eq_false_iff_ne] at *
    omega
theorem put_mem {x y c : Int} {s : Sp} (h : s ∈ put1 x y c) : 0 < c ∧ s = ⟨x, y, c⟩ := by
  unfold put1 at h
  split at h
  · exact ⟨by omega, List.mem_singleton.1 h⟩
  · cases h
theorem paintL_sorted {l : List Sp} (hs : Sorted l) {x y c : Int} {i : Nat} (hp : Place l x y i) : Sorted (paintL l i x y c) := by
  unfold paintL Sorted
  have h1 := take_below hp
  have h2 := drop_above hs hp
  refine List.pairwise_append.2 ⟨List.Pairwise.sublist (List.take_sublist i l) hs, List.pairwise_append.2 ⟨?_, List.Pairwise.sublist (List.drop_sublist _ l) hs, fun a ha b hb => ?_⟩, fun a ha b hb => ?_⟩
  · unfold put1
    split
    · exact List.pairwise_singleton _ _
    · exact List.Pairwise.nil
  · obtain ⟨_, rfl⟩ := put_mem ha
    exact h2 b hb
  · rcases List.mem_append.1 hb with hb | hb
    · obtain ⟨_, rfl⟩ := put_mem hb
      exact h1 a ha
    · exact lessB_trans (h1 a ha) (h2 b hb)
theorem at_tr (x y : Int) (s : Sp) : XMapL.at_ x y (gL.tr s) = atB x y s := rfl
theorem not_at_take {l : List Sp} {x y : Int} {i : Nat} (hp : Place l x y i) : ∀ s ∈ l.take i, (!atB x y s) = true := by
  intro s h
  have := take_below hp s h
  rw [lessB_iff] at this
  cases ha : atB x y s with
  | false => rfl
  | true =>
    rw [atB_iff] at ha
    dsimp only at this
    omega
theorem not_at_drop {l : List Sp} (hs : Sorted l) {x y : Int} {i : Nat} (hp : Place l x y i) : ∀ s ∈ l.drop (if (∃ h : i < l.length, atB x y l[i] = true) then i + 1 else i), (!atB x y s) = true := by
  intro s h
  have := drop_above hs hp s h
  rw [lessB_iff] at this
  cases ha : atB x y s with
  | false => rfl
  | true =>
    rw [atB_iff] at ha
    dsimp only at this
    omega
theorem filter_eq {l : List Sp} (hs : Sorted l) {x y : Int} {i : Nat} (hp : Place l x y i) : l.filter (fun s => !atB x y s) = l.take i ++ l.drop (if (∃ h : i < l.length, atB x y l[i] = true) then i + 1 else i) := by
  have h1 := List.filter_eq_self.2 (not_at_take hp)
  have h2 := List.filter_eq_self.2 (not_at_drop hs hp)
  by_cases c : ∃ h : i < l.length, atB x y l[i] = true
  · rw [if_pos c] at h2 ⊢
    obtain ⟨hi, ha⟩ := c
    conv => lhs; rw [← List.take_append_drop i l, List.drop_eq_getElem_cons hi]
    rw [List.filter_append, List.filter_cons, if_neg (by rw [ha]; decide), h1, h2]
  · rw [if_neg c] at h2 ⊢
    conv => lhs; rw [← List.take_append_drop i l]
    rw [List.filter_append, h1, h2]
theorem paintL_perm {l : List Sp} (hs : Sorted l) {x y c : Int} {i : Nat} (hp : Place l x y i) : (gL.F (paintL l i x y c)).Perm (paintS (gL.F l) x y c) := by
  have e1 : (gL.F l).filter (fun s => !XMapL.at_ x y s) = gL.F (l.filter (fun s => !atB x y s)) := by
    unfold gL.F
    rw [List.filter_map]
    rfl
  have e2 : (if 0 < c then [((x, y, c) : XMapL.Sp)] else []) = gL.F (put1 x y c) := by
    unfold put1
    by_cases h : 0 < c
    · rw [if_pos h, if_pos (by omega)]; rfl
    · rw [if_neg h, if_neg (by omega)]; rfl
  unfold paintS
  rw [e1, e2, filter_eq hs hp]
  unfold paintL gL.F
  rw [List.map_append, List.map_append, List.map_append, List.append_assoc]
  exact List.Perm.append_left _ List.perm_append_comm
theorem paintL_length {l : List Sp} {x y c : Int} (i : Nat) : (paintL l i x y c).length ≤ l.length + 1 := by
  unfold paintL put1
  rw [List.length_append, List.length_append, List.length_take, List.length_drop]
  split <;> split <;> simp <;> omega
theorem paintL_mem {l : List Sp} {x y c : Int} {i : Nat} {s : Sp} (h : s ∈ paintL l i x y c) : s ∈ l ∨ (0 < c ∧ s = ⟨x, y, c⟩) := by
  unfold paintL at h
  rcases List.mem_append.1 h with h | h
  · exact .inl (List.mem_of_mem_take h)
  · rcases List.mem_append.1 h with h | h
    · exact .inr (put_mem h)
    · exact .inl (List.mem_of_mem_drop h)
theorem lt_big (n : Nat) (h : n ≤ 5000) : n < 5864062014805 := by omega
theorem enPaint_ev {l : List Sp} (hs : Sorted l) (hn : l.length ≤ 1000) (x y c : Int) : ∃ i, Place l x y i ∧ Ev (fun k => spec_enPaint.f k l x y c) (paintL l i x y c) := by
  obtain ⟨i, hp, he⟩ := enAt_ev hs hn x y
  refine ⟨i, hp, ?_⟩
  have hle := hp.le
  have hw : wrap64 ((i : Int) + 1) = ((i + 1 : Nat) : Int) := by rw [w64 (by omega) (by omega)]; omega
  have T1 : ∀ j, (l.take j).length ≤ 1000 := fun j => by rw [List.length_take]; omega
  have D1 : ∀ j, (l.drop j).length ≤ 1000 := fun j => by rw [List.length_drop]; omega
  have h0 : 0 ≤ wrap64 ((i : Int) + 1) := by rw [hw]; omega
  unfold spec_enPaint.f
  refine ev_bind he (ev_bind (ev_some _) (ev_pos (Int.natCast_nonneg i) (ev_pos (Int.ofNat_le.2 hle) (ev_bind (ev_some _) (ev_pos (lt_big _ ?_) (ev_bind (ev_some _) ?_))))))
  · show ([] : List Sp).length + (l.take ((i : Int)).toNat).length ≤ 5000
    have := T1 ((i : Int)).toNat
    rw [List.length_nil]
    omega
  · by_cases hc : c > 0
    · refine ev_pos hc (ev_pos (lt_big _ ?_) (ev_bind (ev_some _) ?_))
      · show (([] : List Sp) ++ l.take ((i : Int)).toNat).length ≤ 5000
        have := T1 ((i : Int)).toNat
        rw [List.nil_append]
        omega
      · by_cases ca : ∃ h : i < l.length, atB x y l[i] = true
        · have h1 : wrap64 ((i : Int) + 1) ≤ (l.length : Int) := by
            obtain ⟨hi, _⟩ := ca
            rw [hw]
            omega
          refine ev_pos (decide_eq_true ca) (ev_pos h0 (ev_pos h1 (ev_bind (ev_some _) (ev_pos (lt_big _ ?_) (ev_const ?_)))))
          · show (([] : List Sp) ++ l.take ((i : Int)).toNat ++ [(⟨x, y, c⟩ : Sp)]).length + (l.drop (wrap64 ((i : Int) + 1)).toNat).length ≤ 5000
            have := T1 ((i : Int)).toNat
            have := D1 (wrap64 ((i : Int) + 1)).toNat
            rw [List.length_append, List.nil_append, List.length_singleton]
            omega
          · show some (([] : List Sp) ++ l.take ((i : Int)).toNat ++ [(⟨x, y, c⟩ : Sp)] ++ l.drop (wrap64 ((i : Int) + 1)).toNat) = _
            unfold paintL put1
            rw [hw, if_pos hc, if_pos ca, Int.toNat_natCast, Int.toNat_natCast, List.nil_append, List.append_assoc]
        · refine ev_neg (by rw [decide_eq_false ca]; exact Bool.false_ne_true) (ev_bind (ev_some _) (ev_pos (lt_big _ ?_) (ev_const ?_)))
          · show (([] : List Sp) ++ l.take ((i : Int)).toNat ++ [(⟨x, y, c⟩ : Sp)]).length + (l.drop ((i : Int)).toNat).length ≤ 5000
            have := T1 ((i : Int)).toNat
            have := D1 ((i : Int)).toNat
            rw [List.length_append, List.nil_append, List.length_singleton]
            omega
          · show some (([] : List Sp) ++ l.take ((i : Int)).toNat ++ [(⟨x, y, c⟩ : Sp)] ++ l.drop ((i : Int)).toNat) = _
            unfold paintL put1
            rw [if_pos hc, if_neg ca, Int.toNat_natCast, List.nil_append, List.append_assoc]
    · refine ev_neg hc ?_
      by_cases ca : ∃ h : i < l.length, atB x y l[i] = true
      · have h1 : wrap64 ((i : Int) + 1) ≤ (l.length : Int) := by
          obtain ⟨hi, _⟩ := ca
          rw [hw]
          omega
        refine ev_pos (decide_eq_true ca) (ev_pos h0 (ev_pos h1 (ev_bind (ev_some _) (ev_pos (lt_big _ ?_) (ev_const ?_)))))
        · show (([] : List Sp) ++ l.take ((i : Int)).toNat).length + (l.drop (wrap64 ((i : Int) + 1)).toNat).length ≤ 5000
          have := T1 ((i : Int)).toNat
          have := D1 (wrap64 ((i : Int) + 1)).toNat
          rw [List.nil_append]
          omega
        · show some (([] : List Sp) ++ l.take ((i : Int)).toNat ++ l.drop (wrap64 ((i : Int) + 1)).toNat) = _
          unfold paintL put1
          rw [hw, if_neg hc, if_pos ca, Int.toNat_natCast, Int.toNat_natCast, List.nil_append, List.nil_append]
      · refine ev_neg (by rw [decide_eq_false ca]; exact Bool.false_ne_true) (ev_bind (ev_some _) (ev_pos (lt_big _ ?_) (ev_const ?_)))
        · show (([] : List Sp) ++ l.take ((i : Int)).toNat).length + (l.drop ((i : Int)).toNat).length ≤ 5000
          have := T1 ((i : Int)).toNat
          have := D1 ((i : Int)).toNat
          rw [List.nil_append]
          omega
        · show some (([] : List Sp) ++ l.take ((i : Int)).toNat ++ l.drop ((i : Int)).toNat) = _
          unfold paintL put1
          rw [if_neg hc, if_neg ca, Int.toNat_natCast, List.nil_append, List.nil_append]
theorem okB_of {l : List Sp} (hs : Sorted l) (hb : ∀ s ∈ l, (-1000 ≤ s.f0 ∧ s.f0 ≤ 1000) ∧ (-1000 ≤ s.f1 ∧ s.f1 ≤ 1000) ∧ -1000000 ≤ s.f2 ∧ s.f2 ≤ 1000000) : gL.f l = some (gL.F l) := by
  unfold gL.f
  rw [if_pos]
  unfold gL.okB
  rw [Bool.and_eq_true]
  refine ⟨List.all_eq_true.2 fun s h => ?_, decide_eq_true ?_⟩
  · have := hb s h
    unfold gL.ok
    rw [decide_eq_true (show XMapP.In64 s.f0 from ⟨by omega, by omega⟩), decide_eq_true (show XMapP.In64 s.f1 from ⟨by omega, by omega⟩), decide_eq_true (show XMapP.In64 s.f2 from ⟨by omega, by omega⟩)]
    rfl
  · unfold gL.F
    rw [List.pairwise_map]
    refine hs.imp ?_
    intro a b h e
    rw [lessB_iff] at h
    unfold gL.tr at e
    dsimp only at e
    omega
theorem plainR_of {S : List Sp} {L : List XMapL.Sp} (hs : Sorted S) (hp : (gL.F S).Perm L) (hn : S.length ≤ 1000) (hb : ∀ s ∈ S, (-1000000 ≤ s.f0 ∧ s.f0 ≤ 1000000) ∧ (-1000000 ≤ s.f1 ∧ s.f1 ≤ 1000000)) : plainR L = some S := by
  unfold plainR
  rw [if_pos, sortF_of hs hp]
  refine ⟨?_, fun s h => ?_, ?_⟩
  · rw [← hp.length_eq]
    unfold gL.F
    rw [List.length_map]
    exact hn
  · have := hp.mem_iff.2 h
    unfold gL.F at this
    obtain ⟨t, ht, rfl⟩ := List.mem_map.1 this
    have := hb t ht
    unfold near gL.tr
    dsimp only
    omega
  · rw [sortF_of hs hp]
    unfold strictS
    refine decide_eq_true (hs.imp ?_)
    intro a b h
    rw [ltS_eq]
    exact h
def genS : Nat → Int → List Sp
  | 0, _ => []
  | n + 1, m => ⟨m, m + 1, m + 2⟩ :: genS n (m + 3)
theorem genS_length : ∀ (n : Nat) (m : Int), (genS n m).length = n
  | 0, _ => rfl
  | n + 1, m => by rw [genS, List.length_cons, genS_length n]
theorem rdSp_set (l : List Sp) (i : Nat) (v : Sp) (h : i < l.length) : rdSp (l.set i v) (i : Int) = v := by
  rw [rdSp_get _ i (by rw [List.length_set]; exact h), List.getElem_set_self]
theorem markS_loop (len : Nat) (hl : len ≤ 2000000) : ∀ (n i : Nat) (l : List Sp) (m : Int), l.length = len → i + n = len → 0 ≤ m → m ≤ 1 + 3 * i → Ev (fun k => laws_markSpotS.l0 k l m (i : Int)) (m + 3 * n, l.take i ++ genS n m)
  | 0, i, l, m, hll, e, h0, h1 => by
    refine ev_succ ?_
    simp only [laws_markSpotS.l0]
    rw [List.take_of_length_le (by omega)]
    simp only [genS, List.append_nil, Int.natCast_zero, Int.mul_zero, Int.add_zero]
    exact ev_neg (by omega) (ev_some _)
  | n + 1, i, l, m, hll, e, h0, h1 => by
    refine ev_succ ?_
    simp only [laws_markSpotS.l0]
    have hw : wrap64 ((i : Int) + 1) = ((i + 1 : Nat) : Int) := by rw [w64 (by omega) (by omega)]; omega
    have hm1 : wrap64 (m + 1) = m + 1 := w64 (by omega) (by omega)
    have hm2 : wrap64 (m + 1 + 1) = m + 2 := by rw [w64 (by omega) (by omega)]; omega
    have hm3 : wrap64 (m + 2 + 1) = m + 3 := by rw [w64 (by omega) (by omega)]; omega
    have hi : i < l.length := by omega
    rw [hw, hm1, hm2, hm3]
    simp only [Int.toNat_natCast]
    refine ev_pos (by omega) (ev_pos (by omega) (ev_bind (ev_some _) (ev_bind (ev_some _) ?_)))
    have rr : ∀ v : Sp, rd_T60 (l.set i v) (i : Int) = v := fun v => rdSp_set l i v hi
    simp only [rr, List.set_set]
    have ih := markS_loop len hl n (i + 1) (l.set i (⟨m, m + 1, m + 2⟩ : Sp)) (m + 3) (by rw [List.length_set]; exact hll) (by omega) (by omega) (by omega)
    have e1 : (l.set i (⟨m, m + 1, m + 2⟩ : Sp)).take (i + 1) ++ genS n (m + 3) = l.take i ++ genS (n + 1) m := by
      rw [List.take_succ_eq_append_getElem (by rw [List.length_set]; omega), List.take_set_of_le (Nat.le_refl i), List.getElem_set_self, List.append_assoc]
      rfl
    rw [e1, show m + 3 + 3 * (n : Int) = m + 3 * ((n + 1 : Nat) : Int) by omega] at ih
    exact ih
theorem markPlain_ev (r : ByteArray) (l : List Sp) (x y d : Int) (hl : l.length ≤ 2000000) : Ev (fun k => laws_markPlain.f k r l x y d 1) (1 + 3 * (l.length : Int), genS l.length 1) := by
  unfold laws_markPlain.f laws_markSpotS.f
  have := markS_loop l.length hl l.length 0 l 1 rfl (by omega) (by omega) (by omega)
  exact ev_bind this (ev_some _)
theorem heldS_loop (L : List Sp) (hl : L.length ≤ 2000000) : ∀ (n i : Nat) (m : Int), i + n = L.length → L.drop i = genS n m → 0 ≤ m → m ≤ 1 + 3 * i → Ev (fun k => laws_heldSpotS.l0 k L m (i : Int)) (m + 3 * n)
  | 0, i, m, e, _, _, _ => by
    refine ev_succ ?_
    simp only [laws_heldSpotS.l0, Int.natCast_zero, Int.mul_zero, Int.add_zero]
    exact ev_neg (by omega) (ev_some _)
  | n + 1, i, m, e, hd, h0, h1 => by
    refine ev_succ ?_
    simp only [laws_heldSpotS.l0]
    have hw : wrap64 ((i : Int) + 1) = ((i + 1 : Nat) : Int) := by rw [w64 (by omega) (by omega)]; omega
    have hm1 : wrap64 (m + 1) = m + 1 := w64 (by omega) (by omega)
    have hm2 : wrap64 (m + 1 + 1) = m + 2 := by rw [w64 (by omega) (by omega)]; omega
    have hm3 : wrap64 (m + 2 + 1) = m + 3 := by rw [w64 (by omega) (by omega)]; omega
    have hi : i < L.length := by omega
    have hd2 := hd
    rw [List.drop_eq_getElem_cons hi] at hd2
    simp only [genS, List.cons.injEq] at hd2
    have hg : rd_T60 L (i : Int) = (⟨m, m + 1, m + 2⟩ : Sp) := (rdSp_get L i hi).trans hd2.1
    rw [hw, hm1, hm2, hm3, hg]
    have ih := heldS_loop L hl n (i + 1) (m + 3) (by omega) hd2.2 (by omega) (by omega)
    rw [show m + 3 + 3 * (n : Int) = m + 3 * ((n + 1 : Nat) : Int) by omega] at ih
    exact ev_pos (by omega) (ev_pos (by omega) (ev_pos rfl (ev_pos rfl (ev_pos rfl ih))))
theorem heldPlain_ev (r : ByteArray) (n : Nat) (x y d : Int) (hl : n ≤ 2000000) : Ev (fun k => laws_heldPlain.f k r (genS n 1) x y d 1) (1 + 3 * (n : Int)) := by
  unfold laws_heldPlain.f laws_heldSpotS.f
  have := heldS_loop (genS n 1) (by rw [genS_length]; exact hl) n 0 1 (by rw [genS_length]; omega) (by rw [List.drop_zero]) (by omega) (by omega)
  exact ev_bind this (ev_neg (by omega) (ev_some _))
theorem szPlain_le (r : ByteArray) (l : List SpL) (x y d : Int) (hr : r.size ≤ 140737488351232) (hl : l.length ≤ 140737488351232) : ∃ t, laws_szPlain.f r l x y d 1048576 = some t ∧ (0 ≤ t → l.length ≤ 1048576) := by
  unfold laws_szPlain.f laws_szSpotS.f
  rw [w64 (x := 1048576 - (r.size : Int)) (by omega) (by omega), w64 (x := 1048576 - (r.size : Int) - (l.length : Int)) (by omega) (by omega)]
  by_cases c : 1048576 - (r.size : Int) < 0
  · exact ⟨-1, if_pos c, by omega⟩
  · rw [if_neg c]
    by_cases c2 : 1048576 - (r.size : Int) - (l.length : Int) < 0
    · rw [if_pos c2]
      exact ⟨-1, rfl, by omega⟩
    · rw [if_neg c2]
      refine ⟨1048576 - (r.size : Int) - (l.length : Int), ?_, by omega⟩
      show (if 1048576 - (r.size : Int) - (l.length : Int) < 0 then _ else _) = _
      rw [if_neg c2]
theorem tr_inj {s t : Sp} (h : gL.tr s = gL.tr t) : s = t := by
  unfold gL.tr at h
  simp only [Prod.mk.injEq] at h
  cases s; cases t
  obtain ⟨rfl, rfl, rfl⟩ := h
  rfl
theorem at_one {l : List Sp} (hs : Sorted l) {s t : Sp} (h1 : s ∈ l) (h2 : t ∈ l) {x y : Int} (e1 : atB x y s = true) (e2 : atB x y t = true) : s = t := by
  obtain ⟨i, hi, rfl⟩ := List.getElem_of_mem h1
  obtain ⟨j, hj, rfl⟩ := List.getElem_of_mem h2
  rw [atB_iff] at e1 e2
  rcases Nat.lt_trichotomy i j with c | c | c
  · have := sorted_less hs c hj
    rw [lessB_iff] at this
    omega
  · subst c; rfl
  · have := sorted_less hs c hi
    rw [lessB_iff] at this
    omega
theorem look_col {l : List Sp} {M : List XMapL.Sp} (hs : Sorted l) (hp : (gL.F l).Perm M) (x y : Int) : XMapL.look M x y = col l x y := by
  unfold XMapL.look col
  have mem : ∀ t ∈ M, ∃ s ∈ l, gL.tr s = t := fun t ht => by
    have := hp.mem_iff.2 ht
    unfold gL.F at this
    exact List.mem_map.1 this
  have mem' : ∀ s ∈ l, gL.tr s ∈ M := fun s h => hp.mem_iff.1 (List.mem_map.2 ⟨s, h, rfl⟩)
  cases hM : M.find? (XMapL.at_ x y) with
  | some t =>
    obtain ⟨s, h1, h2⟩ := mem t (List.mem_of_find?_eq_some hM)
    have e := List.find?_some hM
    rw [← h2, at_tr] at e
    cases hl : l.find? (atB x y) with
    | none => exact absurd e (List.find?_eq_none.1 hl s h1)
    | some s' =>
      have := at_one hs h1 (List.mem_of_find?_eq_some hl) e (List.find?_some hl)
      subst this
      rw [← h2]
      rfl
  | none =>
    cases hl : l.find? (atB x y) with
    | none => rfl
    | some s' =>
      have := List.find?_eq_none.1 hM _ (mem' s' (List.mem_of_find?_eq_some hl))
      rw [at_tr] at this
      exact absurd (List.find?_some hl) this
theorem paintS_perm {L M : List XMapL.Sp} (h : L.Perm M) (x y c : Int) : (paintS L x y c).Perm (paintS M x y c) := by
  unfold paintS
  exact (h.filter _).append_right _
theorem col_range {r : ByteArray} {l : List Sp} {x y d : Int} (F : PlainF r l x y d) (p q : Int) : 0 ≤ col l p q ∧ col l p q ≤ (r.size : Int) - 1 := by
  have r1 := F.r1
  unfold col
  cases hl : l.find? (atB p q) with
  | none => exact ⟨Int.le_refl _, by show (0 : Int) ≤ _; omega⟩
  | some s =>
    have := F.near s (List.mem_of_find?_eq_some hl)
    exact ⟨by show 0 ≤ s.f2; omega, this.2.2.2⟩
def axN (d : Int) : Int := if d = 1 then 1 else if d = 3 then -1 else 0
def ayN (d : Int) : Int := if d = 0 then -1 else if d = 2 then 1 else 0
theorem aheadP {d : Int} (h : 0 ≤ d ∧ d ≤ 3) : impl_ahead.f d = some (axN d, ayN d) := by
  have e : d = 0 ∨ d = 1 ∨ d = 2 ∨ d = 3 := by omega
  rcases e with rfl | rfl | rfl | rfl <;> decide +kernel
theorem goP (r : ByteArray) (l : List Sp) {x y d : Int} (hx : -1000 ≤ x ∧ x ≤ 1000) (hy : -1000 ≤ y ∧ y ≤ 1000) (h : 0 ≤ d ∧ d ≤ 3) : spec_enGo.f r l x y d (-1) = some (r, x - axN d, y - ayN d, d) := by
  have e : d = 0 ∨ d = 1 ∨ d = 2 ∨ d = 3 := by omega
  unfold spec_enGo.f
  rw [w64 (x := y - -1) (by omega) (by omega), w64 (x := x + -1) (by omega) (by omega), w64 (x := y + -1) (by omega) (by omega), w64 (x := x - -1) (by omega) (by omega)]
  rcases e with rfl | rfl | rfl | rfl <;> simp [axN, ayN] <;> omega
theorem ax_range (d : Int) : -1 ≤ axN d ∧ axN d ≤ 1 := by
  unfold axN
  split
  · omega
  · split <;> omega
theorem ay_range (d : Int) : -1 ≤ ayN d ∧ ayN d ≤ 1 := by
  unfold ayN
  split
  · omega
  · split <;> omega
theorem mod_fin : ∀ n c : Fin 7, 1 ≤ n.val → c.val < n.val →
    (Int.tmod (wrap64 ((Int.tmod (wrap64 ((c.val : Int) - 1)) (n.val : Int)) + (n.val : Int))) (n.val : Int) = Int.tmod (wrap64 (wrap64 ((c.val : Int) + (n.val : Int)) - 1)) (n.val : Int)) ∧ 0 ≤ Int.tmod (wrap64 (wrap64 ((c.val : Int) + (n.val : Int)) - 1)) (n.val : Int) ∧ Int.tmod (wrap64 (wrap64 ((c.val : Int) + (n.val : Int)) - 1)) (n.val : Int) ≤ (n.val : Int) - 1 := by
  decide +kernel
theorem mod_c {n c : Int} (h1 : 1 ≤ n) (h6 : n ≤ 6) (h0 : 0 ≤ c) (hc : c ≤ n - 1) : Int.tmod (wrap64 ((Int.tmod (wrap64 (c - 1)) n) + n)) n = Int.tmod (wrap64 (wrap64 (c + n) - 1)) n ∧ 0 ≤ Int.tmod (wrap64 (wrap64 (c + n) - 1)) n ∧ Int.tmod (wrap64 (wrap64 (c + n) - 1)) n ≤ n - 1 := by
  obtain ⟨N, rfl⟩ := Int.eq_ofNat_of_zero_le (show 0 ≤ n by omega)
  obtain ⟨C, rfl⟩ := Int.eq_ofNat_of_zero_le h0
  exact mod_fin ⟨N, by omega⟩ ⟨C, by omega⟩ (by show 1 ≤ N; omega) (by show C < N; omega)
theorem way_fin : ∀ d q : Fin 4, (Int.tmod (wrap64 ((Int.tmod (wrap64 ((d.val : Int) - (q.val : Int))) 4) + 4)) 4 = Int.tmod (wrap64 (wrap64 ((d.val : Int) + 4) - (q.val : Int))) 4) ∧ 0 ≤ Int.tmod (wrap64 (wrap64 ((d.val : Int) + 4) - (q.val : Int))) 4 ∧ Int.tmod (wrap64 (wrap64 ((d.val : Int) + 4) - (q.val : Int))) 4 ≤ 3 := by
  decide +kernel
theorem way_c {d q : Int} (hd : 0 ≤ d ∧ d ≤ 3) (hq : 0 ≤ q ∧ q ≤ 3) : Int.tmod (wrap64 ((Int.tmod (wrap64 (d - q)) 4) + 4)) 4 = Int.tmod (wrap64 (wrap64 (d + 4) - q)) 4 ∧ 0 ≤ Int.tmod (wrap64 (wrap64 (d + 4) - q)) 4 ∧ Int.tmod (wrap64 (wrap64 (d + 4) - q)) 4 ≤ 3 := by
  obtain ⟨D, rfl⟩ := Int.eq_ofNat_of_zero_le hd.1
  obtain ⟨Q, rfl⟩ := Int.eq_ofNat_of_zero_le hq.1
  exact way_fin ⟨D, by omega⟩ ⟨Q, by omega⟩
theorem turnP (b : Int) : ∃ q, (0 ≤ q ∧ q ≤ 3) ∧ impl_quarters.f b = some q ∧ spec_woTurn.f b = some q := by
  unfold impl_quarters.f spec_woTurn.f
  by_cases h1 : b = 76
  · subst h1; exact ⟨3, by omega, by simp, by simp⟩
  · by_cases h2 : b = 82
    · subst h2; exact ⟨1, by omega, by simp, by simp⟩
    · by_cases h3 : b = 85
      · subst h3; exact ⟨2, by omega, by simp, by simp⟩
      · exact ⟨0, by omega, by simp [h1, h2, h3], by simp [h1, h2, h3]⟩
theorem spotsB_of {m : Int} : ∀ {l : List Sp} {p : Option Sp}, Sorted l → (∀ s ∈ l, spotB m s = true) → (∀ q, p = some q → ∀ s ∈ l, lessB q s = true) → spotsB m l p = true
  | [], _, _, _, _ => rfl
  | a :: t, none, hs, hb, hp => by
    obtain ⟨h1, h2⟩ := List.pairwise_cons.1 hs
    simp only [spotsB, Bool.and_eq_true]
    exact ⟨hb a (by simp), spotsB_of h2 (fun s h => hb s (by simp [h])) (fun q e s h => by cases e; exact h1 s h)⟩
  | a :: t, some q, hs, hb, hp => by
    obtain ⟨h1, h2⟩ := List.pairwise_cons.1 hs
    simp only [spotsB, Bool.and_eq_true]
    exact ⟨hb a (by simp), hp q rfl a (by simp), spotsB_of h2 (fun s h => hb s (by simp [h])) (fun q e s h => by cases e; exact h1 s h)⟩
theorem back_both {r : ByteArray} {l : List Sp} {x y d : Int} {M : List XMapL.Sp} (hr : r.size ≤ 140737488351232) (hb : plainOk r l x y d = true) (hM : (gL.F l).Perm M) :
    ∃ (l' : List Sp) (M' : List XMapL.Sp) (x' y' d' : Int) (ok : Bool), bk.f r M x y d = some (M', x', y', d', ok) ∧ (ok = true → plainOk r l' x' y' d' = true ∧ (gL.F l').Perm M') ∧
      Ev (fun k => spec_enBack.f k r l x y d) (if ok = true then (r, l', x', y', d', true) else ((⟨#[]⟩ : ByteArray), ([] : List Sp), 0, 0, 0, false)) := by
  have F := plainF hb
  have hn := F.n
  have r1 := F.r1
  have r6 := F.r6
  have fx := F.x
  have fy := F.y
  have fd := F.d
  have hax := ax_range d
  have hay := ay_range d
  have hg := goP r l fx fy fd
  have hah := aheadP fd
  obtain ⟨x', hx'⟩ : ∃ z, x - axN d = z := ⟨_, rfl⟩
  obtain ⟨y', hy'⟩ : ∃ z, y - ayN d = z := ⟨_, rfl⟩
  rw [hx', hy'] at hg
  have wx : wrap64 (x - axN d) = x' := by rw [hx']; exact w64 (by omega) (by omega)
  have wy : wrap64 (y - ayN d) = y' := by rw [hy']; exact w64 (by omega) (by omega)
  have hcol := enColour_ev (r := r) (px := x') (py := y') (d := d) F.sorted (by omega) x' y'
  have hlc := look_col F.sorted hM x' y'
  have hcr := col_range F x' y'
  obtain ⟨c0, hc0⟩ : ∃ z, col l x' y' = z := ⟨_, rfl⟩
  rw [hc0] at hcol hlc hcr
  have hmc := mod_c (n := (r.size : Int)) (c := c0) (by omega) (by omega) hcr.1 hcr.2
  obtain ⟨c, hc⟩ : ∃ z, Int.tmod (wrap64 (wrap64 (c0 + (r.size : Int)) - 1)) (r.size : Int) = z := ⟨_, rfl⟩
  rw [hc] at hmc
  obtain ⟨m1, m2, m3⟩ := hmc
  obtain ⟨q, hq, t1, t2⟩ := turnP (bt r c)
  obtain ⟨v1, v2, v3⟩ := way_c fd hq
  obtain ⟨d', hd'⟩ : ∃ z, Int.tmod (wrap64 (wrap64 (d + 4) - q)) 4 = z := ⟨_, rfl⟩
  rw [hd'] at v1 v2 v3
  obtain ⟨i, hpl, hpe⟩ := enPaint_ev F.sorted (by omega) x' y' c
  have hsrt := paintL_sorted (c := c) F.sorted hpl
  have hprm := (paintL_perm (c := c) F.sorted hpl).trans (paintS_perm hM x' y' c)
  have hlen := paintL_length (l := l) (x := x') (y := y') (c := c) i
  have hmem : nearB x' = true → nearB y' = true → ∀ s ∈ paintL l i x' y' c, spotB (r.size : Int) s = true := fun n1 n2 s h => by
    rcases paintL_mem h with h | ⟨c1, rfl⟩
    · have hb2 := hb
      unfold plainOk at hb2
      simp only [Bool.and_eq_true] at hb2
      exact spotsB_all hb2.2.2.2.2.2 s h
    · unfold spotB
      rw [show nearB (⟨x', y', c⟩ : Sp).f0 = true from n1, show nearB (⟨x', y', c⟩ : Sp).f1 = true from n2, w64 (x := (r.size : Int) - 1) (by omega) (by omega)]
      show (true && (true && inB c 1 ((r.size : Int) - 1))) = true
      rw [Bool.true_and, Bool.true_and, inB_iff]
      omega
  generalize paintL l i x' y' c = S at *
  have hru : ruleOk r = true := by
    unfold plainOk at hb
    simp only [Bool.and_eq_true] at hb
    exact hb.1
  have hok : plainOk r S x' y' d' = ((nearB x' && nearB y') && decide ((S.length : Int) ≤ 300)) := by
    unfold plainOk
    rw [hru, Bool.true_and, show inB d' 0 3 = true from (inB_iff).2 ⟨v2, v3⟩, Bool.true_and]
    cases n1 : nearB x' with
    | false => simp
    | true =>
      cases n2 : nearB y' with
      | false => simp
      | true =>
        rw [spotsB_of hsrt (hmem n1 n2) (fun q e => by cases e)]
        simp
  have g1 := enGood_ev r S x' y' d' hr (by omega)
  refine ⟨S, paintS M x' y' c, x', y', d', plainOk r S x' y' d', ?_, fun e => ⟨e, hprm⟩, ?_⟩
  · unfold bk.f
    rw [hah]
    simp only [Option.bind_some]
    rw [if_neg (by omega), wx, wy, hlc, hc, if_pos m2, t1]
    simp only [Option.bind_some]
    rw [near2]
    simp only [Option.bind_some]
    rw [hd', hok, hprm.length_eq.symm]
    unfold gL.F
    rw [List.length_map]
  · unfold spec_enBack.f
    refine ev_bind (ev_const hg) (ev_bind hcol (ev_bind (ev_const (show spec_l1Mod.f (wrap64 (c0 - 1)) (r.size : Int) = some c from ?_)) (ev_bind hpe (ev_pos m2 (ev_pos (by show c < (r.size : Int); omega) (ev_bind (ev_const t2) (ev_bind (ev_const (show spec_l1Mod.f (wrap64 (d - q)) 4 = some d' from ?_)) (ev_bind g1 ?_))))))))
    · unfold spec_l1Mod.f
      rw [if_neg (by omega), m1]
    · unfold spec_l1Mod.f
      rw [if_neg (by decide), v1]
    · cases plainOk r S x' y' d' with
      | true => exact ev_pos rfl (ev_const (by rw [if_pos rfl]))
      | false => exact ev_neg (by decide) (ev_const (by rw [if_neg (by decide)]))
theorem back_all {r : ByteArray} (hr : r.size ≤ 140737488351232) (e : Int) (he : e ≤ 1000) : ∀ (n : Nat) (i : Int) (l : List Sp) (x y d : Int) (M : List XMapL.Sp), i + n = e → 0 ≤ i → plainOk r l x y d = true → (gL.F l).Perm M →
    ∃ (r' : ByteArray) (S : List Sp) (x' y' d' : Int) (b : Bool), S.length ≤ 1048577 ∧ Ev (fun k => spec_PlainBefore.l0 k (n : Int) r l x y d) (r', S, x', y', d', b) ∧ Ev (fun k => impl_PlainBefore.l k r e i M x y d) (r', S, x', y', d', b)
  | 0, i, l, x, y, d, M, hi, h0, hb, hM => by
    have F := plainF hb
    have hn := F.n
    have hpl := plainR_of F.sorted hM (by omega) (fun s h => by have := F.near s h; omega)
    refine ⟨r, l, x, y, d, true, by omega, ev_succ ?_, ev_succ ?_⟩
    · simp only [spec_PlainBefore.l0]
      exact ev_neg (by omega) (ev_some _)
    · simp only [impl_PlainBefore.l]
      exact ev_pos ⟨h0, by omega⟩ (ev_neg (by omega) (ev_bind (ev_const hpl) (ev_some _)))
  | n + 1, i, l, x, y, d, M, hi, h0, hb, hM => by
    obtain ⟨l', M', x', y', d', ok, h1, h2, h3⟩ := back_both hr hb hM
    cases ok with
    | false =>
      rw [if_neg (by decide)] at h3
      refine ⟨(⟨#[]⟩ : ByteArray), [], 0, 0, 0, false, by simp, ev_succ ?_, ev_succ ?_⟩
      · simp only [spec_PlainBefore.l0]
        exact ev_pos (by omega) (ev_bind h3 (ev_neg (by decide) (ev_some _)))
      · simp only [impl_PlainBefore.l]
        exact ev_pos ⟨h0, by omega⟩ (ev_pos (by omega) (ev_bind (ev_const h1) (ev_neg Bool.false_ne_true (ev_some _))))
    | true =>
      rw [if_pos rfl] at h3
      obtain ⟨hb', hM'⟩ := h2 rfl
      obtain ⟨r', S, a1, a2, a3, b, hS, p, q⟩ := back_all hr e he n (i + 1) l' x' y' d' M' (by omega) (by omega) hb' hM'
      refine ⟨r', S, a1, a2, a3, b, hS, ev_succ ?_, ev_succ ?_⟩
      · simp only [spec_PlainBefore.l0]
        refine ev_pos (by omega) (ev_bind h3 (ev_pos rfl ?_))
        show Ev (fun k => spec_PlainBefore.l0 k (wrap64 (((n + 1 : Nat) : Int) - 1)) r l' x' y' d') _
        rw [show ((n + 1 : Nat) : Int) - 1 = (n : Int) by omega, w64 (x := (n : Int)) (by omega) (by omega)]
        exact p
      · simp only [impl_PlainBefore.l]
        refine ev_pos ⟨h0, by omega⟩ (ev_pos (by omega) (ev_bind (ev_const h1) (ev_pos rfl ?_)))
        show Ev (fun k => impl_PlainBefore.l k r e (wrap64 (i + 1)) M' x' y' d') _
        rw [w64 (x := i + 1) (by omega) (by omega)]
        exact q
theorem PlainBefore_both (r : ByteArray) (l : List Sp) (x y d e : Int) (hr : r.size ≤ 140737488351232) (hl : l.length ≤ 1048576) : ∃ (r' : ByteArray) (S : List Sp) (x' y' d' : Int) (b : Bool), S.length ≤ 1048577 ∧ Ev (fun k => spec_PlainBefore.f k r l x y d e) (r', S, x', y', d', b) ∧ Ev (fun k => impl_PlainBefore.f k r l x y d e) (r', S, x', y', d', b) := by
  unfold spec_PlainBefore.f impl_PlainBefore.f spec_enSteps.f impl_isRun.f
  have h1 := enGood_ev r l x y d hr (by omega)
  have h2 := implIsPlain_ev r l x y d hr (by omega)
  have hs1 := l1In_eq e 0 1000
  have hs2 := wi_eq e 0 1000
  cases hb : plainOk r l x y d with
  | false =>
    rw [hb] at h1 h2
    exact ⟨_, [], _, _, _, _, by simp, ev_bind (ev_bind h1 (ev_neg (by decide) (ev_some _))) (ev_neg (by decide) (ev_some _)), ev_bind (ev_bind h2 (ev_neg (by decide) (ev_some _))) (ev_neg (by decide) (ev_some _))⟩
  | true =>
    rw [hb] at h1 h2
    cases hc : inB e 0 1000 with
    | false =>
      rw [hc] at hs1 hs2
      exact ⟨_, [], _, _, _, _, by simp, ev_bind (ev_bind h1 (ev_pos rfl (ev_bind (ev_const hs1) (ev_some _)))) (ev_neg (by decide) (ev_some _)), ev_bind (ev_bind h2 (ev_pos rfl (ev_bind (ev_const hs2) (ev_some _)))) (ev_neg (by decide) (ev_some _))⟩
    | true =>
      rw [hc] at hs1 hs2
      rw [inB_iff] at hc
      have F := plainF hb
      have hn := F.n
      have r6 := F.r6
      have hok := okB_of F.sorted (fun s h => by have := F.near s h; exact ⟨this.1, this.2.1, by omega, by omega⟩)
      obtain ⟨r', S, a1, a2, a3, b, hS, p, q⟩ := back_all hr e hc.2 e.toNat 0 l x y d (gL.F l) (by omega) (by omega) hb (List.Perm.refl _)
      rw [show ((e.toNat : Nat) : Int) = e by omega] at p
      have hown : spec_enOwn.f r l x y d = some (r, l, x, y, d) := by
        unfold spec_enOwn.f
        simp only [Option.bind_some]
        rw [if_pos (lt_big _ (by rw [List.length_nil]; omega)), List.nil_append]
      exact ⟨r', S, a1, a2, a3, b, hS, ev_bind (ev_bind h1 (ev_pos rfl (ev_bind (ev_const hs1) (ev_some _)))) (ev_pos rfl (ev_bind (ev_const hown) p)), ev_bind (ev_bind h2 (ev_pos rfl (ev_bind (ev_const hs2) (ev_some _)))) (ev_pos rfl (ev_pos (by omega) (ev_bind (ev_const hok) q)))⟩
theorem FnExactPlainBefore : LawHolds := by
  intro r l x y d c hr ⟨_, hl, _⟩ _ _ _ _
  refine ev_out (g := fun k => laws_FnExactPlainBefore.f k r l x y d c) ?_
  obtain ⟨t, ht, hz⟩ := szPlain_le r l x y d hr (by omega)
  have hto := toPlain_ev r l x y d hl
  unfold laws_FnExactPlainBefore.f
  refine ev_bind (ev_const ht) (ev_ite (fun _ => ev_some _) (fun cc => ?_))
  have hL := hz (by omega)
  have hm : (l.map conv).length ≤ 1048576 := by rw [List.length_map]; exact hL
  obtain ⟨r', S, x', y', d', b, hS, h1, h2⟩ := PlainBefore_both r (l.map conv) x y d c hr hm
  have heq := eqPlain_ev r' S x' y' d' (by omega)
  have hb : ¬ ((b != b) = true) := by simp
  refine ev_bind hto (ev_bind h1 (ev_bind hto (ev_bind h2 (ev_bind heq (ev_pos rfl (ev_succ ?_))))))
  simp only [laws_FnExactPlainBefore.j0]
  refine ev_neg hb (ev_bind hto (ev_bind (eqPlain_ev r (l.map conv) x y d (by omega)) (ev_pos rfl (ev_bind (markPlain_ev r (l.map conv) x y d (by omega)) (ev_neg (by show ¬ (1 : Int) + 3 * _ < 0; omega) (ev_bind heq (ev_pos rfl (ev_succ ?_))))))))
  simp only [laws_FnExactPlainBefore.j1]
  have hh := heldPlain_ev r' S.length x' y' d' (by omega)
  refine ev_neg hb (ev_bind (markPlain_ev r' S x' y' d' (by omega)) (ev_bind hh (ev_neg (by omega) (ev_pos rfl (ev_bind hto (ev_bind h2 (ev_bind heq (ev_pos rfl (ev_succ ?_)))))))))
  simp only [laws_FnExactPlainBefore.j2]
  exact ev_neg hb (ev_bind hh (ev_neg (by omega) (ev_pos rfl (ev_some _))))

end Go.Proofs.YtfhplgiblknfcaaDoor.Pure
