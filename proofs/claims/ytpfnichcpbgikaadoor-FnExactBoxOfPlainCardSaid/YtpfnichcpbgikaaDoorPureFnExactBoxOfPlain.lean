/- BoxOfPlain of the program and of the reference agree at every plain. Conditions: those of reading alone. -/
import Derived.Test.YtpfnichcpbgikaaDoorQFnExactBoxOfPlain
namespace Go.Proofs.YtpfnichcpbgikaaDoor.Pure
open Go.RowKit Go.Proofs.YtpfnichcpbgikaaDoor.PFnExactBoxOfPlain Go.Proofs.YtpfnichcpbgikaaDoorW.PrintWords Go.Proofs.YtpfnichcpbgikaaDoorW.PrintLast
set_option linter.unusedVariables false
set_option linter.unusedSimpArgs false
theorem ev_succ {α : Type} {g : Nat → Option α} {r : α} (h : Ev (fun k => g (k + 1)) r) : Ev g r := by
  obtain ⟨K, h⟩ := h
  refine ⟨K + 1, fun k hk => ?_⟩
  obtain ⟨j, rfl⟩ : ∃ j, k = j + 1 := ⟨k - 1, by omega⟩
  exact h j (by omega)
theorem ev_some {α : Type} (r : α) : Ev (fun _ => some r) r := ⟨0, fun _ _ => rfl⟩
theorem ev_const {α : Type} {x : Option α} {r : α} (h : x = some r) : Ev (fun _ => x) r := ⟨0, fun _ _ => h⟩
theorem ev_bind {α β : Type} {g : Nat → Option α} {f : Nat → α → Option β} {a : α} {r : β} (h : Ev g a) (k : Ev (fun n => f n a) r) : Ev (fun n => (g n).bind (f n)) r := by
  obtain ⟨K, h⟩ := h
  obtain ⟨L, k⟩ := k
  exact ⟨max K L, fun n hn => by show (g n).bind (f n) = some r; rw [h n (by omega)]; exact k n (by omega)⟩
theorem ev_pos {α : Type} {c : Prop} [Decidable c] {f g : Nat → Option α} {r : α} (hc : c) (h : Ev f r) : Ev (fun k => if c then f k else g k) r := by
  obtain ⟨K, h⟩ := h
  exact ⟨K, fun n hn => by show (if c then f n else g n) = some r; rw [if_pos hc]; exact h n hn⟩
theorem ev_neg {α : Type} {c : Prop} [Decidable c] {f g : Nat → Option α} {r : α} (hc : ¬ c) (h : Ev g r) : Ev (fun k => if c then f k else g k) r := by
  obtain ⟨K, h⟩ := h
  exact ⟨K, fun n hn => by show (if c then f n else g n) = some r; rw [if_neg hc]; exact h n hn⟩
theorem ev_ite {α : Type} {c : Prop} [Decidable c] {f g : Nat → Option α} {r : α} (h1 : c → Ev f r) (h2 : ¬ c → Ev g r) : Ev (fun k => if c then f k else g k) r := by
  by_cases hc : c
  · exact ev_pos hc (h1 hc)
  · exact ev_neg hc (h2 hc)
theorem ev_out {α : Type} {g : Nat → Option α} {r : α} (h : Ev g r) : ∃ k, g k = some r := by
  obtain ⟨K, h⟩ := h
  exact ⟨K, h K (Nat.le_refl _)⟩
theorem ev_uni {α : Type} {g : Nat → Option α} {r r' : α} (h : Ev g r) (h' : Ev g r') : r = r' := by
  obtain ⟨K, h⟩ := h
  obtain ⟨L, h'⟩ := h'
  have := (h (max K L) (by omega)).symm.trans (h' (max K L) (by omega))
  exact Option.some.inj this
theorem w64 {x : Int} (h1 : -9223372036854775808 ≤ x) (h2 : x ≤ 9223372036854775807) : wrap64 x = x := by
  unfold wrap64
  omega
theorem i64_range {x : Int} (h : (Lit.int .i64 x).wf = true) : -9223372036854775808 ≤ x ∧ x ≤ 9223372036854775807 := by
  have e1 : IntKind.i64.min = -9223372036854775808 := by decide
  have e2 : IntKind.i64.max = 9223372036854775807 := by decide
  have h' : IntKind.i64.min ≤ x ∧ x ≤ IntKind.i64.max := by simpa [Lit.wf] using h
  omega
theorem maxLen_eq : maxLen = 9223372036854775807 := rfl
def bl (a : ByteArray) : List Int := a.data.toList.map (fun b => (b.toNat : Int))
theorem size_data (a : ByteArray) : a.data.toList.length = a.size := by
  rw [Array.length_toList]
  rfl
theorem bl_length (a : ByteArray) : (bl a).length = a.size := by
  unfold bl
  rw [List.length_map, size_data]
theorem bl_get? (a : ByteArray) (i : Nat) (h : i < a.size) : (bl a)[i]? = some (bt a (i : Int)) := by
  unfold bl bt
  rw [List.getElem?_map, Array.getElem?_toList]
  have e : ((i : Int)).toNat = i := Int.toNat_natCast i
  have h2 : a.data[i]? = some (a.data[i]'h) := Array.getElem?_eq_getElem h
  rw [h2, dif_pos (by rw [e]; exact h)]
  simp only [e]
  rfl
theorem bl_get (a : ByteArray) (i : Nat) (h : i < (bl a).length) : (bl a)[i] = bt a (i : Int) := by
  have h2 := bl_get? a i (by rw [← bl_length]; exact h)
  rw [List.getElem?_eq_getElem h] at h2
  exact Option.some.inj h2
theorem bl_drop (a : ByteArray) (i : Nat) (h : i < a.size) : (bl a).drop i = bt a (i : Int) :: (bl a).drop (i + 1) := by
  have h' : i < (bl a).length := by rw [bl_length]; exact h
  rw [List.drop_eq_getElem_cons h', bl_get a i h']
theorem bl_drop_size (a : ByteArray) : (bl a).drop a.size = [] := by
  rw [List.drop_eq_nil_iff, bl_length]
  exact Nat.le_refl _
theorem bt_at_nat (a : ByteArray) (x : Int) (h : 0 ≤ x) : bt a x = bt a ((x.toNat : Nat) : Int) := by
  rw [Int.toNat_of_nonneg h]
theorem bl_range (a : ByteArray) : ∀ x ∈ bl a, 0 ≤ x ∧ x ≤ 255 := by
  intro x hx
  unfold bl at hx
  rw [List.mem_map] at hx
  obtain ⟨b, _, rfl⟩ := hx
  have := b.toNat_lt
  omega
theorem bl_inj {a b : ByteArray} (h : bl a = bl b) : a = b := by
  unfold bl at h
  have h2 : a.data.toList = b.data.toList := by
    refine List.map_inj_right (f := fun b : UInt8 => (b.toNat : Int)) ?_ |>.1 h
    intro x y e
    exact UInt8.toNat_inj.1 (by exact_mod_cast e)
  cases a with
  | mk x =>
    cases b with
    | mk y =>
      simp only at h2
      rw [Array.toList_inj.1 h2]
theorem in_eq (n lo hi : Int) : spec_l1In.f n lo hi = some (decide (lo ≤ n) && decide (n ≤ hi)) := by
  unfold spec_l1In.f
  by_cases h : n ≥ lo
  · rw [if_pos h]
    simp [show lo ≤ n from h]
  · rw [if_neg h]
    simp [show ¬ lo ≤ n from h]
theorem within_eq (n lo hi : Int) : impl_within.f n lo hi = some (decide (lo ≤ n) && decide (n ≤ hi)) := by
  unfold impl_within.f
  by_cases h : lo ≤ n
  · rw [if_pos h]
    simp [h]
  · rw [if_neg h]
    simp [h]
def inB (n lo hi : Int) : Bool := decide (lo ≤ n) && decide (n ≤ hi)
theorem inB_iff {n lo hi : Int} : inB n lo hi = true ↔ lo ≤ n ∧ n ≤ hi := by unfold inB; simp
theorem l1In_eq (n lo hi : Int) : spec_l1In.f n lo hi = some (inB n lo hi) := in_eq n lo hi
theorem wi_eq (n lo hi : Int) : impl_within.f n lo hi = some (inB n lo hi) := within_eq n lo hi
theorem ev_and {b r : Bool} {g : Nat → Option Bool} {f : Nat → Option Bool} (h : Ev g b) (k : b = true → Ev f r) : Ev (fun n => (g n).bind fun t => if t = true then f n else some false) (b && r) := by
  refine ev_bind h ?_
  cases b with
  | true => exact ev_pos rfl (k rfl)
  | false => exact ev_neg (by decide) (ev_some _)
theorem ev_and2 {b r : Bool} {g : Nat → Option Bool} {f E : Nat → Option Bool} (hE : Ev E false) (h : Ev g b) (k : b = true → Ev f r) : Ev (fun n => (g n).bind fun t => if t = true then f n else E n) (b && r) := by
  refine ev_bind h ?_
  cases b with
  | true => exact ev_pos rfl (k rfl)
  | false => exact ev_neg (by decide) hE
theorem ev_id {b : Bool} {g : Nat → Option Bool} (h : Ev g b) : Ev (fun n => (g n).bind fun t => some t) b := ev_bind h (ev_some _)
theorem dropWhile_all {α : Type} (p : α → Bool) : ∀ l : List α, (∀ x ∈ l.dropWhile p, p x = true) → l.dropWhile p = []
  | [], _ => rfl
  | a :: t, h => by
    by_cases ha : p a = true
    · rw [List.dropWhile_cons_of_pos ha] at h ⊢
      exact dropWhile_all p t h
    · rw [List.dropWhile_cons_of_neg ha] at h
      exact absurd (h a (List.mem_cons_self ..)) ha
theorem dropWhile_nil {α : Type} (p : α → Bool) : ∀ l : List α, l.dropWhile p = [] ↔ ∀ x ∈ l, p x = true
  | [] => by simp
  | a :: t => by
    by_cases ha : p a = true
    · rw [List.dropWhile_cons_of_pos ha, dropWhile_nil p t]
      simp [ha]
    · rw [List.dropWhile_cons_of_neg ha]
      simp [ha]
theorem trimS_nil (l cs : List UInt8) : Lib.trimS l cs = [] ↔ ∀ x ∈ l, cs.contains x = true := by
  unfold Lib.trimS Lib.trimLeftS Lib.trimRightS
  constructor
  · intro h
    rw [dropWhile_nil] at h
    have h2 : ∀ x ∈ l.reverse.dropWhile (cs.contains ·), cs.contains x = true := fun x hx => h x (List.mem_reverse.2 hx)
    have h3 := dropWhile_all (cs.contains ·) _ h2
    rw [dropWhile_nil] at h3
    exact fun x hx => h3 x (List.mem_reverse.2 hx)
  · intro h
    rw [dropWhile_nil]
    intro x hx
    rw [List.mem_reverse] at hx
    exact h x (List.mem_reverse.1 ((List.dropWhile_sublist _).subset hx))
theorem bl_all (a : ByteArray) (p : Int → Bool) : (bl a).all p = a.data.toList.all (fun b => p (b.toNat : Int)) := by
  unfold bl
  rw [List.all_map]
  rfl
theorem trim_empty (a c : ByteArray) (ha : a.size ≤ 140737488351232) (hc : c.size < 4294967281) (h8 : c.data.toList.all (fun b => decide (b.toNat < 128)) = true) (p : Int → Bool)
    (hp : ∀ b : UInt8, c.data.toList.contains b = p (b.toNat : Int)) : (strings_Trim.f a c).bind (fun t => some (t.toList == ([] : List UInt8))) = some ((bl a).all p) := by
  unfold strings_Trim.f
  rw [if_pos ⟨by omega, hc, h8⟩]
  show some _ = some _
  congr 1
  have e : ∀ l : List UInt8, (⟨l.toArray⟩ : ByteArray).toList = l := fun l => by rw [Lib.toList_data]
  rw [e, bl_all]
  rw [Bool.eq_iff_iff, beq_iff_eq, trimS_nil, List.all_eq_true]
  exact forall_congr' fun x => by rw [hp x]
def signB (x : Int) : Bool := x == 76 || x == 82 || x == 78 || x == 85
def ruleOk (a : ByteArray) : Bool := decide (1 ≤ a.size) && decide (a.size ≤ 6) && (bl a).all signB
theorem woRule_loop (a : ByteArray) (hs : a.size ≤ 140737488351232) : ∀ (n i : Nat), i + n = a.size → Ev (fun k => spec_woRule.l0 k a (i : Int)) (((bl a).drop i).all signB)
  | 0, i, h => by
    refine ev_succ ?_
    simp only [spec_woRule.l0]
    have : i = a.size := by omega
    subst this
    rw [bl_drop_size]
    exact ev_neg (by omega) (ev_some _)
  | n + 1, i, h => by
    refine ev_succ ?_
    simp only [spec_woRule.l0]
    have hw : wrap64 ((i : Int) + 1) = ((i + 1 : Nat) : Int) := by rw [w64 (by omega) (by omega)]; omega
    have ih := woRule_loop a hs n (i + 1) (by omega)
    rw [hw, bl_drop a i (by omega), List.all_cons]
    refine ev_pos (by omega) (ev_pos (by omega) ?_)
    refine ev_ite (fun h1 => ?_) (fun h1 => ev_ite (fun h2 => ?_) (fun h2 => ev_ite (fun h3 => ?_) (fun h3 => ev_ite (fun h4 => ?_) (fun h4 => ?_))))
    · rw [h1]; exact ih
    · rw [h2]; exact ih
    · rw [h3]; exact ih
    · rw [h4]; exact ih
    · have : signB (bt a (i : Int)) = false := by unfold signB; simp [h1, h2, h3, h4]
      rw [this, Bool.false_and]
      exact ev_some _
theorem woRule_ev (a : ByteArray) (hs : a.size ≤ 140737488351232) : Ev (fun k => spec_woRule.f k a) (ruleOk a) := by
  unfold spec_woRule.f
  refine ev_bind (ev_const (in_eq _ _ _)) ?_
  unfold ruleOk
  by_cases h1 : 1 ≤ a.size
  · by_cases h2 : a.size ≤ 6
    · have := woRule_loop a hs a.size 0 (by omega)
      rw [List.drop_zero] at this
      rw [decide_eq_true (p := (1:Int) ≤ (a.size : Int)) (by omega), decide_eq_true (p := (a.size : Int) ≤ 6) (by omega), decide_eq_true h1, decide_eq_true h2]
      exact ev_pos rfl this
    · rw [decide_eq_false (p := (a.size : Int) ≤ 6) (by omega), decide_eq_false h2, Bool.and_false, Bool.and_false, Bool.false_and]
      exact ev_neg (by decide) (ev_some _)
  · rw [decide_eq_false (p := (1:Int) ≤ (a.size : Int)) (by omega), decide_eq_false h1, Bool.false_and, Bool.false_and, Bool.false_and]
    exact ev_neg (by decide) (ev_some _)
theorem signs_has (b : UInt8) : (⟨#[76, 82, 78, 85]⟩ : ByteArray).data.toList.contains b = signB (b.toNat : Int) := by
  have h : ∀ n : Fin 256, (⟨#[76, 82, 78, 85]⟩ : ByteArray).data.toList.contains (UInt8.ofNat n.val) = signB (n.val : Int) := by decide +kernel
  have := h ⟨b.toNat, b.toNat_lt⟩
  rwa [UInt8.ofNat_toNat] at this
theorem implIsRule_eq (a : ByteArray) (hs : a.size ≤ 140737488351232) : impl_IsRule.f a = some (ruleOk a) := by
  unfold impl_IsRule.f
  rw [within_eq]
  show (if _ then _ else _) = _
  rw [trim_empty a _ hs (by decide) (by decide +kernel) signB signs_has]
  unfold ruleOk
  by_cases h1 : 1 ≤ a.size
  · by_cases h2 : a.size ≤ 6
    · rw [decide_eq_true (p := (1:Int) ≤ (a.size : Int)) (by omega), decide_eq_true (p := (a.size : Int) ≤ 6) (by omega), decide_eq_true h1, decide_eq_true h2]
      rfl
    · rw [decide_eq_false (p := (a.size : Int) ≤ 6) (by omega), decide_eq_false h2, Bool.and_false, Bool.and_false, Bool.false_and]
      rfl
  · rw [decide_eq_false (p := (1:Int) ≤ (a.size : Int)) (by omega), decide_eq_false h1, Bool.false_and, Bool.false_and, Bool.false_and]
    rfl
abbrev Sp := S62
abbrev rdSp := rd_T62
abbrev SpL := S93
def conv (s : SpL) : Sp := ⟨s.f0, s.f1, s.f2⟩
theorem rdSp_get (l : List Sp) (i : Nat) (h : i < l.length) : rdSp l (i : Int) = l[i] := by
  unfold rdSp rd_T62
  rw [Int.toNat_natCast, List.getD_eq_getElem?_getD, List.getElem?_eq_getElem h]
  rfl
theorem rdSpL_get (l : List SpL) (i : Nat) (h : i < l.length) : rd_T93 l (i : Int) = l[i] := by
  unfold rd_T93
  rw [Int.toNat_natCast, List.getD_eq_getElem?_getD, List.getElem?_eq_getElem h]
  rfl
theorem toSpotS_loop (l : List SpL) (hl : l.length ≤ 140737488351232) : ∀ (n i : Nat) (acc : List Sp), i + n = l.length → acc.length = l.length → Ev (fun k => laws_toSpotS.l0 k l acc (i : Int)) (acc.take i ++ (l.drop i).map conv)
  | 0, i, acc, e, ha => by
    refine ev_succ ?_
    simp only [laws_toSpotS.l0]
    rw [List.take_of_length_le (by omega), List.drop_eq_nil_of_le (by omega), List.map_nil, List.append_nil]
    exact ev_neg (by omega) (ev_some _)
  | n + 1, i, acc, e, ha => by
    refine ev_succ ?_
    simp only [laws_toSpotS.l0]
    have hw : wrap64 ((i : Int) + 1) = ((i + 1 : Nat) : Int) := by rw [w64 (by omega) (by omega)]; omega
    have hi : i < l.length := by omega
    rw [hw, rdSpL_get l i hi]
    have ih := toSpotS_loop l hl n (i + 1) (acc.set i (conv l[i])) (by omega) (by rw [List.length_set]; exact ha)
    have e2 : (acc.set i (conv l[i])).take (i + 1) ++ (l.drop (i + 1)).map conv = acc.take i ++ (l.drop i).map conv := by
      rw [List.drop_eq_getElem_cons hi, List.map_cons, List.take_succ_eq_append_getElem (by rw [List.length_set]; omega), List.take_set_of_le (Nat.le_refl i), List.getElem_set_self, List.append_assoc]
      rfl
    rw [e2] at ih
    refine ev_pos (by omega) (ev_pos (by omega) (ev_bind (a := (l[i].f0, l[i].f1, l[i].f2)) (ev_const rfl) (ev_pos (by omega) ?_)))
    rw [Int.toNat_natCast]
    exact ih
theorem toSpotS_ev (l : List SpL) (hl : l.length * 24 ≤ 140737488351232) : Ev (fun k => laws_toSpotS.f k l) (l.map conv) := by
  unfold laws_toSpotS.f
  refine ev_pos (by omega) (ev_pos (by omega) ?_)
  have := toSpotS_loop l (by omega) l.length 0 (List.replicate ((l.length : Int)).toNat z62) (by omega) (by simp)
  simpa using this
theorem toPlain_ev (r : ByteArray) (l : List SpL) (x y d : Int) (hl : l.length * 24 ≤ 140737488351232) : Ev (fun k => laws_toPlain.f k r l x y d) (r, l.map conv, x, y, d) := by
  unfold laws_toPlain.f
  exact ev_bind (toSpotS_ev l hl) (ev_some _)
theorem szPlain_ev (r : ByteArray) (l : List SpL) (x y d m : Int) : ∃ t, laws_szPlain.f r l x y d m = some t := by
  unfold laws_szPlain.f laws_szSpotS.f
  split
  · exact ⟨_, rfl⟩
  · split
    · exact ⟨-1, by simp⟩
    · simp only [Option.bind_some]
      split <;> exact ⟨_, rfl⟩
def nearB (x : Int) : Bool := inB x (-1000) 1000
def spotB (m : Int) (s : Sp) : Bool := nearB s.f0 && (nearB s.f1 && inB s.f2 1 (wrap64 (m - 1)))
def lessB (a b : Sp) : Bool := decide (a.f1 < b.f1) || (decide (a.f1 = b.f1) && decide (a.f0 < b.f0))
def spotsB (m : Int) : List Sp → Option Sp → Bool
  | [], _ => true
  | s :: t, none => spotB m s && spotsB m t (some s)
  | s :: t, some p => spotB m s && (lessB p s && spotsB m t (some s))
def prevS (l : List Sp) (i : Nat) : Option Sp := if i = 0 then none else l[i - 1]?
theorem far_eq (x : Int) : spec_enFar.f x = some (nearB x) := by
  unfold spec_enFar.f nearB
  rw [l1In_eq]
  rfl
theorem less_eq (a b : Sp) : spec_enLess.f a.f0 a.f1 a.f2 b.f0 b.f1 b.f2 = some (lessB a b) := by
  unfold spec_enLess.f lessB
  by_cases h : a.f1 < b.f1
  · simp [h]
  · by_cases h2 : a.f1 = b.f1
    · simp [h2]
    · simp [h, h2]
theorem prevS_succ (l : List Sp) (i : Nat) (h : i < l.length) : prevS l (i + 1) = some l[i] := by
  unfold prevS
  rw [if_neg (by omega)]
  simp [h]
theorem specSpots_loop (r : ByteArray) (l : List Sp) (x y d : Int) (hl : l.length ≤ 140737488351232) : ∀ (n i : Nat), i + n = l.length → Ev (fun k => spec_enGood.l0 k l (l.length : Int) (i : Int) r l x y d) (spotsB (r.size : Int) (l.drop i) (prevS l i))
  | 0, i, e => by
    refine ev_succ ?_
    simp only [spec_enGood.l0]
    rw [List.drop_eq_nil_of_le (by omega)]
    have : spotsB (r.size : Int) [] (prevS l i) = true := by cases prevS l i <;> rfl
    rw [this]
    exact ev_neg (by omega) (ev_some _)
  | n + 1, i, e => by
    refine ev_succ ?_
    simp only [spec_enGood.l0]
    have hw : wrap64 ((i : Int) + 1) = ((i + 1 : Nat) : Int) := by rw [w64 (by omega) (by omega)]; omega
    have hi : i < l.length := by omega
    have ih := specSpots_loop r l x y d hl n (i + 1) (by omega)
    rw [prevS_succ l i hi] at ih
    have hg : rd_T62 l (i : Int) = l[i] := rdSp_get l i hi
    rw [hw, hg, List.drop_eq_getElem_cons hi]
    refine ev_pos (by omega) (ev_pos (by omega) (ev_pos (by omega) ?_))
    rcases Nat.eq_zero_or_pos i with h0 | h0
    · subst h0
      have : prevS l 0 = none := rfl
      rw [this]
      show Ev _ (spotB (r.size : Int) l[0] && spotsB (r.size : Int) (l.drop 1) (some l[0]))
      unfold spotB
      rw [Bool.and_assoc, Bool.and_assoc]
      exact ev_and (ev_const (far_eq _)) fun _ => ev_and (ev_const (far_eq _)) fun _ => ev_and (ev_const (l1In_eq _ _ _)) fun _ => ev_neg (by omega) ih
    · have hp : prevS l i = some l[i - 1] := by
        have := prevS_succ l (i - 1) (by omega)
        rw [show i - 1 + 1 = i by omega] at this
        exact this
      have hw2 : wrap64 ((i : Int) - 1) = ((i - 1 : Nat) : Int) := by rw [w64 (by omega) (by omega)]; omega
      have hg2 : rd_T62 l ((i - 1 : Nat) : Int) = l[i - 1] := rdSp_get l (i - 1) (by omega)
      rw [hp, hw2, hg2]
      show Ev _ (spotB (r.size : Int) l[i] && (lessB l[i - 1] l[i] && spotsB (r.size : Int) (l.drop (i + 1)) (some l[i])))
      unfold spotB
      rw [Bool.and_assoc, Bool.and_assoc]
      exact ev_and (ev_const (far_eq _)) fun _ => ev_and (ev_const (far_eq _)) fun _ => ev_and (ev_const (l1In_eq _ _ _)) fun _ => ev_pos (by omega) (ev_pos (by omega) (ev_pos (by omega) (ev_and (ev_const (less_eq _ _)) fun _ => ih)))
def plainOk (r : ByteArray) (l : List Sp) (x y d : Int) : Bool := ruleOk r && (decide ((l.length : Int) ≤ 300) && (nearB x && (nearB y && (inB d 0 3 && spotsB (r.size : Int) l none))))
theorem enGood_ev (r : ByteArray) (l : List Sp) (x y d : Int) (hr : r.size ≤ 140737488351232) (hl : l.length ≤ 140737488351232) : Ev (fun k => spec_enGood.f k r l x y d) (plainOk r l x y d) := by
  unfold spec_enGood.f plainOk
  have hE : Ev (fun k => spec_enGood.j0 k true r l x y d) false := by
    refine ev_succ ?_
    simp only [spec_enGood.j0]
    exact ev_pos (by first | rfl | trivial) (ev_some _)
  refine ev_and2 hE (woRule_ev r hr) fun _ => ?_
  by_cases c : (l.length : Int) > 300
  · rw [decide_eq_false (by omega), Bool.false_and]
    exact ev_pos c hE
  · rw [decide_eq_true (by omega), Bool.true_and]
    refine ev_neg c (ev_and2 hE (ev_const (far_eq _)) fun _ => ev_and2 hE (ev_const (far_eq _)) fun _ => ?_)
    refine ev_bind (ev_const (l1In_eq _ _ _)) ?_
    have hlp := specSpots_loop r l x y d hl l.length 0 (by omega)
    rw [List.drop_zero] at hlp
    cases inB d 0 3 with
    | true =>
      refine ev_succ ?_
      simp only [spec_enGood.j0]
      exact ev_neg (by decide) hlp
    | false => exact hE
theorem near2 (x y : Int) : impl_isNear.f [x, y] = some (nearB x && nearB y) := by
  unfold impl_isNear.f impl_areWithin.f
  simp [impl_areWithin.ok, nearB, inB, List.all_cons]
theorem spotB_near {m : Int} {s : Sp} (h : spotB m s = true) : (-1000 ≤ s.f0 ∧ s.f0 ≤ 1000) ∧ -1000 ≤ s.f1 ∧ s.f1 ≤ 1000 := by
  unfold spotB nearB at h
  simp only [Bool.and_eq_true, inB_iff] at h
  exact ⟨h.1, h.2.1⟩
theorem compare_ev {a b : Sp} {m : Int} (ha : spotB m a = true) (hb : (nearB b.f0 && nearB b.f1) = true) : ∃ t, impl_compareSpots.f a.f0 a.f1 a.f2 b.f0 b.f1 b.f2 = some t ∧ (t ≥ 0 ↔ lessB a b = false) := by
  obtain ⟨⟨a1, a2⟩, a3, a4⟩ := spotB_near ha
  unfold nearB at hb
  simp only [Bool.and_eq_true, inB_iff] at hb
  obtain ⟨⟨b1, b2⟩, b3, b4⟩ := hb
  unfold impl_compareSpots.f lessB
  by_cases h : a.f1 = b.f1
  · refine ⟨wrap64 (a.f0 - b.f0), if_pos h, ?_⟩
    rw [w64 (by omega) (by omega)]
    simp [h]
  · refine ⟨wrap64 (a.f1 - b.f1), if_neg h, ?_⟩
    rw [w64 (by omega) (by omega)]
    simp [h]
theorem implSpots_loop (r : ByteArray) (l : List Sp) (x y d : Int) (hl : l.length ≤ 140737488351232) : ∀ (n i : Nat), i + n = l.length → (∀ p, prevS l i = some p → spotB (r.size : Int) p = true) → Ev (fun k => impl_IsPlain.l0 k l (l.length : Int) (i : Int) r l x y d) (spotsB (r.size : Int) (l.drop i) (prevS l i))
  | 0, i, e, _ => by
    refine ev_succ ?_
    simp only [impl_IsPlain.l0]
    rw [List.drop_eq_nil_of_le (by omega)]
    have : spotsB (r.size : Int) [] (prevS l i) = true := by cases prevS l i <;> rfl
    rw [this]
    exact ev_neg (by omega) (ev_some _)
  | n + 1, i, e, hpn => by
    refine ev_succ ?_
    simp only [impl_IsPlain.l0]
    have hw : wrap64 ((i : Int) + 1) = ((i + 1 : Nat) : Int) := by rw [w64 (by omega) (by omega)]; omega
    have hi : i < l.length := by omega
    have ih := implSpots_loop r l x y d hl n (i + 1) (by omega)
    rw [prevS_succ l i hi] at ih
    have hg : rd_T62 l (i : Int) = l[i] := rdSp_get l i hi
    have hs : spotB (r.size : Int) l[i] = ((nearB l[i].f0 && nearB l[i].f1) && inB l[i].f2 1 (wrap64 ((r.size : Int) - 1))) := by
      unfold spotB
      rw [Bool.and_assoc]
    rw [hw, hg, List.drop_eq_getElem_cons hi]
    refine ev_pos (by omega) (ev_pos (by omega) (ev_pos (by omega) ?_))
    rcases Nat.eq_zero_or_pos i with h0 | h0
    · subst h0
      have : prevS l 0 = none := rfl
      rw [this]
      show Ev _ (spotB (r.size : Int) l[0] && spotsB (r.size : Int) (l.drop 1) (some l[0]))
      rw [hs, Bool.and_assoc]
      refine ev_and (ev_const (near2 _ _)) fun g1 => ev_and (ev_const (wi_eq _ _ _)) fun g2 => ev_neg (by omega) (ih ?_)
      intro p hp
      cases hp
      rw [hs, g1, g2]
      rfl
    · have hp : prevS l i = some l[i - 1] := by
        have := prevS_succ l (i - 1) (by omega)
        rw [show i - 1 + 1 = i by omega] at this
        exact this
      have hok := hpn _ hp
      have hw2 : wrap64 ((i : Int) - 1) = ((i - 1 : Nat) : Int) := by rw [w64 (by omega) (by omega)]; omega
      have hg2 : rd_T62 l ((i - 1 : Nat) : Int) = l[i - 1] := rdSp_get l (i - 1) (by omega)
      rw [hp, hw2, hg2]
      show Ev _ (spotB (r.size : Int) l[i] && (lessB l[i - 1] l[i] && spotsB (r.size : Int) (l.drop (i + 1)) (some l[i])))
      rw [hs, Bool.and_assoc]
      refine ev_and (ev_const (near2 _ _)) fun g1 => ev_and (ev_const (wi_eq _ _ _)) fun g2 => ev_pos (by omega) (ev_pos (by omega) (ev_pos (by omega) ?_))
      obtain ⟨t, ht, hiff⟩ := compare_ev hok g1
      refine ev_bind (ev_const ht) ?_
      cases hless : lessB l[i - 1] l[i] with
      | false => exact ev_pos (hiff.2 hless) (ev_some _)
      | true =>
        refine ev_neg (fun hge => by rw [hiff.1 hge] at hless; cases hless) (ih ?_)
        intro p hp
        cases hp
        rw [hs, g1, g2]
        rfl
theorem implIsPlain_ev (r : ByteArray) (l : List Sp) (x y d : Int) (hr : r.size ≤ 140737488351232) (hl : l.length ≤ 140737488351232) : Ev (fun k => impl_IsPlain.f k r l x y d) (plainOk r l x y d) := by
  unfold impl_IsPlain.f plainOk
  have hE : Ev (fun k => impl_IsPlain.j0 k true r l x y d) false := by
    refine ev_succ ?_
    simp only [impl_IsPlain.j0]
    exact ev_pos (by first | rfl | trivial) (ev_some _)
  refine ev_and2 hE (ev_const (implIsRule_eq r hr)) fun _ => ?_
  by_cases c : (l.length : Int) > 300
  · rw [decide_eq_false (by omega), Bool.false_and]
    exact ev_pos c hE
  · rw [decide_eq_true (by omega), Bool.true_and, ← Bool.and_assoc]
    refine ev_neg c (ev_and2 hE (ev_const (near2 _ _)) fun _ => ?_)
    have hway : impl_isWay.f d = some (inB d 0 3) := by
      unfold impl_isWay.f
      rw [wi_eq]
      rfl
    refine ev_bind (ev_const hway) ?_
    have hlp := implSpots_loop r l x y d hl l.length 0 (by omega) (fun p hp => by cases hp)
    rw [List.drop_zero] at hlp
    cases inB d 0 3 with
    | true =>
      refine ev_succ ?_
      simp only [impl_IsPlain.j0]
      exact ev_neg (by decide) hlp
    | false => exact hE
theorem rdS_get (l : List S62) (i : Nat) (h : i < l.length) : rd_T62 l (i : Int) = l[i] := by
  unfold rd_T62
  rw [Int.toNat_natCast, List.getD_eq_getElem?_getD, List.getElem?_eq_getElem h]
  rfl
theorem eqSpotS_loop (l : List S62) (hl : l.length ≤ 140737488351232) : ∀ (n i : Nat), i + n = l.length → Ev (fun k => laws_eqSpotS.l0 k l l (i : Int)) true
  | 0, i, e => by
    refine ev_succ ?_
    simp only [laws_eqSpotS.l0]
    exact ev_neg (by omega) (ev_some _)
  | n + 1, i, e => by
    refine ev_succ ?_
    simp only [laws_eqSpotS.l0]
    have hw : wrap64 ((i : Int) + 1) = ((i + 1 : Nat) : Int) := by rw [w64 (by omega) (by omega)]; omega
    rw [hw]
    have he : ∀ a b c : Int, laws_eqSpot.f a b c a b c = some true := by
      intros
      simp [laws_eqSpot.f]
    exact ev_pos (by omega) (ev_pos (by omega) (ev_pos (by omega) (ev_bind (ev_const (he ..)) (ev_pos rfl (eqSpotS_loop l hl n (i + 1) (by omega))))))
theorem eqSpotS_ev (l : List S62) (hl : l.length ≤ 140737488351232) : Ev (fun k => laws_eqSpotS.f k l l) true := by
  unfold laws_eqSpotS.f
  exact ev_pos rfl (eqSpotS_loop l hl l.length 0 (by omega))
theorem eqPlain_ev (r : ByteArray) (l : List S62) (x y d : Int) (hl : l.length ≤ 140737488351232) : Ev (fun k => laws_eqPlain.f k r l x y d r l x y d) true := by
  unfold laws_eqPlain.f
  exact ev_pos rfl (ev_bind (eqSpotS_ev l hl) (ev_pos rfl (ev_pos rfl (ev_pos rfl (ev_pos rfl (ev_some _))))))
def genS : Nat → Int → List Sp
  | 0, _ => []
  | n + 1, m => ⟨m, m + 1, m + 2⟩ :: genS n (m + 3)
theorem genS_length : ∀ (n : Nat) (m : Int), (genS n m).length = n
  | 0, _ => rfl
  | n + 1, m => by rw [genS, List.length_cons, genS_length n]
theorem rdSp_set (l : List Sp) (i : Nat) (v : Sp) (h : i < l.length) : rdSp (l.set i v) (i : Int) = v := by
  rw [rdSp_get _ i (by rw [List.length_set]; exact h), List.getElem_set_self]
theorem markS_loop (len : Nat) (hl : len ≤ 2000000) : ∀ (n i : Nat) (l : List Sp) (m : Int), l.length = len → i + n = len → 0 ≤ m → m ≤ 1 + 3 * i → Ev (fun k => laws_markSpotS.l0 k l m (i : Int)) (m + 3 * n, l.take i ++ genS n m)
  | 0, i, l, m, hll, e, h0, h1 => by
    refine ev_succ ?_
    simp only [laws_markSpotS.l0]
    rw [List.take_of_length_le (by omega)]
    simp only [genS, List.append_nil, Int.natCast_zero, Int.mul_zero, Int.add_zero]
    exact ev_neg (by omega) (ev_some _)
  | n + 1, i, l, m, hll, e, h0, h1 => by
    refine ev_succ ?_
    simp only [laws_markSpotS.l0]
    have hw : wrap64 ((i : Int) + 1) = ((i + 1 : Nat) : Int) := by rw [w64 (by omega) (by omega)]; omega
    have hm1 : wrap64 (m + 1) = m + 1 := w64 (by omega) (by omega)
    have hm2 : wrap64 (m + 1 + 1) = m + 2 := by rw [w64 (by omega) (by omega)]; omega
    have hm3 : wrap64 (m + 2 + 1) = m + 3 := by rw [w64 (by omega) (by omega)]; omega
    have hi : i < l.length := by omega
    rw [hw, hm1, hm2, hm3]
    simp only [Int.toNat_natCast]
    refine ev_pos (by omega) (ev_pos (by omega) (ev_bind (ev_some _) (ev_bind (ev_some _) ?_)))
    have rr : ∀ v : Sp, rd_T62 (l.set i v) (i : Int) = v := fun v => rdSp_set l i v hi
    simp only [rr, List.set_set]
    have ih := markS_loop len hl n (i + 1) (l.set i (⟨m, m + 1, m + 2⟩ : Sp)) (m + 3) (by rw [List.length_set]; exact hll) (by omega) (by omega) (by omega)
    have e1 : (l.set i (⟨m, m + 1, m + 2⟩ : Sp)).take (i + 1) ++ genS n (m + 3) = l.take i ++ genS (n + 1) m := by
      rw [List.take_succ_eq_append_getElem (by rw [List.length_set]; omega), List.take_set_of_le (Nat.le_refl i), List.getElem_set_self, List.append_assoc]
      rfl
    rw [e1, show m + 3 + 3 * (n : Int) = m + 3 * ((n + 1 : Nat) : Int) by omega] at ih
    exact ih
theorem markPlain_ev (r : ByteArray) (l : List Sp) (x y d : Int) (hl : l.length ≤ 2000000) : Ev (fun k => laws_markPlain.f k r l x y d 1) (1 + 3 * (l.length : Int), genS l.length 1) := by
  unfold laws_markPlain.f laws_markSpotS.f
  have := markS_loop l.length hl l.length 0 l 1 rfl (by omega) (by omega) (by omega)
  exact ev_bind this (ev_some _)
def mkI (n : Nat) : List Int := (List.range n).map fun (i : Nat) => 1 + (i : Int)
theorem mkI_succ (n : Nat) : mkI (n + 1) = mkI n ++ [1 + (n : Int)] := by unfold mkI; rw [List.range_succ, List.map_append]; rfl
theorem mkI_length (n : Nat) : (mkI n).length = n := by simp [mkI]
theorem mkI_rd (n i : Nat) (h : i < n) : rd (mkI n) (i : Int) = 1 + (i : Int) := by
  unfold rd
  rw [Int.toNat_natCast, List.getD_eq_getElem?_getD]
  simp [mkI, h]
theorem eqI_loop (l : List Int) (hl : l.length ≤ 1000000) : ∀ m i : Nat, i + m = l.length → Ev (fun k => laws_eqIntS.l0 k l l (i : Int)) true
  | 0, i, e => by
    refine ev_succ ?_
    simp only [laws_eqIntS.l0]
    exact ev_neg (by omega) (ev_some _)
  | m + 1, i, e => by
    refine ev_succ ?_
    simp only [laws_eqIntS.l0]
    have ih := eqI_loop l hl m (i + 1) (by omega)
    rw [w64 (by omega) (by omega)]
    exact ev_pos (by omega) (ev_pos (by omega) (ev_pos (by omega) (ev_pos (by first | rfl | trivial) ih)))
theorem eqI_ev (l : List Int) (hl : l.length ≤ 1000000) : Ev (fun k => laws_eqIntS.f k l l) true := by
  unfold laws_eqIntS.f
  exact ev_pos (by first | rfl | trivial) (eqI_loop l hl l.length 0 (by omega))
theorem markI_loop (l : List Int) (hl : l.length ≤ 1000000) : ∀ m i : Nat, i + m = l.length → Ev (fun k => laws_markIntS.l0 k (mkI i ++ l.drop i) (1 + (i : Int)) (i : Int)) (1 + (l.length : Int), mkI l.length)
  | 0, i, e => by
    have : i = l.length := by omega
    subst this
    refine ev_succ ?_
    simp only [laws_markIntS.l0]
    rw [List.drop_length, List.append_nil]
    exact ev_neg (by rw [mkI_length]; omega) (ev_some _)
  | m + 1, i, e => by
    refine ev_succ ?_
    simp only [laws_markIntS.l0]
    have ih := markI_loop l hl m (i + 1) (by omega)
    have hs : (mkI i ++ l.drop i).set i (1 + (i : Int)) = mkI (i + 1) ++ l.drop (i + 1) := by
      have hi : i < l.length := by omega
      rw [List.drop_eq_getElem_cons hi, List.set_append_right i _ (by rw [mkI_length]; exact Nat.le_refl _), mkI_length, Nat.sub_self, List.set_cons_zero, mkI_succ, List.append_assoc]
      rfl
    rw [Int.toNat_natCast, hs, w64 (x := 1 + (i : Int) + 1) (by omega) (by omega), w64 (x := (i : Int) + 1) (by omega) (by omega), show (1 : Int) + (i : Int) + 1 = 1 + ((i + 1 : Nat) : Int) by omega]
    exact ev_pos (by rw [List.length_append, mkI_length, List.length_drop]; omega) (ev_pos (by omega) ih)
theorem markI_ev (l : List Int) (hl : l.length ≤ 1000000) : Ev (fun k => laws_markIntS.f k l 1) (1 + (l.length : Int), mkI l.length) := markI_loop l hl l.length 0 (by omega)
theorem heldI_loop (n : Nat) (hl : n ≤ 1000000) : ∀ m i : Nat, i + m = n → Ev (fun k => laws_heldIntS.l0 k (mkI n) (1 + (i : Int)) (i : Int)) (1 + (n : Int))
  | 0, i, e => by
    have : i = n := by omega
    subst this
    refine ev_succ ?_
    simp only [laws_heldIntS.l0]
    exact ev_neg (by rw [mkI_length]; omega) (ev_some _)
  | m + 1, i, e => by
    refine ev_succ ?_
    simp only [laws_heldIntS.l0]
    have ih := heldI_loop n hl m (i + 1) (by omega)
    rw [w64 (x := 1 + (i : Int) + 1) (by omega) (by omega), w64 (x := (i : Int) + 1) (by omega) (by omega), show (1 : Int) + (i : Int) + 1 = 1 + ((i + 1 : Nat) : Int) by omega]
    exact ev_pos (by rw [mkI_length]; omega) (ev_pos (by omega) (ev_pos (mkI_rd n i (by omega)) ih))
theorem heldI_ev (n : Nat) (hl : n ≤ 1000000) : Ev (fun k => laws_heldIntS.f k (mkI n) 1) (1 + (n : Int)) := heldI_loop n hl n 0 (by omega)
abbrev Pt := S82
theorem rdPt_get (l : List Pt) (i : Nat) (h : i < l.length) : rd_T82 l (i : Int) = l[i] := by
  unfold rd_T82
  rw [Int.toNat_natCast, List.getD_eq_getElem?_getD, List.getElem?_eq_getElem h]
  rfl
def toPt (s : Sp) : Pt := ⟨s.f0, s.f1⟩
def boxF : List Pt → Int → Int → Int → Int → List Int
  | [], a, b, c, d => [a, b, c, d]
  | p :: l, a, b, c, d => boxF l (mn a p.f0) (mx b p.f0) (mn c p.f1) (mx d p.f1)
theorem boxF_length : ∀ (l : List Pt) (a b c d : Int), (boxF l a b c d).length = 4
  | [], _, _, _, _ => rfl
  | p :: l, a, b, c, d => boxF_length l _ _ _ _
theorem least_eq (a b : Int) : spec_l1Least.f a b = some (mn a b) := by
  unfold spec_l1Least.f mn
  by_cases h : a < b
  · rw [if_pos h, if_neg (by omega)]
  · rw [if_neg h]
    by_cases h2 : b < a
    · rw [if_pos h2]
    · rw [if_neg h2, show a = b by omega]
theorem most_eq (a b : Int) : spec_l1Most.f a b = some (mx a b) := by
  unfold spec_l1Most.f mx
  by_cases h : a > b
  · rw [if_pos h, if_neg (by omega)]
  · rw [if_neg h]
    by_cases h2 : a < b
    · rw [if_pos h2]
    · rw [if_neg h2, show a = b by omega]
theorem specBox_loop (l : List Sp) (hl : l.length ≤ 2000000) : ∀ (n i : Nat) (a b c d : Int), i + n = l.length → Ev (fun k => spec_enBox.l0 k [a, b, c, d] l (l.length : Int) (i : Int)) (boxF ((l.drop i).map toPt) a b c d)
  | 0, i, a, b, c, d, e => by
    refine ev_succ ?_
    simp only [spec_enBox.l0]
    rw [List.drop_of_length_le (by omega)]
    exact ev_neg (by omega) (ev_some _)
  | n + 1, i, a, b, c, d, e => by
    have hi : i < l.length := by omega
    have ih := specBox_loop l hl n (i + 1) (mn a l[i].f0) (mx b l[i].f0) (mn c l[i].f1) (mx d l[i].f1) (by omega)
    rw [List.drop_eq_getElem_cons hi]
    refine ev_succ ?_
    simp only [spec_enBox.l0]
    have hg : rd_T62 l (i : Int) = l[i] := rdSp_get l i hi
    rw [hg, w64 (x := (i : Int) + 1) (by omega) (by omega)]
    refine ev_pos (by omega) (ev_pos (by omega) (ev_pos (by omega) (ev_pos (by simp) (ev_bind (ev_const (least_eq a l[i].f0)) (ev_bind (ev_some [mn a l[i].f0, b, c, d]) (ev_pos (by simp) (ev_bind (ev_const (most_eq b l[i].f0)) (ev_bind (ev_some [mn a l[i].f0, mx b l[i].f0, c, d]) (ev_pos (by simp) (ev_bind (ev_const (least_eq c l[i].f1)) (ev_bind (ev_some [mn a l[i].f0, mx b l[i].f0, mn c l[i].f1, d]) (ev_pos (by simp) (ev_bind (ev_const (most_eq d l[i].f1)) ?_)))))))))))))
    exact ih
theorem implBox_loop (l : List Pt) (hl : l.length ≤ 2000000) : ∀ (n i : Nat) (a b c d : Int), i + n = l.length → Ev (fun k => impl_box.l0 k [a, b, c, d] l (l.length : Int) (i : Int)) (boxF (l.drop i) a b c d)
  | 0, i, a, b, c, d, e => by
    refine ev_succ ?_
    simp only [impl_box.l0]
    rw [List.drop_of_length_le (by omega)]
    exact ev_neg (by omega) (ev_some _)
  | n + 1, i, a, b, c, d, e => by
    have hi : i < l.length := by omega
    have ih := implBox_loop l hl n (i + 1) (mn a l[i].f0) (mx b l[i].f0) (mn c l[i].f1) (mx d l[i].f1) (by omega)
    rw [List.drop_eq_getElem_cons hi]
    refine ev_succ ?_
    simp only [impl_box.l0]
    rw [rdPt_get l i hi, w64 (x := (i : Int) + 1) (by omega) (by omega)]
    exact ev_pos (by omega) (ev_pos (by omega) (ev_pos (by omega) (ev_pos (by simp) (ev_pos (by simp) (ev_pos (by simp) (ev_pos (by simp) ih))))))
theorem mn_self (a : Int) : mn a a = a := by simp [mn]
theorem mx_self (a : Int) : mx a a = a := by simp [mx]
theorem implBox_ev (l : List Pt) (x y : Int) (hl : l.length ≤ 1000000) : Ev (fun k => impl_box.f k ((⟨x, y⟩ : Pt) :: l)) (boxF l x x y y) := by
  have h := implBox_loop ((⟨x, y⟩ : Pt) :: l) (by rw [List.length_cons]; omega) (l.length + 1) 0 x x y y (by rw [List.length_cons]; omega)
  rw [List.drop_zero, boxF] at h
  simp only [mn_self, mx_self] at h
  unfold impl_box.f
  rw [show rd_T82 ((⟨x, y⟩ : Pt) :: l) 0 = ⟨x, y⟩ from rfl]
  exact ev_pos (by rw [List.length_cons]; omega) h
theorem plainBox_loop (l : List Sp) (hl : l.length ≤ 1000000) (x y : Int) : ∀ (n i : Nat), i + n = l.length → Ev (fun k => impl_Plain_box.l0 k ((⟨x, y⟩ : Pt) :: (l.take i).map toPt) l (l.length : Int) (i : Int)) (boxF (l.map toPt) x x y y)
  | 0, i, e => by
    refine ev_succ ?_
    simp only [impl_Plain_box.l0]
    rw [List.take_of_length_le (by omega)]
    exact ev_neg (by omega) (ev_bind (implBox_ev _ x y (by rw [List.length_map]; omega)) (ev_some _))
  | n + 1, i, e => by
    have hi : i < l.length := by omega
    have ih := plainBox_loop l hl x y n (i + 1) (by omega)
    refine ev_succ ?_
    simp only [impl_Plain_box.l0]
    have hg : rd_T62 l (i : Int) = l[i] := rdSp_get l i hi
    rw [List.take_succ_eq_append_getElem hi, List.map_append] at ih
    rw [hg, w64 (x := (i : Int) + 1) (by omega) (by omega)]
    exact ev_pos (by omega) (ev_pos (by omega) (ev_pos (by omega) (ev_pos (by rw [List.length_cons, List.length_map, List.length_take]; omega) ih)))
theorem szPlain_le (r : ByteArray) (l : List SpL) (x y d : Int) (hr : r.size ≤ 140737488351232) (hl : l.length ≤ 140737488351232) : ∃ t, laws_szPlain.f r l x y d 1048576 = some t ∧ (0 ≤ t → l.length ≤ 1048576) := by
  unfold laws_szPlain.f laws_szSpotS.f
  rw [w64 (x := 1048576 - (r.size : Int)) (by omega) (by omega), w64 (x := 1048576 - (r.size : Int) - (l.length : Int)) (by omega) (by omega)]
  by_cases c : 1048576 - (r.size : Int) < 0
  · exact ⟨-1, if_pos c, by omega⟩
  · rw [if_neg c]
    by_cases c2 : 1048576 - (r.size : Int) - (l.length : Int) < 0
    · rw [if_pos c2]
      exact ⟨-1, rfl, by omega⟩
    · rw [if_neg c2]
      refine ⟨1048576 - (r.size : Int) - (l.length : Int), ?_, by omega⟩
      show (if 1048576 - (r.size : Int) - (l.length : Int) < 0 then _ else _) = _
      rw [if_neg c2]
theorem FnExactBoxOfPlain : LawHolds := by
  intro r l x y d hr ⟨_, hl, _⟩ _ _ _
  refine ev_out (g := fun k => laws_FnExactBoxOfPlain.f k r l x y d) ?_
  obtain ⟨t, ht, hz⟩ := szPlain_le r l x y d hr (by omega)
  have hto := toPlain_ev r l x y d hl
  unfold laws_FnExactBoxOfPlain.f
  refine ev_bind (ev_const ht) (ev_ite (fun _ => ev_some _) (fun c => ?_))
  have hL := hz (by omega)
  have hm : (l.map conv).length ≤ 1048576 := by rw [List.length_map]; exact hL
  have both : ∃ (G : List Int) (b : Bool), G.length ≤ 4 ∧ Ev (fun k => spec_BoxOfPlain.f k r (l.map conv) x y d) (G, b) ∧ Ev (fun k => impl_BoxOfPlain.f k r (l.map conv) x y d) (G, b) := by
    unfold spec_BoxOfPlain.f impl_BoxOfPlain.f
    have h1 := enGood_ev r (l.map conv) x y d hr (by omega)
    have h2 := implIsPlain_ev r (l.map conv) x y d hr (by omega)
    cases hc : plainOk r (l.map conv) x y d with
    | false => exact ⟨[], false, by simp, ev_bind (hc ▸ h1) (ev_neg (by simp) (ev_some _)), ev_bind (hc ▸ h2) (ev_neg (by simp) (ev_some _))⟩
    | true =>
      have h3 : (l.map conv).length ≤ 300 := by
        unfold plainOk at hc
        simp only [Bool.and_eq_true, decide_eq_true_eq] at hc
        omega
      refine ⟨boxF ((l.map conv).map toPt) x x y y, true, by rw [boxF_length]; omega, ev_bind (hc ▸ h1) (ev_pos rfl (ev_bind ?_ (ev_some _))), ev_bind (hc ▸ h2) (ev_pos rfl (ev_bind ?_ (ev_some _)))⟩
      · have := specBox_loop (l.map conv) (by omega) (l.map conv).length 0 x x y y (by omega)
        rw [List.drop_zero] at this
        exact this
      · exact plainBox_loop (l.map conv) (by omega) x y (l.map conv).length 0 (by omega)
  obtain ⟨G, b, hG, h1, h2⟩ := both
  have hb : ¬ ((b != b) = true) := by simp
  refine ev_bind hto (ev_bind h1 (ev_bind hto (ev_bind h2 (ev_bind (eqI_ev G (by omega)) (ev_pos rfl (ev_succ ?_))))))
  simp only [laws_FnExactBoxOfPlain.j0]
  refine ev_neg hb (ev_bind hto (ev_bind (eqPlain_ev r (l.map conv) x y d (by omega)) (ev_pos rfl (ev_bind (markPlain_ev r (l.map conv) x y d (by omega)) (ev_neg (by show ¬ (1 : Int) + 3 * _ < 0; omega) (ev_bind (eqI_ev G (by omega)) (ev_pos rfl (ev_succ ?_))))))))
  simp only [laws_FnExactBoxOfPlain.j1]
  refine ev_neg hb (ev_bind (markI_ev G (by omega)) (ev_bind (heldI_ev G.length (by omega)) (ev_neg (by omega) (ev_pos rfl (ev_bind hto (ev_bind h2 (ev_bind (eqI_ev G (by omega)) (ev_pos rfl (ev_succ ?_)))))))))
  simp only [laws_FnExactBoxOfPlain.j2]
  exact ev_neg hb (ev_bind (heldI_ev G.length (by omega)) (ev_neg (by omega) (ev_pos rfl (ev_some _))))

end Go.Proofs.YtpfnichcpbgikaaDoor.Pure
