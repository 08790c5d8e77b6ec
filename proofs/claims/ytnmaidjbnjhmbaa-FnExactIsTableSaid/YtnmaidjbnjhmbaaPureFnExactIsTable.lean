/- IsTable of the program and of the reference agree at every table. Conditions: those of reading alone. -/
import Derived.Test.YtnmaidjbnjhmbaaQFnExactIsTable
namespace Go.Proofs.Ytnmaidjbnjhmbaa.Pure
open Go.RowKit Go.Proofs.Ytnmaidjbnjhmbaa.PFnExactIsTable Go.Proofs.YtnmaidjbnjhmbaaW.PrintWords Go.Proofs.YtnmaidjbnjhmbaaW.PrintLast
set_option linter.unusedVariables false
set_option linter.unusedSimpArgs false
theorem ev_succ {α : Type} {g : Nat → Option α} {r : α} (h : Ev (fun k => g (k + 1)) r) : Ev g r := by
  obtain ⟨K, h⟩ := h
  refine ⟨K + 1, fun k hk => ?_⟩
  obtain ⟨j, rfl⟩ : ∃ j, k = j + 1 := ⟨k - 1, by omega⟩
  exact h j (by omega)
theorem ev_some {α : Type} (r : α) : Ev (fun _ => some r) r := ⟨0, fun _ _ => rfl⟩
theorem ev_const {α : Type} {x : Option α} {r : α} (h : x = some r) : Ev (fun _ => x) r := ⟨0, fun _ _ => h⟩
theorem ev_bind {α β : Type} {g : Nat → Option α} {f : Nat → α → Option β} {a : α} {r : β} (h : Ev g a) (k : Ev (fun n => f n a) r) : Ev (fun n => (g n).bind (f n)) r := by
  obtain ⟨K, h⟩ := h
  obtain ⟨L, k⟩ := k
  exact ⟨max K L, fun n hn => by show (g n).bind (f n) = some r; rw [h n (by omega)]; exact k n (by omega)⟩
theorem ev_pos {α : Type} {c : Prop} [Decidable c] {f g : Nat → Option α} {r : α} (hc : c) (h : Ev f r) : Ev (fun k => if c then f k else g k) r := by
  obtain ⟨K, h⟩ := h
  exact ⟨K, fun n hn => by show (if c then f n else g n) = some r; rw [if_pos hc]; exact h n hn⟩
theorem ev_neg {α : Type} {c : Prop} [Decidable c] {f g : Nat → Option α} {r : α} (hc : ¬ c) (h : Ev g r) : Ev (fun k => if c then f k else g k) r := by
  obtain ⟨K, h⟩ := h
  exact ⟨K, fun n hn => by show (if c then f n else g n) = some r; rw [if_neg hc]; exact h n hn⟩
theorem ev_ite {α : Type} {c : Prop} [Decidable c] {f g : Nat → Option α} {r : α} (h1 : c → Ev f r) (h2 : ¬ c → Ev g r) : Ev (fun k => if c then f k else g k) r := by
  by_cases hc : c
  · exact ev_pos hc (h1 hc)
  · exact ev_neg hc (h2 hc)
theorem ev_out {α : Type} {g : Nat → Option α} {r : α} (h : Ev g r) : ∃ k, g k = some r := by
  obtain ⟨K, h⟩ := h
  exact ⟨K, h K (Nat.le_refl _)⟩
theorem ev_uni {α : Type} {g : Nat → Option α} {r r' : α} (h : Ev g r) (h' : Ev g r') : r = r' := by
  obtain ⟨K, h⟩ := h
  obtain ⟨L, h'⟩ := h'
  have := (h (max K L) (by omega)).symm.trans (h' (max K L) (by omega))
  exact Option.some.inj this
theorem w64 {x : Int} (h1 : -9223372036854775808 ≤ x) (h2 : x ≤ 9223372036854775807) : wrap64 x = x := by
  unfold wrap64
  omega
theorem i64_range {x : Int} (h : (Lit.int .i64 x).wf = true) : -9223372036854775808 ≤ x ∧ x ≤ 9223372036854775807 := by
  have e1 : IntKind.i64.min = -9223372036854775808 := by decide
  have e2 : IntKind.i64.max = 9223372036854775807 := by decide
  have h' : IntKind.i64.min ≤ x ∧ x ≤ IntKind.i64.max := by simpa [Lit.wf] using h
  omega
theorem maxLen_eq : maxLen = 9223372036854775807 := rfl
def bl (a : ByteArray) : List Int := a.data.toList.map (fun b => (b.toNat : Int))
theorem size_data (a : ByteArray) : a.data.toList.length = a.size := by
  rw [Array.length_toList]
  rfl
theorem bl_length (a : ByteArray) : (bl a).length = a.size := by
  unfold bl
  rw [List.length_map, size_data]
theorem bl_get? (a : ByteArray) (i : Nat) (h : i < a.size) : (bl a)[i]? = some (bt a (i : Int)) := by
  unfold bl bt
  rw [List.getElem?_map, Array.getElem?_toList]
  have e : ((i : Int)).toNat = i := Int.toNat_natCast i
  have h2 : a.data[i]? = some (a.data[i]'h) := Array.getElem?_eq_getElem h
  rw [h2, dif_pos (by rw [e]; exact h)]
  simp only [e]
  rfl
theorem bl_get (a : ByteArray) (i : Nat) (h : i < (bl a).length) : (bl a)[i] = bt a (i : Int) := by
  have h2 := bl_get? a i (by rw [← bl_length]; exact h)
  rw [List.getElem?_eq_getElem h] at h2
  exact Option.some.inj h2
theorem bl_drop (a : ByteArray) (i : Nat) (h : i < a.size) : (bl a).drop i = bt a (i : Int) :: (bl a).drop (i + 1) := by
  have h' : i < (bl a).length := by rw [bl_length]; exact h
  rw [List.drop_eq_getElem_cons h', bl_get a i h']
theorem bl_drop_size (a : ByteArray) : (bl a).drop a.size = [] := by
  rw [List.drop_eq_nil_iff, bl_length]
  exact Nat.le_refl _
theorem bt_at_nat (a : ByteArray) (x : Int) (h : 0 ≤ x) : bt a x = bt a ((x.toNat : Nat) : Int) := by
  rw [Int.toNat_of_nonneg h]
theorem bl_range (a : ByteArray) : ∀ x ∈ bl a, 0 ≤ x ∧ x ≤ 255 := by
  intro x hx
  unfold bl at hx
  rw [List.mem_map] at hx
  obtain ⟨b, _, rfl⟩ := hx
  have := b.toNat_lt
  omega
theorem bl_inj {a b : ByteArray} (h : bl a = bl b) : a = b := by
  unfold bl at h
  have h2 : a.data.toList = b.data.toList := by
    refine List.map_inj_right (f := fun b : UInt8 => (b.toNat : Int)) ?_ |>.1 h
    intro x y e
    exact UInt8.toNat_inj.1 (by exact_mod_cast e)
  cases a with
  | mk x =>
    cases b with
    | mk y =>
      simp only at h2
      rw [Array.toList_inj.1 h2]
theorem in_eq (n lo hi : Int) : spec_l1In.f n lo hi = some (decide (lo ≤ n) && decide (n ≤ hi)) := by
  unfold spec_l1In.f
  by_cases h : n ≥ lo
  · rw [if_pos h]
    simp [show lo ≤ n from h]
  · rw [if_neg h]
    simp [show ¬ lo ≤ n from h]
theorem within_eq (n lo hi : Int) : impl_within.f n lo hi = some (decide (lo ≤ n) && decide (n ≤ hi)) := by
  unfold impl_within.f
  by_cases h : lo ≤ n
  · rw [if_pos h]
    simp [h]
  · rw [if_neg h]
    simp [h]
def inB (n lo hi : Int) : Bool := decide (lo ≤ n) && decide (n ≤ hi)
theorem inB_iff {n lo hi : Int} : inB n lo hi = true ↔ lo ≤ n ∧ n ≤ hi := by unfold inB; simp
theorem l1In_eq (n lo hi : Int) : spec_l1In.f n lo hi = some (inB n lo hi) := in_eq n lo hi
theorem wi_eq (n lo hi : Int) : impl_within.f n lo hi = some (inB n lo hi) := within_eq n lo hi
theorem ev_and {b r : Bool} {g : Nat → Option Bool} {f : Nat → Option Bool} (h : Ev g b) (k : b = true → Ev f r) : Ev (fun n => (g n).bind fun t => if t = true then f n else some false) (b && r) := by
  refine ev_bind h ?_
  cases b with
  | true => exact ev_pos rfl (k rfl)
  | false => exact ev_neg (by decide) (ev_some _)
theorem ev_and2 {b r : Bool} {g : Nat → Option Bool} {f E : Nat → Option Bool} (hE : Ev E false) (h : Ev g b) (k : b = true → Ev f r) : Ev (fun n => (g n).bind fun t => if t = true then f n else E n) (b && r) := by
  refine ev_bind h ?_
  cases b with
  | true => exact ev_pos rfl (k rfl)
  | false => exact ev_neg (by decide) hE
theorem ev_id {b : Bool} {g : Nat → Option Bool} (h : Ev g b) : Ev (fun n => (g n).bind fun t => some t) b := ev_bind h (ev_some _)
def signB (x : Int) : Bool := x == 76 || x == 82 || x == 78 || x == 85
def ruleOk (a : ByteArray) : Bool := decide (1 ≤ a.size) && decide (a.size ≤ 6) && (bl a).all signB
theorem woRule_loop (a : ByteArray) (hs : a.size ≤ 140737488351232) : ∀ (n i : Nat), i + n = a.size → Ev (fun k => spec_woRule.l0 k a (i : Int)) (((bl a).drop i).all signB)
  | 0, i, h => by
    refine ev_succ ?_
    simp only [spec_woRule.l0]
    have : i = a.size := by omega
    subst this
    rw [bl_drop_size]
    exact ev_neg (by omega) (ev_some _)
  | n + 1, i, h => by
    refine ev_succ ?_
    simp only [spec_woRule.l0]
    have hw : wrap64 ((i : Int) + 1) = ((i + 1 : Nat) : Int) := by rw [w64 (by omega) (by omega)]; omega
    have ih := woRule_loop a hs n (i + 1) (by omega)
    rw [hw, bl_drop a i (by omega), List.all_cons]
    refine ev_pos (by omega) (ev_pos (by omega) ?_)
    refine ev_ite (fun h1 => ?_) (fun h1 => ev_ite (fun h2 => ?_) (fun h2 => ev_ite (fun h3 => ?_) (fun h3 => ev_ite (fun h4 => ?_) (fun h4 => ?_))))
    · rw [h1]; exact ih
    · rw [h2]; exact ih
    · rw [h3]; exact ih
    · rw [h4]; exact ih
    · have : signB (bt a (i : Int)) = false := by unfold signB; simp [h1, h2, h3, h4]
      rw [this, Bool.false_and]
      exact ev_some _
theorem woRule_ev (a : ByteArray) (hs : a.size ≤ 140737488351232) : Ev (fun k => spec_woRule.f k a) (ruleOk a) := by
  unfold spec_woRule.f
  refine ev_bind (ev_const (in_eq _ _ _)) ?_
  unfold ruleOk
  by_cases h1 : 1 ≤ a.size
  · by_cases h2 : a.size ≤ 6
    · have := woRule_loop a hs a.size 0 (by omega)
      rw [List.drop_zero] at this
      rw [decide_eq_true (p := (1:Int) ≤ (a.size : Int)) (by omega), decide_eq_true (p := (a.size : Int) ≤ 6) (by omega), decide_eq_true h1, decide_eq_true h2]
      exact ev_pos rfl this
    · rw [decide_eq_false (p := (a.size : Int) ≤ 6) (by omega), decide_eq_false h2, Bool.and_false, Bool.and_false, Bool.false_and]
      exact ev_neg (by decide) (ev_some _)
  · rw [decide_eq_false (p := (1:Int) ≤ (a.size : Int)) (by omega), decide_eq_false h1, Bool.false_and, Bool.false_and, Bool.false_and]
    exact ev_neg (by decide) (ev_some _)
abbrev RwL := S44
abbrev Rw := S38
def conv (s : RwL) : Rw := ⟨s.f0, s.f1, s.f2⟩
theorem rdR_get (l : List Rw) (i : Nat) (h : i < l.length) : rd_T38 l (i : Int) = l[i] := by
  unfold rd_T38
  rw [Int.toNat_natCast, List.getD_eq_getElem?_getD, List.getElem?_eq_getElem h]
  rfl
theorem rdRL_get (l : List RwL) (i : Nat) (h : i < l.length) : rd_T44 l (i : Int) = l[i] := by
  unfold rd_T44
  rw [Int.toNat_natCast, List.getD_eq_getElem?_getD, List.getElem?_eq_getElem h]
  rfl
theorem szRowS_loop (l : List RwL) (hl : l.length ≤ 140737488351232) (hz : ∀ y ∈ l, y.f1.size ≤ 140737488351232) : ∀ (n i : Nat) (m : Int), i + n = l.length → -1 ≤ m → m ≤ 1048576 → ∃ t, Ev (fun k => laws_szRowS.l0 k l m (i : Int)) t
  | 0, i, m, e, _, _ => ⟨m, by
    refine ev_succ ?_
    simp only [laws_szRowS.l0]
    exact ev_neg (by omega) (ev_some _)⟩
  | n + 1, i, m, e, m0, m1 => by
    have hi : i < l.length := by omega
    have hs := hz _ (List.getElem_mem hi)
    have hw : wrap64 ((i : Int) + 1) = ((i + 1 : Nat) : Int) := by rw [w64 (by omega) (by omega)]; omega
    have hx : wrap64 (m - (l[i].f1.size : Int)) = m - (l[i].f1.size : Int) := w64 (by omega) (by omega)
    by_cases hn : m - (l[i].f1.size : Int) < 0
    · refine ⟨-1, ev_succ ?_⟩
      simp only [laws_szRowS.l0]
      rw [rdRL_get l i hi]
      refine ev_pos (by omega) (ev_pos (by omega) (ev_bind (a := -1) (ev_const ?_) (ev_pos (by omega) (ev_some _))))
      unfold laws_szRow.f
      rw [hx, if_pos hn]
    · obtain ⟨t, ht⟩ := szRowS_loop l hl hz n (i + 1) (m - (l[i].f1.size : Int)) (by omega) (by omega) (by omega)
      refine ⟨t, ev_succ ?_⟩
      simp only [laws_szRowS.l0]
      rw [rdRL_get l i hi, hw]
      refine ev_pos (by omega) (ev_pos (by omega) (ev_bind (a := m - (l[i].f1.size : Int)) (ev_const ?_) (ev_neg hn ht)))
      unfold laws_szRow.f
      rw [hx, if_neg hn]
theorem szTable_ev (s t : Int) (l : List RwL) (m : Int) (m0 : -1 ≤ m) (m1 : m ≤ 1048576) (hl : l.length ≤ 140737488351232) (hz : ∀ y ∈ l, y.f1.size ≤ 140737488351232) : ∃ z, Ev (fun k => laws_szTable.f k s t l m) z := by
  unfold laws_szTable.f
  have key : ∃ z, Ev (fun k => laws_szRowS.f k l m) z := by
    unfold laws_szRowS.f
    have hx : wrap64 (m - (l.length : Int)) = m - (l.length : Int) := w64 (by omega) (by omega)
    rw [hx]
    by_cases hn : m - (l.length : Int) < 0
    · exact ⟨-1, ev_pos hn (ev_some _)⟩
    · obtain ⟨z, h⟩ := szRowS_loop l hl hz l.length 0 (m - (l.length : Int)) (by omega) (by omega) (by omega)
      exact ⟨z, ev_neg hn h⟩
  obtain ⟨z, h⟩ := key
  by_cases hn : z < 0
  · exact ⟨-1, ev_bind h (ev_pos hn (ev_some _))⟩
  · exact ⟨z, ev_bind h (ev_neg hn (ev_some _))⟩
theorem toRowS_loop (l : List RwL) (hl : l.length ≤ 140737488351232) : ∀ (n i : Nat) (acc : List Rw), i + n = l.length → acc.length = l.length → Ev (fun k => laws_toRowS.l0 k l acc (i : Int)) (acc.take i ++ (l.drop i).map conv)
  | 0, i, acc, e, ha => by
    refine ev_succ ?_
    simp only [laws_toRowS.l0]
    rw [List.take_of_length_le (by omega), List.drop_eq_nil_of_le (by omega), List.map_nil, List.append_nil]
    exact ev_neg (by omega) (ev_some _)
  | n + 1, i, acc, e, ha => by
    refine ev_succ ?_
    simp only [laws_toRowS.l0]
    have hw : wrap64 ((i : Int) + 1) = ((i + 1 : Nat) : Int) := by rw [w64 (by omega) (by omega)]; omega
    have hi : i < l.length := by omega
    rw [hw, rdRL_get l i hi]
    have ih := toRowS_loop l hl n (i + 1) (acc.set i (conv l[i])) (by omega) (by rw [List.length_set]; exact ha)
    have e2 : (acc.set i (conv l[i])).take (i + 1) ++ (l.drop (i + 1)).map conv = acc.take i ++ (l.drop i).map conv := by
      rw [List.drop_eq_getElem_cons hi, List.map_cons, List.take_succ_eq_append_getElem (by rw [List.length_set]; omega), List.take_set_of_le (Nat.le_refl i), List.getElem_set_self, List.append_assoc]
      rfl
    rw [e2] at ih
    refine ev_pos (by omega) (ev_pos (by omega) (ev_bind (a := (l[i].f0, l[i].f1, l[i].f2)) (ev_const rfl) (ev_pos (by omega) ?_)))
    rw [Int.toNat_natCast]
    exact ih
theorem toTable_ev (s t : Int) (l : List RwL) (hl : l.length * 32 ≤ 140737488351232) : Ev (fun k => laws_toTable.f k s t l) (s, t, l.map conv) := by
  unfold laws_toTable.f
  refine ev_bind ?_ (ev_some _)
  unfold laws_toRowS.f
  refine ev_pos (by omega) (ev_pos (by omega) ?_)
  have := toRowS_loop l (by omega) l.length 0 (List.replicate ((l.length : Int)).toNat z38) (by omega) (by simp)
  simpa using this
def taSignB (a : ByteArray) : Bool := decide (a.size = 1) && ruleOk a
def rowB (s t : Int) (r : Rw) : Bool := inB r.f0 0 (wrap64 (t - 1)) && (taSignB r.f1 && inB r.f2 0 (wrap64 (s - 1)))
def tableOk (s t : Int) (l : List Rw) : Bool := inB s 1 4 && (inB t 1 4 && (((l.length : Int) == wrap64 (s * t)) && l.all (rowB s t)))
theorem taSign_ev (a : ByteArray) (ha : a.size ≤ 140737488351232) : Ev (fun k => spec_taSign.f k a) (taSignB a) := by
  unfold spec_taSign.f taSignB
  by_cases h : a.size = 1
  · rw [decide_eq_true h, Bool.true_and]
    exact ev_pos (by omega) (ev_id (woRule_ev a ha))
  · rw [decide_eq_false h, Bool.false_and]
    exact ev_neg (by omega) (ev_some _)
theorem taGood_loop (s t : Int) (l : List Rw) (hl : l.length ≤ 140737488351232) (hz : ∀ y ∈ l, y.f1.size ≤ 140737488351232) : ∀ (n i : Nat), i + n = l.length → Ev (fun k => spec_taGood.l0 k l (l.length : Int) (i : Int) s t l) ((l.drop i).all (rowB s t))
  | 0, i, e => by
    refine ev_succ ?_
    simp only [spec_taGood.l0]
    rw [List.drop_eq_nil_of_le (by omega)]
    exact ev_neg (by omega) (ev_some _)
  | n + 1, i, e => by
    refine ev_succ ?_
    simp only [spec_taGood.l0]
    have hw : wrap64 ((i : Int) + 1) = ((i + 1 : Nat) : Int) := by rw [w64 (by omega) (by omega)]; omega
    have hi : i < l.length := by omega
    rw [hw, rdR_get l i hi, List.drop_eq_getElem_cons hi, List.all_cons]
    refine ev_pos (by omega) (ev_pos (by omega) (ev_pos (by omega) ?_))
    unfold rowB
    rw [Bool.and_assoc, Bool.and_assoc]
    exact ev_and (ev_const (l1In_eq _ _ _)) fun _ => ev_and (taSign_ev _ (hz _ (List.getElem_mem hi))) fun _ => ev_and (ev_const (l1In_eq _ _ _)) fun _ => taGood_loop s t l hl hz n (i + 1) (by omega)
theorem taGood_ev (s t : Int) (l : List Rw) (hl : l.length ≤ 140737488351232) (hz : ∀ y ∈ l, y.f1.size ≤ 140737488351232) : Ev (fun k => spec_taGood.f k s t l) (tableOk s t l) := by
  unfold spec_taGood.f tableOk
  have hE : Ev (fun k => spec_taGood.j0 k true s t l) false := by
    refine ev_succ ?_
    simp only [spec_taGood.j0]
    exact ev_pos (by first | rfl | trivial) (ev_some _)
  refine ev_and2 hE (ev_const (l1In_eq _ _ _)) fun _ => ev_and2 hE (ev_const (l1In_eq _ _ _)) fun _ => ?_
  refine ev_succ ?_
  simp only [spec_taGood.j0]
  have hg := taGood_loop s t l hl hz l.length 0 (by omega)
  rw [List.drop_zero] at hg
  by_cases he : (l.length : Int) = wrap64 (s * t)
  · rw [show ((l.length : Int) == wrap64 (s * t)) = true from beq_iff_eq.2 he, Bool.true_and]
    exact ev_neg (by simp [he]) hg
  · rw [show ((l.length : Int) == wrap64 (s * t)) = false from beq_eq_false_iff_ne.2 he, Bool.false_and]
    exact ev_pos (by simp [he]) (ev_some _)
theorem ok_eq (s t : Int) (r : Rw) : impl_IsTable_1.ok r.f0 r.f1 r.f2 s t = rowB s t r := by
  have e : (decide (r.f1.size = 1) && decide (0 ≤ Lib.indexByte [76, 82, 78, 85] (r.f1.data.toList.getD 0 0))) = taSignB r.f1 := by
    unfold taSignB ruleOk
    by_cases h : r.f1.size = 1
    · obtain ⟨b, hb⟩ : ∃ b, r.f1 = ⟨#[b]⟩ := by
        generalize r.f1 = a at h
        obtain ⟨⟨l⟩⟩ := a
        match l, h with
        | [b], _ => exact ⟨b, rfl⟩
      rw [hb]
      have key : ∀ b : UInt8, decide (0 ≤ Lib.indexByte [76, 82, 78, 85] b) = signB (b.toNat : Int) := by
        intro b
        have : ∀ n : Fin 256, decide (0 ≤ Lib.indexByte [76, 82, 78, 85] (UInt8.ofNat n.1)) = signB (((UInt8.ofNat n.1).toNat : Nat) : Int) := by decide +kernel
        have h2 := this ⟨b.toNat, b.toNat_lt⟩
        simpa using h2
      have hk := key b
      show (decide ((1 : Nat) = 1) && decide (0 ≤ Lib.indexByte [76, 82, 78, 85] b)) = (decide ((1 : Nat) = 1) && ((decide (1 ≤ (1 : Nat)) && decide ((1 : Nat) ≤ 6)) && ([(b.toNat : Int)].all signB)))
      rw [hk]
      simp
    · rw [decide_eq_false h, Bool.false_and, Bool.false_and]
  unfold impl_IsTable_1.ok rowB inB
  rw [e]
  cases (decide (0 ≤ r.f0) && decide (r.f0 ≤ wrap64 (t - 1))) <;> cases (decide (0 ≤ r.f2) && decide (r.f2 ≤ wrap64 (s - 1))) <;> cases taSignB r.f1 <;> rfl
theorem index_loop (s t : Int) (l : List Rw) (hl : l.length ≤ 140737488351232) : ∀ (n i : Nat), i + n = l.length → ∃ z : Int, Ev (fun k => impl_Row_24.l0 k l s t (l.length : Int) (i : Int)) z ∧ (decide (z ≥ 0) = !((l.drop i).all (rowB s t)))
  | 0, i, e => by
    refine ⟨-1, ev_succ ?_, ?_⟩
    · simp only [impl_Row_24.l0]
      exact ev_neg (by omega) (ev_some _)
    · rw [List.drop_eq_nil_of_le (by omega)]; rfl
  | n + 1, i, e => by
    have hw : wrap64 ((i : Int) + 1) = ((i + 1 : Nat) : Int) := by rw [w64 (by omega) (by omega)]; omega
    have hi : i < l.length := by omega
    cases hb : rowB s t l[i] with
    | false =>
      refine ⟨(i : Int), ev_succ ?_, ?_⟩
      · simp only [impl_Row_24.l0]
        rw [rdR_get l i hi]
        refine ev_pos (by omega) (ev_pos (by omega) (ev_pos (by omega) (ev_bind (a := true) (ev_const ?_) (ev_pos rfl (ev_some _)))))
        unfold impl_IsTable_1.f
        rw [ok_eq, hb]
        rfl
      · rw [List.drop_eq_getElem_cons hi, List.all_cons, hb]
        simp
    | true =>
      obtain ⟨z, h1, h2⟩ := index_loop s t l hl n (i + 1) (by omega)
      refine ⟨z, ev_succ ?_, ?_⟩
      · simp only [impl_Row_24.l0]
        rw [rdR_get l i hi, hw]
        refine ev_pos (by omega) (ev_pos (by omega) (ev_pos (by omega) (ev_bind (a := false) (ev_const ?_) (ev_neg (by decide) h1))))
        unfold impl_IsTable_1.f
        rw [ok_eq, hb]
        rfl
      · rw [h2, List.drop_eq_getElem_cons hi, List.all_cons, hb, Bool.true_and]
theorem implIsTable_ev (s t : Int) (l : List Rw) (hl : l.length ≤ 140737488351232) : Ev (fun k => impl_IsTable.f k s t l) (tableOk s t l) := by
  unfold impl_IsTable.f tableOk
  have hsh : impl_isShape.f s t = some (inB s 1 4 && inB t 1 4) := by
    unfold impl_isShape.f
    rw [wi_eq, wi_eq]
    cases inB s 1 4 <;> rfl
  rw [← Bool.and_assoc]
  refine ev_and (ev_const hsh) fun _ => ?_
  by_cases he : (l.length : Int) = wrap64 (s * t)
  · rw [show ((l.length : Int) == wrap64 (s * t)) = true from beq_iff_eq.2 he, Bool.true_and]
    obtain ⟨z, h1, h2⟩ := index_loop s t l hl l.length 0 (by omega)
    rw [List.drop_zero] at h2
    refine ev_pos he (ev_bind (a := !(l.all (rowB s t))) ?_ ?_)
    · unfold impl_Row_13.f impl_Row_24.f
      exact ev_bind h1 (ev_const (by rw [h2]))
    · exact ev_const (by rw [Bool.not_not])
  · rw [show ((l.length : Int) == wrap64 (s * t)) = false from beq_eq_false_iff_ne.2 he, Bool.false_and]
    exact ev_neg he (ev_some _)
theorem eqRowS_loop (l : List Rw) (hl : l.length ≤ 140737488351232) : ∀ (n i : Nat), i + n = l.length → Ev (fun k => laws_eqRowS.l0 k l l (i : Int)) true
  | 0, i, e => by
    refine ev_succ ?_
    simp only [laws_eqRowS.l0]
    exact ev_neg (by omega) (ev_some _)
  | n + 1, i, e => by
    refine ev_succ ?_
    simp only [laws_eqRowS.l0]
    have hw : wrap64 ((i : Int) + 1) = ((i + 1 : Nat) : Int) := by rw [w64 (by omega) (by omega)]; omega
    rw [hw]
    have he : ∀ (a : Int) (b : ByteArray) (c : Int), laws_eqRow.f a b c a b c = some true := by
      intros
      simp [laws_eqRow.f]
    exact ev_pos (by omega) (ev_pos (by omega) (ev_pos (by omega) (ev_bind (ev_const (he ..)) (ev_pos rfl (eqRowS_loop l hl n (i + 1) (by omega))))))
theorem eqTable_ev (s t : Int) (l : List Rw) (hl : l.length ≤ 140737488351232) : Ev (fun k => laws_eqTable.f k s t l s t l) true := by
  unfold laws_eqTable.f laws_eqRowS.f
  exact ev_pos rfl (ev_pos rfl (ev_bind (ev_pos rfl (eqRowS_loop l hl l.length 0 (by omega))) (ev_pos rfl (ev_some _))))
theorem FnExactIsTable : LawHolds := by
  intro s t l hs ht hl
  obtain ⟨hl1, hl2, hl3⟩ := hl
  refine ev_out (g := fun n => laws_FnExactIsTable.f n s t l) ?_
  obtain ⟨z, hz⟩ := szTable_ev s t l 1048576 (by omega) (by omega) (by omega) (fun y hy => (hl3 y hy).2.1)
  have hto := toTable_ev s t l (by omega)
  have hlen : (l.map conv).length ≤ 140737488351232 := by rw [List.length_map]; omega
  have hsz : ∀ y ∈ l.map conv, y.f1.size ≤ 140737488351232 := by
    intro y hy
    obtain ⟨x, hx, rfl⟩ := List.mem_map.1 hy
    exact (hl3 x hx).2.1
  unfold laws_FnExactIsTable.f
  refine ev_bind hz (ev_ite (fun _ => ev_some _) (fun _ => ev_bind hto ?_))
  have h1 : Ev (fun k => spec_IsTable.f k s t (l.map conv)) (tableOk s t (l.map conv)) := by
    unfold spec_IsTable.f
    exact ev_id (taGood_ev s t _ hlen hsz)
  exact ev_bind h1 (ev_bind hto (ev_bind (implIsTable_ev s t _ hlen) (ev_neg (by simp) (ev_bind hto (ev_bind (eqTable_ev s t _ hlen) (ev_pos rfl (ev_some _)))))))

end Go.Proofs.Ytnmaidjbnjhmbaa.Pure
