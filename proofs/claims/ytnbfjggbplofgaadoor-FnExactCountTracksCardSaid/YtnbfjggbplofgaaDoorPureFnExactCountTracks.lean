/- CountTracks of the program and of the reference agree at every maze. Conditions: those of reading alone. -/
import Derived.Test.YtnbfjggbplofgaaDoorQFnExactCountTracks
namespace Go.Proofs.YtnbfjggbplofgaaDoor.Pure
open Go.RowKit Go.Proofs.YtnbfjggbplofgaaDoor.PFnExactCountTracks Go.Proofs.YtnbfjggbplofgaaDoorW.PrintWords Go.Proofs.YtnbfjggbplofgaaDoorW.PrintLast
set_option linter.unusedVariables false
set_option linter.unusedSimpArgs false
theorem ev_succ {α : Type} {g : Nat → Option α} {r : α} (h : Ev (fun k => g (k + 1)) r) : Ev g r := by
  obtain ⟨K, h⟩ := h
  refine ⟨K + 1, fun k hk => ?_⟩
  obtain ⟨j, rfl⟩ : ∃ j, k = j + 1 := ⟨k - 1, by omega⟩
  exact h j (by omega)
theorem ev_some {α : Type} (r : α) : Ev (fun _ => some r) r := ⟨0, fun _ _ => rfl⟩
theorem ev_const {α : Type} {x : Option α} {r : α} (h : x = some r) : Ev (fun _ => x) r := ⟨0, fun _ _ => h⟩
theorem ev_bind {α β : Type} {g : Nat → Option α} {f : Nat → α → Option β} {a : α} {r : β} (h : Ev g a) (k : Ev (fun n => f n a) r) : Ev (fun n => (g n).bind (f n)) r := by
  obtain ⟨K, h⟩ := h
  obtain ⟨L, k⟩ := k
  exact ⟨max K L, fun n hn => by show (g n).bind (f n) = some r; rw [h n (by omega)]; exact k n (by omega)⟩
theorem ev_pos {α : Type} {c : Prop} [Decidable c] {f g : Nat → Option α} {r : α} (hc : c) (h : Ev f r) : Ev (fun k => if c then f k else g k) r := by
  obtain ⟨K, h⟩ := h
  exact ⟨K, fun n hn => by show (if c then f n else g n) = some r; rw [if_pos hc]; exact h n hn⟩
theorem ev_neg {α : Type} {c : Prop} [Decidable c] {f g : Nat → Option α} {r : α} (hc : ¬ c) (h : Ev g r) : Ev (fun k => if c then f k else g k) r := by
  obtain ⟨K, h⟩ := h
  exact ⟨K, fun n hn => by show (if c then f n else g n) = some r; rw [if_neg hc]; exact h n hn⟩
theorem ev_ite {α : Type} {c : Prop} [Decidable c] {f g : Nat → Option α} {r : α} (h1 : c → Ev f r) (h2 : ¬ c → Ev g r) : Ev (fun k => if c then f k else g k) r := by
  by_cases hc : c
  · exact ev_pos hc (h1 hc)
  · exact ev_neg hc (h2 hc)
theorem ev_out {α : Type} {g : Nat → Option α} {r : α} (h : Ev g r) : ∃ k, g k = some r := by
  obtain ⟨K, h⟩ := h
  exact ⟨K, h K (Nat.le_refl _)⟩
theorem ev_uni {α : Type} {g : Nat → Option α} {r r' : α} (h : Ev g r) (h' : Ev g r') : r = r' := by
  obtain ⟨K, h⟩ := h
  obtain ⟨L, h'⟩ := h'
  have := (h (max K L) (by omega)).symm.trans (h' (max K L) (by omega))
  exact Option.some.inj this
theorem w64 {x : Int} (h1 : -9223372036854775808 ≤ x) (h2 : x ≤ 9223372036854775807) : wrap64 x = x := by
  unfold wrap64
  omega
theorem i64_range {x : Int} (h : (Lit.int .i64 x).wf = true) : -9223372036854775808 ≤ x ∧ x ≤ 9223372036854775807 := by
  have e1 : IntKind.i64.min = -9223372036854775808 := by decide
  have e2 : IntKind.i64.max = 9223372036854775807 := by decide
  have h' : IntKind.i64.min ≤ x ∧ x ≤ IntKind.i64.max := by simpa [Lit.wf] using h
  omega
theorem maxLen_eq : maxLen = 9223372036854775807 := rfl
def bl (a : ByteArray) : List Int := a.data.toList.map (fun b => (b.toNat : Int))
theorem size_data (a : ByteArray) : a.data.toList.length = a.size := by
  rw [Array.length_toList]
  rfl
theorem bl_length (a : ByteArray) : (bl a).length = a.size := by
  unfold bl
  rw [List.length_map, size_data]
theorem bl_get? (a : ByteArray) (i : Nat) (h : i < a.size) : (bl a)[i]? = some (bt a (i : Int)) := by
  unfold bl bt
  rw [List.getElem?_map, Array.getElem?_toList]
  have e : ((i : Int)).toNat = i := Int.toNat_natCast i
  have h2 : a.data[i]? = some (a.data[i]'h) := Array.getElem?_eq_getElem h
  rw [h2, dif_pos (by rw [e]; exact h)]
  simp only [e]
  rfl
theorem bl_get (a : ByteArray) (i : Nat) (h : i < (bl a).length) : (bl a)[i] = bt a (i : Int) := by
  have h2 := bl_get? a i (by rw [← bl_length]; exact h)
  rw [List.getElem?_eq_getElem h] at h2
  exact Option.some.inj h2
theorem bl_drop (a : ByteArray) (i : Nat) (h : i < a.size) : (bl a).drop i = bt a (i : Int) :: (bl a).drop (i + 1) := by
  have h' : i < (bl a).length := by rw [bl_length]; exact h
  rw [List.drop_eq_getElem_cons h', bl_get a i h']
theorem bl_drop_size (a : ByteArray) : (bl a).drop a.size = [] := by
  rw [List.drop_eq_nil_iff, bl_length]
  exact Nat.le_refl _
theorem bt_at_nat (a : ByteArray) (x : Int) (h : 0 ≤ x) : bt a x = bt a ((x.toNat : Nat) : Int) := by
  rw [Int.toNat_of_nonneg h]
theorem bl_range (a : ByteArray) : ∀ x ∈ bl a, 0 ≤ x ∧ x ≤ 255 := by
  intro x hx
  unfold bl at hx
  rw [List.mem_map] at hx
  obtain ⟨b, _, rfl⟩ := hx
  have := b.toNat_lt
  omega
theorem bl_inj {a b : ByteArray} (h : bl a = bl b) : a = b := by
  unfold bl at h
  have h2 : a.data.toList = b.data.toList := by
    refine List.map_inj_right (f := fun b : UInt8 => (b.toNat : Int)) ?_ |>.1 h
    intro x y e
    exact UInt8.toNat_inj.1 (by exact_mod_cast e)
  cases a with
  | mk x =>
    cases b with
    | mk y =>
      simp only at h2
      rw [Array.toList_inj.1 h2]
theorem in_eq (n lo hi : Int) : spec_l1In.f n lo hi = some (decide (lo ≤ n) && decide (n ≤ hi)) := by
  unfold spec_l1In.f
  by_cases h : n ≥ lo
  · rw [if_pos h]
    simp [show lo ≤ n from h]
  · rw [if_neg h]
    simp [show ¬ lo ≤ n from h]
theorem within_eq (n lo hi : Int) : impl_within.f n lo hi = some (decide (lo ≤ n) && decide (n ≤ hi)) := by
  unfold impl_within.f
  by_cases h : lo ≤ n
  · rw [if_pos h]
    simp [h]
  · rw [if_neg h]
    simp [h]
def inB (n lo hi : Int) : Bool := decide (lo ≤ n) && decide (n ≤ hi)
theorem inB_iff {n lo hi : Int} : inB n lo hi = true ↔ lo ≤ n ∧ n ≤ hi := by unfold inB; simp
theorem l1In_eq (n lo hi : Int) : spec_l1In.f n lo hi = some (inB n lo hi) := in_eq n lo hi
theorem wi_eq (n lo hi : Int) : impl_within.f n lo hi = some (inB n lo hi) := within_eq n lo hi
theorem ev_and {b r : Bool} {g : Nat → Option Bool} {f : Nat → Option Bool} (h : Ev g b) (k : b = true → Ev f r) : Ev (fun n => (g n).bind fun t => if t = true then f n else some false) (b && r) := by
  refine ev_bind h ?_
  cases b with
  | true => exact ev_pos rfl (k rfl)
  | false => exact ev_neg (by decide) (ev_some _)
theorem ev_and2 {b r : Bool} {g : Nat → Option Bool} {f E : Nat → Option Bool} (hE : Ev E false) (h : Ev g b) (k : b = true → Ev f r) : Ev (fun n => (g n).bind fun t => if t = true then f n else E n) (b && r) := by
  refine ev_bind h ?_
  cases b with
  | true => exact ev_pos rfl (k rfl)
  | false => exact ev_neg (by decide) hE
theorem ev_id {b : Bool} {g : Nat → Option Bool} (h : Ev g b) : Ev (fun n => (g n).bind fun t => some t) b := ev_bind h (ev_some _)
theorem dropWhile_all {α : Type} (p : α → Bool) : ∀ l : List α, (∀ x ∈ l.dropWhile p, p x = true) → l.dropWhile p = []
  | [], _ => rfl
  | a :: t, h => by
    by_cases ha : p a = true
    · rw [List.dropWhile_cons_of_pos ha] at h ⊢
      exact dropWhile_all p t h
    · rw [List.dropWhile_cons_of_neg ha] at h
      exact absurd (h a (List.mem_cons_self ..)) ha
theorem dropWhile_nil {α : Type} (p : α → Bool) : ∀ l : List α, l.dropWhile p = [] ↔ ∀ x ∈ l, p x = true
  | [] => by simp
  | a :: t => by
    by_cases ha : p a = true
    · rw [List.dropWhile_cons_of_pos ha, dropWhile_nil p t]
      simp [ha]
    · rw [List.dropWhile_cons_of_neg ha]
      simp [ha]
theorem trimS_nil (l cs : List UInt8) : Lib.trimS l cs = [] ↔ ∀ x ∈ l, cs.contains x = true := by
  unfold Lib.trimS Lib.trimLeftS Lib.trimRightS
  constructor
  · intro h
    rw [dropWhile_nil] at h
    have h2 : ∀ x ∈ l.reverse.dropWhile (cs.contains ·), cs.contains x = true := fun x hx => h x (List.mem_reverse.2 hx)
    have h3 := dropWhile_all (cs.contains ·) _ h2
    rw [dropWhile_nil] at h3
    exact fun x hx => h3 x (List.mem_reverse.2 hx)
  · intro h
    rw [dropWhile_nil]
    intro x hx
    rw [List.mem_reverse] at hx
    exact h x (List.mem_reverse.1 ((List.dropWhile_sublist _).subset hx))
theorem bl_all (a : ByteArray) (p : Int → Bool) : (bl a).all p = a.data.toList.all (fun b => p (b.toNat : Int)) := by
  unfold bl
  rw [List.all_map]
  rfl
theorem trim_empty (a c : ByteArray) (ha : a.size ≤ 140737488351232) (hc : c.size < 4294967281) (h8 : c.data.toList.all (fun b => decide (b.toNat < 128)) = true) (p : Int → Bool)
    (hp : ∀ b : UInt8, c.data.toList.contains b = p (b.toNat : Int)) : (strings_Trim.f a c).bind (fun t => some (t.toList == ([] : List UInt8))) = some ((bl a).all p) := by
  unfold strings_Trim.f
  rw [if_pos ⟨by omega, hc, h8⟩]
  show some _ = some _
  congr 1
  have e : ∀ l : List UInt8, (⟨l.toArray⟩ : ByteArray).toList = l := fun l => by rw [Lib.toList_data]
  rw [e, bl_all]
  rw [Bool.eq_iff_iff, beq_iff_eq, trimS_nil, List.all_eq_true]
  exact forall_congr' fun x => by rw [hp x]
def mirB (x : Int) : Bool := x == 46 || x == 90 || x == 83
def mazeOk (w h : Int) (c : ByteArray) : Bool := inB w 1 9 && (inB h 1 9 && (((c.size : Int) == wrap64 (w * h)) && (bl c).all mirB))
theorem miGood_loop (w h : Int) (c : ByteArray) (u : Bool) (hs : c.size ≤ 140737488351232) : ∀ (n i : Nat), i + n = c.size → Ev (fun k => spec_miGood.l0 k (i : Int) w h c u) (((bl c).drop i).all mirB)
  | 0, i, e => by
    refine ev_succ ?_
    simp only [spec_miGood.l0]
    have : i = c.size := by omega
    subst this
    rw [bl_drop_size, List.all_nil]
    exact ev_neg (by omega) (ev_some _)
  | n + 1, i, e => by
    refine ev_succ ?_
    simp only [spec_miGood.l0]
    have hw : wrap64 ((i : Int) + 1) = ((i + 1 : Nat) : Int) := by rw [w64 (by omega) (by omega)]; omega
    have ih := miGood_loop w h c u hs n (i + 1) (by omega)
    rw [hw, bl_drop c i (by omega), List.all_cons]
    refine ev_pos (by omega) (ev_pos (by omega) ?_)
    refine ev_ite (fun h1 => ?_) (fun h1 => ev_ite (fun h2 => ?_) (fun h2 => ev_ite (fun h3 => ?_) (fun h3 => ?_)))
    · rw [h1]; exact ih
    · rw [h2]; exact ih
    · rw [h3]; exact ih
    · have : mirB (bt c (i : Int)) = false := by unfold mirB; simp [h1, h2, h3]
      rw [this, Bool.false_and]
      exact ev_some _
theorem miGood_ev (w h : Int) (c : ByteArray) (u : Bool) (hs : c.size ≤ 140737488351232) : Ev (fun k => spec_miGood.f k w h c u) (mazeOk w h c) := by
  unfold spec_miGood.f mazeOk
  have hE : Ev (fun k => spec_miGood.j0 k true w h c u) false := by
    refine ev_succ ?_
    simp only [spec_miGood.j0]
    exact ev_pos (by first | rfl | trivial) (ev_some _)
  refine ev_and2 hE (ev_const (l1In_eq _ _ _)) fun _ => ev_and2 hE (ev_const (l1In_eq _ _ _)) fun _ => ?_
  refine ev_succ ?_
  simp only [spec_miGood.j0]
  have hl := miGood_loop w h c u hs c.size 0 (by omega)
  rw [List.drop_zero] at hl
  by_cases he : (c.size : Int) = wrap64 (w * h)
  · rw [show ((c.size : Int) == wrap64 (w * h)) = true from beq_iff_eq.2 he, Bool.true_and]
    exact ev_neg (by simp [he]) hl
  · rw [show ((c.size : Int) == wrap64 (w * h)) = false from beq_eq_false_iff_ne.2 he, Bool.false_and]
    exact ev_pos (by simp [he]) (ev_some _)
theorem mirs_has (b : UInt8) : (⟨#[46, 90, 83]⟩ : ByteArray).data.toList.contains b = mirB (b.toNat : Int) := by
  have h : ∀ n : Fin 256, (⟨#[46, 90, 83]⟩ : ByteArray).data.toList.contains (UInt8.ofNat n.val) = mirB (n.val : Int) := by decide +kernel
  have := h ⟨b.toNat, b.toNat_lt⟩
  rwa [UInt8.ofNat_toNat] at this
theorem implIsSize_eq (w h : Int) : impl_isSize.f w h = some (inB w 1 9 && inB h 1 9) := by
  unfold impl_isSize.f
  rw [wi_eq, wi_eq]
  cases inB w 1 9 <;> rfl
theorem implIsMaze_eq (w h : Int) (c : ByteArray) (u : Bool) (hs : c.size ≤ 140737488351232) : impl_IsMaze.f w h c u = some (mazeOk w h c) := by
  unfold impl_IsMaze.f mazeOk
  rw [implIsSize_eq]
  rw [trim_empty c _ hs (by decide) (by decide +kernel) mirB mirs_has]
  cases inB w 1 9 with
  | false => rfl
  | true =>
    cases inB h 1 9 with
    | false => rfl
    | true =>
      by_cases he : (c.size : Int) = wrap64 (w * h)
      · simp [he]
      · simp [he]
theorem toMaze_eq (w h : Int) (c : ByteArray) (u : Bool) : laws_toMaze.f w h c u = some (w, h, c, u) := rfl
theorem szMaze_ev (w h : Int) (c : ByteArray) (u : Bool) (m : Int) : ∃ t, laws_szMaze.f w h c u m = some t := by
  unfold laws_szMaze.f
  split <;> exact ⟨_, rfl⟩
def antB (w h x y d : Int) : Bool := inB x 0 (wrap64 (w - 1)) && (inB y 0 (wrap64 (h - 1)) && inB d 0 3)
def ballOk (w h : Int) (c : ByteArray) (x y d : Int) : Bool := mazeOk w h c && antB w h x y d
theorem miBall_ev (w h : Int) (c : ByteArray) (u : Bool) (x y d : Int) (hs : c.size ≤ 140737488351232) : Ev (fun k => spec_miBall.f k w h c u x y d) (ballOk w h c x y d) := by
  unfold spec_miBall.f ballOk antB
  exact ev_and (miGood_ev w h c u hs) fun _ => ev_and (ev_const (l1In_eq _ _ _)) fun _ => ev_and (ev_const (l1In_eq _ _ _)) fun _ => ev_id (ev_const (l1In_eq _ _ _))
def wayN (m d : Int) : Int := if m = 90 then (if d = 0 then 1 else if d = 1 then 0 else if d = 2 then 3 else 2) else if m = 83 then 3 - d else d
def dxN (d : Int) : Int := if d = 1 then 1 else if d = 3 then -1 else 0
def dyN (d : Int) : Int := if d = 0 then -1 else if d = 2 then 1 else 0
def isW (d : Int) : Prop := d = 0 ∨ d = 1 ∨ d = 2 ∨ d = 3
def isM (m : Int) : Prop := m = 46 ∨ m = 90 ∨ m = 83
theorem wayN_way {m d : Int} (hm : isM m) (hd : isW d) : isW (wayN m d) := by
  rcases hm with rfl | rfl | rfl <;> rcases hd with rfl | rfl | rfl | rfl <;> simp [wayN, isW]
theorem wayN_inv {m d : Int} (hm : isM m) (hd : isW d) : wayN m (wayN m d) = d := by
  rcases hm with rfl | rfl | rfl <;> rcases hd with rfl | rfl | rfl | rfl <;> simp [wayN]
def cnt (P : Nat → Prop) [DecidablePred P] : Nat → Nat
  | 0 => 0
  | t + 1 => cnt P t + (if P t then 1 else 0)
theorem cnt_succ (P : Nat → Prop) [DecidablePred P] (t : Nat) : cnt P (t + 1) = cnt P t + (if P t then 1 else 0) := rfl
theorem cnt_none {P : Nat → Prop} [DecidablePred P] : ∀ {t : Nat}, (∀ n, n < t → ¬ P n) → cnt P t = 0
  | 0, _ => rfl
  | t + 1, h => by rw [cnt_succ, cnt_none (fun n hn => h n (by omega)), if_neg (h t (by omega))]
def sumTo : Nat → (Nat → Nat) → Nat
  | 0, _ => 0
  | n + 1, f => sumTo n f + f n
theorem sumTo_le {f g : Nat → Nat} : ∀ {n : Nat}, (∀ i, i < n → f i ≤ g i) → sumTo n f ≤ sumTo n g
  | 0, _ => Nat.le_refl _
  | n + 1, h => Nat.add_le_add (sumTo_le (fun i hi => h i (by omega))) (h n (by omega))
theorem sumTo_add (f g : Nat → Nat) : ∀ n, sumTo n (fun i => f i + g i) = sumTo n f + sumTo n g
  | 0 => rfl
  | n + 1 => by simp only [sumTo]; rw [sumTo_add f g n]; omega
theorem sumTo_zero : ∀ n, sumTo n (fun _ => 0) = 0
  | 0 => rfl
  | n + 1 => by simp only [sumTo]; rw [sumTo_zero n]
theorem sumTo_congr {f g : Nat → Nat} : ∀ {n : Nat}, (∀ i, i < n → f i = g i) → sumTo n f = sumTo n g
  | 0, _ => rfl
  | n + 1, h => by simp only [sumTo]; rw [sumTo_congr (fun i hi => h i (by omega)), h n (by omega)]
theorem sumTo_one (a : Int) (c : Nat) : ∀ n : Nat, 0 ≤ a → a < n → sumTo n (fun i => if a = (i : Int) then c else 0) = c
  | 0, h0, h1 => by omega
  | n + 1, h0, h1 => by
    simp only [sumTo]
    by_cases h : a = (n : Int)
    · rw [if_pos h]
      have : sumTo n (fun i => if a = (i : Int) then c else 0) = sumTo n (fun _ => 0) := sumTo_congr (fun i hi => if_neg (by omega))
      rw [this, sumTo_zero, Nat.zero_add]
    · rw [if_neg h, sumTo_one a c n h0 (by omega), Nat.add_zero]
structure Run (T : Nat) (W H : Int) (g : Nat → Int → Int → Int) (x y d : Nat → Int) : Prop where
  inX : ∀ n, n < T → 0 ≤ x n ∧ x n < W
  inY : ∀ n, n < T → 0 ≤ y n ∧ y n < H
  wa : ∀ n, n < T → isW (d n)
  sg : ∀ n, n < T → ∀ a b, 0 ≤ a → a < W → 0 ≤ b → b < H → isM (g n a b)
  nd : ∀ n, n < T → d (n + 1) = wayN (g n (x n) (y n)) (d n)
  nx : ∀ n, n < T → x (n + 1) = x n + dxN (d (n + 1))
  ny : ∀ n, n < T → y (n + 1) = y n + dyN (d (n + 1))
  gs : ∀ n, n < T → ∀ a b, 0 ≤ a → a < W → 0 ≤ b → b < H → g (n + 1) a b = if a = x n ∧ b = y n ∧ g n a b ≠ 46 then 173 - g n a b else g n a b
section
variable {T : Nat} {W H : Int} {g : Nat → Int → Int → Int} {x y d : Nat → Int}
abbrev atP (x y : Nat → Int) (a b : Int) (n : Nat) : Prop := x n = a ∧ y n = b
abbrev inP (x y d : Nat → Int) (a b s : Int) (n : Nat) : Prop := x n = a ∧ y n = b ∧ (d n + 2) % 4 = s
abbrev outP (g : Nat → Int → Int → Int) (x y d : Nat → Int) (a b s : Int) (n : Nat) : Prop := x n = a ∧ y n = b ∧ wayN (g n a b) (d n) = s
abbrev kiP (g : Nat → Int → Int → Int) (x y : Nat → Int) (a b m : Int) (n : Nat) : Prop := x n = a ∧ y n = b ∧ g n a b = m
def sd (g : Nat → Int → Int → Int) (x y d : Nat → Int) (a b s : Int) (t : Nat) : Nat := cnt (inP x y d a b s) t + cnt (outP g x y d a b s) t
theorem Run.sgn (r : Run T W H g x y d) {n : Nat} (hn : n < T) : isM (g n (x n) (y n)) := r.sg n hn _ _ (r.inX n hn).1 (r.inX n hn).2 (r.inY n hn).1 (r.inY n hn).2
theorem Run.edge (r : Run T W H g x y d) {a b s : Int} (hs : isW s) : ∀ t, t + 1 ≤ T →
    cnt (inP x y d (a + dxN s) (b + dyN s) ((s + 2) % 4)) (t + 1) = (if inP x y d (a + dxN s) (b + dyN s) ((s + 2) % 4) 0 then 1 else 0) + cnt (outP g x y d a b s) t
  | 0, _ => by simp [cnt]
  | t + 1, h => by
    rw [cnt_succ, Run.edge r hs t (by omega), cnt_succ (outP g x y d a b s)]
    have e : inP x y d (a + dxN s) (b + dyN s) ((s + 2) % 4) (t + 1) ↔ outP g x y d a b s t := by
      have h1 := r.nd t (by omega)
      have h2 := r.nx t (by omega)
      have h3 := r.ny t (by omega)
      have hw := wayN_way (r.sgn (n := t) (by omega)) (r.wa t (by omega))
      rw [← h1] at hw
      constructor
      · rintro ⟨p, q, z⟩
        have e1 : d (t + 1) = s := by rcases hw with e | e | e | e <;> rcases hs with e' | e' | e' | e' <;> rw [e, e'] at z ⊢ <;> simp at z
        rw [e1] at h2 h3
        have e2 : x t = a := by omega
        have e3 : y t = b := by omega
        refine ⟨e2, e3, ?_⟩
        rw [← e2, ← e3, ← h1, e1]
      · rintro ⟨p, q, z⟩
        rw [p, q, z] at h1
        rw [h1] at h2 h3
        exact ⟨by rw [h2, p], by rw [h3, q], by rw [h1]⟩
    simp only [e]
    omega
theorem Run.edge1 (r : Run T W H g x y d) {a b s : Int} (hs : isW s) {t : Nat} (ht : t ≤ T) : cnt (inP x y d (a + dxN s) (b + dyN s) ((s + 2) % 4)) t ≤ cnt (outP g x y d a b s) t + 1 := by
  cases t with
  | zero => simp [cnt]
  | succ t =>
    rw [r.edge hs t ht, cnt_succ (outP g x y d a b s)]
    split <;> split <;> omega
theorem Run.edge2 (r : Run T W H g x y d) {a b s : Int} (hs : isW s) {t : Nat} (ht : t ≤ T) : cnt (outP g x y d a b s) t ≤ cnt (inP x y d (a + dxN s) (b + dyN s) ((s + 2) % 4)) t + 1 := by
  cases t with
  | zero => simp [cnt]
  | succ t =>
    rw [r.edge hs t ht, cnt_succ (outP g x y d a b s)]
    split <;> split <;> omega
theorem dir_back {s : Int} (hs : isW s) : isW ((s + 2) % 4) ∧ dxN ((s + 2) % 4) = - dxN s ∧ dyN ((s + 2) % 4) = - dyN s ∧ ((s + 2) % 4 + 2) % 4 = s := by
  rcases hs with rfl | rfl | rfl | rfl <;> simp [isW, dxN, dyN]
theorem Run.side (r : Run T W H g x y d) {a b s : Int} (hs : isW s) {t : Nat} (ht : t ≤ T) : sd g x y d (a + dxN s) (b + dyN s) ((s + 2) % 4) t ≤ sd g x y d a b s t + 2 := by
  obtain ⟨h1, h2, h3, h4⟩ := dir_back hs
  have e1 := r.edge1 (a := a) (b := b) hs ht
  have e2 := r.edge2 (a := a + dxN s) (b := b + dyN s) h1 ht
  rw [h2, h3, h4, show a + dxN s + -dxN s = a by omega, show b + dyN s + -dyN s = b by omega] at e2
  unfold sd
  omega
theorem Run.side_le (r : Run T W H g x y d) {a b s : Int} : ∀ t, t ≤ T → sd g x y d a b s t ≤ cnt (atP x y a b) t
  | 0, _ => by simp [sd, cnt]
  | t + 1, h => by
    have ih := Run.side_le r (a := a) (b := b) (s := s) t (by omega)
    unfold sd at ih ⊢
    rw [cnt_succ, cnt_succ, cnt_succ]
    by_cases hp : x t = a ∧ y t = b
    · obtain ⟨p, q⟩ := hp
      have hm := r.sgn (n := t) (by omega)
      have hd := r.wa t (by omega)
      rw [p, q] at hm
      rw [if_pos (show atP x y a b t from ⟨p, q⟩)]
      have : (if inP x y d a b s t then 1 else 0) + (if outP g x y d a b s t then 1 else 0) ≤ 1 := by
        by_cases h1 : inP x y d a b s t
        · rw [if_neg (show ¬ outP g x y d a b s t from ?_)]
          · split <;> omega
          · rintro ⟨_, _, h2⟩
            have h1 := h1.2.2
            rcases hm with e | e | e <;> rcases hd with e' | e' | e' | e' <;> rw [e'] at h1 h2 <;> rw [e] at h2 <;> simp [wayN] at h1 h2 <;> omega
        · rw [if_neg h1]
          split <;> omega
      omega
    · rw [if_neg (fun z : inP x y d a b s t => hp ⟨z.1, z.2.1⟩), if_neg (fun z : outP g x y d a b s t => hp ⟨z.1, z.2.1⟩)]
      omega
theorem Run.kinds (r : Run T W H g x y d) {a b : Int} (ha : 0 ≤ a) (ha' : a < W) (hb : 0 ≤ b) (hb' : b < H) : ∀ t, t ≤ T → cnt (atP x y a b) t = cnt (kiP g x y a b 46) t + cnt (kiP g x y a b 90) t + cnt (kiP g x y a b 83) t
  | 0, _ => by simp [cnt]
  | t + 1, h => by
    have ih := Run.kinds r ha ha' hb hb' t (by omega)
    rw [cnt_succ, cnt_succ, cnt_succ, cnt_succ]
    by_cases hp : x t = a ∧ y t = b
    · obtain ⟨p, q⟩ := hp
      have hm := r.sg t (by omega) a b ha ha' hb hb'
      rcases hm with e | e | e <;> simp [atP, kiP, p, q, e] <;> omega
    · rw [if_neg (show ¬ atP x y a b t from hp), if_neg (fun z : kiP g x y a b 46 t => hp ⟨z.1, z.2.1⟩), if_neg (fun z : kiP g x y a b 90 t => hp ⟨z.1, z.2.1⟩), if_neg (fun z : kiP g x y a b 83 t => hp ⟨z.1, z.2.1⟩)]
      omega
theorem Run.turn (r : Run T W H g x y d) {a b : Int} (ha : 0 ≤ a) (ha' : a < W) (hb : 0 ≤ b) (hb' : b < H) : ∀ t, t ≤ T →
    (0 < t → g t a b = 46 ∨ g t a b = 90 ∨ g t a b = 83) ∧
    (g 0 a b = 46 → g t a b = 46 ∧ cnt (kiP g x y a b 90) t = 0 ∧ cnt (kiP g x y a b 83) t = 0) ∧
    (g 0 a b = 90 → (g t a b = 90 ∧ cnt (kiP g x y a b 90) t = cnt (kiP g x y a b 83) t) ∨ (g t a b = 83 ∧ cnt (kiP g x y a b 90) t = cnt (kiP g x y a b 83) t + 1)) ∧
    (g 0 a b = 83 → (g t a b = 83 ∧ cnt (kiP g x y a b 90) t = cnt (kiP g x y a b 83) t) ∨ (g t a b = 90 ∧ cnt (kiP g x y a b 83) t = cnt (kiP g x y a b 90) t + 1))
  | 0, _ => ⟨fun h => absurd h (by omega), fun h => ⟨h, rfl, rfl⟩, fun h => .inl ⟨h, rfl⟩, fun h => .inl ⟨h, rfl⟩⟩
  | t + 1, h => by
    obtain ⟨_, i1, i2, i3⟩ := Run.turn r ha ha' hb hb' t (by omega)
    have hm := r.sg t (by omega) a b ha ha' hb hb'
    have hg := r.gs t (by omega) a b ha ha' hb hb'
    rw [cnt_succ, cnt_succ]
    by_cases hp : x t = a ∧ y t = b
    · obtain ⟨p, q⟩ := hp
      rcases hm with e | e | e
      · have hv : g (t + 1) a b = 46 := by rw [hg, if_neg (fun z => z.2.2 e), e]
        rw [if_neg (show ¬ kiP g x y a b 90 t from fun z => by have := z.2.2; omega), if_neg (show ¬ kiP g x y a b 83 t from fun z => by have := z.2.2; omega), hv]
        refine ⟨fun _ => .inl rfl, fun h => ⟨rfl, (i1 h).2⟩, fun h => ?_, fun h => ?_⟩
        · rcases i2 h with ⟨z, _⟩ | ⟨z, _⟩ <;> omega
        · rcases i3 h with ⟨z, _⟩ | ⟨z, _⟩ <;> omega
      · have hv : g (t + 1) a b = 83 := by rw [hg, if_pos ⟨p.symm, q.symm, by omega⟩]; omega
        rw [if_pos (show kiP g x y a b 90 t from ⟨p, q, e⟩), if_neg (show ¬ kiP g x y a b 83 t from fun z => by have := z.2.2; omega), hv]
        refine ⟨fun _ => .inr (.inr rfl), fun h => ?_, fun h => ?_, fun h => ?_⟩
        · have := (i1 h).1; omega
        · rcases i2 h with ⟨z, z2⟩ | ⟨z, z2⟩ <;> omega
        · rcases i3 h with ⟨z, z2⟩ | ⟨z, z2⟩ <;> omega
      · have hv : g (t + 1) a b = 90 := by rw [hg, if_pos ⟨p.symm, q.symm, by omega⟩]; omega
        rw [if_neg (show ¬ kiP g x y a b 90 t from fun z => by have := z.2.2; omega), if_pos (show kiP g x y a b 83 t from ⟨p, q, e⟩), hv]
        refine ⟨fun _ => .inr (.inl rfl), fun h => ?_, fun h => ?_, fun h => ?_⟩
        · have := (i1 h).1; omega
        · rcases i2 h with ⟨z, z2⟩ | ⟨z, z2⟩ <;> omega
        · rcases i3 h with ⟨z, z2⟩ | ⟨z, z2⟩ <;> omega
    · rw [hg, if_neg (show ¬ (a = x t ∧ b = y t ∧ g t a b ≠ 46) from fun z => hp ⟨z.1.symm, z.2.1.symm⟩), if_neg (fun z : kiP g x y a b 90 t => hp ⟨z.1, z.2.1⟩), if_neg (fun z : kiP g x y a b 83 t => hp ⟨z.1, z.2.1⟩)]
      exact ⟨fun _ => hm, i1, i2, i3⟩
theorem Run.near (r : Run T W H g x y d) {a b : Int} (ha : 0 ≤ a) (ha' : a < W) (hb : 0 ≤ b) (hb' : b < H) {t : Nat} (ht : t ≤ T) :
    cnt (kiP g x y a b 90) t ≤ cnt (kiP g x y a b 83) t + 1 ∧ cnt (kiP g x y a b 83) t ≤ cnt (kiP g x y a b 90) t + 1 := by
  cases t with
  | zero => simp [cnt]
  | succ t =>
    have hm := r.sg 0 (by omega) a b ha ha' hb hb'
    obtain ⟨_, i1, i2, i3⟩ := r.turn ha ha' hb hb' (t + 1) ht
    rcases hm with e | e | e
    · have := i1 e; omega
    · rcases i2 e with z | z <;> omega
    · rcases i3 e with z | z <;> omega
theorem Run.cornerA (r : Run T W H g x y d) {a b : Int} (ha : 0 ≤ a) (ha' : a < W) (hb : 0 ≤ b) (hb' : b < H) {s1 s2 : Int} (hs : (s1 = 3 ∧ s2 = 0) ∨ (s1 = 1 ∧ s2 = 2)) : ∀ t, t ≤ T →
    cnt (kiP g x y a b 46) t + cnt (kiP g x y a b 83) t ≤ sd g x y d a b s1 t + sd g x y d a b s2 t
  | 0, _ => by simp [cnt]
  | t + 1, h => by
    have ih := Run.cornerA r ha ha' hb hb' hs t (by omega)
    unfold sd at ih ⊢
    rw [cnt_succ, cnt_succ, cnt_succ, cnt_succ, cnt_succ, cnt_succ]
    by_cases hp : x t = a ∧ y t = b
    · obtain ⟨p, q⟩ := hp
      have hm := r.sg t (by omega) a b ha ha' hb hb'
      have hd := r.wa t (by omega)
      rcases hm with e | e | e <;> rcases hd with e' | e' | e' | e' <;> rcases hs with ⟨rfl, rfl⟩ | ⟨rfl, rfl⟩ <;> simp [kiP, inP, outP, p, q, e, e', wayN] <;> omega
    · rw [if_neg (fun z : kiP g x y a b 46 t => hp ⟨z.1, z.2.1⟩), if_neg (fun z : kiP g x y a b 83 t => hp ⟨z.1, z.2.1⟩)]
      omega
theorem Run.cornerB (r : Run T W H g x y d) {a b : Int} (ha : 0 ≤ a) (ha' : a < W) (hb : 0 ≤ b) (hb' : b < H) {s1 s2 : Int} (hs : (s1 = 1 ∧ s2 = 0) ∨ (s1 = 3 ∧ s2 = 2)) : ∀ t, t ≤ T →
    cnt (kiP g x y a b 46) t + cnt (kiP g x y a b 90) t ≤ sd g x y d a b s1 t + sd g x y d a b s2 t
  | 0, _ => by simp [cnt]
  | t + 1, h => by
    have ih := Run.cornerB r ha ha' hb hb' hs t (by omega)
    unfold sd at ih ⊢
    rw [cnt_succ, cnt_succ, cnt_succ, cnt_succ, cnt_succ, cnt_succ]
    by_cases hp : x t = a ∧ y t = b
    · obtain ⟨p, q⟩ := hp
      have hm := r.sg t (by omega) a b ha ha' hb hb'
      have hd := r.wa t (by omega)
      rcases hm with e | e | e <;> rcases hd with e' | e' | e' | e' <;> rcases hs with ⟨rfl, rfl⟩ | ⟨rfl, rfl⟩ <;> simp [kiP, inP, outP, p, q, e, e', wayN] <;> omega
    · rw [if_neg (fun z : kiP g x y a b 46 t => hp ⟨z.1, z.2.1⟩), if_neg (fun z : kiP g x y a b 90 t => hp ⟨z.1, z.2.1⟩)]
      omega
theorem Run.cell (r : Run T W H g x y d) (a b : Int) {s1 s2 : Int} (h1 : s1 = 1 ∨ s1 = 3) (h2 : s2 = 0 ∨ s2 = 2) {t : Nat} (ht : t ≤ T) :
    cnt (atP x y a b) t ≤ 2 * (cnt (atP x y (a + dxN s1) b) t + cnt (atP x y a (b + dyN s2)) t) + 9 := by
  by_cases hin : (0 ≤ a ∧ a < W) ∧ 0 ≤ b ∧ b < H
  · obtain ⟨⟨ha, ha'⟩, hb, hb'⟩ := hin
    have k := r.kinds ha ha' hb hb' t ht
    have n := r.near ha ha' hb hb' ht
    have w1 : isW s1 := by rcases h1 with e | e <;> simp [isW, e]
    have w2 : isW s2 := by rcases h2 with e | e <;> simp [isW, e]
    have c : cnt (atP x y a b) t ≤ 2 * (sd g x y d a b s1 t + sd g x y d a b s2 t) + 1 := by
      rcases h1 with e | e <;> rcases h2 with e' | e'
      · have := r.cornerB ha ha' hb hb' (.inl ⟨e, e'⟩) t ht; omega
      · have := r.cornerA ha ha' hb hb' (.inr ⟨e, e'⟩) t ht; omega
      · have := r.cornerA ha ha' hb hb' (.inl ⟨e, e'⟩) t ht; omega
      · have := r.cornerB ha ha' hb hb' (.inr ⟨e, e'⟩) t ht; omega
    have q1 : sd g x y d a b s1 t ≤ cnt (atP x y (a + dxN s1) b) t + 2 := by
      obtain ⟨z1, z2, z3, z4⟩ := dir_back w1
      have := r.side (a := a + dxN s1) (b := b) z1 ht
      have y0 : dyN s1 = 0 := by rcases h1 with e | e <;> simp [dyN, e]
      rw [z2, z3, z4, y0, show a + dxN s1 + -dxN s1 = a by omega, show b + -0 = b by omega] at this
      have l := r.side_le (a := a + dxN s1) (b := b) (s := (s1 + 2) % 4) t ht
      omega
    have q2 : sd g x y d a b s2 t ≤ cnt (atP x y a (b + dyN s2)) t + 2 := by
      obtain ⟨z1, z2, z3, z4⟩ := dir_back w2
      have := r.side (a := a) (b := b + dyN s2) z1 ht
      have x0 : dxN s2 = 0 := by rcases h2 with e | e <;> simp [dxN, e]
      rw [z2, z3, z4, x0, show b + dyN s2 + -dyN s2 = b by omega, show a + -0 = a by omega] at this
      have l := r.side_le (a := a) (b := b + dyN s2) (s := (s2 + 2) % 4) t ht
      omega
    omega
  · rw [cnt_none (P := atP x y a b)]
    · exact Nat.zero_le _
    · rintro n hn ⟨p, q⟩
      have u1 := r.inX n (by omega)
      have u2 := r.inY n (by omega)
      rw [p] at u1
      rw [q] at u2
      exact hin ⟨u1, u2⟩
end
def Gr : Nat → Nat → Nat
  | 0 => fun _ => 0
  | i + 1 => fun j => Nat.rec 0 (fun j p => 2 * (Gr i (j + 1) + p) + 9) j
theorem Gr_zero (j : Nat) : Gr 0 j = 0 := rfl
theorem Gr_zero' (i : Nat) : Gr i 0 = 0 := by cases i <;> rfl
theorem Gr_succ (i j : Nat) : Gr (i + 1) (j + 1) = 2 * (Gr i (j + 1) + Gr (i + 1) j) + 9 := rfl
theorem Gr_mono1 : ∀ i j, Gr i j ≤ Gr (i + 1) j
  | 0, j => by rw [Gr_zero]; exact Nat.zero_le _
  | i + 1, 0 => by rw [Gr_zero']; exact Nat.zero_le _
  | i + 1, j + 1 => by
    have h1 := Gr_mono1 i (j + 1)
    have h2 := Gr_mono1 (i + 1) j
    rw [Gr_succ i j, Gr_succ (i + 1) j]
    omega
theorem Gr_mono2 : ∀ i j, Gr i j ≤ Gr i (j + 1)
  | 0, j => by rw [Gr_zero]; exact Nat.zero_le _
  | i + 1, 0 => by rw [Gr_zero']; exact Nat.zero_le _
  | i + 1, j + 1 => by
    have h1 := Gr_mono2 i (j + 1)
    have h2 := Gr_mono2 (i + 1) j
    rw [Gr_succ i (j + 1), Gr_succ i j]
    omega
theorem Gr_le {i i' j j' : Nat} (h : i ≤ i') (k : j ≤ j') : Gr i j ≤ Gr i' j' := by
  have h1 : ∀ n, Gr i j ≤ Gr (i + n) j := fun n => by
    induction n with
    | zero => exact Nat.le_refl _
    | succ n ih => exact Nat.le_trans ih (Gr_mono1 _ _)
  have h2 : ∀ n, Gr i' j ≤ Gr i' (j + n) := fun n => by
    induction n with
    | zero => exact Nat.le_refl _
    | succ n ih => exact Nat.le_trans ih (Gr_mono2 _ _)
  have e1 := h1 (i' - i)
  have e2 := h2 (j' - j)
  rw [show i + (i' - i) = i' by omega] at e1
  rw [show j + (j' - j) = j' by omega] at e2
  omega
theorem below_Gr {M : Nat → Nat → Nat} (h0 : ∀ j, M 0 j = 0) (h0' : ∀ i, M i 0 = 0) (hs : ∀ i j, M (i + 1) (j + 1) ≤ 2 * (M i (j + 1) + M (i + 1) j) + 9) : ∀ i j, M i j ≤ Gr i j
  | 0, j => by rw [h0]; exact Nat.zero_le _
  | i + 1, 0 => by rw [h0']; exact Nat.zero_le _
  | i + 1, j + 1 => by
    have a := below_Gr h0 h0' hs i (j + 1)
    have b := below_Gr h0 h0' hs (i + 1) j
    have c := hs i j
    rw [Gr_succ]
    omega
section
variable {T : Nat} {W H : Int} {g : Nat → Int → Int → Int} {x y d : Nat → Int}
theorem Run.out0 (r : Run T W H g x y d) {a b : Int} (h : a < 0 ∨ W ≤ a ∨ b < 0 ∨ H ≤ b) {t : Nat} (ht : t ≤ T) : cnt (atP x y a b) t = 0 := by
  refine cnt_none ?_
  rintro n hn ⟨p, q⟩
  have u1 := r.inX n (by omega)
  have u2 := r.inY n (by omega)
  omega
theorem Run.c1 (r : Run T W H g x y d) {t : Nat} (ht : t ≤ T) (i j : Nat) : cnt (atP x y ((i : Int) - 1) ((j : Int) - 1)) t ≤ Gr i j := by
  refine below_Gr (M := fun i j => cnt (atP x y ((i : Int) - 1) ((j : Int) - 1)) t) (fun j => r.out0 (.inl (by simp)) ht) (fun i => r.out0 (.inr (.inr (.inl (by simp)))) ht) (fun i j => ?_) i j
  have := r.cell ((i + 1 : Nat) - 1 : Int) ((j + 1 : Nat) - 1 : Int) (s1 := 3) (s2 := 0) (.inr rfl) (.inl rfl) ht
  rw [show ((i + 1 : Nat) - 1 : Int) + dxN 3 = (i : Int) - 1 by simp [dxN]; omega, show ((j + 1 : Nat) - 1 : Int) + dyN 0 = (j : Int) - 1 by simp [dyN]; omega] at this
  exact this
theorem Run.c2 (r : Run T W H g x y d) {t : Nat} (ht : t ≤ T) (i j : Nat) : cnt (atP x y (W - (i : Int)) ((j : Int) - 1)) t ≤ Gr i j := by
  refine below_Gr (M := fun i j => cnt (atP x y (W - (i : Int)) ((j : Int) - 1)) t) (fun j => r.out0 (.inr (.inl (by simp))) ht) (fun i => r.out0 (.inr (.inr (.inl (by simp)))) ht) (fun i j => ?_) i j
  have := r.cell (W - (i + 1 : Nat) : Int) ((j + 1 : Nat) - 1 : Int) (s1 := 1) (s2 := 0) (.inl rfl) (.inl rfl) ht
  rw [show (W - (i + 1 : Nat) : Int) + dxN 1 = W - (i : Int) by simp [dxN]; omega, show ((j + 1 : Nat) - 1 : Int) + dyN 0 = (j : Int) - 1 by simp [dyN]; omega] at this
  exact this
theorem Run.c3 (r : Run T W H g x y d) {t : Nat} (ht : t ≤ T) (i j : Nat) : cnt (atP x y ((i : Int) - 1) (H - (j : Int))) t ≤ Gr i j := by
  refine below_Gr (M := fun i j => cnt (atP x y ((i : Int) - 1) (H - (j : Int))) t) (fun j => r.out0 (.inl (by simp)) ht) (fun i => r.out0 (.inr (.inr (.inr (by simp)))) ht) (fun i j => ?_) i j
  have := r.cell ((i + 1 : Nat) - 1 : Int) (H - (j + 1 : Nat) : Int) (s1 := 3) (s2 := 2) (.inr rfl) (.inr rfl) ht
  rw [show ((i + 1 : Nat) - 1 : Int) + dxN 3 = (i : Int) - 1 by simp [dxN]; omega, show (H - (j + 1 : Nat) : Int) + dyN 2 = H - (j : Int) by simp [dyN]; omega] at this
  exact this
theorem Run.c4 (r : Run T W H g x y d) {t : Nat} (ht : t ≤ T) (i j : Nat) : cnt (atP x y (W - (i : Int)) (H - (j : Int))) t ≤ Gr i j := by
  refine below_Gr (M := fun i j => cnt (atP x y (W - (i : Int)) (H - (j : Int))) t) (fun j => r.out0 (.inr (.inl (by simp))) ht) (fun i => r.out0 (.inr (.inr (.inr (by simp)))) ht) (fun i j => ?_) i j
  have := r.cell (W - (i + 1 : Nat) : Int) (H - (j + 1 : Nat) : Int) (s1 := 1) (s2 := 2) (.inl rfl) (.inr rfl) ht
  rw [show (W - (i + 1 : Nat) : Int) + dxN 1 = W - (i : Int) by simp [dxN]; omega, show (H - (j + 1 : Nat) : Int) + dyN 2 = H - (j : Int) by simp [dyN]; omega] at this
  exact this
theorem Run.cellMax (r : Run T W H g x y d) (hW : W ≤ 9) (hH : H ≤ 9) {t : Nat} (ht : t ≤ T) (a b : Nat) : cnt (atP x y (a : Int) (b : Int)) t ≤ Gr (min (a + 1) (9 - a)) (min (b + 1) (9 - b)) := by
  by_cases hin : (a : Int) < W ∧ (b : Int) < H
  · obtain ⟨h1, h2⟩ := hin
    obtain ⟨w, rfl⟩ := Int.eq_ofNat_of_zero_le (show 0 ≤ W by omega)
    obtain ⟨h, rfl⟩ := Int.eq_ofNat_of_zero_le (show 0 ≤ H by omega)
    have k1 := r.c1 ht (a + 1) (b + 1)
    have k2 := r.c2 ht (w - a) (b + 1)
    have k3 := r.c3 ht (a + 1) (h - b)
    have k4 := r.c4 ht (w - a) (h - b)
    have e1 : ((a + 1 : Nat) : Int) - 1 = a := by omega
    have e2 : ((b + 1 : Nat) : Int) - 1 = b := by omega
    have e3 : (w : Int) - ((w - a : Nat) : Int) = a := by omega
    have e4 : (h : Int) - ((h - b : Nat) : Int) = b := by omega
    rw [e1, e2] at k1
    rw [e3, e2] at k2
    rw [e1, e4] at k3
    rw [e3, e4] at k4
    have l2 := Gr_le (show w - a ≤ 9 - a by omega) (Nat.le_refl (b + 1))
    have l3 := Gr_le (Nat.le_refl (a + 1)) (show h - b ≤ 9 - b by omega)
    have l4 := Gr_le (show w - a ≤ 9 - a by omega) (show h - b ≤ 9 - b by omega)
    rcases Nat.le_total (a + 1) (9 - a) with z | z <;> rcases Nat.le_total (b + 1) (9 - b) with z' | z'
    · rw [Nat.min_eq_left z, Nat.min_eq_left z']; omega
    · rw [Nat.min_eq_left z, Nat.min_eq_right z']; omega
    · rw [Nat.min_eq_right z, Nat.min_eq_left z']; omega
    · rw [Nat.min_eq_right z, Nat.min_eq_right z']; omega
  · rw [r.out0 (by omega) ht]
    exact Nat.zero_le _
theorem Run.total (r : Run T W H g x y d) (hW : W ≤ 9) (hH : H ≤ 9) : ∀ t, t ≤ T → sumTo 9 (fun b => sumTo 9 fun a => cnt (atP x y (a : Int) (b : Int)) t) = t
  | 0, _ => rfl
  | t + 1, h => by
    have ih := Run.total r hW hH t (by omega)
    have u1 := r.inX t (by omega)
    have u2 := r.inY t (by omega)
    have e : ∀ a b : Nat, cnt (atP x y (a : Int) (b : Int)) (t + 1) = cnt (atP x y (a : Int) (b : Int)) t + (if x t = (a : Int) then (if y t = (b : Int) then 1 else 0) else 0) := fun a b => by
      rw [cnt_succ]
      congr 1
      by_cases h1 : x t = (a : Int) <;> by_cases h2 : y t = (b : Int) <;> simp [atP, h1, h2]
    have e2 : (fun b : Nat => sumTo 9 fun a => cnt (atP x y (a : Int) (b : Int)) (t + 1)) = fun b : Nat => (sumTo 9 fun a => cnt (atP x y (a : Int) (b : Int)) t) + (if y t = (b : Int) then 1 else 0) := by
      funext b
      rw [show (fun a : Nat => cnt (atP x y (a : Int) (b : Int)) (t + 1)) = fun a : Nat => cnt (atP x y (a : Int) (b : Int)) t + (if x t = (a : Int) then (if y t = (b : Int) then 1 else 0) else 0) from funext fun a => e a b]
      rw [sumTo_add, sumTo_one (x t) _ 9 u1.1 (by omega)]
    rw [e2, sumTo_add, ih, sumTo_one (y t) 1 9 u2.1 (by omega)]
theorem Run.ends (r : Run T W H g x y d) (hW : W ≤ 9) (hH : H ≤ 9) : T ≤ 776997 := by
  have h := r.total hW hH T (Nat.le_refl _)
  have k : sumTo 9 (fun b => sumTo 9 fun a => cnt (atP x y (a : Int) (b : Int)) T) ≤ sumTo 9 (fun b => sumTo 9 fun a => Gr (min (a + 1) (9 - a)) (min (b + 1) (9 - b))) :=
    sumTo_le fun b _ => sumTo_le fun a _ => r.cellMax hW hH (Nat.le_refl _) a b
  have e : sumTo 9 (fun b => sumTo 9 fun a => Gr (min (a + 1) (9 - a)) (min (b + 1) (9 - b))) = 776997 := by decide +kernel
  omega
end
structure St where
  cs : List Int
  x : Int
  y : Int
  d : Int
def atS (W : Int) (s : St) : Int := s.y * W + s.x
def sgS (W : Int) (s : St) : Int := rd s.cs (atS W s)
def hitS (u : Bool) (W : Int) (s : St) : St :=
  ⟨if u = true ∧ sgS W s ≠ 46 then s.cs.set (atS W s).toNat (173 - sgS W s) else s.cs, s.x + dxN (wayN (sgS W s) s.d), s.y + dyN (wayN (sgS W s) s.d), wayN (sgS W s) s.d⟩
def inS (W H : Int) (s : St) : Prop := (0 ≤ s.x ∧ s.x < W) ∧ 0 ≤ s.y ∧ s.y < H
instance (W H : Int) (s : St) : Decidable (inS W H s) := by unfold inS; exact inferInstance
structure okC (W H : Int) (cs : List Int) : Prop where
  len : (cs.length : Int) = W * H
  sg : ∀ m ∈ cs, isM m
theorem idx_lt {W H x y : Int} (hx : 0 ≤ x ∧ x < W) (hy : 0 ≤ y ∧ y < H) : 0 ≤ y * W + x ∧ y * W + x < W * H := by
  have h1 : 0 ≤ y * W := Int.mul_nonneg hy.1 (by omega)
  have h2 : (y + 1) * W ≤ H * W := Int.mul_le_mul_of_nonneg_right (by omega) (by omega)
  rw [Int.add_mul, Int.one_mul, Int.mul_comm H W] at h2
  omega
theorem idx_inj {W x y x' y' : Int} (hx : 0 ≤ x ∧ x < W) (hx' : 0 ≤ x' ∧ x' < W) (h : y * W + x = y' * W + x') : x = x' ∧ y = y' := by
  rcases Int.lt_trichotomy y y' with c | c | c
  · have h2 : (y + 1) * W ≤ y' * W := Int.mul_le_mul_of_nonneg_right (by omega) (by omega)
    rw [Int.add_mul, Int.one_mul] at h2
    omega
  · subst c
    exact ⟨by omega, rfl⟩
  · have h2 : (y' + 1) * W ≤ y * W := Int.mul_le_mul_of_nonneg_right (by omega) (by omega)
    rw [Int.add_mul, Int.one_mul] at h2
    omega
theorem rd_mem {cs : List Int} {i : Int} (h0 : 0 ≤ i) (h1 : i < cs.length) : rd cs i ∈ cs := by
  unfold rd
  rw [List.getD_eq_getElem?_getD, List.getElem?_eq_getElem (by omega : i.toNat < cs.length)]
  exact List.getElem_mem _
theorem okC.sgn {W H : Int} {s : St} (h : okC W H s.cs) (hi : inS W H s) : isM (sgS W s) := by
  have := idx_lt hi.1 hi.2
  exact h.sg _ (rd_mem this.1 (by rw [h.len]; exact this.2))
theorem other_isM {m : Int} (h : isM m) (h' : m ≠ 46) : isM (173 - m) := by
  rcases h with rfl | rfl | rfl <;> simp [isM] at *
theorem okC.hit {u : Bool} {W H : Int} {s : St} (h : okC W H s.cs) (hi : inS W H s) : okC W H (hitS u W s).cs := by
  unfold hitS
  simp only
  split
  · rename_i c
    refine ⟨by rw [List.length_set]; exact h.len, fun m hm => ?_⟩
    rcases List.mem_or_eq_of_mem_set hm with hm | rfl
    · exact h.sg m hm
    · exact other_isM (h.sgn hi) c.2
  · exact h
theorem hit_way {u : Bool} {W H : Int} {s : St} (h : okC W H s.cs) (hi : inS W H s) (hd : isW s.d) : isW (hitS u W s).d := wayN_way (h.sgn hi) hd
def it (u : Bool) (W : Int) (s : St) : Nat → St
  | 0 => s
  | n + 1 => hitS u W (it u W s n)
theorem it_succ (u : Bool) (W : Int) (s : St) (n : Nat) : it u W s (n + 1) = hitS u W (it u W s n) := rfl
theorem it_add (u : Bool) (W : Int) (s : St) (m : Nat) : ∀ n, it u W s (m + n) = it u W (it u W s m) n
  | 0 => rfl
  | n + 1 => by rw [it_succ, ← it_add u W s m n]; rfl
section
variable {u : Bool} {W H : Int} {s : St}
theorem it_ok (h : okC W H s.cs) (hd : isW s.d) : ∀ n, (∀ k, k < n → inS W H (it u W s k)) → okC W H (it u W s n).cs ∧ isW (it u W s n).d
  | 0, _ => ⟨h, hd⟩
  | n + 1, hi => by
    have ih := it_ok h hd n (fun k hk => hi k (by omega))
    exact ⟨ih.1.hit (hi n (by omega)), hit_way ih.1 (hi n (by omega)) ih.2⟩
theorem rd_set {cs : List Int} {i : Nat} {v j : Int} (h : 0 ≤ j) (hj : j < cs.length) : rd (cs.set i v) j = if j = (i : Int) then v else rd cs j := by
  unfold rd
  rw [List.getD_eq_getElem?_getD, List.getD_eq_getElem?_getD, List.getElem?_set]
  by_cases e : j = (i : Int)
  · subst e
    rw [if_pos rfl, Int.toNat_natCast, if_pos rfl, if_pos (by omega)]
    rfl
  · rw [if_neg e, if_neg (by omega)]
theorem run_of (h : okC W H s.cs) (hd : isW s.d) {T : Nat} (hi : ∀ k, k < T → inS W H (it true W s k)) :
    Run T W H (fun n a b => rd (it true W s n).cs (b * W + a)) (fun n => (it true W s n).x) (fun n => (it true W s n).y) (fun n => (it true W s n).d) where
  inX := fun n hn => (hi n hn).1
  inY := fun n hn => (hi n hn).2
  wa := fun n hn => (it_ok h hd n (fun k hk => hi k (by omega))).2
  sg := fun n hn a b ha ha' hb hb' => by
    have z := idx_lt ⟨ha, ha'⟩ ⟨hb, hb'⟩
    have o := (it_ok (u := true) h hd n (fun k hk => hi k (by omega))).1
    exact o.sg _ (rd_mem z.1 (by rw [o.len]; exact z.2))
  nd := fun n hn => rfl
  nx := fun n hn => rfl
  ny := fun n hn => rfl
  gs := fun n hn a b ha ha' hb hb' => by
    have z := idx_lt ⟨ha, ha'⟩ ⟨hb, hb'⟩
    have o := (it_ok (u := true) h hd n (fun k hk => hi k (by omega))).1
    have i := hi n hn
    have zi := idx_lt i.1 i.2
    show rd (hitS true W (it true W s n)).cs (b * W + a) = if a = (it true W s n).x ∧ b = (it true W s n).y ∧ rd (it true W s n).cs (b * W + a) ≠ 46 then 173 - rd (it true W s n).cs (b * W + a) else rd (it true W s n).cs (b * W + a)
    generalize it true W s n = q at *
    have he : (hitS true W q).cs = if True ∧ sgS W q ≠ 46 then q.cs.set (atS W q).toNat (173 - sgS W q) else q.cs := by simp [hitS]
    rw [he]
    by_cases e : a = q.x ∧ b = q.y
    · obtain ⟨rfl, rfl⟩ := e
      by_cases c : sgS W q = 46
      · rw [if_neg (fun t => t.2 c), if_neg (fun t => t.2.2 c)]
      · rw [if_pos ⟨trivial, c⟩, if_pos ⟨rfl, rfl, c⟩, rd_set z.1 (by rw [o.len]; exact z.2), if_pos (by unfold atS; omega)]
        rfl
    · rw [if_neg (fun t : a = q.x ∧ b = q.y ∧ rd q.cs (b * W + a) ≠ 46 => e ⟨t.1, t.2.1⟩)]
      split
      · rw [rd_set z.1 (by rw [o.len]; exact z.2), if_neg]
        intro t
        refine e (idx_inj ⟨ha, ha'⟩ i.1 ?_)
        unfold atS at t
        omega
      · rfl
theorem least_not {P : Nat → Prop} [DecidablePred P] : ∀ {N : Nat}, (¬ ∀ n, n < N → P n) → ∃ E, E < N ∧ ¬ P E ∧ ∀ k, k < E → P k
  | 0, h => absurd (fun n hn => absurd hn (Nat.not_lt_zero n)) h
  | N + 1, h => by
    by_cases c : ∀ n, n < N → P n
    · refine ⟨N, by omega, fun hp => h (fun n hn => ?_), c⟩
      rcases Nat.lt_or_ge n N with z | z
      · exact c n z
      · rw [show n = N by omega]; exact hp
    · obtain ⟨E, h1, h2, h3⟩ := least_not c
      exact ⟨E, by omega, h2, h3⟩
theorem comes_out (h : okC W H s.cs) (hd : isW s.d) (hW : W ≤ 9) (hH : H ≤ 9) : ∃ E, E ≤ 776997 ∧ ¬ inS W H (it true W s E) ∧ ∀ k, k < E → inS W H (it true W s k) := by
  have key : ¬ ∀ n, n < 776998 → inS W H (it true W s n) := fun hi => by
    have := (run_of h hd hi).ends hW hH
    omega
  obtain ⟨E, h1, h2, h3⟩ := least_not key
  exact ⟨E, by omega, h2, h3⟩
theorem still_cs : ∀ n, (it false W s n).cs = s.cs
  | 0 => rfl
  | n + 1 => by
    rw [it_succ]
    unfold hitS
    simp only [Bool.false_eq_true, false_and, if_false]
    exact still_cs n
theorem hit_inj {a b : St} (hc : a.cs = b.cs) (oa : okC W H a.cs) (ia : inS W H a) (ib : inS W H b) (da : isW a.d) (db : isW b.d) (h : hitS false W a = hitS false W b) : a = b := by
  have e1 : wayN (sgS W a) a.d = wayN (sgS W b) b.d := congrArg St.d h
  have e2 : a.x + dxN (wayN (sgS W a) a.d) = b.x + dxN (wayN (sgS W b) b.d) := congrArg St.x h
  have e3 : a.y + dyN (wayN (sgS W a) a.d) = b.y + dyN (wayN (sgS W b) b.d) := congrArg St.y h
  rw [e1] at e2 e3
  have ex : a.x = b.x := by omega
  have ey : a.y = b.y := by omega
  have es : sgS W a = sgS W b := by unfold sgS atS; rw [hc, ex, ey]
  have ob : okC W H b.cs := hc ▸ oa
  have ed : a.d = b.d := by
    have k1 := wayN_inv (oa.sgn ia) da
    have k2 := wayN_inv (ob.sgn ib) db
    rw [e1, es, k2] at k1
    exact k1.symm
  cases a; cases b; simp at *; exact ⟨hc, ex, ey, ed⟩
theorem pigeon : ∀ (n : Nat) (f : Nat → Nat), (∀ i, i ≤ n → f i < n) → ∃ i j, i < j ∧ j ≤ n ∧ f i = f j
  | 0, f, h => absurd (h 0 (Nat.le_refl _)) (Nat.not_lt_zero _)
  | n + 1, f, h => by
    by_cases c : ∃ i, i ≤ n ∧ f i = f (n + 1)
    · obtain ⟨i, h1, h2⟩ := c
      exact ⟨i, n + 1, by omega, Nat.le_refl _, h2⟩
    · have c' : ∀ i, i ≤ n → f i ≠ f (n + 1) := fun i hi e => c ⟨i, hi, e⟩
      obtain ⟨i, j, h1, h2, h3⟩ := pigeon n (fun i => if f i = n then f (n + 1) else f i) (fun i hi => by
        have k1 := h i (by omega)
        have k2 := c' i hi
        have k3 := h (n + 1) (Nat.le_refl _)
        show (if f i = n then f (n + 1) else f i) < n
        split <;> omega)
      refine ⟨i, j, h1, by omega, ?_⟩
      have k1 := c' i (by omega)
      have k2 := c' j h2
      have h3' : (if f i = n then f (n + 1) else f i) = if f j = n then f (n + 1) else f j := h3
      split at h3' <;> split at h3' <;> omega
theorem back_to (h : okC W H s.cs) (hd : isW s.d) : ∀ i j, (∀ k, k < i + j → inS W H (it false W s k)) → it false W s (i + j) = it false W s i → it false W s j = s
  | 0, j, _, e => by rw [Nat.zero_add] at e; exact e
  | i + 1, j, hi, e => by
    refine back_to h hd i j (fun k hk => hi k (by omega)) ?_
    rw [show i + 1 + j = i + j + 1 by omega, it_succ, it_succ] at e
    have o1 := it_ok (u := false) h hd (i + j) (fun k hk => hi k (by omega))
    have o2 := it_ok (u := false) h hd i (fun k hk => hi k (by omega))
    exact hit_inj ((still_cs _).trans (still_cs _).symm) o1.1 (hi _ (by omega)) (hi _ (by omega)) o1.2 o2.2 e
def codeS (W : Int) (s : St) : Nat := (atS W s * 4 + s.d).toNat
theorem code_inj {a b : St} (hc : a.cs = b.cs) (ia : inS W H a) (ib : inS W H b) (da : isW a.d) (db : isW b.d) (h : codeS W a = codeS W b) : a = b := by
  have za := idx_lt ia.1 ia.2
  have zb := idx_lt ib.1 ib.2
  have r1 : 0 ≤ a.d ∧ a.d ≤ 3 := by rcases da with e | e | e | e <;> omega
  have r2 : 0 ≤ b.d ∧ b.d ≤ 3 := by rcases db with e | e | e | e <;> omega
  unfold codeS at h
  have e1 : atS W a = atS W b := by unfold atS at *; omega
  have e2 : a.d = b.d := by unfold atS at *; omega
  obtain ⟨e3, e4⟩ := idx_inj (W := W) ia.1 ib.1 e1
  cases a; cases b; simp at *; exact ⟨hc, e3, e4, e2⟩
theorem out_or_back (h : okC W H s.cs) (hd : isW s.d) :
    (∃ E, E ≤ 4 * s.cs.length ∧ ¬ inS W H (it false W s E) ∧ ∀ k, k < E → inS W H (it false W s k)) ∨
    (∃ P, 0 < P ∧ P ≤ 4 * s.cs.length ∧ it false W s P = s ∧ (∀ k, 0 < k → k < P → it false W s k ≠ s) ∧ ∀ k, inS W H (it false W s k)) := by
  by_cases c : ∀ n, n < 4 * s.cs.length + 1 → inS W H (it false W s n)
  · right
    have lim : ∀ i, i ≤ 4 * s.cs.length → codeS W (it false W s i) < 4 * s.cs.length := fun i hi => by
      have o := it_ok (u := false) h hd i (fun k hk => c k (by omega))
      have z := idx_lt (c i (by omega)).1 (c i (by omega)).2
      have hl := h.len
      have r1 : 0 ≤ (it false W s i).d ∧ (it false W s i).d ≤ 3 := by rcases o.2 with e | e | e | e <;> omega
      unfold codeS atS
      omega
    obtain ⟨i, j, h1, h2, h3⟩ := pigeon _ _ lim
    have o1 := it_ok (u := false) h hd i (fun k hk => c k (by omega))
    have o2 := it_ok (u := false) h hd j (fun k hk => c k (by omega))
    have e := code_inj ((still_cs i).trans (still_cs j).symm) (c i (by omega)) (c j (by omega)) o1.2 o2.2 h3
    have b := back_to h hd i (j - i) (fun k hk => c k (by omega)) (by rw [show i + (j - i) = j by omega]; exact e.symm)
    have per : ∀ Q, it false W s Q = s → ∀ n, it false W s (Q + n) = it false W s n := fun Q hQ n => by rw [it_add, hQ]
    have all : ∀ n, inS W H (it false W s n) := fun n => by
      induction n using Nat.strongRecOn with
      | ind n ih =>
        rcases Nat.lt_or_ge n (j - i) with z | z
        · exact c n (by omega)
        · have := per _ b (n - (j - i))
          rw [show j - i + (n - (j - i)) = n by omega] at this
          rw [this]
          exact ih _ (by omega)
    by_cases d0 : ∀ n, n < j - i → ¬ (0 < n ∧ codeS W (it false W s n) = codeS W s)
    · refine ⟨j - i, by omega, by omega, b, fun k k1 k2 e => d0 k k2 ⟨k1, by rw [e]⟩, all⟩
    · obtain ⟨P, p1, p2, p3⟩ := least_not d0
      have p2' : 0 < P ∧ codeS W (it false W s P) = codeS W s := Decidable.not_not.1 p2
      have oP := it_ok (u := false) h hd P (fun k _ => all k)
      have eP : it false W s P = s := code_inj (still_cs P) (all P) (all 0) oP.2 hd p2'.2
      exact ⟨P, p2'.1, by omega, eP, fun k k1 k2 e => p3 k k2 ⟨k1, by rw [e]⟩, all⟩
  · obtain ⟨E, h1, h2, h3⟩ := least_not c
    exact .inl ⟨E, by omega, h2, h3⟩
theorem in_comes_out (h : okC W H s.cs) (hd : isW s.d) (ho : ¬ inS W H ⟨s.cs, s.x - dxN s.d, s.y - dyN s.d, s.d⟩) : ∃ E, E ≤ 4 * s.cs.length ∧ ¬ inS W H (it false W s E) ∧ ∀ k, k < E → inS W H (it false W s k) := by
  rcases out_or_back h hd with r | ⟨P, p0, _, pe, _, pa⟩
  · exact r
  · exfalso
    obtain ⟨Q, rfl⟩ : ∃ Q, P = Q + 1 := ⟨P - 1, by omega⟩
    rw [it_succ] at pe
    have q := pa Q
    have e1 : (hitS false W (it false W s Q)).x = s.x := by rw [pe]
    have e2 : (hitS false W (it false W s Q)).y = s.y := by rw [pe]
    have e3 : (hitS false W (it false W s Q)).d = s.d := by rw [pe]
    unfold hitS at e1 e2 e3
    simp only at e1 e2 e3
    rw [e3] at e1 e2
    refine ho ?_
    have w1 : s.x - dxN s.d = (it false W s Q).x := by omega
    have w2 : s.y - dyN s.d = (it false W s Q).y := by omega
    rw [w1, w2]
    exact q
end
def toB (cs : List Int) : ByteArray := strOfNums cs
def isByte (cs : List Int) : Prop := ∀ x ∈ cs, 0 ≤ x ∧ x ≤ 255
theorem bl_toB {cs : List Int} (h : isByte cs) : bl (toB cs) = cs := by
  unfold bl toB strOfNums
  simp only [List.map_map]
  rw [List.map_congr_left (g := id), List.map_id]
  intro x hx
  have := h x hx
  simp only [Function.comp, id]
  have e : (UInt8.ofNat x.toNat).toNat = x.toNat := by
    rw [UInt8.toNat_ofNat']
    exact Nat.mod_eq_of_lt (by show x.toNat < 256; omega)
  rw [e]
  omega
theorem toB_bl (c : ByteArray) : toB (bl c) = c := bl_inj (bl_toB (bl_range c))
theorem toB_size (cs : List Int) : (toB cs).size = cs.length := by
  show ((cs.map _).toArray).size = _
  simp
theorem okC.byte {W H : Int} {cs : List Int} (h : okC W H cs) : isByte cs := fun x hx => by
  rcases h.sg x hx with e | e | e <;> omega
theorem bt_toB {cs : List Int} (h : isByte cs) {i : Int} (h0 : 0 ≤ i) (h1 : i < cs.length) : bt (toB cs) i = rd cs i := by
  have e := bl_get? (toB cs) i.toNat (by rw [toB_size]; omega)
  rw [bl_toB h, Int.toNat_of_nonneg h0] at e
  unfold rd
  rw [List.getD_eq_getElem?_getD, e]
  rfl
theorem bl_append (a b : ByteArray) : bl (a ++ b) = bl a ++ bl b := by
  unfold bl
  rw [ByteArray.data_append, Array.toList_append, List.map_append]
theorem bl_extract (a : ByteArray) (i j : Nat) : bl (a.extract i j) = ((bl a).take j).drop i := by
  unfold bl
  rw [ByteArray.data_extract, Array.toList_extract, List.extract_eq_take_drop, List.map_take, List.map_drop, List.drop_take]
theorem cut_put (c s : ByteArray) (v : Int) (i : Nat) (h : i < c.size) (hs : bl s = [v]) : (c.extract 0 i ++ s) ++ c.extract (i + 1) c.size = toB ((bl c).set i v) := by
  refine bl_inj ?_
  rw [bl_append, bl_append, bl_extract, bl_extract, hs, bl_toB, List.drop_zero]
  · rw [← bl_length, List.take_length, List.set_eq_take_append_cons_drop, if_pos (by rw [bl_length]; exact h), List.append_assoc]
    rfl
  · intro x hx
    rcases List.mem_or_eq_of_mem_set hx with hx | rfl
    · exact bl_range c x hx
    · exact bl_range s x (by rw [hs]; simp)
structure Gd (w h : Int) (s : St) : Prop where
  w1 : 1 ≤ w
  w9 : w ≤ 9
  h1 : 1 ≤ h
  h9 : h ≤ 9
  c : okC w h s.cs
  i : inS w h s
  d : isW s.d
theorem isW_iff {d : Int} : isW d ↔ 0 ≤ d ∧ d ≤ 3 := by unfold isW; omega
theorem mul9 {w h : Int} (w1 : 1 ≤ w) (w9 : w ≤ 9) (h1 : 1 ≤ h) (h9 : h ≤ 9) : 1 ≤ w * h ∧ w * h ≤ 81 := by
  have a : 1 * 1 ≤ w * h := Int.mul_le_mul w1 h1 (by omega) (by omega)
  have b : w * h ≤ 9 * 9 := Int.mul_le_mul w9 h9 (by omega) (by omega)
  omega
theorem mirB_iff {x : Int} : mirB x = true ↔ isM x := by unfold mirB isM; simp [or_assoc]
theorem mazeOk_iff {w h : Int} {c : ByteArray} : mazeOk w h c = true ↔ (1 ≤ w ∧ w ≤ 9) ∧ (1 ≤ h ∧ h ≤ 9) ∧ okC w h (bl c) := by
  unfold mazeOk
  rw [Bool.and_eq_true, Bool.and_eq_true, Bool.and_eq_true, inB_iff, inB_iff, beq_iff_eq, List.all_eq_true]
  constructor
  · rintro ⟨a, b, e, z⟩
    have m := mul9 a.1 a.2 b.1 b.2
    rw [w64 (by omega) (by omega)] at e
    exact ⟨a, b, by rw [bl_length]; exact e, fun x hx => mirB_iff.1 (z x hx)⟩
  · rintro ⟨a, b, e, z⟩
    have m := mul9 a.1 a.2 b.1 b.2
    rw [bl_length] at e
    exact ⟨a, b, by rw [w64 (by omega) (by omega)]; exact e, fun x hx => mirB_iff.2 (z x hx)⟩
def stOf (c : ByteArray) (x y d : Int) : St := ⟨bl c, x, y, d⟩
theorem ballOk_iff {w h : Int} {c : ByteArray} {x y d : Int} : ballOk w h c x y d = true ↔ Gd w h (stOf c x y d) := by
  unfold ballOk antB
  rw [Bool.and_eq_true, Bool.and_eq_true, Bool.and_eq_true, mazeOk_iff, inB_iff, inB_iff, inB_iff]
  constructor
  · rintro ⟨⟨a, b, e⟩, x1, x2, x3⟩
    rw [w64 (by omega) (by omega)] at x1 x2
    exact ⟨a.1, a.2, b.1, b.2, e, ⟨by show 0 ≤ x ∧ x < w; omega, by show 0 ≤ y ∧ y < h; omega⟩, isW_iff.2 x3⟩
  · rintro ⟨a1, a2, b1, b2, e, ⟨x1, x2⟩, x3⟩
    have x1' : 0 ≤ x ∧ x < w := x1
    have x2' : 0 ≤ y ∧ y < h := x2
    rw [w64 (by omega) (by omega), w64 (by omega) (by omega)]
    exact ⟨⟨⟨a1, a2⟩, ⟨b1, b2⟩, e⟩, ⟨x1'.1, by omega⟩, ⟨x2'.1, by omega⟩, isW_iff.1 x3⟩
theorem ballOk_next {w h : Int} {s : St} (u : Bool) (g : Gd w h s) : ballOk w h (toB (hitS u w s).cs) (hitS u w s).x (hitS u w s).y (hitS u w s).d = decide (inS w h (hitS u w s)) := by
  have oc := g.c.hit (u := u) g.i
  have ow := hit_way (u := u) g.c g.i g.d
  by_cases i : inS w h (hitS u w s)
  · rw [decide_eq_true i, ballOk_iff]
    exact ⟨g.w1, g.w9, g.h1, g.h9, by show okC w h (bl (toB _)); rw [bl_toB oc.byte]; exact oc, i, ow⟩
  · rw [decide_eq_false i]
    cases hb : ballOk w h (toB (hitS u w s).cs) (hitS u w s).x (hitS u w s).y (hitS u w s).d with
    | false => rfl
    | true => exact absurd (ballOk_iff.1 hb).i i
theorem Gd.next {w h : Int} {s : St} {u : Bool} (g : Gd w h s) (i : inS w h (hitS u w s)) : Gd w h (hitS u w s) := ⟨g.w1, g.w9, g.h1, g.h9, g.c.hit g.i, i, hit_way g.c g.i g.d⟩
theorem Gd.at {w h : Int} {s : St} (g : Gd w h s) : wrap64 (wrap64 (s.y * w) + s.x) = atS w s ∧ 0 ≤ atS w s ∧ atS w s < s.cs.length ∧ s.cs.length ≤ 81 := by
  have z := idx_lt g.i.1 g.i.2
  have m := mul9 g.w1 g.w9 g.h1 g.h9
  have l := g.c.len
  have z0 : 0 ≤ s.y * w := Int.mul_nonneg g.i.2.1 (by have := g.w1; omega)
  have x0 := g.i.1.1
  unfold atS
  rw [w64 (x := s.y * w) (by omega) (by omega), w64 (by omega) (by omega)]
  omega
theorem Gd.bt {w h : Int} {s : St} (g : Gd w h s) : bt (toB s.cs) (atS w s) = sgS w s := bt_toB g.c.byte g.at.2.1 g.at.2.2.1
theorem Gd.put {w h : Int} {s : St} (g : Gd w h s) : XBytes.setB (toB s.cs) (atS w s) ((173 - sgS w s) % 256) = some (toB (s.cs.set (atS w s).toNat (173 - sgS w s))) := by
  have a := g.at
  have m := g.c.sgn g.i
  have e : (173 - sgS w s) % 256 = 173 - sgS w s := by rcases m with e | e | e <;> omega
  unfold XBytes.setB
  rw [if_pos (by rw [toB_size]; omega), if_pos a.2.1, if_pos (by rw [toB_size]; omega), e]
  congr 1
  show strOfNums ((bl (toB s.cs)).set _ _) = _
  rw [bl_toB g.c.byte]
  rfl
theorem ahead_eq {d : Int} (hd : isW d) : impl_ahead.f d = some (dxN d, dyN d) := by
  rcases hd with rfl | rfl | rfl | rfl <;> decide +kernel
theorem in_next {w h : Int} {s : St} (g : Gd w h s) (d : Int) (hd : isW d) :
    (decide (0 ≤ wrap64 (s.x + dxN d)) && decide (wrap64 (s.x + dxN d) ≤ wrap64 (w - 1))) = decide (0 ≤ s.x + dxN d ∧ s.x + dxN d < w) ∧
    (decide (0 ≤ wrap64 (s.y + dyN d)) && decide (wrap64 (s.y + dyN d) ≤ wrap64 (h - 1))) = decide (0 ≤ s.y + dyN d ∧ s.y + dyN d < h) ∧
    wrap64 (s.x + dxN d) = s.x + dxN d ∧ wrap64 (s.y + dyN d) = s.y + dyN d := by
  have x0 := g.i.1
  have y0 := g.i.2
  have := g.w1; have := g.w9; have := g.h1; have := g.h9
  have e1 : -1 ≤ dxN d ∧ dxN d ≤ 1 := by rcases hd with rfl | rfl | rfl | rfl <;> simp [dxN]
  have e2 : -1 ≤ dyN d ∧ dyN d ≤ 1 := by rcases hd with rfl | rfl | rfl | rfl <;> simp [dyN]
  rw [w64 (x := s.x + dxN d) (by omega) (by omega), w64 (x := s.y + dyN d) (by omega) (by omega), w64 (x := w - 1) (by omega) (by omega), w64 (x := h - 1) (by omega) (by omega)]
  refine ⟨?_, ?_, rfl, rfl⟩
  · rw [← Bool.decide_and]; exact decide_eq_decide.2 (by omega)
  · rw [← Bool.decide_and]; exact decide_eq_decide.2 (by omega)
theorem hit_j1 {w h : Int} {s : St} (u : Bool) (g : Gd w h s) (cs : List Int) (d : Int) (hd : isW d) (b : Bool) (hb : b = true → XBytes.setB (toB s.cs) (atS w s) ((173 - sgS w s) % 256) = some (toB cs)) (hb' : b = false → cs = s.cs) :
    Ev (fun k => impl_Maze_hit.j1 k (atS w s) (sgS w s) b w h (toB s.cs) u s.x s.y d) (w, h, toB cs, u, s.x + dxN d, s.y + dyN d, d, sgS w s != 46, decide (inS w h ⟨cs, s.x + dxN d, s.y + dyN d, d⟩)) := by
  obtain ⟨e1, e2, e3, e4⟩ := in_next g d hd
  have hin : decide (inS w h ⟨cs, s.x + dxN d, s.y + dyN d, d⟩) = (decide (0 ≤ s.x + dxN d ∧ s.x + dxN d < w) && decide (0 ≤ s.y + dyN d ∧ s.y + dyN d < h)) := by
    rw [← Bool.decide_and]
    exact decide_eq_decide.2 Iff.rfl
  refine ev_succ ?_
  simp only [impl_Maze_hit.j1]
  have tail : ∀ z : ByteArray, Ev (fun _ : Nat => (impl_ahead.f d).bind fun bt192 => ((impl_within.f (wrap64 (s.x + bt192.1)) 0 (wrap64 (w - 1))).bind fun t194 => (if t194 = true then ((impl_within.f (wrap64 (s.y + bt192.2)) 0 (wrap64 (h - 1))).bind fun t195 => (some (w, h, z, u, wrap64 (s.x + bt192.1), wrap64 (s.y + bt192.2), d, (sgS w s != 46), t195))) else (some (w, h, z, u, wrap64 (s.x + bt192.1), wrap64 (s.y + bt192.2), d, (sgS w s != 46), false))))) (w, h, z, u, s.x + dxN d, s.y + dyN d, d, sgS w s != 46, decide (inS w h ⟨cs, s.x + dxN d, s.y + dyN d, d⟩)) := fun z => by
    refine ev_const ?_
    rw [ahead_eq hd]
    simp only [Option.bind_some]
    rw [within_eq, e1, within_eq, e2, e3, e4, hin]
    cases decide (0 ≤ s.x + dxN d ∧ s.x + dxN d < w) <;> rfl
  cases b with
  | true =>
    refine ev_pos rfl (ev_bind (ev_const (show impl_flip.f (toB s.cs) (atS w s) (sgS w s) = some (toB cs) from hb rfl)) (tail _))
  | false =>
    refine ev_neg (by decide) ?_
    have e := hb' rfl
    have := tail (toB s.cs)
    rw [e]
    rw [e] at this
    exact this
theorem hit_j0 {w h : Int} {s : St} (u : Bool) (g : Gd w h s) (d : Int) (hd : d = wayN (sgS w s) s.d) :
    Ev (fun k => impl_Maze_hit.j0 k (atS w s) (sgS w s) w h (toB s.cs) u s.x s.y d) (w, h, toB (hitS u w s).cs, u, (hitS u w s).x, (hitS u w s).y, (hitS u w s).d, sgS w s != 46, decide (inS w h (hitS u w s))) := by
  have m := g.c.sgn g.i
  have hw := wayN_way m g.d
  have hs : hitS u w s = ⟨(hitS u w s).cs, s.x + dxN d, s.y + dyN d, d⟩ := by rw [hd]; rfl
  have k := fun b hb hb' => hit_j1 u g (hitS u w s).cs d (hd ▸ hw) b hb hb'
  rw [← hs] at k
  have e : ∀ (v : Int), (hitS u w s).x = s.x + dxN d ∧ (hitS u w s).y = s.y + dyN d ∧ (hitS u w s).d = d := fun _ => by rw [hd]; exact ⟨rfl, rfl, rfl⟩
  obtain ⟨e1, e2, e3⟩ := e 0
  rw [e1, e2, e3]
  refine ev_succ ?_
  simp only [impl_Maze_hit.j0]
  cases u with
  | true =>
    refine ev_pos rfl (k _ (fun hb => ?_) (fun hb => ?_))
    · have c : sgS w s ≠ 46 := by simpa using hb
      rw [g.put]
      unfold hitS
      simp [c]
    · have c : sgS w s = 46 := by simpa using hb
      unfold hitS
      simp [c]
  | false =>
    refine ev_neg (by decide) (k _ (fun hb => by cases hb) (fun _ => ?_))
    unfold hitS
    simp
theorem implHit_ev {w h : Int} {s : St} (u : Bool) (g : Gd w h s) :
    Ev (fun k => impl_Maze_hit.f k w h (toB s.cs) u s.x s.y s.d) (w, h, toB (hitS u w s).cs, u, (hitS u w s).x, (hitS u w s).y, (hitS u w s).d, sgS w s != 46, decide (inS w h (hitS u w s))) := by
  obtain ⟨a1, a2, a3, a4⟩ := g.at
  have b := g.bt
  have hd := isW_iff.1 g.d
  unfold impl_Maze_hit.f
  rw [a1, b]
  refine ev_pos a2 (ev_pos (by rw [toB_size]; exact a3) ?_)
  rcases g.c.sgn g.i with e | e | e
  · refine ev_neg (by omega) (ev_neg (by omega) (hit_j0 u g s.d ?_))
    rw [e]; simp [wayN]
  · refine ev_pos e (ev_bind (ev_some _) (ev_pos (by omega) (ev_pos (by show s.d < 4; omega) (hit_j0 u g _ ?_))))
    rw [e]
    rcases g.d with e' | e' | e' | e' <;> rw [e'] <;> rfl
  · refine ev_neg (by omega) (ev_pos e (ev_bind (ev_some _) (ev_pos (by omega) (ev_pos (by show s.d < 4; omega) (hit_j0 u g _ ?_)))))
    rw [e]
    rcases g.d with e' | e' | e' | e' <;> rw [e'] <;> rfl
theorem specHit_j2 {w h : Int} (u : Bool) (c : ByteArray) (x y d : Int) (hd : isW d) (hx : -100 ≤ x ∧ x ≤ 100) (hy : -100 ≤ y ∧ y ≤ 100) : Ev (fun k => spec_miHit.j2 k w h c u x y d) (w, h, c, u, x + dxN d, y + dyN d, d) := by
  refine ev_succ ?_
  simp only [spec_miHit.j2]
  rw [w64 (x := y - 1) (by omega) (by omega), w64 (x := x + 1) (by omega) (by omega), w64 (x := y + 1) (by omega) (by omega), w64 (x := x - 1) (by omega) (by omega)]
  refine ev_const ?_
  rcases hd with rfl | rfl | rfl | rfl <;> simp [dxN, dyN] <;> omega
theorem specHit_j0 {w h : Int} {s : St} (u : Bool) (g : Gd w h s) (o : ByteArray) (ho : sgS w s ≠ 46 → bl o = [173 - sgS w s]) (d : Int) (hd : d = wayN (sgS w s) s.d) :
    Ev (fun k => spec_miHit.j0 k (atS w s) (sgS w s) o w h (toB s.cs) u s.x s.y d) (w, h, toB (hitS u w s).cs, u, (hitS u w s).x, (hitS u w s).y, (hitS u w s).d) := by
  have m := g.c.sgn g.i
  have hw := wayN_way m g.d
  have x0 := g.i.1
  have y0 := g.i.2
  have := g.w1; have := g.w9; have := g.h1; have := g.h9
  obtain ⟨a1, a2, a3, a4⟩ := g.at
  have e : ∀ (v : Int), (hitS u w s).x = s.x + dxN d ∧ (hitS u w s).y = s.y + dyN d ∧ (hitS u w s).d = d := fun _ => by rw [hd]; exact ⟨rfl, rfl, rfl⟩
  obtain ⟨e1, e2, e3⟩ := e 0
  rw [e1, e2, e3]
  have j2 := fun c : ByteArray => specHit_j2 (w := w) (h := h) u c s.x s.y d (hd ▸ hw) (by omega) (by omega)
  have j1 : ∀ b : Bool, (b = true ↔ (u = true ∧ sgS w s ≠ 46)) → Ev (fun k => spec_miHit.j1 k (atS w s) o b w h (toB s.cs) u s.x s.y d) (w, h, toB (hitS u w s).cs, u, s.x + dxN d, s.y + dyN d, d) := fun b hb => by
    refine ev_succ ?_
    simp only [spec_miHit.j1]
    cases b with
    | false =>
      refine ev_neg (by decide) ?_
      have : (hitS u w s).cs = s.cs := by
        unfold hitS
        simp only
        rw [if_neg (fun z => by have := hb.2 z; cases this)]
      rw [this]
      exact j2 _
    | true =>
      have z := hb.1 rfl
      have hc : (hitS u w s).cs = s.cs.set (atS w s).toNat (173 - sgS w s) := by
        unfold hitS
        simp only
        rw [if_pos z]
      have ho' := ho z.2
      have os : o.size = 1 := by rw [← bl_length, ho']; rfl
      have cp := cut_put (toB s.cs) o (173 - sgS w s) (atS w s).toNat (by rw [toB_size]; omega) ho'
      rw [bl_toB g.c.byte, ← hc] at cp
      have w1 : wrap64 (atS w s + 1) = atS w s + 1 := w64 (by omega) (by omega)
      have n1 : (atS w s + 1).toNat = (atS w s).toNat + 1 := by omega
      have ts := toB_size s.cs
      rw [w1, n1, cp]
      refine ev_pos rfl (ev_pos a2 (ev_pos (by omega) (ev_pos ?_ (ev_pos (by omega) (ev_pos (by omega) (ev_pos ?_ (j2 _)))))))
      · rw [ByteArray.size_extract]; omega
      · rw [ByteArray.size_append, ByteArray.size_extract, ByteArray.size_extract]; omega
  refine ev_succ ?_
  simp only [spec_miHit.j0]
  cases u with
  | true => exact ev_pos rfl (j1 _ (by simp))
  | false => exact ev_neg (by decide) (j1 _ (by simp))
theorem specHit_ev {w h : Int} {s : St} (u : Bool) (g : Gd w h s) :
    Ev (fun k => spec_miHit.f k w h (toB s.cs) u s.x s.y s.d) (w, h, toB (hitS u w s).cs, u, (hitS u w s).x, (hitS u w s).y, (hitS u w s).d) := by
  obtain ⟨a1, a2, a3, a4⟩ := g.at
  have b := g.bt
  have hd := isW_iff.1 g.d
  unfold spec_miHit.f
  rw [a1, b]
  refine ev_pos a2 (ev_pos (by rw [toB_size]; exact a3) ?_)
  rcases g.c.sgn g.i with e | e | e
  · refine ev_neg (by omega) (ev_neg (by omega) (specHit_j0 u g _ (fun z => absurd e z) s.d ?_))
    rw [e]; simp [wayN]
  · refine ev_pos e (specHit_j0 u g _ (fun _ => by rw [e]; rfl) _ ?_)
    rw [e]
    rcases g.d with e' | e' | e' | e' <;> rw [e'] <;> decide +kernel
  · refine ev_neg (by omega) (ev_pos e (specHit_j0 u g _ (fun _ => by rw [e]; rfl) _ ?_))
    rw [e]
    rcases g.d with e' | e' | e' | e' <;> rw [e'] <;> decide +kernel
def endsN (w h : Int) : Int := wrap64 (2 * (wrap64 (w + h)))
def entryW (w h k : Int) : Int × Int × Int := if k < w then (k, 0, 2) else if k < wrap64 (w + h) then (wrap64 (w - 1), wrap64 (k - w), 3) else if k < wrap64 ((wrap64 (2 * w)) + h) then (wrap64 ((wrap64 ((wrap64 ((wrap64 (2 * w)) + h)) - 1)) - k), wrap64 (h - 1), 0) else (0, wrap64 ((wrap64 (endsN w h - 1)) - k), 1)
theorem implEntry_eq (w h : Int) (c : ByteArray) (u : Bool) (k : Int) : impl_Maze_entry.f w h c u k = some (entryW w h k) := by
  unfold impl_Maze_entry.f impl_Maze_ends.f entryW endsN
  split
  · rfl
  · split
    · rfl
    · split <;> rfl
theorem specEntry_eq (w h : Int) (c : ByteArray) (u : Bool) (k : Int) : spec_miEntry.f w h c u k = some (entryW w h k) := by
  unfold spec_miEntry.f spec_miEnds.f entryW endsN
  split
  · rfl
  · split
    · rfl
    · split <;> rfl
def outN (w h : Int) (s : St) : Int := if s.y < 0 then s.x else if s.x ≥ w then w + s.y else if s.y ≥ h then 2 * w + h - 1 - s.x else 2 * (w + h) - 1 - s.y
theorem exit_cases {w h : Int} {s : St} {u : Bool} (g : Gd w h s) (ho : ¬ inS w h (hitS u w s)) :
    ((hitS u w s).d = 0 ∧ (hitS u w s).y = -1 ∧ 0 ≤ (hitS u w s).x ∧ (hitS u w s).x < w) ∨ ((hitS u w s).d = 1 ∧ (hitS u w s).x = w ∧ 0 ≤ (hitS u w s).y ∧ (hitS u w s).y < h) ∨
    ((hitS u w s).d = 2 ∧ (hitS u w s).y = h ∧ 0 ≤ (hitS u w s).x ∧ (hitS u w s).x < w) ∨ ((hitS u w s).d = 3 ∧ (hitS u w s).x = -1 ∧ 0 ≤ (hitS u w s).y ∧ (hitS u w s).y < h) := by
  have x0 := g.i.1
  have y0 := g.i.2
  have hw := hit_way (u := u) g.c g.i g.d
  have ex : (hitS u w s).x = s.x + dxN (hitS u w s).d := rfl
  have ey : (hitS u w s).y = s.y + dyN (hitS u w s).d := rfl
  unfold inS at ho
  generalize hitS u w s = q at *
  rcases hw with e | e | e | e <;> rw [e] at ex ey <;> simp [dxN, dyN] at ex ey <;> omega
theorem entryW_small {w h : Int} (w1 : 1 ≤ w) (w9 : w ≤ 9) (h1 : 1 ≤ h) (h9 : h ≤ 9) {k : Int} (k0 : 0 ≤ k) (k1 : k < 40) :
    entryW w h k = if k < w then (k, 0, 2) else if k < w + h then (w - 1, k - w, 3) else if k < 2 * w + h then (2 * w + h - 1 - k, h - 1, 0) else (0, 2 * (w + h) - 1 - k, 1) := by
  unfold entryW endsN
  rw [w64 (x := w + h) (by omega) (by omega), w64 (x := 2 * w) (by omega) (by omega), w64 (x := 2 * (w + h)) (by omega) (by omega), w64 (x := 2 * w + h) (by omega) (by omega), w64 (x := w - 1) (by omega) (by omega), w64 (x := h - 1) (by omega) (by omega), w64 (x := k - w) (by omega) (by omega), w64 (x := 2 * w + h - 1) (by omega) (by omega), w64 (x := 2 * (w + h) - 1) (by omega) (by omega), w64 (x := 2 * w + h - 1 - k) (by omega) (by omega), w64 (x := 2 * (w + h) - 1 - k) (by omega) (by omega)]
theorem out_entry {w h : Int} {s : St} {u : Bool} (g : Gd w h s) (ho : ¬ inS w h (hitS u w s)) :
    ∃ e : Nat, outN w h (hitS u w s) = (e : Int) ∧ e < 40 ∧ entryW w h (e : Int) = ((hitS u w s).x - dxN (hitS u w s).d, (hitS u w s).y - dyN (hitS u w s).d, Int.tmod (wrap64 ((hitS u w s).d + 2)) 4) ∧
      ∀ k : Nat, k < e → entryW w h (k : Int) ≠ ((hitS u w s).x - dxN (hitS u w s).d, (hitS u w s).y - dyN (hitS u w s).d, Int.tmod (wrap64 ((hitS u w s).d + 2)) 4) := by
  have w1 := g.w1; have w9 := g.w9; have h1 := g.h1; have h9 := g.h9
  rcases exit_cases (u := u) g ho with ⟨e1, e2, e3, e4⟩ | ⟨e1, e2, e3, e4⟩ | ⟨e1, e2, e3, e4⟩ | ⟨e1, e2, e3, e4⟩ <;> generalize hitS u w s = q at * <;> rw [e1]
  · have t : Int.tmod (wrap64 ((0 : Int) + 2)) 4 = 2 := by decide +kernel
    rw [t]
    refine ⟨q.x.toNat, by unfold outN; rw [if_pos (by omega)]; omega, by omega, ?_, fun k hk => ?_⟩
    · rw [entryW_small w1 w9 h1 h9 (by omega) (by omega), if_pos (by omega)]; simp [dxN, dyN]; omega
    · rw [entryW_small w1 w9 h1 h9 (by omega) (by omega), if_pos (by omega)]; simp [dxN, dyN]; omega
  · have t : Int.tmod (wrap64 ((1 : Int) + 2)) 4 = 3 := by decide +kernel
    rw [t]
    refine ⟨(w + q.y).toNat, by unfold outN; rw [if_neg (by omega), if_pos (by omega)]; omega, by omega, ?_, fun k hk => ?_⟩
    · rw [entryW_small w1 w9 h1 h9 (by omega) (by omega), if_neg (by omega), if_pos (by omega)]; simp [dxN, dyN]; omega
    · rw [entryW_small w1 w9 h1 h9 (by omega) (by omega)]
      split
      · simp
      · rw [if_pos (by omega)]; simp [dxN, dyN]; omega
  · have t : Int.tmod (wrap64 ((2 : Int) + 2)) 4 = 0 := by decide +kernel
    rw [t]
    refine ⟨(2 * w + h - 1 - q.x).toNat, by unfold outN; rw [if_neg (by omega), if_neg (by omega), if_pos (by omega)]; omega, by omega, ?_, fun k hk => ?_⟩
    · rw [entryW_small w1 w9 h1 h9 (by omega) (by omega), if_neg (by omega), if_neg (by omega), if_pos (by omega)]; simp [dxN, dyN]; omega
    · rw [entryW_small w1 w9 h1 h9 (by omega) (by omega)]
      split
      · simp
      · split
        · simp
        · rw [if_pos (by omega)]; simp [dxN, dyN]; omega
  · have t : Int.tmod (wrap64 ((3 : Int) + 2)) 4 = 1 := by decide +kernel
    rw [t]
    refine ⟨(2 * (w + h) - 1 - q.y).toNat, by unfold outN; rw [if_neg (by omega), if_neg (by omega), if_neg (by omega)]; omega, by omega, ?_, fun k hk => ?_⟩
    · rw [entryW_small w1 w9 h1 h9 (by omega) (by omega), if_neg (by omega), if_neg (by omega), if_neg (by omega)]; simp [dxN, dyN]; omega
    · rw [entryW_small w1 w9 h1 h9 (by omega) (by omega)]
      split
      · simp
      · split
        · simp
        · split
          · simp
          · simp [dxN, dyN]; omega
theorem st_eq_of {a b : St} (hc : a.cs = b.cs) (hx : a.x = b.x) (hy : a.y = b.y) (hd : a.d = b.d) : a = b := by
  cases a; cases b; simp at *; exact ⟨hc, hx, hy, hd⟩
theorem implBit_eq (b : Bool) : impl_bit.f b = some (if b = true then 1 else 0) := by cases b <;> rfl
theorem ends_eq {w h : Int} (w1 : 1 ≤ w) (w9 : w ≤ 9) (h1 : 1 ≤ h) (h9 : h ≤ 9) : endsN w h = 2 * (w + h) := by
  unfold endsN
  rw [w64 (x := w + h) (by omega) (by omega), w64 (by omega) (by omega)]
theorem entry_gd {w h : Int} {cs : List Int} (w1 : 1 ≤ w) (w9 : w ≤ 9) (h1 : 1 ≤ h) (h9 : h ≤ 9) (oc : okC w h cs) {k : Int} (k0 : 0 ≤ k) (k1 : k < 2 * (w + h)) :
    Gd w h ⟨cs, (entryW w h k).1, (entryW w h k).2.1, (entryW w h k).2.2⟩ ∧ ¬ inS w h ⟨cs, (entryW w h k).1 - dxN (entryW w h k).2.2, (entryW w h k).2.1 - dyN (entryW w h k).2.2, (entryW w h k).2.2⟩ := by
  have e := entryW_small w1 w9 h1 h9 k0 (by omega)
  rw [e]
  split
  · exact ⟨⟨w1, w9, h1, h9, oc, ⟨by show 0 ≤ k ∧ k < w; omega, by show 0 ≤ (0 : Int) ∧ (0 : Int) < h; omega⟩, by simp [isW]⟩, fun z => by have := z.2.1; simp [dyN] at this⟩
  · split
    · exact ⟨⟨w1, w9, h1, h9, oc, ⟨by show 0 ≤ w - 1 ∧ w - 1 < w; omega, by show 0 ≤ k - w ∧ k - w < h; omega⟩, by simp [isW]⟩, fun z => by have := z.1.2; simp [dxN] at this⟩
    · split
      · exact ⟨⟨w1, w9, h1, h9, oc, ⟨by show 0 ≤ 2 * w + h - 1 - k ∧ 2 * w + h - 1 - k < w; omega, by show 0 ≤ h - 1 ∧ h - 1 < h; omega⟩, by simp [isW]⟩, fun z => by have := z.2.2; simp [dyN] at this⟩
      · exact ⟨⟨w1, w9, h1, h9, oc, ⟨by show 0 ≤ (0 : Int) ∧ (0 : Int) < w; omega, by show 0 ≤ 2 * (w + h) - 1 - k ∧ 2 * (w + h) - 1 - k < h; omega⟩, by simp [isW]⟩, fun z => by have := z.1.1; simp [dxN] at this⟩
def sn (w : Int) (L : List Bool) (s : St) : Bool := L.getD (codeS w s) false
def mkS_ (w : Int) (L : List Bool) (s : St) : List Bool := L.set (codeS w s) true
def Rep (w h : Int) (cs : List Int) (L : List Bool) (P : St → Prop) : Prop := ∀ s, s.cs = cs → Gd w h s → (sn w L s = true ↔ P s)
def RepF (w h : Int) (cs : List Int) (F : Int → Int → Int → Bool) (P : St → Prop) : Prop := ∀ s, s.cs = cs → Gd w h s → (F s.x s.y s.d = true ↔ P s)
section
variable {w h : Int} {cs : List Int} {L : List Bool} {F : Int → Int → Int → Bool} {P : St → Prop} {s : St}
theorem code_eq (g : Gd w h s) : ((codeS w s : Nat) : Int) = atS w s * 4 + s.d := by
  have a := g.at
  have d := isW_iff.1 g.d
  unfold codeS
  omega
theorem code_lt (g : Gd w h s) : codeS w s < 4 * s.cs.length := by
  have a := g.at
  have d := isW_iff.1 g.d
  have e := code_eq g
  omega
theorem Rep.congr {Q : St → Prop} (hR : Rep w h cs L P) (e : ∀ t, P t ↔ Q t) : Rep w h cs L Q := fun t a b => (hR t a b).trans (e t)
theorem RepF.congr {Q : St → Prop} (hR : RepF w h cs F P) (e : ∀ t, t.cs = cs → Gd w h t → (P t ↔ Q t)) : RepF w h cs F Q := fun t a b => (hR t a b).trans (e t a b)
theorem Rep.mk (hR : Rep w h cs L P) (hl : L.length = 4 * cs.length) (hs : s.cs = cs) (g : Gd w h s) : Rep w h cs (mkS_ w L s) (fun t => P t ∨ t = s) := by
  intro t ht gt
  have hlt := code_lt g
  rw [hs] at hlt
  unfold sn mkS_
  rw [List.getD_eq_getElem?_getD, List.getElem?_set]
  by_cases e : codeS w s = codeS w t
  · have et : t = s := code_inj (ht.trans hs.symm) gt.i g.i gt.d g.d e.symm
    rw [if_pos e, if_pos (by omega)]
    exact ⟨fun _ => .inr et, fun _ => rfl⟩
  · rw [if_neg e, ← List.getD_eq_getElem?_getD]
    have := hR t ht gt
    unfold sn at this
    rw [this]
    exact ⟨fun z => .inl z, fun z => z.elim id (fun z => absurd (by rw [z]) e)⟩
theorem RepF.upd (hR : RepF w h cs F P) (hs : s.cs = cs) : RepF w h cs (XMapT.upd F s.x s.y s.d) (fun t => P t ∨ t = s) := by
  intro t ht gt
  unfold XMapT.upd
  by_cases e : t.x = s.x ∧ t.y = s.y ∧ t.d = s.d
  · rw [if_pos e]
    exact ⟨fun _ => .inr (st_eq_of (ht.trans hs.symm) e.1 e.2.1 e.2.2), fun _ => rfl⟩
  · rw [if_neg e, hR t ht gt]
    exact ⟨fun z => .inl z, fun z => z.elim id (fun z => absurd (by rw [z]; exact ⟨rfl, rfl, rfl⟩) e)⟩
theorem mk_len : (mkS_ w L s).length = L.length := List.length_set
theorem miIndex_eq (g : Gd w h s) (c : ByteArray) (u : Bool) : spec_miIndex.f w h c u s.x s.y s.d = some ((codeS w s : Nat) : Int) := by
  obtain ⟨a1, a2, a3, a4⟩ := g.at
  have d := isW_iff.1 g.d
  unfold spec_miIndex.f
  rw [a1, w64 (x := atS w s * 4) (by omega) (by omega), w64 (by omega) (by omega), code_eq g]
theorem ball_true (g : Gd w h s) : ballOk w h (toB s.cs) s.x s.y s.d = true := by
  refine ballOk_iff.2 ?_
  show Gd w h ⟨bl (toB s.cs), s.x, s.y, s.d⟩
  rw [bl_toB g.c.byte]
  exact g
theorem ball_false (ho : ¬ inS w h s) : ballOk w h (toB s.cs) s.x s.y s.d = false := by
  cases hb : ballOk w h (toB s.cs) s.x s.y s.d with
  | false => rfl
  | true => exact absurd (ballOk_iff.1 hb).i ho
theorem near_next (g : Gd w h s) (u : Bool) : (-1 ≤ (hitS u w s).x ∧ (hitS u w s).x ≤ 9) ∧ (-1 ≤ (hitS u w s).y ∧ (hitS u w s).y ≤ 9) ∧ 0 ≤ (hitS u w s).d ∧ (hitS u w s).d ≤ 3 := by
  have ow := hit_way (u := u) g.c g.i g.d
  have x0 := g.i.1
  have y0 := g.i.2
  have w9 := g.w9
  have h9 := g.h9
  have ex : (hitS u w s).x = s.x + dxN (hitS u w s).d := rfl
  have ey : (hitS u w s).y = s.y + dyN (hitS u w s).d := rfl
  generalize hitS u w s = q at *
  rcases ow with e | e | e | e <;> rw [e] at ex ey ⊢ <;> simp [dxN, dyN] at ex ey <;> omega
theorem hit_cs (s : St) : (hitS false w s).cs = s.cs := by
  unfold hitS
  simp
theorem it_hit (s : St) (n : Nat) : it false w (hitS false w s) n = it false w s (n + 1) := by
  have := it_add false w s 1 n
  rw [show 1 + n = n + 1 by omega] at this
  rw [this]
  rfl
theorem gd_it (w1 : 1 ≤ w) (w9 : w ≤ 9) (h1 : 1 ≤ h) (h9 : h ≤ 9) (oc : okC w h cs) (hs : s.cs = cs) (hd : isW s.d) {n : Nat} (hi : ∀ k, k ≤ n → inS w h (it false w s k)) : Gd w h (it false w s n) := by
  have o := it_ok (u := false) (hs ▸ oc : okC w h s.cs) hd n (fun k hk => hi k (by omega))
  exact ⟨w1, w9, h1, h9, o.1, hi n (Nat.le_refl _), o.2⟩
theorem spec_orbit (w1 : 1 ≤ w) (w9 : w ≤ 9) (h1 : 1 ≤ h) (h9 : h ≤ 9) (oc : okC w h cs) : ∀ (n : Nat) (L : List Bool) (P : St → Prop) (s : St), L.length = 4 * cs.length → Rep w h cs L P → s.cs = cs → isW s.d → (∀ k, k < n → inS w h (it false w s k)) → ¬ inS w h (it false w s n) →
    ∃ L', L'.length = 4 * cs.length ∧ Rep w h cs L' (fun t => P t ∨ ∃ k, k < n ∧ t = it false w s k) ∧ ∀ (x5 : Int) (z : Int × Bool), Ev (fun k => spec_CountTracks.l0 k L' (wrap64 (x5 + 1)) w h (toB cs) false) z → Ev (fun k => spec_CountTracks.l1 k L x5 w h (toB cs) false s.x s.y s.d) z
  | 0, L, P, s, hl, hR, hs, hd, hi, ho => by
    refine ⟨L, hl, hR.congr (fun t => ⟨fun a => .inl a, fun a => a.elim id (fun ⟨k, hk, _⟩ => absurd hk (by omega))⟩), fun x5 z hz => ev_succ ?_⟩
    simp only [spec_CountTracks.l1]
    have hb := miBall_ev w h (toB s.cs) false s.x s.y s.d (by rw [toB_size, hs]; have := oc.len; have := mul9 w1 w9 h1 h9; omega)
    rw [ball_false (show ¬ inS w h s from ho), hs] at hb
    exact ev_bind hb (ev_neg (by decide) hz)
  | n + 1, L, P, s, hl, hR, hs, hd, hi, ho => by
    have g : Gd w h s := ⟨w1, w9, h1, h9, hs ▸ oc, hi 0 (by omega), hd⟩
    have hlt := code_lt g
    rw [hs] at hlt
    obtain ⟨L', e1, e2, e3⟩ := spec_orbit w1 w9 h1 h9 oc n (mkS_ w L s) (fun t => P t ∨ t = s) (hitS false w s) (mk_len.trans hl) (hR.mk hl hs g) ((hit_cs s).trans hs) (hit_way g.c g.i g.d) (fun k hk => by rw [it_hit]; exact hi (k + 1) (by omega)) (by rw [it_hit]; exact ho)
    refine ⟨L', e1, e2.congr (fun t => ?_), fun x5 z hz => ev_succ ?_⟩
    · constructor
      · rintro ((a | rfl) | ⟨k, hk, rfl⟩)
        · exact .inl a
        · exact .inr ⟨0, by omega, rfl⟩
        · exact .inr ⟨k + 1, by omega, it_hit s k⟩
      · rintro (a | ⟨k, hk, rfl⟩)
        · exact .inl (.inl a)
        · cases k with
          | zero => exact .inl (.inr rfl)
          | succ k => exact .inr ⟨k, by omega, (it_hit s k).symm⟩
    · simp only [spec_CountTracks.l1]
      have hb := miBall_ev w h (toB s.cs) false s.x s.y s.d (by rw [toB_size, hs]; have := oc.len; have := mul9 w1 w9 h1 h9; omega)
      rw [ball_true g, hs] at hb
      have hh := specHit_ev false g
      rw [hit_cs, hs] at hh
      refine ev_bind hb (ev_pos rfl (ev_bind (ev_const (miIndex_eq g _ _)) (ev_pos (Int.natCast_nonneg _) (ev_pos (by rw [hl]; omega) (ev_bind hh ?_)))))
      show Ev (fun k => spec_CountTracks.l1 k (L.set ((codeS w s : Nat) : Int).toNat true) x5 w h (toB cs) false (hitS false w s).x (hitS false w s).y (hitS false w s).d) z
      rw [Int.toNat_natCast]
      exact e3 x5 z hz
def Closed (w h : Int) (cs : List Int) (P : St → Prop) : Prop := ∀ r, r.cs = cs → Gd w h r → P r → inS w h (hitS false w r) → P (hitS false w r)
theorem no_twice {s : St} {E i j : Nat} (hi : ∀ k, k < E → inS w h (it false w s k)) (ho : ¬ inS w h (it false w s E)) (hij : i < j) (hj : j < E) (e : it false w s j = it false w s i) : False := by
  have a := it_add false w s j (E - j)
  have b := it_add false w s i (E - j)
  rw [e, ← b, show j + (E - j) = E by omega] at a
  rw [a] at ho
  exact ho (hi _ (by omega))
theorem impl_orbit (w1 : 1 ≤ w) (w9 : w ≤ 9) (h1 : 1 ≤ h) (h9 : h ≤ 9) (oc : okC w h cs) (hc : Closed w h cs P) (hs : s.cs = cs) (hd : isW s.d) {E : Nat} (hi : ∀ k, k < E → inS w h (it false w s k)) (ho : ¬ inS w h (it false w s E)) (hE : 0 < E) : ∀ (n j : Nat) (F : Int → Int → Int → Bool) (m : Int), j + n = E → RepF w h cs F (fun t => P t ∨ ∃ k, k < j ∧ t = it false w s k) → 0 ≤ m → m + n ≤ 1000000 →
    ∃ (m' : Int) (F' : Int → Int → Int → Bool), RepF w h cs F' (fun t => P t ∨ ∃ k, k < E ∧ t = it false w s k) ∧ m ≤ m' ∧ m' ≤ m + n ∧ Ev (fun k => fol.l k w h (toB cs) false (it false w s j).x (it false w s j).y (it false w s j).d (decide (inS w h (it false w s j))) F m) (m', F')
  | 0, j, F, m, e, hR, m0, m1 => by
    obtain rfl : j = E := by omega
    refine ⟨m, F, hR, Int.le_refl _, by omega, ev_succ ?_⟩
    obtain ⟨q, rfl⟩ : ∃ q, j = q + 1 := ⟨j - 1, by omega⟩
    have g := gd_it w1 w9 h1 h9 oc hs hd (n := q) (fun k hk => hi k (by omega))
    have nn := near_next g false
    rw [← it_succ] at nn
    simp only [fol.l]
    rw [decide_eq_false ho]
    exact ev_pos ⟨⟨⟨by omega, by omega⟩, ⟨by omega, by omega⟩, ⟨by omega, by omega⟩⟩, by omega⟩ (ev_neg (by decide) (ev_some _))
  | n + 1, j, F, m, e, hR, m0, m1 => by
    have g := gd_it w1 w9 h1 h9 oc hs hd (n := j) (fun k hk => hi k (by omega))
    have hcs : (it false w s j).cs = cs := (still_cs j).trans hs
    have i9 := g.i
    have dd := isW_iff.1 g.d
    have hin : (XMapT.In64 (it false w s j).x ∧ XMapT.In64 (it false w s j).y ∧ XMapT.In64 (it false w s j).d) ∧ 0 ≤ m ∧ m ≤ 1000000 := by
      have a := i9.1
      have b := i9.2
      exact ⟨⟨⟨by omega, by omega⟩, ⟨by omega, by omega⟩, ⟨by omega, by omega⟩⟩, by omega⟩
    cases hF : F (it false w s j).x (it false w s j).y (it false w s j).d with
    | true =>
      refine ⟨m, F, hR.congr (fun t ht gt => ?_), Int.le_refl _, by omega, ev_succ ?_⟩
      · constructor
        · rintro (a | ⟨k, hk, a⟩)
          · exact .inl a
          · exact .inr ⟨k, by omega, a⟩
        · rintro (a | ⟨k, hk, a⟩)
          · exact .inl a
          · rcases Nat.lt_or_ge k j with c | c
            · exact .inr ⟨k, c, a⟩
            · left
              rcases (hR _ hcs g).1 hF with p | ⟨i, hij, p⟩
              · rw [a]
                have key : ∀ q, j + q < E → P (it false w s (j + q)) := fun q => by
                  induction q with
                  | zero => intro _; exact p
                  | succ q ih =>
                    intro hq
                    have gq := gd_it w1 w9 h1 h9 oc hs hd (n := j + q) (fun k hk => hi k (by omega))
                    exact hc _ ((still_cs _).trans hs) gq (ih (by omega)) (hi (j + q + 1) (by omega))
                have := key (k - j) (by omega)
                rwa [show j + (k - j) = k by omega] at this
              · exact (no_twice hi ho hij (by omega) p).elim
      · simp only [fol.l]
        rw [decide_eq_true g.i]
        exact ev_pos hin (ev_pos rfl (ev_pos hF (ev_some _)))
    | false =>
      have hR' := hR.upd (s := it false w s j) hcs
      obtain ⟨m', F', r1, r2, r3, r4⟩ := impl_orbit w1 w9 h1 h9 oc hc hs hd hi ho hE n (j + 1) (XMapT.upd F (it false w s j).x (it false w s j).y (it false w s j).d) (m + 1) (by omega) (hR'.congr (fun t _ _ => by
        constructor
        · rintro ((a | ⟨k, hk, a⟩) | a)
          · exact .inl a
          · exact .inr ⟨k, by omega, a⟩
          · exact .inr ⟨j, by omega, a⟩
        · rintro (a | ⟨k, hk, a⟩)
          · exact .inl (.inl a)
          · rcases Nat.lt_or_ge k j with c | c
            · exact .inl (.inr ⟨k, c, a⟩)
            · obtain rfl : k = j := by omega
              exact .inr a)) (by omega) (by omega)
      refine ⟨m', F', r1, by omega, by omega, ev_succ ?_⟩
      simp only [fol.l]
      rw [decide_eq_true g.i]
      have hh := implHit_ev false g
      rw [hit_cs, hcs] at hh
      exact ev_pos hin (ev_pos rfl (ev_neg (by rw [hF]; decide) (ev_bind hh r4)))
def entS (w h : Int) (cs : List Int) (e : Nat) : St := ⟨cs, (entryW w h (e : Int)).1, (entryW w h (e : Int)).2.1, (entryW w h (e : Int)).2.2⟩
def Cov (w h : Int) (cs : List Int) (P : St → Prop) (i : Nat) : Prop := ∀ e, e < i → ∀ j, (∀ k, k ≤ j → inS w h (it false w (entS w h cs e) k)) → P (it false w (entS w h cs e) j)
def revS (z : St) : St := ⟨z.cs, z.x - dxN z.d, z.y - dyN z.d, (z.d + 2) % 4⟩
theorem way_rev {m d : Int} (hm : isM m) (hd : isW d) : wayN m ((wayN m d + 2) % 4) = (d + 2) % 4 := by
  rcases hm with rfl | rfl | rfl <;> rcases hd with rfl | rfl | rfl | rfl <;> simp [wayN]
theorem hit_rev (g : Gd w h s) : hitS false w (revS (hitS false w s)) = revS s := by
  have hm := g.c.sgn g.i
  have ow := hit_way (u := false) g.c g.i g.d
  obtain ⟨d1, d2, d3, d4⟩ := dir_back ow
  obtain ⟨b1, b2, b3, b4⟩ := dir_back g.d
  have e1 : (revS (hitS false w s)).x = s.x := by show s.x + dxN (wayN (sgS w s) s.d) - dxN (wayN (sgS w s) s.d) = s.x; omega
  have e2 : (revS (hitS false w s)).y = s.y := by show s.y + dyN (wayN (sgS w s) s.d) - dyN (wayN (sgS w s) s.d) = s.y; omega
  have e3 : (revS (hitS false w s)).cs = s.cs := hit_cs (w := w) s
  have e4 : sgS w (revS (hitS false w s)) = sgS w s := by unfold sgS atS; rw [e1, e2, e3]
  have e5 : wayN (sgS w (revS (hitS false w s))) (revS (hitS false w s)).d = (s.d + 2) % 4 := by
    rw [e4]
    exact way_rev hm g.d
  refine st_eq_of ((hit_cs _).trans e3) ?_ ?_ ?_
  · show (revS (hitS false w s)).x + dxN (wayN (sgS w (revS (hitS false w s))) (revS (hitS false w s)).d) = s.x - dxN s.d
    rw [e5, e1, b2]
    omega
  · show (revS (hitS false w s)).y + dyN (wayN (sgS w (revS (hitS false w s))) (revS (hitS false w s)).d) = s.y - dyN s.d
    rw [e5, e2, b3]
    omega
  · exact e5
theorem tmod_opp {d : Int} (hd : isW d) : Int.tmod (wrap64 (d + 2)) 4 = (d + 2) % 4 := by
  rcases hd with rfl | rfl | rfl | rfl <;> decide +kernel
theorem leads_in (oc : okC w h cs) (hcov : Cov w h cs P (2 * (w + h)).toNat) (hs : s.cs = cs) (g : Gd w h s) (hp : ¬ P s) : inS w h (hitS false w s) := by
  refine Decidable.byContradiction fun ho => hp ?_
  have w1 := g.w1
  have w9 := g.w9
  have h1 := g.h1
  have h9 := g.h9
  have ow := hit_way (u := false) g.c g.i g.d
  obtain ⟨d1, d2, d3, d4⟩ := dir_back ow
  -- the way back from where it comes out
  have t1 : (revS (hitS false w s)).x = s.x := by show s.x + dxN (wayN (sgS w s) s.d) - dxN (wayN (sgS w s) s.d) = s.x; omega
  have t2 : (revS (hitS false w s)).y = s.y := by show s.y + dyN (wayN (sgS w s) s.d) - dyN (wayN (sgS w s) s.d) = s.y; omega
  have t3 : (revS (hitS false w s)).cs = cs := (hit_cs (w := w) s).trans hs
  have ti : inS w h (revS (hitS false w s)) := by
    have := g.i
    unfold inS at *
    rw [t1, t2]
    exact this
  have hout : ¬ inS w h ⟨(revS (hitS false w s)).cs, (revS (hitS false w s)).x - dxN (revS (hitS false w s)).d, (revS (hitS false w s)).y - dyN (revS (hitS false w s)).d, (revS (hitS false w s)).d⟩ := by
    intro z
    apply ho
    have a1 : (revS (hitS false w s)).x - dxN (revS (hitS false w s)).d = (hitS false w s).x := by
      show (hitS false w s).x - dxN (hitS false w s).d - dxN (((hitS false w s).d + 2) % 4) = _
      rw [d2]
      omega
    have a2 : (revS (hitS false w s)).y - dyN (revS (hitS false w s)).d = (hitS false w s).y := by
      show (hitS false w s).y - dyN (hitS false w s).d - dyN (((hitS false w s).d + 2) % 4) = _
      rw [d3]
      omega
    unfold inS at z ⊢
    dsimp only at z
    rw [a1, a2] at z
    exact z
  have hd0 : isW (revS (hitS false w s)).d := d1
  obtain ⟨E, _, hE, hI⟩ := in_comes_out (W := w) (H := h) (s := revS (hitS false w s)) (t3.symm ▸ oc) hd0 hout
  generalize ht0 : revS (hitS false w s) = t0 at *
  have E0 : 0 < E := by
    rcases Nat.eq_zero_or_pos E with e | e
    · subst e; exact absurd ti hE
    · exact e
  obtain ⟨q, rfl⟩ : ∃ q, E = q + 1 := ⟨E - 1, by omega⟩
  have gq := gd_it w1 w9 h1 h9 oc t3 hd0 (n := q) (fun k hk => hI k (by omega))
  have oq := hit_way (u := false) gq.c gq.i gq.d
  obtain ⟨e, _, e40, ee, _⟩ := out_entry (u := false) gq hE
  have r1 : (revS (it false w t0 (q + 1))).x = (it false w t0 q).x := by
    show (it false w t0 q).x + dxN (wayN (sgS w (it false w t0 q)) (it false w t0 q).d) - dxN (wayN (sgS w (it false w t0 q)) (it false w t0 q).d) = _
    omega
  have r2 : (revS (it false w t0 (q + 1))).y = (it false w t0 q).y := by
    show (it false w t0 q).y + dyN (wayN (sgS w (it false w t0 q)) (it false w t0 q).d) - dyN (wayN (sgS w (it false w t0 q)) (it false w t0 q).d) = _
    omega
  have es : entS w h cs e = revS (it false w t0 (q + 1)) := by
    unfold entS
    rw [ee]
    refine st_eq_of ?_ rfl rfl ?_
    · show cs = (it false w t0 (q + 1)).cs
      rw [still_cs]
      exact t3.symm
    · show Int.tmod (wrap64 ((hitS false w (it false w t0 q)).d + 2)) 4 = _
      rw [tmod_opp oq]
      rfl
  have elt : e < (2 * (w + h)).toNat := by
    rcases Nat.lt_or_ge e (2 * (w + h)).toNat with c | c
    · exact c
    · exfalso
      have sm := entryW_small w1 w9 h1 h9 (k := (e : Int)) (by omega) (by omega)
      rw [if_neg (by omega), if_neg (by omega), if_neg (by omega)] at sm
      have y0 := gq.i.2.1
      have : (entS w h cs e).y = (it false w t0 q).y := by rw [es]; exact r2
      unfold entS at this
      rw [sm] at this
      dsimp only at this
      omega
  have back : ∀ n, n ≤ q + 1 → it false w (entS w h cs e) n = revS (it false w t0 (q + 1 - n)) := fun n => by
    induction n with
    | zero => intro _; exact es
    | succ n ih =>
      intro hn
      rw [it_succ, ih (by omega)]
      obtain ⟨p, hp⟩ : ∃ p, q + 1 - n = p + 1 := ⟨q - n, by omega⟩
      rw [hp, it_succ, show q + 1 - (n + 1) = p by omega]
      exact hit_rev (gd_it w1 w9 h1 h9 oc t3 hd0 (n := p) (fun k hk => hI k (by omega)))
  have hin : ∀ k, k ≤ q → inS w h (it false w (entS w h cs e) k) := fun k hk => by
    rw [back k (by omega)]
    obtain ⟨p, hp⟩ : ∃ p, q + 1 - k = p + 1 := ⟨q - k, by omega⟩
    rw [hp]
    have := hI p (by omega)
    have v1 : (revS (it false w t0 (p + 1))).x = (it false w t0 p).x := by
      show (it false w t0 p).x + dxN (wayN (sgS w (it false w t0 p)) (it false w t0 p).d) - dxN (wayN (sgS w (it false w t0 p)) (it false w t0 p).d) = _
      omega
    have v2 : (revS (it false w t0 (p + 1))).y = (it false w t0 p).y := by
      show (it false w t0 p).y + dyN (wayN (sgS w (it false w t0 p)) (it false w t0 p).d) - dyN (wayN (sgS w (it false w t0 p)) (it false w t0 p).d) = _
      omega
    unfold inS at *
    rw [v1, v2]
    exact this
  have hfin := hcov e elt q hin
  rw [back q (by omega), show q + 1 - q = 0 + 1 by omega, it_succ] at hfin
  have : revS (hitS false w (it false w t0 0)) = s := by
    show revS (hitS false w t0) = s
    rw [← ht0, hit_rev g]
    obtain ⟨b1, b2, b3, b4⟩ := dir_back g.d
    refine st_eq_of rfl ?_ ?_ ?_
    · show s.x - dxN s.d - dxN ((s.d + 2) % 4) = s.x
      rw [b2]; omega
    · show s.y - dyN s.d - dyN ((s.d + 2) % 4) = s.y
      rw [b3]; omega
    · exact b4
  rw [this] at hfin
  exact hfin
end
def fc (L : List Bool) : Nat := L.count false
theorem fc_set : ∀ (L : List Bool) (i : Nat), i < L.length → L.getD i false = false → fc (L.set i true) + 1 = fc L
  | [], i, h, _ => absurd h (Nat.not_lt_zero i)
  | b :: r, 0, _, e => by
    have : b = false := e
    subst this
    simp [fc, List.set]
  | b :: r, i + 1, h, e => by
    have ih := fc_set r i (by simpa using h) (by simpa using e)
    unfold fc at *
    rw [List.set_cons_succ, List.count_cons, List.count_cons]
    omega
theorem fc_le (L : List Bool) : fc L ≤ L.length := List.count_le_length
section
variable {w h : Int} {cs : List Int}
def Inv (w h : Int) (cs : List Int) (P : St → Prop) : Prop := ∀ r, r.cs = cs → Gd w h r → ¬ P r → inS w h (hitS false w r)
theorem both_follow (w1 : 1 ≤ w) (w9 : w ≤ 9) (h1 : 1 ≤ h) (h9 : h ≤ 9) (oc : okC w h cs) : ∀ (n : Nat) (L : List Bool) (F : Int → Int → Int → Bool) (P : St → Prop) (t : St) (m : Int), fc L ≤ n → L.length = 4 * cs.length → Rep w h cs L P → RepF w h cs F P → Inv w h cs P → t.cs = cs → Gd w h t → 0 ≤ m → m + n ≤ 1000000 →
    ∃ (L' : List Bool) (F' : Int → Int → Int → Bool) (P' : St → Prop) (m' : Int), L'.length = 4 * cs.length ∧ Rep w h cs L' P' ∧ RepF w h cs F' P' ∧ Inv w h cs P' ∧ m ≤ m' ∧ m' ≤ m + n ∧ (sn w L t = true → L' = L ∧ F' = F ∧ m' = m) ∧ (sn w L t = false → m < m') ∧
      (∀ (x7 x47 x48 : Int) (z : Int × Bool), Ev (fun k => spec_CountTracks.l2 k L' x7 x47 (wrap64 (x48 + 1)) w h (toB cs) false) z → Ev (fun k => spec_CountTracks.l3 k L x7 x47 x48 w h (toB cs) false t.x t.y t.d) z) ∧
      Ev (fun k => fol.l k w h (toB cs) false t.x t.y t.d true F m) (m', F') := by
  intro n
  induction n with
  | zero =>
    intro L F P t m hf hl hR hF hI ht g m0 m1
    have hlt := code_lt g
    rw [ht] at hlt
    have hin : (XMapT.In64 t.x ∧ XMapT.In64 t.y ∧ XMapT.In64 t.d) ∧ 0 ≤ m ∧ m ≤ 1000000 := by
      have a := g.i.1
      have b := g.i.2
      have dd := isW_iff.1 g.d
      exact ⟨⟨⟨by omega, by omega⟩, ⟨by omega, by omega⟩, ⟨by omega, by omega⟩⟩, by omega⟩
    cases hs : sn w L t with
    | true =>
      have hFt : F t.x t.y t.d = true := (hF t ht g).2 ((hR t ht g).1 hs)
      refine ⟨L, F, P, m, hl, hR, hF, hI, Int.le_refl _, by omega, fun _ => ⟨rfl, rfl, rfl⟩, fun e => by (cases e), fun x7 x47 x48 z hz => ev_succ ?_, ev_succ ?_⟩
      · simp only [spec_CountTracks.l3]
        exact ev_bind (ev_const (miIndex_eq g _ _)) (ev_pos (Int.natCast_nonneg _) (ev_pos (by rw [hl]; omega) (ev_pos (by unfold rdOf; rw [Int.toNat_natCast]; exact hs) hz)))
      · simp only [fol.l]
        exact ev_pos hin (ev_pos (by first | rfl | trivial) (ev_pos hFt (ev_some _)))
    | false =>
      have := fc_set L (codeS w t) (by omega) hs
      omega
  | succ n ih =>
    intro L F P t m hf hl hR hF hI ht g m0 m1
    have hlt := code_lt g
    rw [ht] at hlt
    have hin : (XMapT.In64 t.x ∧ XMapT.In64 t.y ∧ XMapT.In64 t.d) ∧ 0 ≤ m ∧ m ≤ 1000000 := by
      have a := g.i.1
      have b := g.i.2
      have dd := isW_iff.1 g.d
      exact ⟨⟨⟨by omega, by omega⟩, ⟨by omega, by omega⟩, ⟨by omega, by omega⟩⟩, by omega⟩
    cases hs : sn w L t with
    | true =>
      have hFt : F t.x t.y t.d = true := (hF t ht g).2 ((hR t ht g).1 hs)
      refine ⟨L, F, P, m, hl, hR, hF, hI, Int.le_refl _, by omega, fun _ => ⟨rfl, rfl, rfl⟩, fun e => by (cases e), fun x7 x47 x48 z hz => ev_succ ?_, ev_succ ?_⟩
      · simp only [spec_CountTracks.l3]
        exact ev_bind (ev_const (miIndex_eq g _ _)) (ev_pos (Int.natCast_nonneg _) (ev_pos (by rw [hl]; omega) (ev_pos (by unfold rdOf; rw [Int.toNat_natCast]; exact hs) hz)))
      · simp only [fol.l]
        exact ev_pos hin (ev_pos (by first | rfl | trivial) (ev_pos hFt (ev_some _)))
    | false =>
      have hnp : ¬ P t := fun p => by
        have := (hR t ht g).2 p
        rw [hs] at this
        cases this
      have hFt : ¬ F t.x t.y t.d = true := fun e => hnp ((hF t ht g).1 e)
      have hfc := fc_set L (codeS w t) (by omega) hs
      have hin2 := hI t ht g hnp
      have g2 := g.next (u := false) hin2
      obtain ⟨L', F', P', m', a1, a2, a3, a4, a5, a6, _, _, a9, a10⟩ := ih (mkS_ w L t) (XMapT.upd F t.x t.y t.d) (fun r => P r ∨ r = t) (hitS false w t) (m + 1) (by unfold mkS_; omega) (mk_len.trans hl) (hR.mk hl ht g) (hF.upd ht) (fun r b1 b2 b3 => hI r b1 b2 (fun p => b3 (.inl p))) ((hit_cs t).trans ht) g2 (by omega) (by omega)
      refine ⟨L', F', P', m', a1, a2, a3, a4, by omega, by omega, fun e => by (cases e), fun _ => by omega, fun x7 x47 x48 z hz => ev_succ ?_, ev_succ ?_⟩
      · have hh := specHit_ev false g
        rw [hit_cs, ht] at hh
        simp only [spec_CountTracks.l3]
        refine ev_bind (ev_const (miIndex_eq g _ _)) (ev_pos (Int.natCast_nonneg _) (ev_pos (by rw [hl]; omega) (ev_neg (by unfold rdOf; rw [Int.toNat_natCast]; unfold sn at hs; rw [hs]; decide) (ev_bind (ev_const (miIndex_eq g _ _)) (ev_pos (Int.natCast_nonneg _) (ev_pos (by rw [hl]; omega) (ev_bind hh ?_)))))))
        show Ev (fun k => spec_CountTracks.l3 k (L.set ((codeS w t : Nat) : Int).toNat true) x7 x47 x48 w h (toB cs) false (hitS false w t).x (hitS false w t).y (hitS false w t).d) z
        rw [Int.toNat_natCast]
        exact a9 x7 x47 x48 z hz
      · have hh := implHit_ev false g
        rw [hit_cs, ht, decide_eq_true hin2] at hh
        simp only [fol.l]
        exact ev_pos hin (ev_pos (by first | rfl | trivial) (ev_neg hFt (ev_bind hh a10)))
def plS (cs : List Int) (W i j : Nat) : St := ⟨cs, ((i % W : Nat) : Int), ((i / W : Nat) : Int), (j : Int)⟩
theorem plS_gd {W H i j : Nat} (hW : 1 ≤ W) (hW9 : W ≤ 9) (hH : 1 ≤ H) (hH9 : H ≤ 9) (oc : okC (W : Int) (H : Int) cs) (hi : i < W * H) (hj : j < 4) : Gd (W : Int) (H : Int) (plS cs W i j) ∧ codeS (W : Int) (plS cs W i j) = 4 * i + j := by
  have e1 : i % W < W := Nat.mod_lt _ (by omega)
  have e2 : i / W < H := Nat.div_lt_of_lt_mul hi
  have e3 : W * (i / W) + i % W = i := Nat.div_add_mod i W
  have ei : ((i / W : Nat) : Int) * (W : Int) + ((i % W : Nat) : Int) = (i : Int) := by
    rw [Int.mul_comm]
    exact_mod_cast e3
  refine ⟨⟨by omega, by omega, by omega, by omega, oc, ⟨⟨Int.natCast_nonneg _, by show ((i % W : Nat) : Int) < (W : Int); omega⟩, ⟨Int.natCast_nonneg _, by show ((i / W : Nat) : Int) < (H : Int); omega⟩⟩, isW_iff.2 (by show 0 ≤ (j : Int) ∧ (j : Int) ≤ 3; omega)⟩, ?_⟩
  show ((((i / W : Nat) : Int) * (W : Int) + ((i % W : Nat) : Int)) * 4 + (j : Int)).toNat = 4 * i + j
  rw [ei]
  omega
theorem tdiv_nat (a b : Nat) : Int.tdiv (a : Int) (b : Int) = ((a / b : Nat) : Int) := rfl
theorem tmod_nat (a b : Nat) : Int.tmod (a : Int) (b : Int) = ((a % b : Nat) : Int) := rfl
theorem wsucc (i : Nat) (h : i ≤ 100000) : wrap64 ((i : Int) + 1) = ((i + 1 : Nat) : Int) := by rw [w64 (by omega) (by omega)]; omega
theorem wix (i j : Nat) (h : 4 * i + j ≤ 100000) : wrap64 (((4 * i + j : Nat) : Int) + 1) = ((4 * i + (j + 1) : Nat) : Int) := by rw [w64 (by omega) (by omega)]; omega
theorem wq1 (i j : Nat) (hj : j < 4) (h : i ≤ 100000) : wrap64 (Int.tdiv ((4 * i + j : Nat) : Int) 4) = (i : Int) := by
  rw [show Int.tdiv ((4 * i + j : Nat) : Int) 4 = (((4 * i + j) / 4 : Nat) : Int) from rfl, show (4 * i + j) / 4 = i by omega, w64 (by omega) (by omega)]
theorem wq2 (i j : Nat) (hj : j < 4) : Int.tmod ((4 * i + j : Nat) : Int) 4 = (j : Int) := by
  rw [show Int.tmod ((4 * i + j : Nat) : Int) 4 = (((4 * i + j) % 4 : Nat) : Int) from rfl, show (4 * i + j) % 4 = j by omega]
theorem wt0 (t : Int) (h0 : 0 ≤ t) (h1 : t ≤ 100000) : wrap64 t = t := w64 (by omega) (by omega)
theorem wdv (i W : Nat) (h : i ≤ 100000) : wrap64 (Int.tdiv (i : Int) (W : Int)) = ((i / W : Nat) : Int) := by
  have hdv : i / W ≤ 100000 := Nat.le_trans (Nat.div_le_self i W) h
  rw [tdiv_nat]
  generalize i / W = q at *
  exact wt0 _ (by omega) (by omega)
theorem phase2 {W H : Nat} (hW : 1 ≤ W) (hW9 : W ≤ 9) (hH : 1 ≤ H) (hH9 : H ≤ 9) (oc : okC (W : Int) (H : Int) cs) : ∀ (n i j : Nat) (L : List Bool) (F : Int → Int → Int → Bool) (P : St → Prop) (t s : Int), 5 * i + j + n = 5 * cs.length → j ≤ 4 → i < cs.length → L.length = 4 * cs.length → Rep (W : Int) (H : Int) cs L P → RepF (W : Int) (H : Int) cs F P → Inv (W : Int) (H : Int) cs P → 0 ≤ t → t ≤ 4 * i + j → 0 ≤ s → s ≤ 324 * (40 + 4 * i + j) →
    ∃ z, Ev (fun k => spec_CountTracks.l2 k L t ((4 * cs.length : Nat) : Int) ((4 * i + j : Nat) : Int) (W : Int) (H : Int) (toB cs) false) z ∧ Ev (fun k => impl_CountTracks.l2 k (W : Int) (H : Int) (toB cs) false (i : Int) (j : Int) t F s) z := by
  have m81 := mul9 (w := (W : Int)) (h := (H : Int)) (by omega) (by omega) (by omega) (by omega)
  have hlen := oc.len
  have hc : cs.length = W * H := by exact_mod_cast hlen
  have hc81 : cs.length ≤ 81 := by omega
  intro n
  induction n with
  | zero =>
    intro i j L F P t s e hj hi
    omega
  | succ n ih =>
    intro i j L F P t s e hj hi hl hR hF hI t0 t1 s0 s1
    have hg : (0 ≤ s ∧ s ≤ 1000000) ∧ (W : Int) ≠ 0 := ⟨⟨s0, by omega⟩, by omega⟩
    rcases Nat.lt_or_ge j 4 with c | c
    · obtain ⟨g, hcode⟩ := plS_gd hW hW9 hH hH9 oc (i := i) (j := j) (by omega) c
      obtain ⟨L', F', P', m', a1, a2, a3, a4, a5, a6, a7, a8, a9, a10⟩ := both_follow (by omega) (by omega) (by omega) (by omega) oc 324 L F P (plS cs W i j) 0 (by have := fc_le L; omega) hl hR hF hI rfl g (by omega) (by omega)
      have hrd : rdOf false L ((4 * i + j : Nat) : Int) = sn (W : Int) L (plS cs W i j) := by
        unfold rdOf sn
        rw [hcode, Int.toNat_natCast]
      have hfol : Ev (fun k => fol.f k (W : Int) (H : Int) (toB cs) false (Int.tmod (i : Int) (W : Int)) (wrap64 (Int.tdiv (i : Int) (W : Int))) (j : Int) F) (m', F') := by
        unfold fol.f
        rw [tmod_nat, wdv i W (by omega)]
        exact a10
      cases hs : sn (W : Int) L (plS cs W i j) with
      | true =>
        obtain ⟨rfl, rfl, rfl⟩ := a7 hs
        obtain ⟨z, z1, z2⟩ := ih i (j + 1) L' F' P' t s (by omega) (by omega) hi hl a2 a3 a4 t0 (by omega) s0 (by omega)
        refine ⟨z, ev_succ ?_, ev_succ ?_⟩
        · simp only [spec_CountTracks.l2]
          refine ev_pos (by omega) (ev_pos (Int.natCast_nonneg _) (ev_pos (by rw [hl]; omega) (ev_pos (hrd.trans hs) ?_)))
          rw [wix i j (by omega)]
          exact z1
        · simp only [impl_CountTracks.l2]
          rw [wsucc j (by omega)]
          refine ev_pos hg (ev_pos (by omega) (ev_bind hfol (ev_bind (ev_const (implBit_eq _)) ?_)))
          show Ev (fun k => impl_CountTracks.l2 k (W : Int) (H : Int) (toB cs) false (i : Int) ((j + 1 : Nat) : Int) (wrap64 (t + (if decide ((0 : Int) < 0) = true then 1 else 0))) F' (s + 0)) z
          rw [if_neg (by decide), Int.add_zero, Int.add_zero, wt0 t (by omega) (by omega)]
          exact z2
      | false =>
        have hm := a8 hs
        obtain ⟨z, z1, z2⟩ := ih i (j + 1) L' F' P' (t + 1) (s + m') (by omega) (by omega) hi a1 a2 a3 a4 (by omega) (by omega) (by omega) (by omega)
        refine ⟨z, ev_succ ?_, ev_succ ?_⟩
        · simp only [spec_CountTracks.l2]
          refine ev_pos (by omega) (ev_pos (Int.natCast_nonneg _) (ev_pos (by rw [hl]; omega) (ev_neg (by rw [hrd, hs]; decide) (ev_neg (by omega) ?_))))
          rw [← wix i j (by omega)] at z1
          have z3 := a9 (t + 1) ((4 * cs.length : Nat) : Int) ((4 * i + j : Nat) : Int) z z1
          rw [wq1 i j c (by omega), wq2 i j c, tmod_nat, wdv i W (by omega), wt0 (t + 1) (by omega) (by omega)]
          exact z3
        · simp only [impl_CountTracks.l2]
          rw [wsucc j (by omega)]
          refine ev_pos hg (ev_pos (by omega) (ev_bind hfol (ev_bind (ev_const (implBit_eq _)) ?_)))
          show Ev (fun k => impl_CountTracks.l2 k (W : Int) (H : Int) (toB cs) false (i : Int) ((j + 1 : Nat) : Int) (wrap64 (t + (if decide ((0 : Int) < m') = true then 1 else 0))) F' (s + m')) z
          rw [if_pos (decide_eq_true hm), wt0 (t + 1) (by omega) (by omega)]
          exact z2
    · obtain rfl : j = 4 := by omega
      rcases Nat.lt_or_ge (i + 1) cs.length with d | d
      · obtain ⟨z, z1, z2⟩ := ih (i + 1) 0 L F P t s (by omega) (by omega) d hl hR hF hI t0 (by omega) s0 (by omega)
        refine ⟨z, by rw [show 4 * i + 4 = 4 * (i + 1) + 0 by omega]; exact z1, ev_succ ?_⟩
        simp only [impl_CountTracks.l2]
        rw [wsucc i (by omega)]
        refine ev_pos hg (ev_neg (by omega) (ev_succ ?_))
        simp only [impl_CountTracks.l1]
        exact ev_pos (by rw [toB_size]; omega) z2
      · refine ⟨(wrap64 (Int.tdiv t 2), true), ev_succ ?_, ev_succ ?_⟩
        · simp only [spec_CountTracks.l2]
          exact ev_neg (by omega) (ev_some _)
        · simp only [impl_CountTracks.l2]
          rw [wsucc i (by omega)]
          refine ev_pos hg (ev_neg (by omega) (ev_succ ?_))
          simp only [impl_CountTracks.l1]
          exact ev_neg (by rw [toB_size]; omega) (ev_some _)
theorem phase1 {W H : Nat} (hW : 1 ≤ W) (hW9 : W ≤ 9) (hH : 1 ≤ H) (hH9 : H ≤ 9) (oc : okC (W : Int) (H : Int) cs) : ∀ (n i : Nat) (L : List Bool) (F : Int → Int → Int → Bool) (P : St → Prop) (s : Int), i + n = 2 * (W + H) → L.length = 4 * cs.length → Rep (W : Int) (H : Int) cs L P → RepF (W : Int) (H : Int) cs F P → Closed (W : Int) (H : Int) cs P → Cov (W : Int) (H : Int) cs P i → 0 ≤ s → s ≤ 324 * i →
    ∃ z, Ev (fun k => spec_CountTracks.l0 k L (i : Int) (W : Int) (H : Int) (toB cs) false) z ∧ Ev (fun k => impl_CountTracks.l0 k (W : Int) (H : Int) (toB cs) false (endsN (W : Int) (H : Int)) (i : Int) F s) z := by
  have m81 := mul9 (w := (W : Int)) (h := (H : Int)) (by omega) (by omega) (by omega) (by omega)
  have hlen := oc.len
  have hc : cs.length = W * H := by exact_mod_cast hlen
  have hends := ends_eq (w := (W : Int)) (h := (H : Int)) (by omega) (by omega) (by omega) (by omega)
  intro n
  induction n with
  | zero =>
    intro i L F P s e hl hR hF hC hV s0 s1
    have hI : Inv (W : Int) (H : Int) cs P := fun r b1 b2 b3 => leads_in oc (by rw [show (2 * ((W : Int) + (H : Int))).toNat = i by omega]; exact hV) b1 b2 b3
    obtain ⟨z, z1, z2⟩ := phase2 hW hW9 hH hH9 oc (5 * cs.length) 0 0 L F P 0 s (by omega) (by omega) (by omega) hl hR hF hI (by omega) (by omega) s0 (by omega)
    refine ⟨z, ev_succ ?_, ev_succ ?_⟩
    · simp only [spec_CountTracks.l0]
      refine ev_bind (ev_const (show spec_miEnds.f (W : Int) (H : Int) (toB cs) false = some (endsN (W : Int) (H : Int)) from rfl)) (ev_neg (by rw [hends]; omega) ?_)
      rw [hl]
      exact z1
    · simp only [impl_CountTracks.l0]
      refine ev_pos ⟨s0, by omega⟩ (ev_neg (by rw [hends]; omega) (ev_succ ?_))
      simp only [impl_CountTracks.l1]
      exact ev_pos (by rw [toB_size]; omega) z2
  | succ n ih =>
    intro i L F P s e hl hR hF hC hV s0 s1
    obtain ⟨g, ho⟩ := entry_gd (w := (W : Int)) (h := (H : Int)) (by omega) (by omega) (by omega) (by omega) oc (k := (i : Int)) (by omega) (by omega)
    obtain ⟨E, hE0, hE, hE1⟩ := in_comes_out (W := (W : Int)) (H := (H : Int)) (s := entS (W : Int) (H : Int) cs i) oc g.d ho
    have E0 : 0 < E := by
      rcases Nat.eq_zero_or_pos E with q | q
      · subst q; exact absurd g.i hE
      · exact q
    have hE2 : E ≤ 324 := by
      have : (entS (W : Int) (H : Int) cs i).cs.length = cs.length := rfl
      omega
    obtain ⟨L', b1, b2, b3⟩ := spec_orbit (by omega) (by omega) (by omega) (by omega) oc E L P (entS (W : Int) (H : Int) cs i) hl hR rfl g.d hE1 hE
    obtain ⟨m', F', c1, c2, c3, c4⟩ := impl_orbit (s := entS (W : Int) (H : Int) cs i) (by omega) (by omega) (by omega) (by omega) oc hC rfl g.d hE1 hE E0 E 0 F 0 (by omega) (hF.congr (fun t _ _ => ⟨fun a => .inl a, fun a => a.elim id (fun ⟨k, hk, _⟩ => absurd hk (by omega))⟩)) (by omega) (by omega)
    obtain ⟨z, z1, z2⟩ := ih (i + 1) L' F' (fun t => P t ∨ ∃ k, k < E ∧ t = it false (W : Int) (entS (W : Int) (H : Int) cs i) k) (s + m') (by omega) b1 b2 c1 (by
      rintro r r1 r2 (a | ⟨k, hk, rfl⟩) r4
      · exact .inl (hC r r1 r2 a r4)
      · rcases Nat.lt_or_ge (k + 1) E with q | q
        · exact .inr ⟨k + 1, q, rfl⟩
        · obtain rfl : E = k + 1 := by omega
          exact absurd r4 hE) (by
      intro e he j hj
      rcases Nat.lt_or_ge e i with q | q
      · exact .inl (hV e q j hj)
      · obtain rfl : e = i := by omega
        rcases Nat.lt_or_ge j E with p | p
        · exact .inr ⟨j, p, rfl⟩
        · exact absurd (hj E p) hE) (by omega) (by omega)
    have hfol : Ev (fun k => fol.f k (W : Int) (H : Int) (toB cs) false (entryW (W : Int) (H : Int) (i : Int)).1 (entryW (W : Int) (H : Int) (i : Int)).2.1 (entryW (W : Int) (H : Int) (i : Int)).2.2 F) (m', F') := by
      unfold fol.f
      have hd : decide (inS (W : Int) (H : Int) (it false (W : Int) (entS (W : Int) (H : Int) cs i) 0)) = true := decide_eq_true g.i
      rw [hd] at c4
      exact c4
    refine ⟨z, ev_succ ?_, ev_succ ?_⟩
    · simp only [spec_CountTracks.l0]
      refine ev_bind (ev_const (show spec_miEnds.f (W : Int) (H : Int) (toB cs) false = some (endsN (W : Int) (H : Int)) from rfl)) (ev_pos (by rw [hends]; omega) (ev_bind (ev_const (specEntry_eq _ _ _ _ _)) ?_))
      rw [← wsucc i (by omega)] at z1
      exact b3 (i : Int) z z1
    · simp only [impl_CountTracks.l0]
      rw [wsucc i (by omega)]
      exact ev_pos ⟨s0, by omega⟩ (ev_pos (by rw [hends]; omega) (ev_bind (ev_const (implEntry_eq _ _ _ _ _)) (ev_bind hfol z2)))
end
theorem FnExactCountTracks : LawHolds := by
  intro w h c u hw hh hc hu
  refine ev_out (g := fun k => laws_FnExactCountTracks.f k w h c u) ?_
  obtain ⟨t, ht⟩ := szMaze_ev w h c u 1048576
  unfold laws_FnExactCountTracks.f
  refine ev_bind (ev_const ht) (ev_ite (fun _ => ev_some _) (fun _ => ev_bind (ev_const (toMaze_eq w h c u)) ?_))
  obtain ⟨z, h1, h2⟩ : ∃ z : Int × Bool, Ev (fun k => spec_CountTracks.f k w h c u) z ∧ Ev (fun k => impl_CountTracks.f k w h c u) z := by
    unfold spec_CountTracks.f impl_CountTracks.f
    have e1 := miGood_ev w h c u hc
    rw [implIsMaze_eq w h c u hc]
    have no : Ev (fun k => spec_CountTracks.j0 k true w h c u) (0, false) := by
      refine ev_succ ?_
      simp only [spec_CountTracks.j0]
      exact ev_pos (by first | rfl | trivial) (ev_some _)
    cases hb : mazeOk w h c with
    | false =>
      rw [hb] at e1
      exact ⟨_, ev_bind e1 (ev_neg (by decide) no), ev_bind (ev_some _) (ev_neg (by decide) (ev_some _))⟩
    | true =>
      rw [hb] at e1
      cases u with
      | true => exact ⟨_, ev_bind e1 (ev_pos rfl no), ev_bind (ev_some _) (ev_pos rfl (ev_pos rfl (ev_some _)))⟩
      | false =>
        obtain ⟨⟨w1, w9⟩, ⟨h1, h9⟩, oc⟩ := mazeOk_iff.1 hb
        obtain ⟨W, rfl⟩ := Int.eq_ofNat_of_zero_le (show 0 ≤ w by omega)
        obtain ⟨H, rfl⟩ := Int.eq_ofNat_of_zero_le (show 0 ≤ h by omega)
        have m81 := mul9 (w := (W : Int)) (h := (H : Int)) (by omega) (by omega) (by omega) (by omega)
        have hcs : c.size = (bl c).length := by rw [← toB_bl c, toB_size, toB_bl]
        have hlen := oc.len
        have hrep : ∀ s : St, sn (W : Int) (List.replicate (4 * (bl c).length) false) s = false := fun s => by
          unfold sn
          rw [List.getD_eq_getElem?_getD, List.getElem?_replicate]
          split <;> rfl
        obtain ⟨z, p, q⟩ := phase1 (cs := bl c) (W := W) (H := H) (by omega) (by omega) (by omega) (by omega) oc (2 * (W + H)) 0 (List.replicate (4 * (bl c).length) false) (fun _ _ _ => false) (fun _ => False) 0 (by omega) List.length_replicate (fun s _ _ => by rw [hrep]; exact ⟨fun a => by (cases a), False.elim⟩) (fun s _ _ => ⟨fun a => by (cases a), False.elim⟩) (fun r _ _ a _ => a.elim) (fun e he => absurd he (Nat.not_lt_zero e)) (by omega) (by omega)
        rw [toB_bl] at p q
        refine ⟨z, ev_bind e1 (ev_pos rfl (ev_succ ?_)), ev_bind (ev_some _) (ev_pos rfl (ev_neg (by decide) (ev_bind (ev_const (show impl_Maze_ends.f (W : Int) (H : Int) c false = some (endsN (W : Int) (H : Int)) from rfl)) q)))⟩
        simp only [spec_CountTracks.j0]
        rw [wt0 (4 * (c.size : Int)) (by omega) (by omega), show 4 * (c.size : Int) = ((4 * (bl c).length : Nat) : Int) by omega]
        refine ev_neg (by decide) (ev_pos (Int.natCast_nonneg _) (ev_pos (by rw [Int.toNat_natCast]; omega) ?_))
        rw [Int.toNat_natCast]
        exact p
  exact ev_bind h1 (ev_bind (ev_const (toMaze_eq w h c u)) (ev_bind h2 (ev_pos rfl (ev_neg (by simp) (ev_some _)))))

end Go.Proofs.YtnbfjggbplofgaaDoor.Pure
