-- Made by wip/tools/xkit.py (a program of this session's) with the kit's printer.
import Derived.Test.YtjhokefoocajpaaDoorPFnExactParseWorldx0
import Derived.Test.YtjhokefoocajpaaDoorPFnExactParseWorldx4
namespace Go.Proofs.YtjhokefoocajpaaDoor.PFnExactParseWorld
open Go.RowKit Go.Proofs.YtjhokefoocajpaaDoorW.PrintWords Go.Proofs.YtjhokefoocajpaaDoorW.PrintLast Go.Proofs.YtjhokefoocajpaaDoorW.PrintMore
attribute [local go_sem] max2_int min2_int max_two min_two max_three min_three max_four min_four   -- for this text's walks alone
set_option linter.unusedVariables false
set_option linter.unusedSimpArgs false

/-! ### impl_ParseWorld: function 7 -/
def impl_ParseWorld.f (k : Nat) (a0 : ByteArray) : Option (ByteArray × Int × Int × ByteArray × Int × Int × Int × Bool) := (strings_Split.f a0 (⟨#[58]⟩ : ByteArray)).bind fun t185 => (if (t185.length : Int) = 4 then (if 1 < (t185.length : Int) then ((impl_numbers.f k (rdOf ByteArray.empty t185 1) (⟨#[120]⟩ : ByteArray) 2 9).bind fun bt189 => (if 3 < (t185.length : Int) then ((impl_numbers.f k (rdOf ByteArray.empty t185 3) (⟨#[44]⟩ : ByteArray) 3 9).bind fun bt194 => (if 0 < (t185.length : Int) then (if 0 < (bt189.1.length : Int) then (if 1 < (bt189.1.length : Int) then (if 2 < (t185.length : Int) then (if 0 < (bt194.1.length : Int) then (if 1 < (bt194.1.length : Int) then (if 2 < (bt194.1.length : Int) then (if bt189.2 = true then (if bt194.2 = true then ((impl_IsWorld.f k (rdOf ByteArray.empty t185 0) (rd bt189.1 0) (rd bt189.1 1) (rdOf ByteArray.empty t185 2) (rd bt194.1 0) (rd bt194.1 1) (rd bt194.1 2)).bind fun t206 => (if t206 = true then (some (rdOf ByteArray.empty t185 0, rd bt189.1 0, rd bt189.1 1, rdOf ByteArray.empty t185 2, rd bt194.1 0, rd bt194.1 1, rd bt194.1 2, true)) else (some ((⟨#[]⟩ : ByteArray), 0, 0, (⟨#[]⟩ : ByteArray), 0, 0, 0, false)))) else (some ((⟨#[]⟩ : ByteArray), 0, 0, (⟨#[]⟩ : ByteArray), 0, 0, 0, false))) else (some ((⟨#[]⟩ : ByteArray), 0, 0, (⟨#[]⟩ : ByteArray), 0, 0, 0, false))) else (none)) else (none)) else (none)) else (none)) else (none)) else (none)) else (none))) else (none))) else (none)) else (some ((⟨#[]⟩ : ByteArray), 0, 0, (⟨#[]⟩ : ByteArray), 0, 0, 0, false)))
theorem impl_ParseWorld.mono : ∀ a0 k, LeO (impl_ParseWorld.f k a0) (impl_ParseWorld.f (k + 1) a0) := by
  intro a0 k
  unfold impl_ParseWorld.f
  repeat' first
      | (with_reducible exact impl_IsWorld.mono _ _ _ _ _ _ _ _)
      | (with_reducible exact impl_numbers.mono _ _ _ _ _)
      | (with_reducible exact LeO.refl _)
      | (with_reducible exact LeO.none _)
      | (with_reducible refine LeO.ite ?_ ?_)
      | (with_reducible refine LeO.bind ?_ (fun _ => ?_))
      | exact impl_IsWorld.mono _ _ _ _ _ _ _ _
      | exact impl_numbers.mono _ _ _ _ _
      | exact LeO.none _
      | refine LeO.ite ?_ ?_
      | refine LeO.bind ?_ (fun _ => ?_)
def impl_ParseWorld.T6 : Bool × List (List Nat × List Nat) := (true, [([], []), ([0], [0]), ([1], [1]), ([], []), ([3], [3]), ([4], [4]), ([], []), ([6], [6]), ([7], [7]), ([], []), ([9], [9]), ([10], [10]), ([], []), ([12], [12]), ([13], [13]), ([], []), ([15], [15]), ([16], [16]), ([], []), ([18], [18]), ([19], [19]), ([2, 5, 8, 11, 14, 17, 20], [2, 5, 8, 11, 14, 17, 20]), ([], []), ([22, 21, 0, 1, 2, 3, 4, 5, 6, 7, 8, 9, 10, 11, 12, 13, 14, 15, 16, 17, 18, 19, 20, 21, 22], [21, 22])])
def impl_ParseWorld.B6 : List Nat := [0, 1, 3, 0, 8, 24, 0, 64, 192, 0, 512, 1536, 0, 4096, 12288, 0, 32768, 98304, 0, 262144, 786432, 2097151, 0, 8388607]
theorem impl_ParseWorld.tab6 : rtab .any (opsOf Tryd.f7 6) = impl_ParseWorld.T6 := by kernel_rfl
theorem impl_ParseWorld.bits6 : waitsOk impl_ParseWorld.T6.2 impl_ParseWorld.B6 = true := by kernel_rfl
set_option maxHeartbeats 8000000 in
set_option maxRecDepth 100000 in
theorem impl_ParseWorld.calls (k : Nat) (a0 : ByteArray) (r1 : ByteArray) (r2 : Int) (r3 : Int) (r4 : ByteArray) (r5 : Int) (r6 : Int) (r7 : Int) (r8 : Bool) (w : World) (hE : XEv.EV w) (h : impl_ParseWorld.f k a0 = some (r1, r2, r3, r4, r5, r6, r7, r8)) :
  Calls Tryd.prog 7 #[.string a0] w fun e w' => e = .returned (.tuple #[.agg #[.string r1, .int .i64 r2, .int .i64 r3, .string r4, .int .i64 r5, .int .i64 r6, .int .i64 r7], .bool r8]) ∧ Below w.heap.size w w' := by
 have HE := Aside0.mk hE
 clear hE
 have hu23 := Tryd.underlying23
 have HB := Aside0.mk (Below.refl w.heap.size w)
 have H : ((strings_Split.f a0 (⟨#[58]⟩ : ByteArray)).bind fun t185 => (if (t185.length : Int) = 4 then (if 1 < (t185.length : Int) then ((impl_numbers.f k (rdOf ByteArray.empty t185 1) (⟨#[120]⟩ : ByteArray) 2 9).bind fun bt189 => (if 3 < (t185.length : Int) then ((impl_numbers.f k (rdOf ByteArray.empty t185 3) (⟨#[44]⟩ : ByteArray) 3 9).bind fun bt194 => (if 0 < (t185.length : Int) then (if 0 < (bt189.1.length : Int) then (if 1 < (bt189.1.length : Int) then (if 2 < (t185.length : Int) then (if 0 < (bt194.1.length : Int) then (if 1 < (bt194.1.length : Int) then (if 2 < (bt194.1.length : Int) then (if bt189.2 = true then (if bt194.2 = true then ((impl_IsWorld.f k (rdOf ByteArray.empty t185 0) (rd bt189.1 0) (rd bt189.1 1) (rdOf ByteArray.empty t185 2) (rd bt194.1 0) (rd bt194.1 1) (rd bt194.1 2)).bind fun t206 => (if t206 = true then (some (rdOf ByteArray.empty t185 0, rd bt189.1 0, rd bt189.1 1, rdOf ByteArray.empty t185 2, rd bt194.1 0, rd bt194.1 1, rd bt194.1 2, true)) else (some ((⟨#[]⟩ : ByteArray), 0, 0, (⟨#[]⟩ : ByteArray), 0, 0, 0, false)))) else (some ((⟨#[]⟩ : ByteArray), 0, 0, (⟨#[]⟩ : ByteArray), 0, 0, 0, false))) else (some ((⟨#[]⟩ : ByteArray), 0, 0, (⟨#[]⟩ : ByteArray), 0, 0, 0, false))) else (none)) else (none)) else (none)) else (none)) else (none)) else (none)) else (none))) else (none))) else (none)) else (some ((⟨#[]⟩ : ByteArray), 0, 0, (⟨#[]⟩ : ByteArray), 0, 0, 0, false)))) = some (r1, r2, r3, r4, r5, r6, r7, r8) := h
 clear h
 replace H := Option.bind_eq_some_iff.mp H
 obtain ⟨t185, A20, H⟩ := H
 replace H : (if (t185.length : Int) = 4 then (if 1 < (t185.length : Int) then ((impl_numbers.f k (rdOf ByteArray.empty t185 1) (⟨#[120]⟩ : ByteArray) 2 9).bind fun bt189 => (if 3 < (t185.length : Int) then ((impl_numbers.f k (rdOf ByteArray.empty t185 3) (⟨#[44]⟩ : ByteArray) 3 9).bind fun bt194 => (if 0 < (t185.length : Int) then (if 0 < (bt189.1.length : Int) then (if 1 < (bt189.1.length : Int) then (if 2 < (t185.length : Int) then (if 0 < (bt194.1.length : Int) then (if 1 < (bt194.1.length : Int) then (if 2 < (bt194.1.length : Int) then (if bt189.2 = true then (if bt194.2 = true then ((impl_IsWorld.f k (rdOf ByteArray.empty t185 0) (rd bt189.1 0) (rd bt189.1 1) (rdOf ByteArray.empty t185 2) (rd bt194.1 0) (rd bt194.1 1) (rd bt194.1 2)).bind fun t206 => (if t206 = true then (some (rdOf ByteArray.empty t185 0, rd bt189.1 0, rd bt189.1 1, rdOf ByteArray.empty t185 2, rd bt194.1 0, rd bt194.1 1, rd bt194.1 2, true)) else (some ((⟨#[]⟩ : ByteArray), 0, 0, (⟨#[]⟩ : ByteArray), 0, 0, 0, false)))) else (some ((⟨#[]⟩ : ByteArray), 0, 0, (⟨#[]⟩ : ByteArray), 0, 0, 0, false))) else (some ((⟨#[]⟩ : ByteArray), 0, 0, (⟨#[]⟩ : ByteArray), 0, 0, 0, false))) else (none)) else (none)) else (none)) else (none)) else (none)) else (none)) else (none))) else (none))) else (none)) else (some ((⟨#[]⟩ : ByteArray), 0, 0, (⟨#[]⟩ : ByteArray), 0, 0, 0, false))) = some (r1, r2, r3, r4, r5, r6, r7, r8) := H
 have A2 := Aside0.mk A20
 clear A20
 by_cases c3 : (t185.length : Int) = 4
 ·
  rw [if_pos c3] at H
  have c3b0 : ((t185.length : Int) == 4) = true := beq_iff_eq.mpr c3; have c3b1 : ((t185.length : Int) != 4) = false := bne_eq_false_iff_eq.mpr c3; clear c3
  by_cases c4 : 1 < (t185.length : Int)
  ·
   rw [if_pos c4] at H
   have c4b0 : decide (1 < (t185.length : Int)) = true := decide_eq_true c4; have c4b1 : decide (1 < t185.length) = true := decide_eq_true (by omega); clear c4; replace H := Option.bind_eq_some_iff.mp H; obtain ⟨⟨t189, t190⟩, A50, H⟩ := H; replace H : (if 3 < (t185.length : Int) then ((impl_numbers.f k (rdOf ByteArray.empty t185 3) (⟨#[44]⟩ : ByteArray) 3 9).bind fun bt194 => (if 0 < (t185.length : Int) then (if 0 < (t189.length : Int) then (if 1 < (t189.length : Int) then (if 2 < (t185.length : Int) then (if 0 < (bt194.1.length : Int) then (if 1 < (bt194.1.length : Int) then (if 2 < (bt194.1.length : Int) then (if t190 = true then (if bt194.2 = true then ((impl_IsWorld.f k (rdOf ByteArray.empty t185 0) (rd t189 0) (rd t189 1) (rdOf ByteArray.empty t185 2) (rd bt194.1 0) (rd bt194.1 1) (rd bt194.1 2)).bind fun t206 => (if t206 = true then (some (rdOf ByteArray.empty t185 0, rd t189 0, rd t189 1, rdOf ByteArray.empty t185 2, rd bt194.1 0, rd bt194.1 1, rd bt194.1 2, true)) else (some ((⟨#[]⟩ : ByteArray), 0, 0, (⟨#[]⟩ : ByteArray), 0, 0, 0, false)))) else (some ((⟨#[]⟩ : ByteArray), 0, 0, (⟨#[]⟩ : ByteArray), 0, 0, 0, false))) else (some ((⟨#[]⟩ : ByteArray), 0, 0, (⟨#[]⟩ : ByteArray), 0, 0, 0, false))) else (none)) else (none)) else (none)) else (none)) else (none)) else (none)) else (none))) else (none)) = some (r1, r2, r3, r4, r5, r6, r7, r8) := H; have A5 := Aside0.mk A50; clear A50
   by_cases c6 : 3 < (t185.length : Int)
   ·
    rw [if_pos c6] at H
    have c6b0 : decide (3 < (t185.length : Int)) = true := decide_eq_true c6; have c6b1 : decide (3 < t185.length) = true := decide_eq_true (by omega); clear c6; replace H := Option.bind_eq_some_iff.mp H; obtain ⟨⟨t194, t195⟩, A70, H⟩ := H; replace H : (if 0 < (t185.length : Int) then (if 0 < (t189.length : Int) then (if 1 < (t189.length : Int) then (if 2 < (t185.length : Int) then (if 0 < (t194.length : Int) then (if 1 < (t194.length : Int) then (if 2 < (t194.length : Int) then (if t190 = true then (if t195 = true then ((impl_IsWorld.f k (rdOf ByteArray.empty t185 0) (rd t189 0) (rd t189 1) (rdOf ByteArray.empty t185 2) (rd t194 0) (rd t194 1) (rd t194 2)).bind fun t206 => (if t206 = true then (some (rdOf ByteArray.empty t185 0, rd t189 0, rd t189 1, rdOf ByteArray.empty t185 2, rd t194 0, rd t194 1, rd t194 2, true)) else (some ((⟨#[]⟩ : ByteArray), 0, 0, (⟨#[]⟩ : ByteArray), 0, 0, 0, false)))) else (some ((⟨#[]⟩ : ByteArray), 0, 0, (⟨#[]⟩ : ByteArray), 0, 0, 0, false))) else (some ((⟨#[]⟩ : ByteArray), 0, 0, (⟨#[]⟩ : ByteArray), 0, 0, 0, false))) else (none)) else (none)) else (none)) else (none)) else (none)) else (none)) else (none)) = some (r1, r2, r3, r4, r5, r6, r7, r8) := H; have A7 := Aside0.mk A70; clear A70
    by_cases c8 : 0 < (t185.length : Int)
    ·
     rw [if_pos c8] at H
     have c8b0 : decide (0 < (t185.length : Int)) = true := decide_eq_true c8; have c8b1 : decide (0 < t185.length) = true := decide_eq_true (by omega); clear c8
     by_cases c9 : 0 < (t189.length : Int)
     ·
      rw [if_pos c9] at H
      have c9b0 : decide (0 < (t189.length : Int)) = true := decide_eq_true c9; have c9b1 : decide (0 < t189.length) = true := decide_eq_true (by omega); clear c9
      by_cases c10 : 1 < (t189.length : Int)
      ·
       rw [if_pos c10] at H
       have c10b0 : decide (1 < (t189.length : Int)) = true := decide_eq_true c10; have c10b1 : decide (1 < t189.length) = true := decide_eq_true (by omega); clear c10
       by_cases c11 : 2 < (t185.length : Int)
       ·
        rw [if_pos c11] at H
        have c11b0 : decide (2 < (t185.length : Int)) = true := decide_eq_true c11; have c11b1 : decide (2 < t185.length) = true := decide_eq_true (by omega); clear c11
        by_cases c12 : 0 < (t194.length : Int)
        ·
         rw [if_pos c12] at H
         have c12b0 : decide (0 < (t194.length : Int)) = true := decide_eq_true c12; have c12b1 : decide (0 < t194.length) = true := decide_eq_true (by omega); clear c12
         by_cases c13 : 1 < (t194.length : Int)
         ·
          rw [if_pos c13] at H
          have c13b0 : decide (1 < (t194.length : Int)) = true := decide_eq_true c13; have c13b1 : decide (1 < t194.length) = true := decide_eq_true (by omega); clear c13
          by_cases c14 : 2 < (t194.length : Int)
          ·
           rw [if_pos c14] at H
           have c14b0 : decide (2 < (t194.length : Int)) = true := decide_eq_true c14; have c14b1 : decide (2 < t194.length) = true := decide_eq_true (by omega); clear c14
           by_cases c15 : t190 = true
           ·
            subst c15
            have H1 : (if t195 = true then ((impl_IsWorld.f k (rdOf ByteArray.empty t185 0) (rd t189 0) (rd t189 1) (rdOf ByteArray.empty t185 2) (rd t194 0) (rd t194 1) (rd t194 2)).bind fun t206 => (if t206 = true then (some (rdOf ByteArray.empty t185 0, rd t189 0, rd t189 1, rdOf ByteArray.empty t185 2, rd t194 0, rd t194 1, rd t194 2, true)) else (some ((⟨#[]⟩ : ByteArray), 0, 0, (⟨#[]⟩ : ByteArray), 0, 0, 0, false)))) else (some ((⟨#[]⟩ : ByteArray), 0, 0, (⟨#[]⟩ : ByteArray), 0, 0, 0, false))) = some (r1, r2, r3, r4, r5, r6, r7, r8) := by rw [if_pos rfl] at H; exact H
            clear H; have H := H1; clear H1
            by_cases c16 : t195 = true
            ·
             subst c16
             have H1 : ((impl_IsWorld.f k (rdOf ByteArray.empty t185 0) (rd t189 0) (rd t189 1) (rdOf ByteArray.empty t185 2) (rd t194 0) (rd t194 1) (rd t194 2)).bind fun t206 => (if t206 = true then (some (rdOf ByteArray.empty t185 0, rd t189 0, rd t189 1, rdOf ByteArray.empty t185 2, rd t194 0, rd t194 1, rd t194 2, true)) else (some ((⟨#[]⟩ : ByteArray), 0, 0, (⟨#[]⟩ : ByteArray), 0, 0, 0, false)))) = some (r1, r2, r3, r4, r5, r6, r7, r8) := by rw [if_pos rfl] at H; exact H
             clear H; have H := H1; clear H1; replace H := Option.bind_eq_some_iff.mp H; obtain ⟨t206, A170, H⟩ := H; replace H : (if t206 = true then (some (rdOf ByteArray.empty t185 0, rd t189 0, rd t189 1, rdOf ByteArray.empty t185 2, rd t194 0, rd t194 1, rd t194 2, true)) else (some ((⟨#[]⟩ : ByteArray), 0, 0, (⟨#[]⟩ : ByteArray), 0, 0, 0, false))) = some (r1, r2, r3, r4, r5, r6, r7, r8) := H; have A17 := Aside0.mk A170; clear A170
             by_cases c18 : t206 = true
             ·
              subst c18
              have H1 : (some (rdOf ByteArray.empty t185 0, rd t189 0, rd t189 1, rdOf ByteArray.empty t185 2, rd t194 0, rd t194 1, rd t194 2, true)) = some (r1, r2, r3, r4, r5, r6, r7, r8) := by rw [if_pos rfl] at H; exact H
              clear H; have H := H1; clear H1
              simp only [Option.some.injEq, Prod.mk.injEq] at H
              obtain ⟨rfl, rfl, rfl, rfl, rfl, rfl, rfl, rfl⟩ := H
              go_enter Tryd.func7, Tryd.ntmps7
              try go_wp2_with (first | ((with_reducible refine gate_dst (N := 2) rfl ?_); refine box_event ?hg (N := 2) ?hd (cs := #[.string ⟨#[]⟩, .int .i64 0, .int .i64 0, .string ⟨#[]⟩, .int .i64 0, .int .i64 0, .int .i64 0]) (t := 23) ?hr ?_; (case hd => rfl); (case hg => rfl); (case hr => first | (go_simp; done) | (go_simp; rfl)); intro gb184 hg w19 hbox hb; have BK184 := Aside0.mk (hbox); have GW184 := XSq.gw hg (XSq.bB HB); have GE184 := XSq.gw hg (XSq.bB HB); replace HB := Aside0.mk (below_step (XSq.bB HB) hb); clear hb hbox hg) | ((with_reducible refine gate_callee (f := 17) rfl ?_); refine goesL_ (some 11) rfl rfl Tryd.func17 (by kernel_rfl) rfl #[.string a0, .string (⟨#[58]⟩ : ByteArray)] rfl (by (try simp only [List.map_toArray, List.map_cons, List.map_nil]); first | done | rfl | (simp only [List.length_drop, List.length_take]; rfl)) ?_; (with_reducible refine (strings_Split.calls a0 (⟨#[58]⟩ : ByteArray) t185 _ A2.out).mono ?_); rintro e w20 ⟨v186, rfl, ho0, hb⟩; refine ⟨_, rfl, ?_⟩; have HO187 := Aside0.mk (Kd.R_lower ho0 (below_size (XSq.bB HB))); replace BK184 := Aside0.mk (blk_below (g := gb184) (o := .cells #[.string ⟨#[]⟩, .int .i64 0, .int .i64 0, .string ⟨#[]⟩, .int .i64 0, .int .i64 0, .int .i64 0] 23 (0, 0)) (XSq.bq BK184) hb); replace HB := Aside0.mk (below_step (XSq.bB HB) hb); clear hb; (try clear hb2); (try clear hk); (try clear hi); (try clear ho0); obtain ⟨Ao21, co21, eo21⟩ := Kd.R_slice HO187.out; subst eo21; have p188 : 0 ≤ (1 : Int) := (by omega); have q188 : 1 < (t185.length : Int) := of_decide_eq_true (by first | (with_reducible assumption) | assumption); obtain ⟨ad188, e188, hx188_0⟩ := Kd.at_string (Kd.R_reads' HO187.out).2.2 1 p188 q188; cases e188; (try simp only [show (1 : Int).toNat = 1 from rfl, Nat.reduceMul, Nat.reduceEqDiff, Go.Addr.add, ↓reduceIte] at hx188_0); have qi188 : (1 < t185.length) = True := eq_true (by omega); (try rw [show ((1 : Int)).toNat = 1 from rfl] at hx188_0); replace p188 := eq_true p188; replace q188 := eq_true q188) | ((with_reducible refine gate_callee (f := 18) rfl ?_); refine goesL_ (some 20) rfl rfl Tryd.func18 (by kernel_rfl) rfl #[.string (rdOf ByteArray.empty t185 1), .string (⟨#[120]⟩ : ByteArray), .int .i64 2, .int .i64 9] rfl (by (try simp only [List.map_toArray, List.map_cons, List.map_nil]); first | done | rfl | (simp only [List.length_drop, List.length_take]; rfl)) ?_; (with_reducible refine (impl_numbers.calls k (rdOf ByteArray.empty t185 1) (⟨#[120]⟩ : ByteArray) 2 9 t189 true _ (XEv.below HE.out (XSq.bB HB)) A5.out).mono ?_); rintro e w22 ⟨v191, rfl, ho0, hb⟩; refine ⟨_, rfl, ?_⟩; have HO192 := Aside0.mk (Kd.R_lower ho0 (below_size (XSq.bB HB))); replace HO187 := Aside0.mk (Kd.R_below (XSq.pR HO187) hb); replace BK184 := Aside0.mk (blk_below (g := gb184) (o := .cells #[.string ⟨#[]⟩, .int .i64 0, .int .i64 0, .string ⟨#[]⟩, .int .i64 0, .int .i64 0, .int .i64 0] 23 (0, 0)) (XSq.bq BK184) hb); replace HB := Aside0.mk (below_step (XSq.bB HB) hb); clear hb; (try clear hb2); (try clear hk); (try clear hi); (try clear ho0); have p193 : 0 ≤ (3 : Int) := (by omega); have q193 : 3 < (t185.length : Int) := of_decide_eq_true (by first | (with_reducible assumption) | assumption); obtain ⟨ad193, e193, hx193_0⟩ := Kd.at_string (Kd.R_reads' HO187.out).2.2 3 p193 q193; obtain rfl : ad188 = ad193 := (by injection e193); (try simp only [show (3 : Int).toNat = 3 from rfl, Nat.reduceMul, Nat.reduceEqDiff, Go.Addr.add, ↓reduceIte] at hx193_0); have qi193 : (3 < t185.length) = True := eq_true (by omega); (try rw [show ((3 : Int)).toNat = 3 from rfl] at hx193_0); replace p193 := eq_true p193; replace q193 := eq_true q193) | ((with_reducible refine gate_callee (f := 18) rfl ?_); refine goesL_ (some 27) rfl rfl Tryd.func18 (by kernel_rfl) rfl #[.string (rdOf ByteArray.empty t185 3), .string (⟨#[44]⟩ : ByteArray), .int .i64 3, .int .i64 9] rfl (by (try simp only [List.map_toArray, List.map_cons, List.map_nil]); first | done | rfl | (simp only [List.length_drop, List.length_take]; rfl)) ?_; (with_reducible refine (impl_numbers.calls k (rdOf ByteArray.empty t185 3) (⟨#[44]⟩ : ByteArray) 3 9 t194 true _ (XEv.below HE.out (XSq.bB HB)) A7.out).mono ?_); rintro e w23 ⟨v196, rfl, ho0, hb⟩; refine ⟨_, rfl, ?_⟩; have HO197 := Aside0.mk (Kd.R_lower (Kd.R_new' ho0 (Kd.R_lt (XSq.pR HO192))) (below_size (XSq.bB HB))); replace HO187 := Aside0.mk (Kd.R_below (XSq.pR HO187) hb); replace HO192 := Aside0.mk (Kd.R_elder' (XSq.pR HO192) (Kd.R_base ho0) hb); replace BK184 := Aside0.mk (blk_below (g := gb184) (o := .cells #[.string ⟨#[]⟩, .int .i64 0, .int .i64 0, .string ⟨#[]⟩, .int .i64 0, .int .i64 0, .int .i64 0] 23 (0, 0)) (XSq.bq BK184) hb); replace HB := Aside0.mk (below_step (XSq.bB HB) hb); clear hb; (try clear hb2); (try clear hk); (try clear hi); (try clear ho0)))
              replace HO187 := Aside0.mk (Kd.R_drew HO187.out); replace HO192 := Aside0.mk (Kd.R_drew HO192.out); replace HO197 := Aside0.mk (Kd.R_drew HO197.out); replace BK184 := Aside0.mk (blk_drew BK184.out); replace HB := Aside0.mk (below_drew1 HB.out); have p198 : 0 ≤ (0 : Int) := (by omega); have q198 : 0 < (t185.length : Int) := of_decide_eq_true (by first | (with_reducible assumption) | assumption); obtain ⟨ad198, e198, hx198_0⟩ := Kd.at_string (Kd.R_reads' HO187.out).2.2 0 p198 q198; obtain rfl : ad188 = ad198 := (by injection e198); have qi198 : (0 < t185.length) = True := eq_true (by omega)
              (try rw [show ((0 : Int)).toNat = 0 from rfl] at hx198_0)
              (try rw [Addr.add_zero'] at hx198_0)
              replace p198 := eq_true p198; replace q198 := eq_true q198; obtain ⟨Ao25, co25, eo25⟩ := Kd.R_slice HO192.out
              (first | subst eo25 | (injection eo25 with f1_ f2_ f3_; have f4_ := f1_.symm; have f5_ := f3_.symm; clear f1_ f2_ f3_; subst f4_; subst f5_))
              have p199 : 0 ≤ (0 : Int) := (by omega); have q199 : 0 < (t189.length : Int) := of_decide_eq_true (by first | (with_reducible assumption) | assumption); obtain ⟨ad199, e199, hx199_0⟩ := Kd.at_int (Kd.R_reads' HO192.out).2.2 0 p199 q199; cases e199; have qi199 : (0 < t189.length) = True := eq_true (by omega)
              (try rw [show ((0 : Int)).toNat = 0 from rfl] at hx199_0)
              (try rw [Addr.add_zero'] at hx199_0)
              replace p199 := eq_true p199; replace q199 := eq_true q199; have p200 : 0 ≤ (1 : Int) := (by omega); have q200 : 1 < (t189.length : Int) := of_decide_eq_true (by first | (with_reducible assumption) | assumption); obtain ⟨ad200, e200, hx200_0⟩ := Kd.at_int (Kd.R_reads' HO192.out).2.2 1 p200 q200; obtain rfl : ad199 = ad200 := (by injection e200)
              (try simp only [show (1 : Int).toNat = 1 from rfl, Nat.reduceMul, Nat.reduceEqDiff, Go.Addr.add, ↓reduceIte] at hx200_0)
              have qi200 : (1 < t189.length) = True := eq_true (by omega)
              (try rw [show ((1 : Int)).toNat = 1 from rfl] at hx200_0)
              replace p200 := eq_true p200; replace q200 := eq_true q200; have p201 : 0 ≤ (2 : Int) := (by omega); have q201 : 2 < (t185.length : Int) := of_decide_eq_true (by first | (with_reducible assumption) | assumption); obtain ⟨ad201, e201, hx201_0⟩ := Kd.at_string (Kd.R_reads' HO187.out).2.2 2 p201 q201; obtain rfl : ad188 = ad201 := (by injection e201)
              (try simp only [show (2 : Int).toNat = 2 from rfl, Nat.reduceMul, Nat.reduceEqDiff, Go.Addr.add, ↓reduceIte] at hx201_0)
              have qi201 : (2 < t185.length) = True := eq_true (by omega)
              (try rw [show ((2 : Int)).toNat = 2 from rfl] at hx201_0)
              replace p201 := eq_true p201; replace q201 := eq_true q201; obtain ⟨Ao26, co26, eo26⟩ := Kd.R_slice HO197.out
              (first | subst eo26 | (injection eo26 with f1_ f2_ f3_; have f4_ := f1_.symm; have f5_ := f3_.symm; clear f1_ f2_ f3_; subst f4_; subst f5_))
              have p202 : 0 ≤ (0 : Int) := (by omega); have q202 : 0 < (t194.length : Int) := of_decide_eq_true (by first | (with_reducible assumption) | assumption); obtain ⟨ad202, e202, hx202_0⟩ := Kd.at_int (Kd.R_reads' HO197.out).2.2 0 p202 q202; cases e202; have qi202 : (0 < t194.length) = True := eq_true (by omega)
              (try rw [show ((0 : Int)).toNat = 0 from rfl] at hx202_0)
              (try rw [Addr.add_zero'] at hx202_0)
              replace p202 := eq_true p202; replace q202 := eq_true q202; have p203 : 0 ≤ (1 : Int) := (by omega); have q203 : 1 < (t194.length : Int) := of_decide_eq_true (by first | (with_reducible assumption) | assumption); obtain ⟨ad203, e203, hx203_0⟩ := Kd.at_int (Kd.R_reads' HO197.out).2.2 1 p203 q203; obtain rfl : ad202 = ad203 := (by injection e203)
              (try simp only [show (1 : Int).toNat = 1 from rfl, Nat.reduceMul, Nat.reduceEqDiff, Go.Addr.add, ↓reduceIte] at hx203_0)
              have qi203 : (1 < t194.length) = True := eq_true (by omega)
              (try rw [show ((1 : Int)).toNat = 1 from rfl] at hx203_0)
              replace p203 := eq_true p203; replace q203 := eq_true q203; have p204 : 0 ≤ (2 : Int) := (by omega); have q204 : 2 < (t194.length : Int) := of_decide_eq_true (by first | (with_reducible assumption) | assumption); obtain ⟨ad204, e204, hx204_0⟩ := Kd.at_int (Kd.R_reads' HO197.out).2.2 2 p204 q204; obtain rfl : ad202 = ad204 := (by injection e204)
              (try simp only [show (2 : Int).toNat = 2 from rfl, Nat.reduceMul, Nat.reduceEqDiff, Go.Addr.add, ↓reduceIte] at hx204_0)
              have qi204 : (2 < t194.length) = True := eq_true (by omega)
              (try rw [show ((2 : Int)).toNat = 2 from rfl] at hx204_0)
              replace p204 := eq_true p204; replace q204 := eq_true q204
              refine start_ (n := 24) (S := fun w' => w'.cell? ad188 = some (.string (rdOf ByteArray.empty t185 0)) ∧ w'.cell? ad199 = some (.int .i64 (rd t189 0)) ∧ w'.cell? ⟨ad199.block, ad199.off + 1, none⟩ = some (.int .i64 (rd t189 1)) ∧ w'.cell? ⟨ad188.block, ad188.off + 2, none⟩ = some (.string (rdOf ByteArray.empty t185 2)) ∧ w'.cell? ad202 = some (.int .i64 (rd t194 0)) ∧ w'.cell? ⟨ad202.block, ad202.off + 1, none⟩ = some (.int .i64 (rd t194 1)) ∧ w'.cell? ⟨ad202.block, ad202.off + 2, none⟩ = some (.int .i64 (rd t194 2))) (ds := []) #[false, false, false, false, false, false, false, false, false, false, false, false, false, false, false, false, false, false, false, false, false, false, false, false] (by kernel_rfl) rfl rfl ⟨hx198_0, hx199_0, hx200_0, hx201_0, hx202_0, hx203_0, hx204_0⟩ (fun hHeld => ?_); refine with_tabW impl_ParseWorld.tab6 impl_ParseWorld.bits6 (fun HT_ HW_ => ?_)
              generalize w23.drew = w24 at HO187 HO192 HO197 BK184 HB hx198_0 hx199_0 hx200_0 hx201_0 hx202_0 hx203_0 hx204_0 hHeld ⊢
              refine pure_ (i := 0) (N := some 30) (v := ?_) (a' := ?_) #[true, false, false, false, false, false, false, false, false, false, false, false, false, false, false, false, false, false, false, false, false, false, false, false] rfl rfl (any_of HT_.out (by kernel_rfl)) (fun _ _ _ h => h) (Or.inl ⟨by rfl, ?_⟩) ?_ ?_
              rotate_left
              ·
               intro w'
               go_simp
               with_reducible rfl
              rotate_left
              ·
               simp only [Act.put, List.setIfInBounds_toArray, List.set_cons_zero, List.set_cons_succ, i64_w, i32_w]
               rfl
              refine pure_ (i := 1) (N := some 31) (v := ?_) (a' := ?_) #[true, true, false, false, false, false, false, false, false, false, false, false, false, false, false, false, false, false, false, false, false, false, false, false] rfl rfl (any_of HT_.out (by kernel_rfl)) (fun _ _ _ h => h) (Or.inl ⟨by rfl, ?_⟩) ?_ ?_
              rotate_left
              ·
               intro w'
               go_simp
               with_reducible rfl
              rotate_left
              ·
               simp only [Act.put, List.setIfInBounds_toArray, List.set_cons_zero, List.set_cons_succ, i64_w, i32_w]
               rfl
              refine pure_ (i := 3) (N := some 33) (v := ?_) (a' := ?_) #[true, true, false, true, false, false, false, false, false, false, false, false, false, false, false, false, false, false, false, false, false, false, false, false] rfl rfl (any_of HT_.out (by kernel_rfl)) (fun _ _ _ h => h) (Or.inl ⟨by rfl, ?_⟩) ?_ ?_
              rotate_left
              ·
               intro w'
               go_simp
               with_reducible rfl
              rotate_left
              ·
               simp only [Act.put, List.setIfInBounds_toArray, List.set_cons_zero, List.set_cons_succ, i64_w, i32_w]
               rfl
              refine pure_ (i := 4) (N := some 34) (v := ?_) (a' := ?_) #[true, true, false, true, true, false, false, false, false, false, false, false, false, false, false, false, false, false, false, false, false, false, false, false] rfl rfl (any_of HT_.out (by kernel_rfl)) (fun _ _ _ h => h) (Or.inl ⟨by rfl, ?_⟩) ?_ ?_
              rotate_left
              ·
               intro w'
               go_simp
               with_reducible rfl
              rotate_left
              ·
               simp only [Act.put, List.setIfInBounds_toArray, List.set_cons_zero, List.set_cons_succ, i64_w, i32_w]
               rfl
              refine pure_ (i := 6) (N := some 36) (v := ?_) (a' := ?_) #[true, true, false, true, true, false, true, false, false, false, false, false, false, false, false, false, false, false, false, false, false, false, false, false] rfl rfl (any_of HT_.out (by kernel_rfl)) (fun _ _ _ h => h) (Or.inl ⟨by rfl, ?_⟩) ?_ ?_
              rotate_left
              ·
               intro w'
               go_simp
               with_reducible rfl
              rotate_left
              ·
               simp only [Act.put, List.setIfInBounds_toArray, List.set_cons_zero, List.set_cons_succ, i64_w, i32_w]
               rfl
              refine pure_ (i := 7) (N := some 37) (v := ?_) (a' := ?_) #[true, true, false, true, true, false, true, true, false, false, false, false, false, false, false, false, false, false, false, false, false, false, false, false] rfl rfl (any_of HT_.out (by kernel_rfl)) (fun _ _ _ h => h) (Or.inl ⟨by rfl, ?_⟩) ?_ ?_
              rotate_left
              ·
               intro w'
               go_simp
               with_reducible rfl
              rotate_left
              ·
               simp only [Act.put, List.setIfInBounds_toArray, List.set_cons_zero, List.set_cons_succ, i64_w, i32_w]
               rfl
              refine pure_ (i := 9) (N := some 39) (v := ?_) (a' := ?_) #[true, true, false, true, true, false, true, true, false, true, false, false, false, false, false, false, false, false, false, false, false, false, false, false] rfl rfl (any_of HT_.out (by kernel_rfl)) (fun _ _ _ h => h) (Or.inl ⟨by rfl, ?_⟩) ?_ ?_
              rotate_left
              ·
               intro w'
               go_simp
               with_reducible rfl
              rotate_left
              ·
               simp only [Act.put, List.setIfInBounds_toArray, List.set_cons_zero, List.set_cons_succ, i64_w, i32_w]
               rfl
              refine pure_ (i := 10) (N := some 40) (v := ?_) (a' := ?_) #[true, true, false, true, true, false, true, true, false, true, true, false, false, false, false, false, false, false, false, false, false, false, false, false] rfl rfl (any_of HT_.out (by kernel_rfl)) (fun _ _ _ h => h) (Or.inl ⟨by rfl, ?_⟩) ?_ ?_
              rotate_left
              ·
               intro w'
               go_simp
               with_reducible rfl
              rotate_left
              ·
               simp only [Act.put, List.setIfInBounds_toArray, List.set_cons_zero, List.set_cons_succ, i64_w, i32_w]
               rfl
              refine pure_ (i := 12) (N := some 42) (v := ?_) (a' := ?_) #[true, true, false, true, true, false, true, true, false, true, true, false, true, false, false, false, false, false, false, false, false, false, false, false] rfl rfl (any_of HT_.out (by kernel_rfl)) (fun _ _ _ h => h) (Or.inl ⟨by rfl, ?_⟩) ?_ ?_
              rotate_left
              ·
               intro w'
               go_simp
               with_reducible rfl
              rotate_left
              ·
               simp only [Act.put, List.setIfInBounds_toArray, List.set_cons_zero, List.set_cons_succ, i64_w, i32_w]
               rfl
              refine pure_ (i := 13) (N := some 43) (v := ?_) (a' := ?_) #[true, true, false, true, true, false, true, true, false, true, true, false, true, true, false, false, false, false, false, false, false, false, false, false] rfl rfl (any_of HT_.out (by kernel_rfl)) (fun _ _ _ h => h) (Or.inl ⟨by rfl, ?_⟩) ?_ ?_
              rotate_left
              ·
               intro w'
               go_simp
               with_reducible rfl
              rotate_left
              ·
               simp only [Act.put, List.setIfInBounds_toArray, List.set_cons_zero, List.set_cons_succ, i64_w, i32_w]
               rfl
              refine pure_ (i := 15) (N := some 45) (v := ?_) (a' := ?_) #[true, true, false, true, true, false, true, true, false, true, true, false, true, true, false, true, false, false, false, false, false, false, false, false] rfl rfl (any_of HT_.out (by kernel_rfl)) (fun _ _ _ h => h) (Or.inl ⟨by rfl, ?_⟩) ?_ ?_
              rotate_left
              ·
               intro w'
               go_simp
               with_reducible rfl
              rotate_left
              ·
               simp only [Act.put, List.setIfInBounds_toArray, List.set_cons_zero, List.set_cons_succ, i64_w, i32_w]
               rfl
              refine pure_ (i := 16) (N := some 46) (v := ?_) (a' := ?_) #[true, true, false, true, true, false, true, true, false, true, true, false, true, true, false, true, true, false, false, false, false, false, false, false] rfl rfl (any_of HT_.out (by kernel_rfl)) (fun _ _ _ h => h) (Or.inl ⟨by rfl, ?_⟩) ?_ ?_
              rotate_left
              ·
               intro w'
               go_simp
               with_reducible rfl
              rotate_left
              ·
               simp only [Act.put, List.setIfInBounds_toArray, List.set_cons_zero, List.set_cons_succ, i64_w, i32_w]
               rfl
              refine pure_ (i := 18) (N := some 48) (v := ?_) (a' := ?_) #[true, true, false, true, true, false, true, true, false, true, true, false, true, true, false, true, true, false, true, false, false, false, false, false] rfl rfl (any_of HT_.out (by kernel_rfl)) (fun _ _ _ h => h) (Or.inl ⟨by rfl, ?_⟩) ?_ ?_
              rotate_left
              ·
               intro w'
               go_simp
               with_reducible rfl
              rotate_left
              ·
               simp only [Act.put, List.setIfInBounds_toArray, List.set_cons_zero, List.set_cons_succ, i64_w, i32_w]
               rfl
              refine pure_ (i := 19) (N := some 49) (v := ?_) (a' := ?_) #[true, true, false, true, true, false, true, true, false, true, true, false, true, true, false, true, true, false, true, true, false, false, false, false] rfl rfl (any_of HT_.out (by kernel_rfl)) (fun _ _ _ h => h) (Or.inl ⟨by rfl, ?_⟩) ?_ ?_
              rotate_left
              ·
               intro w'
               go_simp
               with_reducible rfl
              rotate_left
              ·
               simp only [Act.put, List.setIfInBounds_toArray, List.set_cons_zero, List.set_cons_succ, i64_w, i32_w]
               rfl
              refine take_ (i := 2) (N := some 32) (v := ?_) (a' := ?_) #[true, true, true, true, true, false, true, true, false, true, true, false, true, true, false, true, true, false, true, true, false, false, false, false] rfl rfl (take_ofW HT_.out HW_.out (by kernel_rfl)) (fun _ _ _ h => h) (Or.inl ⟨by rfl, ?_⟩) hHeld ?_ ?_
              rotate_left
              ·
               rintro w' ⟨s0, s1, s2, s3, s4, s5, s6⟩
               go_simp
               with_reducible rfl
              rotate_left
              ·
               simp only [Act.put, List.setIfInBounds_toArray, List.set_cons_zero, List.set_cons_succ, i64_w, i32_w]
               rfl
              refine take_ (i := 5) (N := some 35) (v := ?_) (a' := ?_) #[true, true, true, true, true, true, true, true, false, true, true, false, true, true, false, true, true, false, true, true, false, false, false, false] rfl rfl (take_ofW HT_.out HW_.out (by kernel_rfl)) (fun _ _ _ h => h) (Or.inl ⟨by rfl, ?_⟩) hHeld ?_ ?_
              rotate_left
              ·
               rintro w' ⟨s0, s1, s2, s3, s4, s5, s6⟩
               go_simp
               with_reducible rfl
              rotate_left
              ·
               simp only [Act.put, List.setIfInBounds_toArray, List.set_cons_zero, List.set_cons_succ, i64_w, i32_w]
               rfl
              refine take_ (i := 8) (N := some 38) (v := ?_) (a' := ?_) #[true, true, true, true, true, true, true, true, true, true, true, false, true, true, false, true, true, false, true, true, false, false, false, false] rfl rfl (take_ofW HT_.out HW_.out (by kernel_rfl)) (fun _ _ _ h => h) (Or.inl ⟨by rfl, ?_⟩) hHeld ?_ ?_
              rotate_left
              ·
               rintro w' ⟨s0, s1, s2, s3, s4, s5, s6⟩
               go_simp
               with_reducible rfl
              rotate_left
              ·
               simp only [Act.put, List.setIfInBounds_toArray, List.set_cons_zero, List.set_cons_succ, i64_w, i32_w]
               rfl
              refine take_ (i := 11) (N := some 41) (v := ?_) (a' := ?_) #[true, true, true, true, true, true, true, true, true, true, true, true, true, true, false, true, true, false, true, true, false, false, false, false] rfl rfl (take_ofW HT_.out HW_.out (by kernel_rfl)) (fun _ _ _ h => h) (Or.inl ⟨by rfl, ?_⟩) hHeld ?_ ?_
              rotate_left
              ·
               rintro w' ⟨s0, s1, s2, s3, s4, s5, s6⟩
               go_simp
               with_reducible rfl
              rotate_left
              ·
               simp only [Act.put, List.setIfInBounds_toArray, List.set_cons_zero, List.set_cons_succ, i64_w, i32_w]
               rfl
              refine take_ (i := 14) (N := some 44) (v := ?_) (a' := ?_) #[true, true, true, true, true, true, true, true, true, true, true, true, true, true, true, true, true, false, true, true, false, false, false, false] rfl rfl (take_ofW HT_.out HW_.out (by kernel_rfl)) (fun _ _ _ h => h) (Or.inl ⟨by rfl, ?_⟩) hHeld ?_ ?_
              rotate_left
              ·
               rintro w' ⟨s0, s1, s2, s3, s4, s5, s6⟩
               go_simp
               with_reducible rfl
              rotate_left
              ·
               simp only [Act.put, List.setIfInBounds_toArray, List.set_cons_zero, List.set_cons_succ, i64_w, i32_w]
               rfl
              refine take_ (i := 17) (N := some 47) (v := ?_) (a' := ?_) #[true, true, true, true, true, true, true, true, true, true, true, true, true, true, true, true, true, true, true, true, false, false, false, false] rfl rfl (take_ofW HT_.out HW_.out (by kernel_rfl)) (fun _ _ _ h => h) (Or.inl ⟨by rfl, ?_⟩) hHeld ?_ ?_
              rotate_left
              ·
               rintro w' ⟨s0, s1, s2, s3, s4, s5, s6⟩
               go_simp
               with_reducible rfl
              rotate_left
              ·
               simp only [Act.put, List.setIfInBounds_toArray, List.set_cons_zero, List.set_cons_succ, i64_w, i32_w]
               rfl
              refine take_ (i := 20) (N := some 50) (v := ?_) (a' := ?_) #[true, true, true, true, true, true, true, true, true, true, true, true, true, true, true, true, true, true, true, true, true, false, false, false] rfl rfl (take_ofW HT_.out HW_.out (by kernel_rfl)) (fun _ _ _ h => h) (Or.inl ⟨by rfl, ?_⟩) hHeld ?_ ?_
              rotate_left
              ·
               rintro w' ⟨s0, s1, s2, s3, s4, s5, s6⟩
               go_simp
               with_reducible rfl
              rotate_left
              ·
               simp only [Act.put, List.setIfInBounds_toArray, List.set_cons_zero, List.set_cons_succ, i64_w, i32_w]
               rfl
              refine pure_ (i := 21) (N := some 51) (v := ?_) (a' := ?_) #[true, true, true, true, true, true, true, true, true, true, true, true, true, true, true, true, true, true, true, true, true, true, false, false] rfl rfl (any_of HT_.out (by kernel_rfl)) (fun _ _ _ h => h) (Or.inl ⟨by rfl, ?_⟩) ?_ ?_
              rotate_left
              ·
               intro w'
               go_simp
               with_reducible rfl
              rotate_left
              ·
               simp only [Act.put, List.setIfInBounds_toArray, List.set_cons_zero, List.set_cons_succ, i64_w, i32_w]
               rfl
              refine one_ (i := 22) (N := some 9) #[true, true, true, true, true, true, true, true, true, true, true, true, true, true, true, true, true, true, true, true, true, true, true, false] rfl rfl (one_of HT_.out (by kernel_rfl)) (by decide) (fun K hK => ?_)
              refine box_step ?hg (N := 9) ?hd (cs := #[.string ⟨#[]⟩, .int .i64 0, .int .i64 0, .string ⟨#[]⟩, .int .i64 0, .int .i64 0, .int .i64 0]) (t := 23) ?hr ?_; (case hd => rfl); (case hg => rfl); (case hr => first | (go_simp; done) | (go_simp; rfl))
              intro gb205 hg w27 hbox hb; have HS0_ := (hb.cell (World.block_lt_of_cell? _ _ (hHeld.1))).trans (hHeld.1); have HS1_ := (hb.cell (World.block_lt_of_cell? _ _ (hHeld.2.1))).trans (hHeld.2.1); have HS2_ := (hb.cell (World.block_lt_of_cell? _ _ (hHeld.2.2.1))).trans (hHeld.2.2.1); have HS3_ := (hb.cell (World.block_lt_of_cell? _ _ (hHeld.2.2.2.1))).trans (hHeld.2.2.2.1); have HS4_ := (hb.cell (World.block_lt_of_cell? _ _ (hHeld.2.2.2.2.1))).trans (hHeld.2.2.2.2.1); have HS5_ := (hb.cell (World.block_lt_of_cell? _ _ (hHeld.2.2.2.2.2.1))).trans (hHeld.2.2.2.2.2.1); have HS6_ := (hb.cell (World.block_lt_of_cell? _ _ (hHeld.2.2.2.2.2.2))).trans (hHeld.2.2.2.2.2.2); have n0_ := Aside0.mk (Kd.R_below (XSq.pR HO187) hb); have n1_ := Aside0.mk (Kd.R_below (XSq.pR HO192) hb); have n2_ := Aside0.mk (Kd.R_below (XSq.pR HO197) hb); have n3_ := Aside0.mk (blk_below (g := gb184) (o := .cells #[.string ⟨#[]⟩, .int .i64 0, .int .i64 0, .string ⟨#[]⟩, .int .i64 0, .int .i64 0, .int .i64 0] 23 (0, 0)) (XSq.bq BK184) hb); have n4_ := Aside0.mk (below_step (XSq.bB HB) hb); have n5_ := Aside0.mk (hbox); have n6_ := XSq.gw hg (XSq.bB HB); have n7_ := XSq.gw hg (XSq.bB HB); have n8_ := Aside0.mk ((by rw [hg]; exact Nat.ne_of_lt (blk_lt (g := gb184) (o := .cells #[.string ⟨#[]⟩, .int .i64 0, .int .i64 0, .string ⟨#[]⟩, .int .i64 0, .int .i64 0, .int .i64 0] 23 (0, 0)) (XSq.bq BK184)) : gb184 ≠ gb205)); have n9_ := Aside0.mk ((by rw [hg]; exact Nat.ne_of_gt (blk_lt (g := gb184) (o := .cells #[.string ⟨#[]⟩, .int .i64 0, .int .i64 0, .string ⟨#[]⟩, .int .i64 0, .int .i64 0, .int .i64 0] 23 (0, 0)) (XSq.bq BK184)) : gb205 ≠ gb184)); clear HO187 HO192 HO197 BK184 HB; have HO187 := n0_; have HO192 := n1_; have HO197 := n2_; have BK184 := n3_; have HB := n4_; have BK205 := n5_; have GW205 := n6_; have GE205 := n7_; have NB184_205 := n8_; have NB205_184 := n9_; clear n0_ n1_ n2_ n3_ n4_ n5_ n6_ n7_ n8_ n9_ hb hbox hg
              refine hK.out _ _ ⟨HS0_, HS1_, HS2_, HS3_, HS4_, HS5_, HS6_⟩ (fun hHeld => ?_)
              clear hK K
              refine norm_ (a' := ?_) ?_ ?_
              rotate_left
              ·
               show Act.put _ (some 9) _ = _
               simp only [Act.put, List.setIfInBounds_toArray, List.set_cons_zero, List.set_cons_succ, i64_w, i32_w]
               rfl
              refine one_ (i := 23) (N := none) #[true, true, true, true, true, true, true, true, true, true, true, true, true, true, true, true, true, true, true, true, true, true, true, true] rfl rfl (one_of HT_.out (by kernel_rfl)) (by decide) (fun K hK => ?_)
              have hs28 : w27.cell? ⟨gb205, 0, none⟩ = some (.string ⟨#[]⟩) := (blk_cell BK205.out 0).trans rfl; have hfs28 := blk_frozen BK205.out 0; have hns28_0 := NB184_205.out; have hms28_0 := NB205_184.out; have hs29 : w27.cell? ⟨gb205, 1, none⟩ = some (.int .i64 0) := (blk_cell BK205.out 1).trans rfl; have hfs29 := blk_frozen BK205.out 1; have hns29_0 := NB184_205.out; have hms29_0 := NB205_184.out; have hs30 : w27.cell? ⟨gb205, 2, none⟩ = some (.int .i64 0) := (blk_cell BK205.out 2).trans rfl; have hfs30 := blk_frozen BK205.out 2; have hns30_0 := NB184_205.out; have hms30_0 := NB205_184.out; have hs31 : w27.cell? ⟨gb205, 3, none⟩ = some (.string ⟨#[]⟩) := (blk_cell BK205.out 3).trans rfl; have hfs31 := blk_frozen BK205.out 3; have hns31_0 := NB184_205.out; have hms31_0 := NB205_184.out; have hs32 : w27.cell? ⟨gb205, 4, none⟩ = some (.int .i64 0) := (blk_cell BK205.out 4).trans rfl; have hfs32 := blk_frozen BK205.out 4; have hns32_0 := NB184_205.out; have hms32_0 := NB205_184.out; have hs33 : w27.cell? ⟨gb205, 5, none⟩ = some (.int .i64 0) := (blk_cell BK205.out 5).trans rfl; have hfs33 := blk_frozen BK205.out 5; have hns33_0 := NB184_205.out; have hms33_0 := NB205_184.out; have hs34 : w27.cell? ⟨gb205, 6, none⟩ = some (.int .i64 0) := (blk_cell BK205.out 6).trans rfl; have hfs34 := blk_frozen BK205.out 6; have hns34_0 := NB184_205.out; have hms34_0 := NB205_184.out
              refine skip_ (w1 := ?_) (by rfl) rfl ?_ ?_
              rotate_left
              ·
               go_simp
               rfl
              refine hK.out _ _ ⟨((cell_far (p := ⟨gb205, _, none⟩) (XSq.fr (Kd.own_blk (Kd.R_ne HO187.out BK205.out (by decide)))) _).trans (((cell_far (p := ⟨gb205, _, none⟩) (XSq.fr (Kd.own_blk (Kd.R_ne HO187.out BK205.out (by decide)))) _).trans (((cell_far (p := ⟨gb205, _, none⟩) (XSq.fr (Kd.own_blk (Kd.R_ne HO187.out BK205.out (by decide)))) _).trans (((cell_far (p := ⟨gb205, _, none⟩) (XSq.fr (Kd.own_blk (Kd.R_ne HO187.out BK205.out (by decide)))) _).trans (((cell_far (p := ⟨gb205, _, none⟩) (XSq.fr (Kd.own_blk (Kd.R_ne HO187.out BK205.out (by decide)))) _).trans (((cell_far (p := ⟨gb205, _, none⟩) (XSq.fr (Kd.own_blk (Kd.R_ne HO187.out BK205.out (by decide)))) _).trans (((cell_far (p := ⟨gb205, _, none⟩) (XSq.fr (Kd.own_blk (Kd.R_ne HO187.out BK205.out (by decide)))) _).trans (hHeld.1)))))))))))))), ((cell_far (p := ⟨gb205, _, none⟩) (XSq.fr (Kd.own_blk (Kd.R_ne HO192.out BK205.out (by decide)))) _).trans (((cell_far (p := ⟨gb205, _, none⟩) (XSq.fr (Kd.own_blk (Kd.R_ne HO192.out BK205.out (by decide)))) _).trans (((cell_far (p := ⟨gb205, _, none⟩) (XSq.fr (Kd.own_blk (Kd.R_ne HO192.out BK205.out (by decide)))) _).trans (((cell_far (p := ⟨gb205, _, none⟩) (XSq.fr (Kd.own_blk (Kd.R_ne HO192.out BK205.out (by decide)))) _).trans (((cell_far (p := ⟨gb205, _, none⟩) (XSq.fr (Kd.own_blk (Kd.R_ne HO192.out BK205.out (by decide)))) _).trans (((cell_far (p := ⟨gb205, _, none⟩) (XSq.fr (Kd.own_blk (Kd.R_ne HO192.out BK205.out (by decide)))) _).trans (((cell_far (p := ⟨gb205, _, none⟩) (XSq.fr (Kd.own_blk (Kd.R_ne HO192.out BK205.out (by decide)))) _).trans (hHeld.2.1)))))))))))))), ((cell_far (p := ⟨gb205, _, none⟩) (XSq.fr (Kd.own_blk (Kd.R_ne HO192.out BK205.out (by decide)))) _).trans (((cell_far (p := ⟨gb205, _, none⟩) (XSq.fr (Kd.own_blk (Kd.R_ne HO192.out BK205.out (by decide)))) _).trans (((cell_far (p := ⟨gb205, _, none⟩) (XSq.fr (Kd.own_blk (Kd.R_ne HO192.out BK205.out (by decide)))) _).trans (((cell_far (p := ⟨gb205, _, none⟩) (XSq.fr (Kd.own_blk (Kd.R_ne HO192.out BK205.out (by decide)))) _).trans (((cell_far (p := ⟨gb205, _, none⟩) (XSq.fr (Kd.own_blk (Kd.R_ne HO192.out BK205.out (by decide)))) _).trans (((cell_far (p := ⟨gb205, _, none⟩) (XSq.fr (Kd.own_blk (Kd.R_ne HO192.out BK205.out (by decide)))) _).trans (((cell_far (p := ⟨gb205, _, none⟩) (XSq.fr (Kd.own_blk (Kd.R_ne HO192.out BK205.out (by decide)))) _).trans (hHeld.2.2.1)))))))))))))), ((cell_far (p := ⟨gb205, _, none⟩) (XSq.fr (Kd.own_blk (Kd.R_ne HO187.out BK205.out (by decide)))) _).trans (((cell_far (p := ⟨gb205, _, none⟩) (XSq.fr (Kd.own_blk (Kd.R_ne HO187.out BK205.out (by decide)))) _).trans (((cell_far (p := ⟨gb205, _, none⟩) (XSq.fr (Kd.own_blk (Kd.R_ne HO187.out BK205.out (by decide)))) _).trans (((cell_far (p := ⟨gb205, _, none⟩) (XSq.fr (Kd.own_blk (Kd.R_ne HO187.out BK205.out (by decide)))) _).trans (((cell_far (p := ⟨gb205, _, none⟩) (XSq.fr (Kd.own_blk (Kd.R_ne HO187.out BK205.out (by decide)))) _).trans (((cell_far (p := ⟨gb205, _, none⟩) (XSq.fr (Kd.own_blk (Kd.R_ne HO187.out BK205.out (by decide)))) _).trans (((cell_far (p := ⟨gb205, _, none⟩) (XSq.fr (Kd.own_blk (Kd.R_ne HO187.out BK205.out (by decide)))) _).trans (hHeld.2.2.2.1)))))))))))))), ((cell_far (p := ⟨gb205, _, none⟩) (XSq.fr (Kd.own_blk (Kd.R_ne HO197.out BK205.out (by decide)))) _).trans (((cell_far (p := ⟨gb205, _, none⟩) (XSq.fr (Kd.own_blk (Kd.R_ne HO197.out BK205.out (by decide)))) _).trans (((cell_far (p := ⟨gb205, _, none⟩) (XSq.fr (Kd.own_blk (Kd.R_ne HO197.out BK205.out (by decide)))) _).trans (((cell_far (p := ⟨gb205, _, none⟩) (XSq.fr (Kd.own_blk (Kd.R_ne HO197.out BK205.out (by decide)))) _).trans (((cell_far (p := ⟨gb205, _, none⟩) (XSq.fr (Kd.own_blk (Kd.R_ne HO197.out BK205.out (by decide)))) _).trans (((cell_far (p := ⟨gb205, _, none⟩) (XSq.fr (Kd.own_blk (Kd.R_ne HO197.out BK205.out (by decide)))) _).trans (((cell_far (p := ⟨gb205, _, none⟩) (XSq.fr (Kd.own_blk (Kd.R_ne HO197.out BK205.out (by decide)))) _).trans (hHeld.2.2.2.2.1)))))))))))))), ((cell_far (p := ⟨gb205, _, none⟩) (XSq.fr (Kd.own_blk (Kd.R_ne HO197.out BK205.out (by decide)))) _).trans (((cell_far (p := ⟨gb205, _, none⟩) (XSq.fr (Kd.own_blk (Kd.R_ne HO197.out BK205.out (by decide)))) _).trans (((cell_far (p := ⟨gb205, _, none⟩) (XSq.fr (Kd.own_blk (Kd.R_ne HO197.out BK205.out (by decide)))) _).trans (((cell_far (p := ⟨gb205, _, none⟩) (XSq.fr (Kd.own_blk (Kd.R_ne HO197.out BK205.out (by decide)))) _).trans (((cell_far (p := ⟨gb205, _, none⟩) (XSq.fr (Kd.own_blk (Kd.R_ne HO197.out BK205.out (by decide)))) _).trans (((cell_far (p := ⟨gb205, _, none⟩) (XSq.fr (Kd.own_blk (Kd.R_ne HO197.out BK205.out (by decide)))) _).trans (((cell_far (p := ⟨gb205, _, none⟩) (XSq.fr (Kd.own_blk (Kd.R_ne HO197.out BK205.out (by decide)))) _).trans (hHeld.2.2.2.2.2.1)))))))))))))), ((cell_far (p := ⟨gb205, _, none⟩) (XSq.fr (Kd.own_blk (Kd.R_ne HO197.out BK205.out (by decide)))) _).trans (((cell_far (p := ⟨gb205, _, none⟩) (XSq.fr (Kd.own_blk (Kd.R_ne HO197.out BK205.out (by decide)))) _).trans (((cell_far (p := ⟨gb205, _, none⟩) (XSq.fr (Kd.own_blk (Kd.R_ne HO197.out BK205.out (by decide)))) _).trans (((cell_far (p := ⟨gb205, _, none⟩) (XSq.fr (Kd.own_blk (Kd.R_ne HO197.out BK205.out (by decide)))) _).trans (((cell_far (p := ⟨gb205, _, none⟩) (XSq.fr (Kd.own_blk (Kd.R_ne HO197.out BK205.out (by decide)))) _).trans (((cell_far (p := ⟨gb205, _, none⟩) (XSq.fr (Kd.own_blk (Kd.R_ne HO197.out BK205.out (by decide)))) _).trans (((cell_far (p := ⟨gb205, _, none⟩) (XSq.fr (Kd.own_blk (Kd.R_ne HO197.out BK205.out (by decide)))) _).trans (hHeld.2.2.2.2.2.2))))))))))))))⟩ (fun hHeld => ?_)
              clear hK K
              refine done_ (done_of HT_.out (by kernel_rfl)) ?_
              have hnb35 := NB205_184.out; have hnc35 := NB184_205.out; have hcz36_0 : w27.cell? ⟨gb205, 0, none⟩ = some (.string ⟨#[]⟩) := (blk_cell BK205.out 0).trans rfl; have hcz36_1 : w27.cell? ⟨gb205, 1, none⟩ = some (.int .i64 0) := (blk_cell BK205.out 1).trans rfl; have hcz36_2 : w27.cell? ⟨gb205, 2, none⟩ = some (.int .i64 0) := (blk_cell BK205.out 2).trans rfl; have hcz36_3 : w27.cell? ⟨gb205, 3, none⟩ = some (.string ⟨#[]⟩) := (blk_cell BK205.out 3).trans rfl; have hcz36_4 : w27.cell? ⟨gb205, 4, none⟩ = some (.int .i64 0) := (blk_cell BK205.out 4).trans rfl; have hcz36_5 : w27.cell? ⟨gb205, 5, none⟩ = some (.int .i64 0) := (blk_cell BK205.out 5).trans rfl; have hcz36_6 : w27.cell? ⟨gb205, 6, none⟩ = some (.int .i64 0) := (blk_cell BK205.out 6).trans rfl; have hfz36_0 := blk_frozen BK205.out 0; have hfz36_1 := blk_frozen BK205.out 1; have hfz36_2 := blk_frozen BK205.out 2; have hfz36_3 := blk_frozen BK205.out 3; have hfz36_4 := blk_frozen BK205.out 4; have hfz36_5 := blk_frozen BK205.out 5; have hfz36_6 := blk_frozen BK205.out 6
              try go_wp2_with (first | (go_at_call 19; (with_reducible refine (impl_IsWorld.calls k (rdOf ByteArray.empty t185 0) (rd t189 0) (rd t189 1) (rdOf ByteArray.empty t185 2) (rd t194 0) (rd t194 1) (rd t194 2) true _ A17.out).mono ?_); rintro e w37 ⟨rfl, hb⟩; have n0_ := Aside0.mk (Kd.R_below (by (with_reducible repeat (first | apply Kd.R_alloc | apply Kd.R_drewN | apply Kd.R_drew)); exact (Kd.R_mono (Kd.R_far (p := ⟨gb205, 6, none⟩) (Kd.R_far (p := ⟨gb205, 5, none⟩) (Kd.R_far (p := ⟨gb205, 4, none⟩) (Kd.R_far (p := ⟨gb205, 3, none⟩) (Kd.R_far (p := ⟨gb205, 2, none⟩) (Kd.R_far (p := ⟨gb205, 1, none⟩) (Kd.R_far (p := ⟨gb205, 0, none⟩) (Kd.R_types HO187.out BK205.out (by decide)) (fun _ hk => hk.2) (.string (rdOf ByteArray.empty t185 0))) (fun _ hk => hk.2) (.int .i64 (rd t189 0))) (fun _ hk => hk.2) (.int .i64 (rd t189 1))) (fun _ hk => hk.2) (.string (rdOf ByteArray.empty t185 2))) (fun _ hk => hk.2) (.int .i64 (rd t194 0))) (fun _ hk => hk.2) (.int .i64 (rd t194 1))) (fun _ hk => hk.2) (.int .i64 (rd t194 2))) (fun _ h_ => h_.1))) hb); have n1_ := Aside0.mk (Kd.R_below (by (with_reducible repeat (first | apply Kd.R_alloc | apply Kd.R_drewN | apply Kd.R_drew)); exact (Kd.R_mono (Kd.R_far (p := ⟨gb205, 6, none⟩) (Kd.R_far (p := ⟨gb205, 5, none⟩) (Kd.R_far (p := ⟨gb205, 4, none⟩) (Kd.R_far (p := ⟨gb205, 3, none⟩) (Kd.R_far (p := ⟨gb205, 2, none⟩) (Kd.R_far (p := ⟨gb205, 1, none⟩) (Kd.R_far (p := ⟨gb205, 0, none⟩) (Kd.R_types HO192.out BK205.out (by decide)) (fun _ hk => hk.2) (.string (rdOf ByteArray.empty t185 0))) (fun _ hk => hk.2) (.int .i64 (rd t189 0))) (fun _ hk => hk.2) (.int .i64 (rd t189 1))) (fun _ hk => hk.2) (.string (rdOf ByteArray.empty t185 2))) (fun _ hk => hk.2) (.int .i64 (rd t194 0))) (fun _ hk => hk.2) (.int .i64 (rd t194 1))) (fun _ hk => hk.2) (.int .i64 (rd t194 2))) (fun _ h_ => h_.1))) hb); have n2_ := Aside0.mk (Kd.R_below (by (with_reducible repeat (first | apply Kd.R_alloc | apply Kd.R_drewN | apply Kd.R_drew)); exact (Kd.R_mono (Kd.R_far (p := ⟨gb205, 6, none⟩) (Kd.R_far (p := ⟨gb205, 5, none⟩) (Kd.R_far (p := ⟨gb205, 4, none⟩) (Kd.R_far (p := ⟨gb205, 3, none⟩) (Kd.R_far (p := ⟨gb205, 2, none⟩) (Kd.R_far (p := ⟨gb205, 1, none⟩) (Kd.R_far (p := ⟨gb205, 0, none⟩) (Kd.R_types HO197.out BK205.out (by decide)) (fun _ hk => hk.2) (.string (rdOf ByteArray.empty t185 0))) (fun _ hk => hk.2) (.int .i64 (rd t189 0))) (fun _ hk => hk.2) (.int .i64 (rd t189 1))) (fun _ hk => hk.2) (.string (rdOf ByteArray.empty t185 2))) (fun _ hk => hk.2) (.int .i64 (rd t194 0))) (fun _ hk => hk.2) (.int .i64 (rd t194 1))) (fun _ hk => hk.2) (.int .i64 (rd t194 2))) (fun _ h_ => h_.1))) hb); have n3_ := Aside0.mk (blk_below (g := gb184) (o := .cells #[.string ⟨#[]⟩, .int .i64 0, .int .i64 0, .string ⟨#[]⟩, .int .i64 0, .int .i64 0, .int .i64 0] 23 (0, 0)) (by (with_reducible repeat (first | refine blk_drewN ?_ _ | refine blk_drew ?_ | refine blk_alloc ?_ _)); refine blk_far ?_ NB184_205.out _; (with_reducible repeat (first | refine blk_drewN ?_ _ | refine blk_drew ?_ | refine blk_alloc ?_ _)); refine blk_far ?_ NB184_205.out _; (with_reducible repeat (first | refine blk_drewN ?_ _ | refine blk_drew ?_ | refine blk_alloc ?_ _)); refine blk_far ?_ NB184_205.out _; (with_reducible repeat (first | refine blk_drewN ?_ _ | refine blk_drew ?_ | refine blk_alloc ?_ _)); refine blk_far ?_ NB184_205.out _; (with_reducible repeat (first | refine blk_drewN ?_ _ | refine blk_drew ?_ | refine blk_alloc ?_ _)); refine blk_far ?_ NB184_205.out _; (with_reducible repeat (first | refine blk_drewN ?_ _ | refine blk_drew ?_ | refine blk_alloc ?_ _)); refine blk_far ?_ NB184_205.out _; (with_reducible repeat (first | refine blk_drewN ?_ _ | refine blk_drew ?_ | refine blk_alloc ?_ _)); refine blk_far ?_ NB184_205.out _; (with_reducible repeat (first | refine blk_drewN ?_ _ | refine blk_drew ?_ | refine blk_alloc ?_ _)); exact BK184.out) hb); have n4_ := Aside0.mk (blk_below (g := gb205) (o := .cells #[.string (rdOf ByteArray.empty t185 0), .int .i64 (rd t189 0), .int .i64 (rd t189 1), .string (rdOf ByteArray.empty t185 2), .int .i64 (rd t194 0), .int .i64 (rd t194 1), .int .i64 (rd t194 2)] 23 (0, 0)) (by (with_reducible repeat (first | refine blk_drewN ?_ _ | refine blk_drew ?_ | refine blk_alloc ?_ _)); refine blk_put (cs := #[.string (rdOf ByteArray.empty t185 0), .int .i64 (rd t189 0), .int .i64 (rd t189 1), .string (rdOf ByteArray.empty t185 2), .int .i64 (rd t194 0), .int .i64 (rd t194 1), .int .i64 0]) ?_ 6 _ rfl; (with_reducible repeat (first | refine blk_drewN ?_ _ | refine blk_drew ?_ | refine blk_alloc ?_ _)); refine blk_put (cs := #[.string (rdOf ByteArray.empty t185 0), .int .i64 (rd t189 0), .int .i64 (rd t189 1), .string (rdOf ByteArray.empty t185 2), .int .i64 (rd t194 0), .int .i64 0, .int .i64 0]) ?_ 5 _ rfl; (with_reducible repeat (first | refine blk_drewN ?_ _ | refine blk_drew ?_ | refine blk_alloc ?_ _)); refine blk_put (cs := #[.string (rdOf ByteArray.empty t185 0), .int .i64 (rd t189 0), .int .i64 (rd t189 1), .string (rdOf ByteArray.empty t185 2), .int .i64 0, .int .i64 0, .int .i64 0]) ?_ 4 _ rfl; (with_reducible repeat (first | refine blk_drewN ?_ _ | refine blk_drew ?_ | refine blk_alloc ?_ _)); refine blk_put (cs := #[.string (rdOf ByteArray.empty t185 0), .int .i64 (rd t189 0), .int .i64 (rd t189 1), .string ⟨#[]⟩, .int .i64 0, .int .i64 0, .int .i64 0]) ?_ 3 _ rfl; (with_reducible repeat (first | refine blk_drewN ?_ _ | refine blk_drew ?_ | refine blk_alloc ?_ _)); refine blk_put (cs := #[.string (rdOf ByteArray.empty t185 0), .int .i64 (rd t189 0), .int .i64 0, .string ⟨#[]⟩, .int .i64 0, .int .i64 0, .int .i64 0]) ?_ 2 _ rfl; (with_reducible repeat (first | refine blk_drewN ?_ _ | refine blk_drew ?_ | refine blk_alloc ?_ _)); refine blk_put (cs := #[.string (rdOf ByteArray.empty t185 0), .int .i64 0, .int .i64 0, .string ⟨#[]⟩, .int .i64 0, .int .i64 0, .int .i64 0]) ?_ 1 _ rfl; (with_reducible repeat (first | refine blk_drewN ?_ _ | refine blk_drew ?_ | refine blk_alloc ?_ _)); refine blk_put (cs := #[.string ⟨#[]⟩, .int .i64 0, .int .i64 0, .string ⟨#[]⟩, .int .i64 0, .int .i64 0, .int .i64 0]) ?_ 0 _ rfl; (with_reducible repeat (first | refine blk_drewN ?_ _ | refine blk_drew ?_ | refine blk_alloc ?_ _)); exact BK205.out) hb); have n5_ := Aside0.mk (below_step (XSq.bB HB) hb); clear HO187; clear HO192; clear HO197; clear BK184; clear BK205; clear HB; have HO187 := n0_; have HO192 := n1_; have HO197 := n2_; have BK184 := n3_; have BK205 := n4_; have HB := n5_; clear n0_ n1_ n2_ n3_ n4_ n5_; clear hb; (try clear hb2); (try clear hk); (try clear hi); have hcz38_0 : w37.cell? ⟨gb205, 0, none⟩ = some (.string (rdOf ByteArray.empty t185 0)) := (blk_cell BK205.out 0).trans rfl; have hcz38_1 : w37.cell? ⟨gb205, 1, none⟩ = some (.int .i64 (rd t189 0)) := (blk_cell BK205.out 1).trans rfl; have hcz38_2 : w37.cell? ⟨gb205, 2, none⟩ = some (.int .i64 (rd t189 1)) := (blk_cell BK205.out 2).trans rfl; have hcz38_3 : w37.cell? ⟨gb205, 3, none⟩ = some (.string (rdOf ByteArray.empty t185 2)) := (blk_cell BK205.out 3).trans rfl; have hcz38_4 : w37.cell? ⟨gb205, 4, none⟩ = some (.int .i64 (rd t194 0)) := (blk_cell BK205.out 4).trans rfl; have hcz38_5 : w37.cell? ⟨gb205, 5, none⟩ = some (.int .i64 (rd t194 1)) := (blk_cell BK205.out 5).trans rfl; have hcz38_6 : w37.cell? ⟨gb205, 6, none⟩ = some (.int .i64 (rd t194 2)) := (blk_cell BK205.out 6).trans rfl; have hfz38_0 := blk_frozen BK205.out 0; have hfz38_1 := blk_frozen BK205.out 1; have hfz38_2 := blk_frozen BK205.out 2; have hfz38_3 := blk_frozen BK205.out 3; have hfz38_4 := blk_frozen BK205.out 4; have hfz38_5 := blk_frozen BK205.out 5; have hfz38_6 := blk_frozen BK205.out 6; have hcz39_0 : w37.cell? ⟨gb184, 0, none⟩ = some (.string ⟨#[]⟩) := (blk_cell BK184.out 0).trans rfl; have hcz39_1 : w37.cell? ⟨gb184, 1, none⟩ = some (.int .i64 0) := (blk_cell BK184.out 1).trans rfl; have hcz39_2 : w37.cell? ⟨gb184, 2, none⟩ = some (.int .i64 0) := (blk_cell BK184.out 2).trans rfl; have hcz39_3 : w37.cell? ⟨gb184, 3, none⟩ = some (.string ⟨#[]⟩) := (blk_cell BK184.out 3).trans rfl; have hcz39_4 : w37.cell? ⟨gb184, 4, none⟩ = some (.int .i64 0) := (blk_cell BK184.out 4).trans rfl; have hcz39_5 : w37.cell? ⟨gb184, 5, none⟩ = some (.int .i64 0) := (blk_cell BK184.out 5).trans rfl; have hcz39_6 : w37.cell? ⟨gb184, 6, none⟩ = some (.int .i64 0) := (blk_cell BK184.out 6).trans rfl; have hfz39_0 := blk_frozen BK184.out 0; have hfz39_1 := blk_frozen BK184.out 1; have hfz39_2 := blk_frozen BK184.out 2; have hfz39_3 := blk_frozen BK184.out 3; have hfz39_4 := blk_frozen BK184.out 4; have hfz39_5 := blk_frozen BK184.out 5; have hfz39_6 := blk_frozen BK184.out 6))
              refine bodyPost_ret (results_ct rfl _ _ gb184 23 #[.string (rdOf ByteArray.empty t185 0), .int .i64 (rd t189 0), .int .i64 (rd t189 1), .string (rdOf ByteArray.empty t185 2), .int .i64 (rd t194 0), .int .i64 (rd t194 1), .int .i64 (rd t194 2)] (0, 0) _ rfl (by (with_reducible repeat (first | refine blk_drewN ?_ _ | refine blk_drew ?_ | refine blk_alloc ?_ _)); refine blk_put (cs := #[.string (rdOf ByteArray.empty t185 0), .int .i64 (rd t189 0), .int .i64 (rd t189 1), .string (rdOf ByteArray.empty t185 2), .int .i64 (rd t194 0), .int .i64 (rd t194 1), .int .i64 0]) ?_ 6 _ rfl; (with_reducible repeat (first | refine blk_drewN ?_ _ | refine blk_drew ?_ | refine blk_alloc ?_ _)); refine blk_put (cs := #[.string (rdOf ByteArray.empty t185 0), .int .i64 (rd t189 0), .int .i64 (rd t189 1), .string (rdOf ByteArray.empty t185 2), .int .i64 (rd t194 0), .int .i64 0, .int .i64 0]) ?_ 5 _ rfl; (with_reducible repeat (first | refine blk_drewN ?_ _ | refine blk_drew ?_ | refine blk_alloc ?_ _)); refine blk_put (cs := #[.string (rdOf ByteArray.empty t185 0), .int .i64 (rd t189 0), .int .i64 (rd t189 1), .string (rdOf ByteArray.empty t185 2), .int .i64 0, .int .i64 0, .int .i64 0]) ?_ 4 _ rfl; (with_reducible repeat (first | refine blk_drewN ?_ _ | refine blk_drew ?_ | refine blk_alloc ?_ _)); refine blk_put (cs := #[.string (rdOf ByteArray.empty t185 0), .int .i64 (rd t189 0), .int .i64 (rd t189 1), .string ⟨#[]⟩, .int .i64 0, .int .i64 0, .int .i64 0]) ?_ 3 _ rfl; (with_reducible repeat (first | refine blk_drewN ?_ _ | refine blk_drew ?_ | refine blk_alloc ?_ _)); refine blk_put (cs := #[.string (rdOf ByteArray.empty t185 0), .int .i64 (rd t189 0), .int .i64 0, .string ⟨#[]⟩, .int .i64 0, .int .i64 0, .int .i64 0]) ?_ 2 _ rfl; (with_reducible repeat (first | refine blk_drewN ?_ _ | refine blk_drew ?_ | refine blk_alloc ?_ _)); refine blk_put (cs := #[.string (rdOf ByteArray.empty t185 0), .int .i64 0, .int .i64 0, .string ⟨#[]⟩, .int .i64 0, .int .i64 0, .int .i64 0]) ?_ 1 _ rfl; (with_reducible repeat (first | refine blk_drewN ?_ _ | refine blk_drew ?_ | refine blk_alloc ?_ _)); refine blk_put (cs := #[.string ⟨#[]⟩, .int .i64 0, .int .i64 0, .string ⟨#[]⟩, .int .i64 0, .int .i64 0, .int .i64 0]) ?_ 0 _ rfl; (with_reducible repeat (first | refine blk_drewN ?_ _ | refine blk_drew ?_ | refine blk_alloc ?_ _)); exact BK184.out) Tryd.underlying23 rfl (by kernel_rfl)) rfl ?_
              exact ⟨by first | rfl | (simp [errW_none, errW_some] <;> rfl) | (simp [*, errW_none, errW_some] <;> rfl), by repeat (first | (with_reducible first | exact HB.out | apply below_alloc | apply pw_below_drewN | apply below_drew1 | refine below_set ?_ GE184.out | refine below_set ?_ GE205.out) | exact HB.out)⟩
             ·
              replace c18 := Bool.eq_false_iff.mpr c18; subst c18
              have H1 : (some ((⟨#[]⟩ : ByteArray), 0, 0, (⟨#[]⟩ : ByteArray), 0, 0, 0, false)) = some (r1, r2, r3, r4, r5, r6, r7, r8) := by rw [if_neg (show ¬ (false = true) by decide)] at H; exact H
              clear H; have H := H1; clear H1
              simp only [Option.some.injEq, Prod.mk.injEq] at H
              obtain ⟨rfl, rfl, rfl, rfl, rfl, rfl, rfl, rfl⟩ := H
              go_enter Tryd.func7, Tryd.ntmps7
              try go_wp2_with (first | ((with_reducible refine gate_dst (N := 2) rfl ?_); refine box_event ?hg (N := 2) ?hd (cs := #[.string ⟨#[]⟩, .int .i64 0, .int .i64 0, .string ⟨#[]⟩, .int .i64 0, .int .i64 0, .int .i64 0]) (t := 23) ?hr ?_; (case hd => rfl); (case hg => rfl); (case hr => first | (go_simp; done) | (go_simp; rfl)); intro gb184 hg w40 hbox hb; have BK184 := Aside0.mk (hbox); have GW184 := XSq.gw hg (XSq.bB HB); have GE184 := XSq.gw hg (XSq.bB HB); replace HB := Aside0.mk (below_step (XSq.bB HB) hb); clear hb hbox hg) | ((with_reducible refine gate_callee (f := 17) rfl ?_); refine goesL_ (some 11) rfl rfl Tryd.func17 (by kernel_rfl) rfl #[.string a0, .string (⟨#[58]⟩ : ByteArray)] rfl (by (try simp only [List.map_toArray, List.map_cons, List.map_nil]); first | done | rfl | (simp only [List.length_drop, List.length_take]; rfl)) ?_; (with_reducible refine (strings_Split.calls a0 (⟨#[58]⟩ : ByteArray) t185 _ A2.out).mono ?_); rintro e w41 ⟨v186, rfl, ho0, hb⟩; refine ⟨_, rfl, ?_⟩; have HO187 := Aside0.mk (Kd.R_lower ho0 (below_size (XSq.bB HB))); replace BK184 := Aside0.mk (blk_below (g := gb184) (o := .cells #[.string ⟨#[]⟩, .int .i64 0, .int .i64 0, .string ⟨#[]⟩, .int .i64 0, .int .i64 0, .int .i64 0] 23 (0, 0)) (XSq.bq BK184) hb); replace HB := Aside0.mk (below_step (XSq.bB HB) hb); clear hb; (try clear hb2); (try clear hk); (try clear hi); (try clear ho0); obtain ⟨Ao42, co42, eo42⟩ := Kd.R_slice HO187.out; subst eo42; have p188 : 0 ≤ (1 : Int) := (by omega); have q188 : 1 < (t185.length : Int) := of_decide_eq_true (by first | (with_reducible assumption) | assumption); obtain ⟨ad188, e188, hx188_0⟩ := Kd.at_string (Kd.R_reads' HO187.out).2.2 1 p188 q188; cases e188; (try simp only [show (1 : Int).toNat = 1 from rfl, Nat.reduceMul, Nat.reduceEqDiff, Go.Addr.add, ↓reduceIte] at hx188_0); have qi188 : (1 < t185.length) = True := eq_true (by omega); (try rw [show ((1 : Int)).toNat = 1 from rfl] at hx188_0); replace p188 := eq_true p188; replace q188 := eq_true q188) | ((with_reducible refine gate_callee (f := 18) rfl ?_); refine goesL_ (some 20) rfl rfl Tryd.func18 (by kernel_rfl) rfl #[.string (rdOf ByteArray.empty t185 1), .string (⟨#[120]⟩ : ByteArray), .int .i64 2, .int .i64 9] rfl (by (try simp only [List.map_toArray, List.map_cons, List.map_nil]); first | done | rfl | (simp only [List.length_drop, List.length_take]; rfl)) ?_; (with_reducible refine (impl_numbers.calls k (rdOf ByteArray.empty t185 1) (⟨#[120]⟩ : ByteArray) 2 9 t189 true _ (XEv.below HE.out (XSq.bB HB)) A5.out).mono ?_); rintro e w43 ⟨v191, rfl, ho0, hb⟩; refine ⟨_, rfl, ?_⟩; have HO192 := Aside0.mk (Kd.R_lower ho0 (below_size (XSq.bB HB))); replace HO187 := Aside0.mk (Kd.R_below (XSq.pR HO187) hb); replace BK184 := Aside0.mk (blk_below (g := gb184) (o := .cells #[.string ⟨#[]⟩, .int .i64 0, .int .i64 0, .string ⟨#[]⟩, .int .i64 0, .int .i64 0, .int .i64 0] 23 (0, 0)) (XSq.bq BK184) hb); replace HB := Aside0.mk (below_step (XSq.bB HB) hb); clear hb; (try clear hb2); (try clear hk); (try clear hi); (try clear ho0); have p193 : 0 ≤ (3 : Int) := (by omega); have q193 : 3 < (t185.length : Int) := of_decide_eq_true (by first | (with_reducible assumption) | assumption); obtain ⟨ad193, e193, hx193_0⟩ := Kd.at_string (Kd.R_reads' HO187.out).2.2 3 p193 q193; obtain rfl : ad188 = ad193 := (by injection e193); (try simp only [show (3 : Int).toNat = 3 from rfl, Nat.reduceMul, Nat.reduceEqDiff, Go.Addr.add, ↓reduceIte] at hx193_0); have qi193 : (3 < t185.length) = True := eq_true (by omega); (try rw [show ((3 : Int)).toNat = 3 from rfl] at hx193_0); replace p193 := eq_true p193; replace q193 := eq_true q193) | ((with_reducible refine gate_callee (f := 18) rfl ?_); refine goesL_ (some 27) rfl rfl Tryd.func18 (by kernel_rfl) rfl #[.string (rdOf ByteArray.empty t185 3), .string (⟨#[44]⟩ : ByteArray), .int .i64 3, .int .i64 9] rfl (by (try simp only [List.map_toArray, List.map_cons, List.map_nil]); first | done | rfl | (simp only [List.length_drop, List.length_take]; rfl)) ?_; (with_reducible refine (impl_numbers.calls k (rdOf ByteArray.empty t185 3) (⟨#[44]⟩ : ByteArray) 3 9 t194 true _ (XEv.below HE.out (XSq.bB HB)) A7.out).mono ?_); rintro e w44 ⟨v196, rfl, ho0, hb⟩; refine ⟨_, rfl, ?_⟩; have HO197 := Aside0.mk (Kd.R_lower (Kd.R_new' ho0 (Kd.R_lt (XSq.pR HO192))) (below_size (XSq.bB HB))); replace HO187 := Aside0.mk (Kd.R_below (XSq.pR HO187) hb); replace HO192 := Aside0.mk (Kd.R_elder' (XSq.pR HO192) (Kd.R_base ho0) hb); replace BK184 := Aside0.mk (blk_below (g := gb184) (o := .cells #[.string ⟨#[]⟩, .int .i64 0, .int .i64 0, .string ⟨#[]⟩, .int .i64 0, .int .i64 0, .int .i64 0] 23 (0, 0)) (XSq.bq BK184) hb); replace HB := Aside0.mk (below_step (XSq.bB HB) hb); clear hb; (try clear hb2); (try clear hk); (try clear hi); (try clear ho0)))
              replace HO187 := Aside0.mk (Kd.R_drew HO187.out); replace HO192 := Aside0.mk (Kd.R_drew HO192.out); replace HO197 := Aside0.mk (Kd.R_drew HO197.out); replace BK184 := Aside0.mk (blk_drew BK184.out); replace HB := Aside0.mk (below_drew1 HB.out); have p198 : 0 ≤ (0 : Int) := (by omega); have q198 : 0 < (t185.length : Int) := of_decide_eq_true (by first | (with_reducible assumption) | assumption); obtain ⟨ad198, e198, hx198_0⟩ := Kd.at_string (Kd.R_reads' HO187.out).2.2 0 p198 q198; obtain rfl : ad188 = ad198 := (by injection e198); have qi198 : (0 < t185.length) = True := eq_true (by omega)
              (try rw [show ((0 : Int)).toNat = 0 from rfl] at hx198_0)
              (try rw [Addr.add_zero'] at hx198_0)
              replace p198 := eq_true p198; replace q198 := eq_true q198; obtain ⟨Ao46, co46, eo46⟩ := Kd.R_slice HO192.out
              (first | subst eo46 | (injection eo46 with f1_ f2_ f3_; have f4_ := f1_.symm; have f5_ := f3_.symm; clear f1_ f2_ f3_; subst f4_; subst f5_))
              have p199 : 0 ≤ (0 : Int) := (by omega); have q199 : 0 < (t189.length : Int) := of_decide_eq_true (by first | (with_reducible assumption) | assumption); obtain ⟨ad199, e199, hx199_0⟩ := Kd.at_int (Kd.R_reads' HO192.out).2.2 0 p199 q199; cases e199; have qi199 : (0 < t189.length) = True := eq_true (by omega)
              (try rw [show ((0 : Int)).toNat = 0 from rfl] at hx199_0)
              (try rw [Addr.add_zero'] at hx199_0)
              replace p199 := eq_true p199; replace q199 := eq_true q199; have p200 : 0 ≤ (1 : Int) := (by omega); have q200 : 1 < (t189.length : Int) := of_decide_eq_true (by first | (with_reducible assumption) | assumption); obtain ⟨ad200, e200, hx200_0⟩ := Kd.at_int (Kd.R_reads' HO192.out).2.2 1 p200 q200; obtain rfl : ad199 = ad200 := (by injection e200)
              (try simp only [show (1 : Int).toNat = 1 from rfl, Nat.reduceMul, Nat.reduceEqDiff, Go.Addr.add, ↓reduceIte] at hx200_0)
              have qi200 : (1 < t189.length) = True := eq_true (by omega)
              (try rw [show ((1 : Int)).toNat = 1 from rfl] at hx200_0)
              replace p200 := eq_true p200; replace q200 := eq_true q200; have p201 : 0 ≤ (2 : Int) := (by omega); have q201 : 2 < (t185.length : Int) := of_decide_eq_true (by first | (with_reducible assumption) | assumption); obtain ⟨ad201, e201, hx201_0⟩ := Kd.at_string (Kd.R_reads' HO187.out).2.2 2 p201 q201; obtain rfl : ad188 = ad201 := (by injection e201)
              (try simp only [show (2 : Int).toNat = 2 from rfl, Nat.reduceMul, Nat.reduceEqDiff, Go.Addr.add, ↓reduceIte] at hx201_0)
              have qi201 : (2 < t185.length) = True := eq_true (by omega)
              (try rw [show ((2 : Int)).toNat = 2 from rfl] at hx201_0)
              replace p201 := eq_true p201; replace q201 := eq_true q201; obtain ⟨Ao47, co47, eo47⟩ := Kd.R_slice HO197.out
              (first | subst eo47 | (injection eo47 with f1_ f2_ f3_; have f4_ := f1_.symm; have f5_ := f3_.symm; clear f1_ f2_ f3_; subst f4_; subst f5_))
              have p202 : 0 ≤ (0 : Int) := (by omega); have q202 : 0 < (t194.length : Int) := of_decide_eq_true (by first | (with_reducible assumption) | assumption); obtain ⟨ad202, e202, hx202_0⟩ := Kd.at_int (Kd.R_reads' HO197.out).2.2 0 p202 q202; cases e202; have qi202 : (0 < t194.length) = True := eq_true (by omega)
              (try rw [show ((0 : Int)).toNat = 0 from rfl] at hx202_0)
              (try rw [Addr.add_zero'] at hx202_0)
              replace p202 := eq_true p202; replace q202 := eq_true q202; have p203 : 0 ≤ (1 : Int) := (by omega); have q203 : 1 < (t194.length : Int) := of_decide_eq_true (by first | (with_reducible assumption) | assumption); obtain ⟨ad203, e203, hx203_0⟩ := Kd.at_int (Kd.R_reads' HO197.out).2.2 1 p203 q203; obtain rfl : ad202 = ad203 := (by injection e203)
              (try simp only [show (1 : Int).toNat = 1 from rfl, Nat.reduceMul, Nat.reduceEqDiff, Go.Addr.add, ↓reduceIte] at hx203_0)
              have qi203 : (1 < t194.length) = True := eq_true (by omega)
              (try rw [show ((1 : Int)).toNat = 1 from rfl] at hx203_0)
              replace p203 := eq_true p203; replace q203 := eq_true q203; have p204 : 0 ≤ (2 : Int) := (by omega); have q204 : 2 < (t194.length : Int) := of_decide_eq_true (by first | (with_reducible assumption) | assumption); obtain ⟨ad204, e204, hx204_0⟩ := Kd.at_int (Kd.R_reads' HO197.out).2.2 2 p204 q204; obtain rfl : ad202 = ad204 := (by injection e204)
              (try simp only [show (2 : Int).toNat = 2 from rfl, Nat.reduceMul, Nat.reduceEqDiff, Go.Addr.add, ↓reduceIte] at hx204_0)
              have qi204 : (2 < t194.length) = True := eq_true (by omega)
              (try rw [show ((2 : Int)).toNat = 2 from rfl] at hx204_0)
              replace p204 := eq_true p204; replace q204 := eq_true q204
              refine start_ (n := 24) (S := fun w' => w'.cell? ad188 = some (.string (rdOf ByteArray.empty t185 0)) ∧ w'.cell? ad199 = some (.int .i64 (rd t189 0)) ∧ w'.cell? ⟨ad199.block, ad199.off + 1, none⟩ = some (.int .i64 (rd t189 1)) ∧ w'.cell? ⟨ad188.block, ad188.off + 2, none⟩ = some (.string (rdOf ByteArray.empty t185 2)) ∧ w'.cell? ad202 = some (.int .i64 (rd t194 0)) ∧ w'.cell? ⟨ad202.block, ad202.off + 1, none⟩ = some (.int .i64 (rd t194 1)) ∧ w'.cell? ⟨ad202.block, ad202.off + 2, none⟩ = some (.int .i64 (rd t194 2))) (ds := []) #[false, false, false, false, false, false, false, false, false, false, false, false, false, false, false, false, false, false, false, false, false, false, false, false] (by kernel_rfl) rfl rfl ⟨hx198_0, hx199_0, hx200_0, hx201_0, hx202_0, hx203_0, hx204_0⟩ (fun hHeld => ?_); refine with_tabW impl_ParseWorld.tab6 impl_ParseWorld.bits6 (fun HT_ HW_ => ?_)
              generalize w44.drew = w45 at HO187 HO192 HO197 BK184 HB hx198_0 hx199_0 hx200_0 hx201_0 hx202_0 hx203_0 hx204_0 hHeld ⊢
              refine pure_ (i := 0) (N := some 30) (v := ?_) (a' := ?_) #[true, false, false, false, false, false, false, false, false, false, false, false, false, false, false, false, false, false, false, false, false, false, false, false] rfl rfl (any_of HT_.out (by kernel_rfl)) (fun _ _ _ h => h) (Or.inl ⟨by rfl, ?_⟩) ?_ ?_
              rotate_left
              ·
               intro w'
               go_simp
               with_reducible rfl
              rotate_left
              ·
               simp only [Act.put, List.setIfInBounds_toArray, List.set_cons_zero, List.set_cons_succ, i64_w, i32_w]
               rfl
              refine pure_ (i := 1) (N := some 31) (v := ?_) (a' := ?_) #[true, true, false, false, false, false, false, false, false, false, false, false, false, false, false, false, false, false, false, false, false, false, false, false] rfl rfl (any_of HT_.out (by kernel_rfl)) (fun _ _ _ h => h) (Or.inl ⟨by rfl, ?_⟩) ?_ ?_
              rotate_left
              ·
               intro w'
               go_simp
               with_reducible rfl
              rotate_left
              ·
               simp only [Act.put, List.setIfInBounds_toArray, List.set_cons_zero, List.set_cons_succ, i64_w, i32_w]
               rfl
              refine pure_ (i := 3) (N := some 33) (v := ?_) (a' := ?_) #[true, true, false, true, false, false, false, false, false, false, false, false, false, false, false, false, false, false, false, false, false, false, false, false] rfl rfl (any_of HT_.out (by kernel_rfl)) (fun _ _ _ h => h) (Or.inl ⟨by rfl, ?_⟩) ?_ ?_
              rotate_left
              ·
               intro w'
               go_simp
               with_reducible rfl
              rotate_left
              ·
               simp only [Act.put, List.setIfInBounds_toArray, List.set_cons_zero, List.set_cons_succ, i64_w, i32_w]
               rfl
              refine pure_ (i := 4) (N := some 34) (v := ?_) (a' := ?_) #[true, true, false, true, true, false, false, false, false, false, false, false, false, false, false, false, false, false, false, false, false, false, false, false] rfl rfl (any_of HT_.out (by kernel_rfl)) (fun _ _ _ h => h) (Or.inl ⟨by rfl, ?_⟩) ?_ ?_
              rotate_left
              ·
               intro w'
               go_simp
               with_reducible rfl
              rotate_left
              ·
               simp only [Act.put, List.setIfInBounds_toArray, List.set_cons_zero, List.set_cons_succ, i64_w, i32_w]
               rfl
              refine pure_ (i := 6) (N := some 36) (v := ?_) (a' := ?_) #[true, true, false, true, true, false, true, false, false, false, false, false, false, false, false, false, false, false, false, false, false, false, false, false] rfl rfl (any_of HT_.out (by kernel_rfl)) (fun _ _ _ h => h) (Or.inl ⟨by rfl, ?_⟩) ?_ ?_
              rotate_left
              ·
               intro w'
               go_simp
               with_reducible rfl
              rotate_left
              ·
               simp only [Act.put, List.setIfInBounds_toArray, List.set_cons_zero, List.set_cons_succ, i64_w, i32_w]
               rfl
              refine pure_ (i := 7) (N := some 37) (v := ?_) (a' := ?_) #[true, true, false, true, true, false, true, true, false, false, false, false, false, false, false, false, false, false, false, false, false, false, false, false] rfl rfl (any_of HT_.out (by kernel_rfl)) (fun _ _ _ h => h) (Or.inl ⟨by rfl, ?_⟩) ?_ ?_
              rotate_left
              ·
               intro w'
               go_simp
               with_reducible rfl
              rotate_left
              ·
               simp only [Act.put, List.setIfInBounds_toArray, List.set_cons_zero, List.set_cons_succ, i64_w, i32_w]
               rfl
              refine pure_ (i := 9) (N := some 39) (v := ?_) (a' := ?_) #[true, true, false, true, true, false, true, true, false, true, false, false, false, false, false, false, false, false, false, false, false, false, false, false] rfl rfl (any_of HT_.out (by kernel_rfl)) (fun _ _ _ h => h) (Or.inl ⟨by rfl, ?_⟩) ?_ ?_
              rotate_left
              ·
               intro w'
               go_simp
               with_reducible rfl
              rotate_left
              ·
               simp only [Act.put, List.setIfInBounds_toArray, List.set_cons_zero, List.set_cons_succ, i64_w, i32_w]
               rfl
              refine pure_ (i := 10) (N := some 40) (v := ?_) (a' := ?_) #[true, true, false, true, true, false, true, true, false, true, true, false, false, false, false, false, false, false, false, false, false, false, false, false] rfl rfl (any_of HT_.out (by kernel_rfl)) (fun _ _ _ h => h) (Or.inl ⟨by rfl, ?_⟩) ?_ ?_
              rotate_left
              ·
               intro w'
               go_simp
               with_reducible rfl
              rotate_left
              ·
               simp only [Act.put, List.setIfInBounds_toArray, List.set_cons_zero, List.set_cons_succ, i64_w, i32_w]
               rfl
              refine pure_ (i := 12) (N := some 42) (v := ?_) (a' := ?_) #[true, true, false, true, true, false, true, true, false, true, true, false, true, false, false, false, false, false, false, false, false, false, false, false] rfl rfl (any_of HT_.out (by kernel_rfl)) (fun _ _ _ h => h) (Or.inl ⟨by rfl, ?_⟩) ?_ ?_
              rotate_left
              ·
               intro w'
               go_simp
               with_reducible rfl
              rotate_left
              ·
               simp only [Act.put, List.setIfInBounds_toArray, List.set_cons_zero, List.set_cons_succ, i64_w, i32_w]
               rfl
              refine pure_ (i := 13) (N := some 43) (v := ?_) (a' := ?_) #[true, true, false, true, true, false, true, true, false, true, true, false, true, true, false, false, false, false, false, false, false, false, false, false] rfl rfl (any_of HT_.out (by kernel_rfl)) (fun _ _ _ h => h) (Or.inl ⟨by rfl, ?_⟩) ?_ ?_
              rotate_left
              ·
               intro w'
               go_simp
               with_reducible rfl
              rotate_left
              ·
               simp only [Act.put, List.setIfInBounds_toArray, List.set_cons_zero, List.set_cons_succ, i64_w, i32_w]
               rfl
              refine pure_ (i := 15) (N := some 45) (v := ?_) (a' := ?_) #[true, true, false, true, true, false, true, true, false, true, true, false, true, true, false, true, false, false, false, false, false, false, false, false] rfl rfl (any_of HT_.out (by kernel_rfl)) (fun _ _ _ h => h) (Or.inl ⟨by rfl, ?_⟩) ?_ ?_
              rotate_left
              ·
               intro w'
               go_simp
               with_reducible rfl
              rotate_left
              ·
               simp only [Act.put, List.setIfInBounds_toArray, List.set_cons_zero, List.set_cons_succ, i64_w, i32_w]
               rfl
              refine pure_ (i := 16) (N := some 46) (v := ?_) (a' := ?_) #[true, true, false, true, true, false, true, true, false, true, true, false, true, true, false, true, true, false, false, false, false, false, false, false] rfl rfl (any_of HT_.out (by kernel_rfl)) (fun _ _ _ h => h) (Or.inl ⟨by rfl, ?_⟩) ?_ ?_
              rotate_left
              ·
               intro w'
               go_simp
               with_reducible rfl
              rotate_left
              ·
               simp only [Act.put, List.setIfInBounds_toArray, List.set_cons_zero, List.set_cons_succ, i64_w, i32_w]
               rfl
              refine pure_ (i := 18) (N := some 48) (v := ?_) (a' := ?_) #[true, true, false, true, true, false, true, true, false, true, true, false, true, true, false, true, true, false, true, false, false, false, false, false] rfl rfl (any_of HT_.out (by kernel_rfl)) (fun _ _ _ h => h) (Or.inl ⟨by rfl, ?_⟩) ?_ ?_
              rotate_left
              ·
               intro w'
               go_simp
               with_reducible rfl
              rotate_left
              ·
               simp only [Act.put, List.setIfInBounds_toArray, List.set_cons_zero, List.set_cons_succ, i64_w, i32_w]
               rfl
              refine pure_ (i := 19) (N := some 49) (v := ?_) (a' := ?_) #[true, true, false, true, true, false, true, true, false, true, true, false, true, true, false, true, true, false, true, true, false, false, false, false] rfl rfl (any_of HT_.out (by kernel_rfl)) (fun _ _ _ h => h) (Or.inl ⟨by rfl, ?_⟩) ?_ ?_
              rotate_left
              ·
               intro w'
               go_simp
               with_reducible rfl
              rotate_left
              ·
               simp only [Act.put, List.setIfInBounds_toArray, List.set_cons_zero, List.set_cons_succ, i64_w, i32_w]
               rfl
              refine take_ (i := 2) (N := some 32) (v := ?_) (a' := ?_) #[true, true, true, true, true, false, true, true, false, true, true, false, true, true, false, true, true, false, true, true, false, false, false, false] rfl rfl (take_ofW HT_.out HW_.out (by kernel_rfl)) (fun _ _ _ h => h) (Or.inl ⟨by rfl, ?_⟩) hHeld ?_ ?_
              rotate_left
              ·
               rintro w' ⟨s0, s1, s2, s3, s4, s5, s6⟩
               go_simp
               with_reducible rfl
              rotate_left
              ·
               simp only [Act.put, List.setIfInBounds_toArray, List.set_cons_zero, List.set_cons_succ, i64_w, i32_w]
               rfl
              refine take_ (i := 5) (N := some 35) (v := ?_) (a' := ?_) #[true, true, true, true, true, true, true, true, false, true, true, false, true, true, false, true, true, false, true, true, false, false, false, false] rfl rfl (take_ofW HT_.out HW_.out (by kernel_rfl)) (fun _ _ _ h => h) (Or.inl ⟨by rfl, ?_⟩) hHeld ?_ ?_
              rotate_left
              ·
               rintro w' ⟨s0, s1, s2, s3, s4, s5, s6⟩
               go_simp
               with_reducible rfl
              rotate_left
              ·
               simp only [Act.put, List.setIfInBounds_toArray, List.set_cons_zero, List.set_cons_succ, i64_w, i32_w]
               rfl
              refine take_ (i := 8) (N := some 38) (v := ?_) (a' := ?_) #[true, true, true, true, true, true, true, true, true, true, true, false, true, true, false, true, true, false, true, true, false, false, false, false] rfl rfl (take_ofW HT_.out HW_.out (by kernel_rfl)) (fun _ _ _ h => h) (Or.inl ⟨by rfl, ?_⟩) hHeld ?_ ?_
              rotate_left
              ·
               rintro w' ⟨s0, s1, s2, s3, s4, s5, s6⟩
               go_simp
               with_reducible rfl
              rotate_left
              ·
               simp only [Act.put, List.setIfInBounds_toArray, List.set_cons_zero, List.set_cons_succ, i64_w, i32_w]
               rfl
              refine take_ (i := 11) (N := some 41) (v := ?_) (a' := ?_) #[true, true, true, true, true, true, true, true, true, true, true, true, true, true, false, true, true, false, true, true, false, false, false, false] rfl rfl (take_ofW HT_.out HW_.out (by kernel_rfl)) (fun _ _ _ h => h) (Or.inl ⟨by rfl, ?_⟩) hHeld ?_ ?_
              rotate_left
              ·
               rintro w' ⟨s0, s1, s2, s3, s4, s5, s6⟩
               go_simp
               with_reducible rfl
              rotate_left
              ·
               simp only [Act.put, List.setIfInBounds_toArray, List.set_cons_zero, List.set_cons_succ, i64_w, i32_w]
               rfl
              refine take_ (i := 14) (N := some 44) (v := ?_) (a' := ?_) #[true, true, true, true, true, true, true, true, true, true, true, true, true, true, true, true, true, false, true, true, false, false, false, false] rfl rfl (take_ofW HT_.out HW_.out (by kernel_rfl)) (fun _ _ _ h => h) (Or.inl ⟨by rfl, ?_⟩) hHeld ?_ ?_
              rotate_left
              ·
               rintro w' ⟨s0, s1, s2, s3, s4, s5, s6⟩
               go_simp
               with_reducible rfl
              rotate_left
              ·
               simp only [Act.put, List.setIfInBounds_toArray, List.set_cons_zero, List.set_cons_succ, i64_w, i32_w]
               rfl
              refine take_ (i := 17) (N := some 47) (v := ?_) (a' := ?_) #[true, true, true, true, true, true, true, true, true, true, true, true, true, true, true, true, true, true, true, true, false, false, false, false] rfl rfl (take_ofW HT_.out HW_.out (by kernel_rfl)) (fun _ _ _ h => h) (Or.inl ⟨by rfl, ?_⟩) hHeld ?_ ?_
              rotate_left
              ·
               rintro w' ⟨s0, s1, s2, s3, s4, s5, s6⟩
               go_simp
               with_reducible rfl
              rotate_left
              ·
               simp only [Act.put, List.setIfInBounds_toArray, List.set_cons_zero, List.set_cons_succ, i64_w, i32_w]
               rfl
              refine take_ (i := 20) (N := some 50) (v := ?_) (a' := ?_) #[true, true, true, true, true, true, true, true, true, true, true, true, true, true, true, true, true, true, true, true, true, false, false, false] rfl rfl (take_ofW HT_.out HW_.out (by kernel_rfl)) (fun _ _ _ h => h) (Or.inl ⟨by rfl, ?_⟩) hHeld ?_ ?_
              rotate_left
              ·
               rintro w' ⟨s0, s1, s2, s3, s4, s5, s6⟩
               go_simp
               with_reducible rfl
              rotate_left
              ·
               simp only [Act.put, List.setIfInBounds_toArray, List.set_cons_zero, List.set_cons_succ, i64_w, i32_w]
               rfl
              refine pure_ (i := 21) (N := some 51) (v := ?_) (a' := ?_) #[true, true, true, true, true, true, true, true, true, true, true, true, true, true, true, true, true, true, true, true, true, true, false, false] rfl rfl (any_of HT_.out (by kernel_rfl)) (fun _ _ _ h => h) (Or.inl ⟨by rfl, ?_⟩) ?_ ?_
              rotate_left
              ·
               intro w'
               go_simp
               with_reducible rfl
              rotate_left
              ·
               simp only [Act.put, List.setIfInBounds_toArray, List.set_cons_zero, List.set_cons_succ, i64_w, i32_w]
               rfl
              refine one_ (i := 22) (N := some 9) #[true, true, true, true, true, true, true, true, true, true, true, true, true, true, true, true, true, true, true, true, true, true, true, false] rfl rfl (one_of HT_.out (by kernel_rfl)) (by decide) (fun K hK => ?_)
              refine box_step ?hg (N := 9) ?hd (cs := #[.string ⟨#[]⟩, .int .i64 0, .int .i64 0, .string ⟨#[]⟩, .int .i64 0, .int .i64 0, .int .i64 0]) (t := 23) ?hr ?_; (case hd => rfl); (case hg => rfl); (case hr => first | (go_simp; done) | (go_simp; rfl))
              intro gb205 hg w48 hbox hb; have HS0_ := (hb.cell (World.block_lt_of_cell? _ _ (hHeld.1))).trans (hHeld.1); have HS1_ := (hb.cell (World.block_lt_of_cell? _ _ (hHeld.2.1))).trans (hHeld.2.1); have HS2_ := (hb.cell (World.block_lt_of_cell? _ _ (hHeld.2.2.1))).trans (hHeld.2.2.1); have HS3_ := (hb.cell (World.block_lt_of_cell? _ _ (hHeld.2.2.2.1))).trans (hHeld.2.2.2.1); have HS4_ := (hb.cell (World.block_lt_of_cell? _ _ (hHeld.2.2.2.2.1))).trans (hHeld.2.2.2.2.1); have HS5_ := (hb.cell (World.block_lt_of_cell? _ _ (hHeld.2.2.2.2.2.1))).trans (hHeld.2.2.2.2.2.1); have HS6_ := (hb.cell (World.block_lt_of_cell? _ _ (hHeld.2.2.2.2.2.2))).trans (hHeld.2.2.2.2.2.2); have n0_ := Aside0.mk (Kd.R_below (XSq.pR HO187) hb); have n1_ := Aside0.mk (Kd.R_below (XSq.pR HO192) hb); have n2_ := Aside0.mk (Kd.R_below (XSq.pR HO197) hb); have n3_ := Aside0.mk (blk_below (g := gb184) (o := .cells #[.string ⟨#[]⟩, .int .i64 0, .int .i64 0, .string ⟨#[]⟩, .int .i64 0, .int .i64 0, .int .i64 0] 23 (0, 0)) (XSq.bq BK184) hb); have n4_ := Aside0.mk (below_step (XSq.bB HB) hb); have n5_ := Aside0.mk (hbox); have n6_ := XSq.gw hg (XSq.bB HB); have n7_ := XSq.gw hg (XSq.bB HB); have n8_ := Aside0.mk ((by rw [hg]; exact Nat.ne_of_lt (blk_lt (g := gb184) (o := .cells #[.string ⟨#[]⟩, .int .i64 0, .int .i64 0, .string ⟨#[]⟩, .int .i64 0, .int .i64 0, .int .i64 0] 23 (0, 0)) (XSq.bq BK184)) : gb184 ≠ gb205)); have n9_ := Aside0.mk ((by rw [hg]; exact Nat.ne_of_gt (blk_lt (g := gb184) (o := .cells #[.string ⟨#[]⟩, .int .i64 0, .int .i64 0, .string ⟨#[]⟩, .int .i64 0, .int .i64 0, .int .i64 0] 23 (0, 0)) (XSq.bq BK184)) : gb205 ≠ gb184)); clear HO187 HO192 HO197 BK184 HB; have HO187 := n0_; have HO192 := n1_; have HO197 := n2_; have BK184 := n3_; have HB := n4_; have BK205 := n5_; have GW205 := n6_; have GE205 := n7_; have NB184_205 := n8_; have NB205_184 := n9_; clear n0_ n1_ n2_ n3_ n4_ n5_ n6_ n7_ n8_ n9_ hb hbox hg
              refine hK.out _ _ ⟨HS0_, HS1_, HS2_, HS3_, HS4_, HS5_, HS6_⟩ (fun hHeld => ?_)
              clear hK K
              refine norm_ (a' := ?_) ?_ ?_
              rotate_left
              ·
               show Act.put _ (some 9) _ = _
               simp only [Act.put, List.setIfInBounds_toArray, List.set_cons_zero, List.set_cons_succ, i64_w, i32_w]
               rfl
              refine one_ (i := 23) (N := none) #[true, true, true, true, true, true, true, true, true, true, true, true, true, true, true, true, true, true, true, true, true, true, true, true] rfl rfl (one_of HT_.out (by kernel_rfl)) (by decide) (fun K hK => ?_)
              have hs49 : w48.cell? ⟨gb205, 0, none⟩ = some (.string ⟨#[]⟩) := (blk_cell BK205.out 0).trans rfl; have hfs49 := blk_frozen BK205.out 0; have hns49_0 := NB184_205.out; have hms49_0 := NB205_184.out; have hs50 : w48.cell? ⟨gb205, 1, none⟩ = some (.int .i64 0) := (blk_cell BK205.out 1).trans rfl; have hfs50 := blk_frozen BK205.out 1; have hns50_0 := NB184_205.out; have hms50_0 := NB205_184.out; have hs51 : w48.cell? ⟨gb205, 2, none⟩ = some (.int .i64 0) := (blk_cell BK205.out 2).trans rfl; have hfs51 := blk_frozen BK205.out 2; have hns51_0 := NB184_205.out; have hms51_0 := NB205_184.out; have hs52 : w48.cell? ⟨gb205, 3, none⟩ = some (.string ⟨#[]⟩) := (blk_cell BK205.out 3).trans rfl; have hfs52 := blk_frozen BK205.out 3; have hns52_0 := NB184_205.out; have hms52_0 := NB205_184.out; have hs53 : w48.cell? ⟨gb205, 4, none⟩ = some (.int .i64 0) := (blk_cell BK205.out 4).trans rfl; have hfs53 := blk_frozen BK205.out 4; have hns53_0 := NB184_205.out; have hms53_0 := NB205_184.out; have hs54 : w48.cell? ⟨gb205, 5, none⟩ = some (.int .i64 0) := (blk_cell BK205.out 5).trans rfl; have hfs54 := blk_frozen BK205.out 5; have hns54_0 := NB184_205.out; have hms54_0 := NB205_184.out; have hs55 : w48.cell? ⟨gb205, 6, none⟩ = some (.int .i64 0) := (blk_cell BK205.out 6).trans rfl; have hfs55 := blk_frozen BK205.out 6; have hns55_0 := NB184_205.out; have hms55_0 := NB205_184.out
              refine skip_ (w1 := ?_) (by rfl) rfl ?_ ?_
              rotate_left
              ·
               go_simp
               rfl
              refine hK.out _ _ ⟨((cell_far (p := ⟨gb205, _, none⟩) (XSq.fr (Kd.own_blk (Kd.R_ne HO187.out BK205.out (by decide)))) _).trans (((cell_far (p := ⟨gb205, _, none⟩) (XSq.fr (Kd.own_blk (Kd.R_ne HO187.out BK205.out (by decide)))) _).trans (((cell_far (p := ⟨gb205, _, none⟩) (XSq.fr (Kd.own_blk (Kd.R_ne HO187.out BK205.out (by decide)))) _).trans (((cell_far (p := ⟨gb205, _, none⟩) (XSq.fr (Kd.own_blk (Kd.R_ne HO187.out BK205.out (by decide)))) _).trans (((cell_far (p := ⟨gb205, _, none⟩) (XSq.fr (Kd.own_blk (Kd.R_ne HO187.out BK205.out (by decide)))) _).trans (((cell_far (p := ⟨gb205, _, none⟩) (XSq.fr (Kd.own_blk (Kd.R_ne HO187.out BK205.out (by decide)))) _).trans (((cell_far (p := ⟨gb205, _, none⟩) (XSq.fr (Kd.own_blk (Kd.R_ne HO187.out BK205.out (by decide)))) _).trans (hHeld.1)))))))))))))), ((cell_far (p := ⟨gb205, _, none⟩) (XSq.fr (Kd.own_blk (Kd.R_ne HO192.out BK205.out (by decide)))) _).trans (((cell_far (p := ⟨gb205, _, none⟩) (XSq.fr (Kd.own_blk (Kd.R_ne HO192.out BK205.out (by decide)))) _).trans (((cell_far (p := ⟨gb205, _, none⟩) (XSq.fr (Kd.own_blk (Kd.R_ne HO192.out BK205.out (by decide)))) _).trans (((cell_far (p := ⟨gb205, _, none⟩) (XSq.fr (Kd.own_blk (Kd.R_ne HO192.out BK205.out (by decide)))) _).trans (((cell_far (p := ⟨gb205, _, none⟩) (XSq.fr (Kd.own_blk (Kd.R_ne HO192.out BK205.out (by decide)))) _).trans (((cell_far (p := ⟨gb205, _, none⟩) (XSq.fr (Kd.own_blk (Kd.R_ne HO192.out BK205.out (by decide)))) _).trans (((cell_far (p := ⟨gb205, _, none⟩) (XSq.fr (Kd.own_blk (Kd.R_ne HO192.out BK205.out (by decide)))) _).trans (hHeld.2.1)))))))))))))), ((cell_far (p := ⟨gb205, _, none⟩) (XSq.fr (Kd.own_blk (Kd.R_ne HO192.out BK205.out (by decide)))) _).trans (((cell_far (p := ⟨gb205, _, none⟩) (XSq.fr (Kd.own_blk (Kd.R_ne HO192.out BK205.out (by decide)))) _).trans (((cell_far (p := ⟨gb205, _, none⟩) (XSq.fr (Kd.own_blk (Kd.R_ne HO192.out BK205.out (by decide)))) _).trans (((cell_far (p := ⟨gb205, _, none⟩) (XSq.fr (Kd.own_blk (Kd.R_ne HO192.out BK205.out (by decide)))) _).trans (((cell_far (p := ⟨gb205, _, none⟩) (XSq.fr (Kd.own_blk (Kd.R_ne HO192.out BK205.out (by decide)))) _).trans (((cell_far (p := ⟨gb205, _, none⟩) (XSq.fr (Kd.own_blk (Kd.R_ne HO192.out BK205.out (by decide)))) _).trans (((cell_far (p := ⟨gb205, _, none⟩) (XSq.fr (Kd.own_blk (Kd.R_ne HO192.out BK205.out (by decide)))) _).trans (hHeld.2.2.1)))))))))))))), ((cell_far (p := ⟨gb205, _, none⟩) (XSq.fr (Kd.own_blk (Kd.R_ne HO187.out BK205.out (by decide)))) _).trans (((cell_far (p := ⟨gb205, _, none⟩) (XSq.fr (Kd.own_blk (Kd.R_ne HO187.out BK205.out (by decide)))) _).trans (((cell_far (p := ⟨gb205, _, none⟩) (XSq.fr (Kd.own_blk (Kd.R_ne HO187.out BK205.out (by decide)))) _).trans (((cell_far (p := ⟨gb205, _, none⟩) (XSq.fr (Kd.own_blk (Kd.R_ne HO187.out BK205.out (by decide)))) _).trans (((cell_far (p := ⟨gb205, _, none⟩) (XSq.fr (Kd.own_blk (Kd.R_ne HO187.out BK205.out (by decide)))) _).trans (((cell_far (p := ⟨gb205, _, none⟩) (XSq.fr (Kd.own_blk (Kd.R_ne HO187.out BK205.out (by decide)))) _).trans (((cell_far (p := ⟨gb205, _, none⟩) (XSq.fr (Kd.own_blk (Kd.R_ne HO187.out BK205.out (by decide)))) _).trans (hHeld.2.2.2.1)))))))))))))), ((cell_far (p := ⟨gb205, _, none⟩) (XSq.fr (Kd.own_blk (Kd.R_ne HO197.out BK205.out (by decide)))) _).trans (((cell_far (p := ⟨gb205, _, none⟩) (XSq.fr (Kd.own_blk (Kd.R_ne HO197.out BK205.out (by decide)))) _).trans (((cell_far (p := ⟨gb205, _, none⟩) (XSq.fr (Kd.own_blk (Kd.R_ne HO197.out BK205.out (by decide)))) _).trans (((cell_far (p := ⟨gb205, _, none⟩) (XSq.fr (Kd.own_blk (Kd.R_ne HO197.out BK205.out (by decide)))) _).trans (((cell_far (p := ⟨gb205, _, none⟩) (XSq.fr (Kd.own_blk (Kd.R_ne HO197.out BK205.out (by decide)))) _).trans (((cell_far (p := ⟨gb205, _, none⟩) (XSq.fr (Kd.own_blk (Kd.R_ne HO197.out BK205.out (by decide)))) _).trans (((cell_far (p := ⟨gb205, _, none⟩) (XSq.fr (Kd.own_blk (Kd.R_ne HO197.out BK205.out (by decide)))) _).trans (hHeld.2.2.2.2.1)))))))))))))), ((cell_far (p := ⟨gb205, _, none⟩) (XSq.fr (Kd.own_blk (Kd.R_ne HO197.out BK205.out (by decide)))) _).trans (((cell_far (p := ⟨gb205, _, none⟩) (XSq.fr (Kd.own_blk (Kd.R_ne HO197.out BK205.out (by decide)))) _).trans (((cell_far (p := ⟨gb205, _, none⟩) (XSq.fr (Kd.own_blk (Kd.R_ne HO197.out BK205.out (by decide)))) _).trans (((cell_far (p := ⟨gb205, _, none⟩) (XSq.fr (Kd.own_blk (Kd.R_ne HO197.out BK205.out (by decide)))) _).trans (((cell_far (p := ⟨gb205, _, none⟩) (XSq.fr (Kd.own_blk (Kd.R_ne HO197.out BK205.out (by decide)))) _).trans (((cell_far (p := ⟨gb205, _, none⟩) (XSq.fr (Kd.own_blk (Kd.R_ne HO197.out BK205.out (by decide)))) _).trans (((cell_far (p := ⟨gb205, _, none⟩) (XSq.fr (Kd.own_blk (Kd.R_ne HO197.out BK205.out (by decide)))) _).trans (hHeld.2.2.2.2.2.1)))))))))))))), ((cell_far (p := ⟨gb205, _, none⟩) (XSq.fr (Kd.own_blk (Kd.R_ne HO197.out BK205.out (by decide)))) _).trans (((cell_far (p := ⟨gb205, _, none⟩) (XSq.fr (Kd.own_blk (Kd.R_ne HO197.out BK205.out (by decide)))) _).trans (((cell_far (p := ⟨gb205, _, none⟩) (XSq.fr (Kd.own_blk (Kd.R_ne HO197.out BK205.out (by decide)))) _).trans (((cell_far (p := ⟨gb205, _, none⟩) (XSq.fr (Kd.own_blk (Kd.R_ne HO197.out BK205.out (by decide)))) _).trans (((cell_far (p := ⟨gb205, _, none⟩) (XSq.fr (Kd.own_blk (Kd.R_ne HO197.out BK205.out (by decide)))) _).trans (((cell_far (p := ⟨gb205, _, none⟩) (XSq.fr (Kd.own_blk (Kd.R_ne HO197.out BK205.out (by decide)))) _).trans (((cell_far (p := ⟨gb205, _, none⟩) (XSq.fr (Kd.own_blk (Kd.R_ne HO197.out BK205.out (by decide)))) _).trans (hHeld.2.2.2.2.2.2))))))))))))))⟩ (fun hHeld => ?_)
              clear hK K
              refine done_ (done_of HT_.out (by kernel_rfl)) ?_
              have hnb56 := NB205_184.out; have hnc56 := NB184_205.out; have hcz57_0 : w48.cell? ⟨gb205, 0, none⟩ = some (.string ⟨#[]⟩) := (blk_cell BK205.out 0).trans rfl; have hcz57_1 : w48.cell? ⟨gb205, 1, none⟩ = some (.int .i64 0) := (blk_cell BK205.out 1).trans rfl; have hcz57_2 : w48.cell? ⟨gb205, 2, none⟩ = some (.int .i64 0) := (blk_cell BK205.out 2).trans rfl; have hcz57_3 : w48.cell? ⟨gb205, 3, none⟩ = some (.string ⟨#[]⟩) := (blk_cell BK205.out 3).trans rfl; have hcz57_4 : w48.cell? ⟨gb205, 4, none⟩ = some (.int .i64 0) := (blk_cell BK205.out 4).trans rfl; have hcz57_5 : w48.cell? ⟨gb205, 5, none⟩ = some (.int .i64 0) := (blk_cell BK205.out 5).trans rfl; have hcz57_6 : w48.cell? ⟨gb205, 6, none⟩ = some (.int .i64 0) := (blk_cell BK205.out 6).trans rfl; have hfz57_0 := blk_frozen BK205.out 0; have hfz57_1 := blk_frozen BK205.out 1; have hfz57_2 := blk_frozen BK205.out 2; have hfz57_3 := blk_frozen BK205.out 3; have hfz57_4 := blk_frozen BK205.out 4; have hfz57_5 := blk_frozen BK205.out 5; have hfz57_6 := blk_frozen BK205.out 6
              try go_wp2_with (first | (go_at_call 19; (with_reducible refine (impl_IsWorld.calls k (rdOf ByteArray.empty t185 0) (rd t189 0) (rd t189 1) (rdOf ByteArray.empty t185 2) (rd t194 0) (rd t194 1) (rd t194 2) false _ A17.out).mono ?_); rintro e w58 ⟨rfl, hb⟩; have n0_ := Aside0.mk (Kd.R_below (by (with_reducible repeat (first | apply Kd.R_alloc | apply Kd.R_drewN | apply Kd.R_drew)); exact (Kd.R_mono (Kd.R_far (p := ⟨gb205, 6, none⟩) (Kd.R_far (p := ⟨gb205, 5, none⟩) (Kd.R_far (p := ⟨gb205, 4, none⟩) (Kd.R_far (p := ⟨gb205, 3, none⟩) (Kd.R_far (p := ⟨gb205, 2, none⟩) (Kd.R_far (p := ⟨gb205, 1, none⟩) (Kd.R_far (p := ⟨gb205, 0, none⟩) (Kd.R_types HO187.out BK205.out (by decide)) (fun _ hk => hk.2) (.string (rdOf ByteArray.empty t185 0))) (fun _ hk => hk.2) (.int .i64 (rd t189 0))) (fun _ hk => hk.2) (.int .i64 (rd t189 1))) (fun _ hk => hk.2) (.string (rdOf ByteArray.empty t185 2))) (fun _ hk => hk.2) (.int .i64 (rd t194 0))) (fun _ hk => hk.2) (.int .i64 (rd t194 1))) (fun _ hk => hk.2) (.int .i64 (rd t194 2))) (fun _ h_ => h_.1))) hb); have n1_ := Aside0.mk (Kd.R_below (by (with_reducible repeat (first | apply Kd.R_alloc | apply Kd.R_drewN | apply Kd.R_drew)); exact (Kd.R_mono (Kd.R_far (p := ⟨gb205, 6, none⟩) (Kd.R_far (p := ⟨gb205, 5, none⟩) (Kd.R_far (p := ⟨gb205, 4, none⟩) (Kd.R_far (p := ⟨gb205, 3, none⟩) (Kd.R_far (p := ⟨gb205, 2, none⟩) (Kd.R_far (p := ⟨gb205, 1, none⟩) (Kd.R_far (p := ⟨gb205, 0, none⟩) (Kd.R_types HO192.out BK205.out (by decide)) (fun _ hk => hk.2) (.string (rdOf ByteArray.empty t185 0))) (fun _ hk => hk.2) (.int .i64 (rd t189 0))) (fun _ hk => hk.2) (.int .i64 (rd t189 1))) (fun _ hk => hk.2) (.string (rdOf ByteArray.empty t185 2))) (fun _ hk => hk.2) (.int .i64 (rd t194 0))) (fun _ hk => hk.2) (.int .i64 (rd t194 1))) (fun _ hk => hk.2) (.int .i64 (rd t194 2))) (fun _ h_ => h_.1))) hb); have n2_ := Aside0.mk (Kd.R_below (by (with_reducible repeat (first | apply Kd.R_alloc | apply Kd.R_drewN | apply Kd.R_drew)); exact (Kd.R_mono (Kd.R_far (p := ⟨gb205, 6, none⟩) (Kd.R_far (p := ⟨gb205, 5, none⟩) (Kd.R_far (p := ⟨gb205, 4, none⟩) (Kd.R_far (p := ⟨gb205, 3, none⟩) (Kd.R_far (p := ⟨gb205, 2, none⟩) (Kd.R_far (p := ⟨gb205, 1, none⟩) (Kd.R_far (p := ⟨gb205, 0, none⟩) (Kd.R_types HO197.out BK205.out (by decide)) (fun _ hk => hk.2) (.string (rdOf ByteArray.empty t185 0))) (fun _ hk => hk.2) (.int .i64 (rd t189 0))) (fun _ hk => hk.2) (.int .i64 (rd t189 1))) (fun _ hk => hk.2) (.string (rdOf ByteArray.empty t185 2))) (fun _ hk => hk.2) (.int .i64 (rd t194 0))) (fun _ hk => hk.2) (.int .i64 (rd t194 1))) (fun _ hk => hk.2) (.int .i64 (rd t194 2))) (fun _ h_ => h_.1))) hb); have n3_ := Aside0.mk (blk_below (g := gb184) (o := .cells #[.string ⟨#[]⟩, .int .i64 0, .int .i64 0, .string ⟨#[]⟩, .int .i64 0, .int .i64 0, .int .i64 0] 23 (0, 0)) (by (with_reducible repeat (first | refine blk_drewN ?_ _ | refine blk_drew ?_ | refine blk_alloc ?_ _)); refine blk_far ?_ NB184_205.out _; (with_reducible repeat (first | refine blk_drewN ?_ _ | refine blk_drew ?_ | refine blk_alloc ?_ _)); refine blk_far ?_ NB184_205.out _; (with_reducible repeat (first | refine blk_drewN ?_ _ | refine blk_drew ?_ | refine blk_alloc ?_ _)); refine blk_far ?_ NB184_205.out _; (with_reducible repeat (first | refine blk_drewN ?_ _ | refine blk_drew ?_ | refine blk_alloc ?_ _)); refine blk_far ?_ NB184_205.out _; (with_reducible repeat (first | refine blk_drewN ?_ _ | refine blk_drew ?_ | refine blk_alloc ?_ _)); refine blk_far ?_ NB184_205.out _; (with_reducible repeat (first | refine blk_drewN ?_ _ | refine blk_drew ?_ | refine blk_alloc ?_ _)); refine blk_far ?_ NB184_205.out _; (with_reducible repeat (first | refine blk_drewN ?_ _ | refine blk_drew ?_ | refine blk_alloc ?_ _)); refine blk_far ?_ NB184_205.out _; (with_reducible repeat (first | refine blk_drewN ?_ _ | refine blk_drew ?_ | refine blk_alloc ?_ _)); exact BK184.out) hb); have n4_ := Aside0.mk (blk_below (g := gb205) (o := .cells #[.string (rdOf ByteArray.empty t185 0), .int .i64 (rd t189 0), .int .i64 (rd t189 1), .string (rdOf ByteArray.empty t185 2), .int .i64 (rd t194 0), .int .i64 (rd t194 1), .int .i64 (rd t194 2)] 23 (0, 0)) (by (with_reducible repeat (first | refine blk_drewN ?_ _ | refine blk_drew ?_ | refine blk_alloc ?_ _)); refine blk_put (cs := #[.string (rdOf ByteArray.empty t185 0), .int .i64 (rd t189 0), .int .i64 (rd t189 1), .string (rdOf ByteArray.empty t185 2), .int .i64 (rd t194 0), .int .i64 (rd t194 1), .int .i64 0]) ?_ 6 _ rfl; (with_reducible repeat (first | refine blk_drewN ?_ _ | refine blk_drew ?_ | refine blk_alloc ?_ _)); refine blk_put (cs := #[.string (rdOf ByteArray.empty t185 0), .int .i64 (rd t189 0), .int .i64 (rd t189 1), .string (rdOf ByteArray.empty t185 2), .int .i64 (rd t194 0), .int .i64 0, .int .i64 0]) ?_ 5 _ rfl; (with_reducible repeat (first | refine blk_drewN ?_ _ | refine blk_drew ?_ | refine blk_alloc ?_ _)); refine blk_put (cs := #[.string (rdOf ByteArray.empty t185 0), .int .i64 (rd t189 0), .int .i64 (rd t189 1), .string (rdOf ByteArray.empty t185 2), .int .i64 0, .int .i64 0, .int .i64 0]) ?_ 4 _ rfl; (with_reducible repeat (first | refine blk_drewN ?_ _ | refine blk_drew ?_ | refine blk_alloc ?_ _)); refine blk_put (cs := #[.string (rdOf ByteArray.empty t185 0), .int .i64 (rd t189 0), .int .i64 (rd t189 1), .string ⟨#[]⟩, .int .i64 0, .int .i64 0, .int .i64 0]) ?_ 3 _ rfl; (with_reducible repeat (first | refine blk_drewN ?_ _ | refine blk_drew ?_ | refine blk_alloc ?_ _)); refine blk_put (cs := #[.string (rdOf ByteArray.empty t185 0), .int .i64 (rd t189 0), .int .i64 0, .string ⟨#[]⟩, .int .i64 0, .int .i64 0, .int .i64 0]) ?_ 2 _ rfl; (with_reducible repeat (first | refine blk_drewN ?_ _ | refine blk_drew ?_ | refine blk_alloc ?_ _)); refine blk_put (cs := #[.string (rdOf ByteArray.empty t185 0), .int .i64 0, .int .i64 0, .string ⟨#[]⟩, .int .i64 0, .int .i64 0, .int .i64 0]) ?_ 1 _ rfl; (with_reducible repeat (first | refine blk_drewN ?_ _ | refine blk_drew ?_ | refine blk_alloc ?_ _)); refine blk_put (cs := #[.string ⟨#[]⟩, .int .i64 0, .int .i64 0, .string ⟨#[]⟩, .int .i64 0, .int .i64 0, .int .i64 0]) ?_ 0 _ rfl; (with_reducible repeat (first | refine blk_drewN ?_ _ | refine blk_drew ?_ | refine blk_alloc ?_ _)); exact BK205.out) hb); have n5_ := Aside0.mk (below_step (XSq.bB HB) hb); clear HO187; clear HO192; clear HO197; clear BK184; clear BK205; clear HB; have HO187 := n0_; have HO192 := n1_; have HO197 := n2_; have BK184 := n3_; have BK205 := n4_; have HB := n5_; clear n0_ n1_ n2_ n3_ n4_ n5_; clear hb; (try clear hb2); (try clear hk); (try clear hi); have hcz59_0 : w58.cell? ⟨gb184, 0, none⟩ = some (.string ⟨#[]⟩) := (blk_cell BK184.out 0).trans rfl; have hcz59_1 : w58.cell? ⟨gb184, 1, none⟩ = some (.int .i64 0) := (blk_cell BK184.out 1).trans rfl; have hcz59_2 : w58.cell? ⟨gb184, 2, none⟩ = some (.int .i64 0) := (blk_cell BK184.out 2).trans rfl; have hcz59_3 : w58.cell? ⟨gb184, 3, none⟩ = some (.string ⟨#[]⟩) := (blk_cell BK184.out 3).trans rfl; have hcz59_4 : w58.cell? ⟨gb184, 4, none⟩ = some (.int .i64 0) := (blk_cell BK184.out 4).trans rfl; have hcz59_5 : w58.cell? ⟨gb184, 5, none⟩ = some (.int .i64 0) := (blk_cell BK184.out 5).trans rfl; have hcz59_6 : w58.cell? ⟨gb184, 6, none⟩ = some (.int .i64 0) := (blk_cell BK184.out 6).trans rfl; have hfz59_0 := blk_frozen BK184.out 0; have hfz59_1 := blk_frozen BK184.out 1; have hfz59_2 := blk_frozen BK184.out 2; have hfz59_3 := blk_frozen BK184.out 3; have hfz59_4 := blk_frozen BK184.out 4; have hfz59_5 := blk_frozen BK184.out 5; have hfz59_6 := blk_frozen BK184.out 6))
              refine bodyPost_ret (results_ct rfl _ _ gb184 23 #[.string ⟨#[]⟩, .int .i64 0, .int .i64 0, .string ⟨#[]⟩, .int .i64 0, .int .i64 0, .int .i64 0] (0, 0) _ rfl (by (with_reducible repeat (first | refine blk_drewN ?_ _ | refine blk_drew ?_ | refine blk_alloc ?_ _)); refine blk_put (cs := #[.string ⟨#[]⟩, .int .i64 0, .int .i64 0, .string ⟨#[]⟩, .int .i64 0, .int .i64 0, .int .i64 0]) ?_ 6 _ rfl; (with_reducible repeat (first | refine blk_drewN ?_ _ | refine blk_drew ?_ | refine blk_alloc ?_ _)); refine blk_put (cs := #[.string ⟨#[]⟩, .int .i64 0, .int .i64 0, .string ⟨#[]⟩, .int .i64 0, .int .i64 0, .int .i64 0]) ?_ 5 _ rfl; (with_reducible repeat (first | refine blk_drewN ?_ _ | refine blk_drew ?_ | refine blk_alloc ?_ _)); refine blk_put (cs := #[.string ⟨#[]⟩, .int .i64 0, .int .i64 0, .string ⟨#[]⟩, .int .i64 0, .int .i64 0, .int .i64 0]) ?_ 4 _ rfl; (with_reducible repeat (first | refine blk_drewN ?_ _ | refine blk_drew ?_ | refine blk_alloc ?_ _)); refine blk_put (cs := #[.string ⟨#[]⟩, .int .i64 0, .int .i64 0, .string ⟨#[]⟩, .int .i64 0, .int .i64 0, .int .i64 0]) ?_ 3 _ rfl; (with_reducible repeat (first | refine blk_drewN ?_ _ | refine blk_drew ?_ | refine blk_alloc ?_ _)); refine blk_put (cs := #[.string ⟨#[]⟩, .int .i64 0, .int .i64 0, .string ⟨#[]⟩, .int .i64 0, .int .i64 0, .int .i64 0]) ?_ 2 _ rfl; (with_reducible repeat (first | refine blk_drewN ?_ _ | refine blk_drew ?_ | refine blk_alloc ?_ _)); refine blk_put (cs := #[.string ⟨#[]⟩, .int .i64 0, .int .i64 0, .string ⟨#[]⟩, .int .i64 0, .int .i64 0, .int .i64 0]) ?_ 1 _ rfl; (with_reducible repeat (first | refine blk_drewN ?_ _ | refine blk_drew ?_ | refine blk_alloc ?_ _)); refine blk_put (cs := #[.string ⟨#[]⟩, .int .i64 0, .int .i64 0, .string ⟨#[]⟩, .int .i64 0, .int .i64 0, .int .i64 0]) ?_ 0 _ rfl; (with_reducible repeat (first | refine blk_drewN ?_ _ | refine blk_drew ?_ | refine blk_alloc ?_ _)); exact BK184.out) Tryd.underlying23 rfl (by kernel_rfl)) rfl ?_
              exact ⟨by first | rfl | (simp [errW_none, errW_some] <;> rfl) | (simp [*, errW_none, errW_some] <;> rfl), by repeat (first | (with_reducible first | exact HB.out | apply below_alloc | apply pw_below_drewN | apply below_drew1 | refine below_set ?_ GE184.out | refine below_set ?_ GE205.out) | exact HB.out)⟩
            ·
             replace c16 := Bool.eq_false_iff.mpr c16; subst c16
             have H1 : (some ((⟨#[]⟩ : ByteArray), 0, 0, (⟨#[]⟩ : ByteArray), 0, 0, 0, false)) = some (r1, r2, r3, r4, r5, r6, r7, r8) := by rw [if_neg (show ¬ (false = true) by decide)] at H; exact H
             clear H; have H := H1; clear H1
             simp only [Option.some.injEq, Prod.mk.injEq] at H
             obtain ⟨rfl, rfl, rfl, rfl, rfl, rfl, rfl, rfl⟩ := H
             go_enter Tryd.func7, Tryd.ntmps7
             try go_wp2_with (first | ((with_reducible refine gate_dst (N := 2) rfl ?_); refine box_event ?hg (N := 2) ?hd (cs := #[.string ⟨#[]⟩, .int .i64 0, .int .i64 0, .string ⟨#[]⟩, .int .i64 0, .int .i64 0, .int .i64 0]) (t := 23) ?hr ?_; (case hd => rfl); (case hg => rfl); (case hr => first | (go_simp; done) | (go_simp; rfl)); intro gb184 hg w60 hbox hb; have BK184 := Aside0.mk (hbox); have GW184 := XSq.gw hg (XSq.bB HB); have GE184 := XSq.gw hg (XSq.bB HB); replace HB := Aside0.mk (below_step (XSq.bB HB) hb); clear hb hbox hg) | ((with_reducible refine gate_callee (f := 17) rfl ?_); refine goesL_ (some 11) rfl rfl Tryd.func17 (by kernel_rfl) rfl #[.string a0, .string (⟨#[58]⟩ : ByteArray)] rfl (by (try simp only [List.map_toArray, List.map_cons, List.map_nil]); first | done | rfl | (simp only [List.length_drop, List.length_take]; rfl)) ?_; (with_reducible refine (strings_Split.calls a0 (⟨#[58]⟩ : ByteArray) t185 _ A2.out).mono ?_); rintro e w61 ⟨v186, rfl, ho0, hb⟩; refine ⟨_, rfl, ?_⟩; have HO187 := Aside0.mk (Kd.R_lower ho0 (below_size (XSq.bB HB))); replace BK184 := Aside0.mk (blk_below (g := gb184) (o := .cells #[.string ⟨#[]⟩, .int .i64 0, .int .i64 0, .string ⟨#[]⟩, .int .i64 0, .int .i64 0, .int .i64 0] 23 (0, 0)) (XSq.bq BK184) hb); replace HB := Aside0.mk (below_step (XSq.bB HB) hb); clear hb; (try clear hb2); (try clear hk); (try clear hi); (try clear ho0); obtain ⟨Ao62, co62, eo62⟩ := Kd.R_slice HO187.out; subst eo62; have p188 : 0 ≤ (1 : Int) := (by omega); have q188 : 1 < (t185.length : Int) := of_decide_eq_true (by first | (with_reducible assumption) | assumption); obtain ⟨ad188, e188, hx188_0⟩ := Kd.at_string (Kd.R_reads' HO187.out).2.2 1 p188 q188; cases e188; (try simp only [show (1 : Int).toNat = 1 from rfl, Nat.reduceMul, Nat.reduceEqDiff, Go.Addr.add, ↓reduceIte] at hx188_0); have qi188 : (1 < t185.length) = True := eq_true (by omega); (try rw [show ((1 : Int)).toNat = 1 from rfl] at hx188_0); replace p188 := eq_true p188; replace q188 := eq_true q188) | ((with_reducible refine gate_callee (f := 18) rfl ?_); refine goesL_ (some 20) rfl rfl Tryd.func18 (by kernel_rfl) rfl #[.string (rdOf ByteArray.empty t185 1), .string (⟨#[120]⟩ : ByteArray), .int .i64 2, .int .i64 9] rfl (by (try simp only [List.map_toArray, List.map_cons, List.map_nil]); first | done | rfl | (simp only [List.length_drop, List.length_take]; rfl)) ?_; (with_reducible refine (impl_numbers.calls k (rdOf ByteArray.empty t185 1) (⟨#[120]⟩ : ByteArray) 2 9 t189 true _ (XEv.below HE.out (XSq.bB HB)) A5.out).mono ?_); rintro e w63 ⟨v191, rfl, ho0, hb⟩; refine ⟨_, rfl, ?_⟩; have HO192 := Aside0.mk (Kd.R_lower ho0 (below_size (XSq.bB HB))); replace HO187 := Aside0.mk (Kd.R_below (XSq.pR HO187) hb); replace BK184 := Aside0.mk (blk_below (g := gb184) (o := .cells #[.string ⟨#[]⟩, .int .i64 0, .int .i64 0, .string ⟨#[]⟩, .int .i64 0, .int .i64 0, .int .i64 0] 23 (0, 0)) (XSq.bq BK184) hb); replace HB := Aside0.mk (below_step (XSq.bB HB) hb); clear hb; (try clear hb2); (try clear hk); (try clear hi); (try clear ho0); have p193 : 0 ≤ (3 : Int) := (by omega); have q193 : 3 < (t185.length : Int) := of_decide_eq_true (by first | (with_reducible assumption) | assumption); obtain ⟨ad193, e193, hx193_0⟩ := Kd.at_string (Kd.R_reads' HO187.out).2.2 3 p193 q193; obtain rfl : ad188 = ad193 := (by injection e193); (try simp only [show (3 : Int).toNat = 3 from rfl, Nat.reduceMul, Nat.reduceEqDiff, Go.Addr.add, ↓reduceIte] at hx193_0); have qi193 : (3 < t185.length) = True := eq_true (by omega); (try rw [show ((3 : Int)).toNat = 3 from rfl] at hx193_0); replace p193 := eq_true p193; replace q193 := eq_true q193) | ((with_reducible refine gate_callee (f := 18) rfl ?_); refine goesL_ (some 27) rfl rfl Tryd.func18 (by kernel_rfl) rfl #[.string (rdOf ByteArray.empty t185 3), .string (⟨#[44]⟩ : ByteArray), .int .i64 3, .int .i64 9] rfl (by (try simp only [List.map_toArray, List.map_cons, List.map_nil]); first | done | rfl | (simp only [List.length_drop, List.length_take]; rfl)) ?_; (with_reducible refine (impl_numbers.calls k (rdOf ByteArray.empty t185 3) (⟨#[44]⟩ : ByteArray) 3 9 t194 false _ (XEv.below HE.out (XSq.bB HB)) A7.out).mono ?_); rintro e w64 ⟨v196, rfl, ho0, hb⟩; refine ⟨_, rfl, ?_⟩; have HO197 := Aside0.mk (Kd.R_lower (Kd.R_new' ho0 (Kd.R_lt (XSq.pR HO192))) (below_size (XSq.bB HB))); replace HO187 := Aside0.mk (Kd.R_below (XSq.pR HO187) hb); replace HO192 := Aside0.mk (Kd.R_elder' (XSq.pR HO192) (Kd.R_base ho0) hb); replace BK184 := Aside0.mk (blk_below (g := gb184) (o := .cells #[.string ⟨#[]⟩, .int .i64 0, .int .i64 0, .string ⟨#[]⟩, .int .i64 0, .int .i64 0, .int .i64 0] 23 (0, 0)) (XSq.bq BK184) hb); replace HB := Aside0.mk (below_step (XSq.bB HB) hb); clear hb; (try clear hb2); (try clear hk); (try clear hi); (try clear ho0)))
             replace HO187 := Aside0.mk (Kd.R_drew HO187.out); replace HO192 := Aside0.mk (Kd.R_drew HO192.out); replace HO197 := Aside0.mk (Kd.R_drew HO197.out); replace BK184 := Aside0.mk (blk_drew BK184.out); replace HB := Aside0.mk (below_drew1 HB.out); have p198 : 0 ≤ (0 : Int) := (by omega); have q198 : 0 < (t185.length : Int) := of_decide_eq_true (by first | (with_reducible assumption) | assumption); obtain ⟨ad198, e198, hx198_0⟩ := Kd.at_string (Kd.R_reads' HO187.out).2.2 0 p198 q198; obtain rfl : ad188 = ad198 := (by injection e198); have qi198 : (0 < t185.length) = True := eq_true (by omega)
             (try rw [show ((0 : Int)).toNat = 0 from rfl] at hx198_0)
             (try rw [Addr.add_zero'] at hx198_0)
             replace p198 := eq_true p198; replace q198 := eq_true q198; obtain ⟨Ao66, co66, eo66⟩ := Kd.R_slice HO192.out
             (first | subst eo66 | (injection eo66 with f1_ f2_ f3_; have f4_ := f1_.symm; have f5_ := f3_.symm; clear f1_ f2_ f3_; subst f4_; subst f5_))
             have p199 : 0 ≤ (0 : Int) := (by omega); have q199 : 0 < (t189.length : Int) := of_decide_eq_true (by first | (with_reducible assumption) | assumption); obtain ⟨ad199, e199, hx199_0⟩ := Kd.at_int (Kd.R_reads' HO192.out).2.2 0 p199 q199; cases e199; have qi199 : (0 < t189.length) = True := eq_true (by omega)
             (try rw [show ((0 : Int)).toNat = 0 from rfl] at hx199_0)
             (try rw [Addr.add_zero'] at hx199_0)
             replace p199 := eq_true p199; replace q199 := eq_true q199; have p200 : 0 ≤ (1 : Int) := (by omega); have q200 : 1 < (t189.length : Int) := of_decide_eq_true (by first | (with_reducible assumption) | assumption); obtain ⟨ad200, e200, hx200_0⟩ := Kd.at_int (Kd.R_reads' HO192.out).2.2 1 p200 q200; obtain rfl : ad199 = ad200 := (by injection e200)
             (try simp only [show (1 : Int).toNat = 1 from rfl, Nat.reduceMul, Nat.reduceEqDiff, Go.Addr.add, ↓reduceIte] at hx200_0)
             have qi200 : (1 < t189.length) = True := eq_true (by omega)
             (try rw [show ((1 : Int)).toNat = 1 from rfl] at hx200_0)
             replace p200 := eq_true p200; replace q200 := eq_true q200; have p201 : 0 ≤ (2 : Int) := (by omega); have q201 : 2 < (t185.length : Int) := of_decide_eq_true (by first | (with_reducible assumption) | assumption); obtain ⟨ad201, e201, hx201_0⟩ := Kd.at_string (Kd.R_reads' HO187.out).2.2 2 p201 q201; obtain rfl : ad188 = ad201 := (by injection e201)
             (try simp only [show (2 : Int).toNat = 2 from rfl, Nat.reduceMul, Nat.reduceEqDiff, Go.Addr.add, ↓reduceIte] at hx201_0)
             have qi201 : (2 < t185.length) = True := eq_true (by omega)
             (try rw [show ((2 : Int)).toNat = 2 from rfl] at hx201_0)
             replace p201 := eq_true p201; replace q201 := eq_true q201; obtain ⟨Ao67, co67, eo67⟩ := Kd.R_slice HO197.out
             (first | subst eo67 | (injection eo67 with f1_ f2_ f3_; have f4_ := f1_.symm; have f5_ := f3_.symm; clear f1_ f2_ f3_; subst f4_; subst f5_))
             have p202 : 0 ≤ (0 : Int) := (by omega); have q202 : 0 < (t194.length : Int) := of_decide_eq_true (by first | (with_reducible assumption) | assumption); obtain ⟨ad202, e202, hx202_0⟩ := Kd.at_int (Kd.R_reads' HO197.out).2.2 0 p202 q202; cases e202; have qi202 : (0 < t194.length) = True := eq_true (by omega)
             (try rw [show ((0 : Int)).toNat = 0 from rfl] at hx202_0)
             (try rw [Addr.add_zero'] at hx202_0)
             replace p202 := eq_true p202; replace q202 := eq_true q202; have p203 : 0 ≤ (1 : Int) := (by omega); have q203 : 1 < (t194.length : Int) := of_decide_eq_true (by first | (with_reducible assumption) | assumption); obtain ⟨ad203, e203, hx203_0⟩ := Kd.at_int (Kd.R_reads' HO197.out).2.2 1 p203 q203; obtain rfl : ad202 = ad203 := (by injection e203)
             (try simp only [show (1 : Int).toNat = 1 from rfl, Nat.reduceMul, Nat.reduceEqDiff, Go.Addr.add, ↓reduceIte] at hx203_0)
             have qi203 : (1 < t194.length) = True := eq_true (by omega)
             (try rw [show ((1 : Int)).toNat = 1 from rfl] at hx203_0)
             replace p203 := eq_true p203; replace q203 := eq_true q203; have p204 : 0 ≤ (2 : Int) := (by omega); have q204 : 2 < (t194.length : Int) := of_decide_eq_true (by first | (with_reducible assumption) | assumption); obtain ⟨ad204, e204, hx204_0⟩ := Kd.at_int (Kd.R_reads' HO197.out).2.2 2 p204 q204; obtain rfl : ad202 = ad204 := (by injection e204)
             (try simp only [show (2 : Int).toNat = 2 from rfl, Nat.reduceMul, Nat.reduceEqDiff, Go.Addr.add, ↓reduceIte] at hx204_0)
             have qi204 : (2 < t194.length) = True := eq_true (by omega)
             (try rw [show ((2 : Int)).toNat = 2 from rfl] at hx204_0)
             replace p204 := eq_true p204; replace q204 := eq_true q204
             refine start_ (n := 24) (S := fun w' => w'.cell? ad188 = some (.string (rdOf ByteArray.empty t185 0)) ∧ w'.cell? ad199 = some (.int .i64 (rd t189 0)) ∧ w'.cell? ⟨ad199.block, ad199.off + 1, none⟩ = some (.int .i64 (rd t189 1)) ∧ w'.cell? ⟨ad188.block, ad188.off + 2, none⟩ = some (.string (rdOf ByteArray.empty t185 2)) ∧ w'.cell? ad202 = some (.int .i64 (rd t194 0)) ∧ w'.cell? ⟨ad202.block, ad202.off + 1, none⟩ = some (.int .i64 (rd t194 1)) ∧ w'.cell? ⟨ad202.block, ad202.off + 2, none⟩ = some (.int .i64 (rd t194 2))) (ds := []) #[false, false, false, false, false, false, false, false, false, false, false, false, false, false, false, false, false, false, false, false, false, false, false, false] (by kernel_rfl) rfl rfl ⟨hx198_0, hx199_0, hx200_0, hx201_0, hx202_0, hx203_0, hx204_0⟩ (fun hHeld => ?_); refine with_tabW impl_ParseWorld.tab6 impl_ParseWorld.bits6 (fun HT_ HW_ => ?_)
             generalize w64.drew = w65 at HO187 HO192 HO197 BK184 HB hx198_0 hx199_0 hx200_0 hx201_0 hx202_0 hx203_0 hx204_0 hHeld ⊢
             refine pure_ (i := 0) (N := some 30) (v := ?_) (a' := ?_) #[true, false, false, false, false, false, false, false, false, false, false, false, false, false, false, false, false, false, false, false, false, false, false, false] rfl rfl (any_of HT_.out (by kernel_rfl)) (fun _ _ _ h => h) (Or.inl ⟨by rfl, ?_⟩) ?_ ?_
             rotate_left
             ·
              intro w'
              go_simp
              with_reducible rfl
             rotate_left
             ·
              simp only [Act.put, List.setIfInBounds_toArray, List.set_cons_zero, List.set_cons_succ, i64_w, i32_w]
              rfl
             refine pure_ (i := 1) (N := some 31) (v := ?_) (a' := ?_) #[true, true, false, false, false, false, false, false, false, false, false, false, false, false, false, false, false, false, false, false, false, false, false, false] rfl rfl (any_of HT_.out (by kernel_rfl)) (fun _ _ _ h => h) (Or.inl ⟨by rfl, ?_⟩) ?_ ?_
             rotate_left
             ·
              intro w'
              go_simp
              with_reducible rfl
             rotate_left
             ·
              simp only [Act.put, List.setIfInBounds_toArray, List.set_cons_zero, List.set_cons_succ, i64_w, i32_w]
              rfl
             refine pure_ (i := 3) (N := some 33) (v := ?_) (a' := ?_) #[true, true, false, true, false, false, false, false, false, false, false, false, false, false, false, false, false, false, false, false, false, false, false, false] rfl rfl (any_of HT_.out (by kernel_rfl)) (fun _ _ _ h => h) (Or.inl ⟨by rfl, ?_⟩) ?_ ?_
             rotate_left
             ·
              intro w'
              go_simp
              with_reducible rfl
             rotate_left
             ·
              simp only [Act.put, List.setIfInBounds_toArray, List.set_cons_zero, List.set_cons_succ, i64_w, i32_w]
              rfl
             refine pure_ (i := 4) (N := some 34) (v := ?_) (a' := ?_) #[true, true, false, true, true, false, false, false, false, false, false, false, false, false, false, false, false, false, false, false, false, false, false, false] rfl rfl (any_of HT_.out (by kernel_rfl)) (fun _ _ _ h => h) (Or.inl ⟨by rfl, ?_⟩) ?_ ?_
             rotate_left
             ·
              intro w'
              go_simp
              with_reducible rfl
             rotate_left
             ·
              simp only [Act.put, List.setIfInBounds_toArray, List.set_cons_zero, List.set_cons_succ, i64_w, i32_w]
              rfl
             refine pure_ (i := 6) (N := some 36) (v := ?_) (a' := ?_) #[true, true, false, true, true, false, true, false, false, false, false, false, false, false, false, false, false, false, false, false, false, false, false, false] rfl rfl (any_of HT_.out (by kernel_rfl)) (fun _ _ _ h => h) (Or.inl ⟨by rfl, ?_⟩) ?_ ?_
             rotate_left
             ·
              intro w'
              go_simp
              with_reducible rfl
             rotate_left
             ·
              simp only [Act.put, List.setIfInBounds_toArray, List.set_cons_zero, List.set_cons_succ, i64_w, i32_w]
              rfl
             refine pure_ (i := 7) (N := some 37) (v := ?_) (a' := ?_) #[true, true, false, true, true, false, true, true, false, false, false, false, false, false, false, false, false, false, false, false, false, false, false, false] rfl rfl (any_of HT_.out (by kernel_rfl)) (fun _ _ _ h => h) (Or.inl ⟨by rfl, ?_⟩) ?_ ?_
             rotate_left
             ·
              intro w'
              go_simp
              with_reducible rfl
             rotate_left
             ·
              simp only [Act.put, List.setIfInBounds_toArray, List.set_cons_zero, List.set_cons_succ, i64_w, i32_w]
              rfl
             refine pure_ (i := 9) (N := some 39) (v := ?_) (a' := ?_) #[true, true, false, true, true, false, true, true, false, true, false, false, false, false, false, false, false, false, false, false, false, false, false, false] rfl rfl (any_of HT_.out (by kernel_rfl)) (fun _ _ _ h => h) (Or.inl ⟨by rfl, ?_⟩) ?_ ?_
             rotate_left
             ·
              intro w'
              go_simp
              with_reducible rfl
             rotate_left
             ·
              simp only [Act.put, List.setIfInBounds_toArray, List.set_cons_zero, List.set_cons_succ, i64_w, i32_w]
              rfl
             refine pure_ (i := 10) (N := some 40) (v := ?_) (a' := ?_) #[true, true, false, true, true, false, true, true, false, true, true, false, false, false, false, false, false, false, false, false, false, false, false, false] rfl rfl (any_of HT_.out (by kernel_rfl)) (fun _ _ _ h => h) (Or.inl ⟨by rfl, ?_⟩) ?_ ?_
             rotate_left
             ·
              intro w'
              go_simp
              with_reducible rfl
             rotate_left
             ·
              simp only [Act.put, List.setIfInBounds_toArray, List.set_cons_zero, List.set_cons_succ, i64_w, i32_w]
              rfl
             refine pure_ (i := 12) (N := some 42) (v := ?_) (a' := ?_) #[true, true, false, true, true, false, true, true, false, true, true, false, true, false, false, false, false, false, false, false, false, false, false, false] rfl rfl (any_of HT_.out (by kernel_rfl)) (fun _ _ _ h => h) (Or.inl ⟨by rfl, ?_⟩) ?_ ?_
             rotate_left
             ·
              intro w'
              go_simp
              with_reducible rfl
             rotate_left
             ·
              simp only [Act.put, List.setIfInBounds_toArray, List.set_cons_zero, List.set_cons_succ, i64_w, i32_w]
              rfl
             refine pure_ (i := 13) (N := some 43) (v := ?_) (a' := ?_) #[true, true, false, true, true, false, true, true, false, true, true, false, true, true, false, false, false, false, false, false, false, false, false, false] rfl rfl (any_of HT_.out (by kernel_rfl)) (fun _ _ _ h => h) (Or.inl ⟨by rfl, ?_⟩) ?_ ?_
             rotate_left
             ·
              intro w'
              go_simp
              with_reducible rfl
             rotate_left
             ·
              simp only [Act.put, List.setIfInBounds_toArray, List.set_cons_zero, List.set_cons_succ, i64_w, i32_w]
              rfl
             refine pure_ (i := 15) (N := some 45) (v := ?_) (a' := ?_) #[true, true, false, true, true, false, true, true, false, true, true, false, true, true, false, true, false, false, false, false, false, false, false, false] rfl rfl (any_of HT_.out (by kernel_rfl)) (fun _ _ _ h => h) (Or.inl ⟨by rfl, ?_⟩) ?_ ?_
             rotate_left
             ·
              intro w'
              go_simp
              with_reducible rfl
             rotate_left
             ·
              simp only [Act.put, List.setIfInBounds_toArray, List.set_cons_zero, List.set_cons_succ, i64_w, i32_w]
              rfl
             refine pure_ (i := 16) (N := some 46) (v := ?_) (a' := ?_) #[true, true, false, true, true, false, true, true, false, true, true, false, true, true, false, true, true, false, false, false, false, false, false, false] rfl rfl (any_of HT_.out (by kernel_rfl)) (fun _ _ _ h => h) (Or.inl ⟨by rfl, ?_⟩) ?_ ?_
             rotate_left
             ·
              intro w'
              go_simp
              with_reducible rfl
             rotate_left
             ·
              simp only [Act.put, List.setIfInBounds_toArray, List.set_cons_zero, List.set_cons_succ, i64_w, i32_w]
              rfl
             refine pure_ (i := 18) (N := some 48) (v := ?_) (a' := ?_) #[true, true, false, true, true, false, true, true, false, true, true, false, true, true, false, true, true, false, true, false, false, false, false, false] rfl rfl (any_of HT_.out (by kernel_rfl)) (fun _ _ _ h => h) (Or.inl ⟨by rfl, ?_⟩) ?_ ?_
             rotate_left
             ·
              intro w'
              go_simp
              with_reducible rfl
             rotate_left
             ·
              simp only [Act.put, List.setIfInBounds_toArray, List.set_cons_zero, List.set_cons_succ, i64_w, i32_w]
              rfl
             refine pure_ (i := 19) (N := some 49) (v := ?_) (a' := ?_) #[true, true, false, true, true, false, true, true, false, true, true, false, true, true, false, true, true, false, true, true, false, false, false, false] rfl rfl (any_of HT_.out (by kernel_rfl)) (fun _ _ _ h => h) (Or.inl ⟨by rfl, ?_⟩) ?_ ?_
             rotate_left
             ·
              intro w'
              go_simp
              with_reducible rfl
             rotate_left
             ·
              simp only [Act.put, List.setIfInBounds_toArray, List.set_cons_zero, List.set_cons_succ, i64_w, i32_w]
              rfl
             refine take_ (i := 2) (N := some 32) (v := ?_) (a' := ?_) #[true, true, true, true, true, false, true, true, false, true, true, false, true, true, false, true, true, false, true, true, false, false, false, false] rfl rfl (take_ofW HT_.out HW_.out (by kernel_rfl)) (fun _ _ _ h => h) (Or.inl ⟨by rfl, ?_⟩) hHeld ?_ ?_
             rotate_left
             ·
              rintro w' ⟨s0, s1, s2, s3, s4, s5, s6⟩
              go_simp
              with_reducible rfl
             rotate_left
             ·
              simp only [Act.put, List.setIfInBounds_toArray, List.set_cons_zero, List.set_cons_succ, i64_w, i32_w]
              rfl
             refine take_ (i := 5) (N := some 35) (v := ?_) (a' := ?_) #[true, true, true, true, true, true, true, true, false, true, true, false, true, true, false, true, true, false, true, true, false, false, false, false] rfl rfl (take_ofW HT_.out HW_.out (by kernel_rfl)) (fun _ _ _ h => h) (Or.inl ⟨by rfl, ?_⟩) hHeld ?_ ?_
             rotate_left
             ·
              rintro w' ⟨s0, s1, s2, s3, s4, s5, s6⟩
              go_simp
              with_reducible rfl
             rotate_left
             ·
              simp only [Act.put, List.setIfInBounds_toArray, List.set_cons_zero, List.set_cons_succ, i64_w, i32_w]
              rfl
             refine take_ (i := 8) (N := some 38) (v := ?_) (a' := ?_) #[true, true, true, true, true, true, true, true, true, true, true, false, true, true, false, true, true, false, true, true, false, false, false, false] rfl rfl (take_ofW HT_.out HW_.out (by kernel_rfl)) (fun _ _ _ h => h) (Or.inl ⟨by rfl, ?_⟩) hHeld ?_ ?_
             rotate_left
             ·
              rintro w' ⟨s0, s1, s2, s3, s4, s5, s6⟩
              go_simp
              with_reducible rfl
             rotate_left
             ·
              simp only [Act.put, List.setIfInBounds_toArray, List.set_cons_zero, List.set_cons_succ, i64_w, i32_w]
              rfl
             refine take_ (i := 11) (N := some 41) (v := ?_) (a' := ?_) #[true, true, true, true, true, true, true, true, true, true, true, true, true, true, false, true, true, false, true, true, false, false, false, false] rfl rfl (take_ofW HT_.out HW_.out (by kernel_rfl)) (fun _ _ _ h => h) (Or.inl ⟨by rfl, ?_⟩) hHeld ?_ ?_
             rotate_left
             ·
              rintro w' ⟨s0, s1, s2, s3, s4, s5, s6⟩
              go_simp
              with_reducible rfl
             rotate_left
             ·
              simp only [Act.put, List.setIfInBounds_toArray, List.set_cons_zero, List.set_cons_succ, i64_w, i32_w]
              rfl
             refine take_ (i := 14) (N := some 44) (v := ?_) (a' := ?_) #[true, true, true, true, true, true, true, true, true, true, true, true, true, true, true, true, true, false, true, true, false, false, false, false] rfl rfl (take_ofW HT_.out HW_.out (by kernel_rfl)) (fun _ _ _ h => h) (Or.inl ⟨by rfl, ?_⟩) hHeld ?_ ?_
             rotate_left
             ·
              rintro w' ⟨s0, s1, s2, s3, s4, s5, s6⟩
              go_simp
              with_reducible rfl
             rotate_left
             ·
              simp only [Act.put, List.setIfInBounds_toArray, List.set_cons_zero, List.set_cons_succ, i64_w, i32_w]
              rfl
             refine take_ (i := 17) (N := some 47) (v := ?_) (a' := ?_) #[true, true, true, true, true, true, true, true, true, true, true, true, true, true, true, true, true, true, true, true, false, false, false, false] rfl rfl (take_ofW HT_.out HW_.out (by kernel_rfl)) (fun _ _ _ h => h) (Or.inl ⟨by rfl, ?_⟩) hHeld ?_ ?_
             rotate_left
             ·
              rintro w' ⟨s0, s1, s2, s3, s4, s5, s6⟩
              go_simp
              with_reducible rfl
             rotate_left
             ·
              simp only [Act.put, List.setIfInBounds_toArray, List.set_cons_zero, List.set_cons_succ, i64_w, i32_w]
              rfl
             refine take_ (i := 20) (N := some 50) (v := ?_) (a' := ?_) #[true, true, true, true, true, true, true, true, true, true, true, true, true, true, true, true, true, true, true, true, true, false, false, false] rfl rfl (take_ofW HT_.out HW_.out (by kernel_rfl)) (fun _ _ _ h => h) (Or.inl ⟨by rfl, ?_⟩) hHeld ?_ ?_
             rotate_left
             ·
              rintro w' ⟨s0, s1, s2, s3, s4, s5, s6⟩
              go_simp
              with_reducible rfl
             rotate_left
             ·
              simp only [Act.put, List.setIfInBounds_toArray, List.set_cons_zero, List.set_cons_succ, i64_w, i32_w]
              rfl
             refine pure_ (i := 21) (N := some 51) (v := ?_) (a' := ?_) #[true, true, true, true, true, true, true, true, true, true, true, true, true, true, true, true, true, true, true, true, true, true, false, false] rfl rfl (any_of HT_.out (by kernel_rfl)) (fun _ _ _ h => h) (Or.inl ⟨by rfl, ?_⟩) ?_ ?_
             rotate_left
             ·
              intro w'
              go_simp
              with_reducible rfl
             rotate_left
             ·
              simp only [Act.put, List.setIfInBounds_toArray, List.set_cons_zero, List.set_cons_succ, i64_w, i32_w]
              rfl
             refine one_ (i := 22) (N := some 9) #[true, true, true, true, true, true, true, true, true, true, true, true, true, true, true, true, true, true, true, true, true, true, true, false] rfl rfl (one_of HT_.out (by kernel_rfl)) (by decide) (fun K hK => ?_)
             refine box_step ?hg (N := 9) ?hd (cs := #[.string ⟨#[]⟩, .int .i64 0, .int .i64 0, .string ⟨#[]⟩, .int .i64 0, .int .i64 0, .int .i64 0]) (t := 23) ?hr ?_; (case hd => rfl); (case hg => rfl); (case hr => first | (go_simp; done) | (go_simp; rfl))
             intro gb205 hg w68 hbox hb; have HS0_ := (hb.cell (World.block_lt_of_cell? _ _ (hHeld.1))).trans (hHeld.1); have HS1_ := (hb.cell (World.block_lt_of_cell? _ _ (hHeld.2.1))).trans (hHeld.2.1); have HS2_ := (hb.cell (World.block_lt_of_cell? _ _ (hHeld.2.2.1))).trans (hHeld.2.2.1); have HS3_ := (hb.cell (World.block_lt_of_cell? _ _ (hHeld.2.2.2.1))).trans (hHeld.2.2.2.1); have HS4_ := (hb.cell (World.block_lt_of_cell? _ _ (hHeld.2.2.2.2.1))).trans (hHeld.2.2.2.2.1); have HS5_ := (hb.cell (World.block_lt_of_cell? _ _ (hHeld.2.2.2.2.2.1))).trans (hHeld.2.2.2.2.2.1); have HS6_ := (hb.cell (World.block_lt_of_cell? _ _ (hHeld.2.2.2.2.2.2))).trans (hHeld.2.2.2.2.2.2); have n0_ := Aside0.mk (Kd.R_below (XSq.pR HO187) hb); have n1_ := Aside0.mk (Kd.R_below (XSq.pR HO192) hb); have n2_ := Aside0.mk (Kd.R_below (XSq.pR HO197) hb); have n3_ := Aside0.mk (blk_below (g := gb184) (o := .cells #[.string ⟨#[]⟩, .int .i64 0, .int .i64 0, .string ⟨#[]⟩, .int .i64 0, .int .i64 0, .int .i64 0] 23 (0, 0)) (XSq.bq BK184) hb); have n4_ := Aside0.mk (below_step (XSq.bB HB) hb); have n5_ := Aside0.mk (hbox); have n6_ := XSq.gw hg (XSq.bB HB); have n7_ := XSq.gw hg (XSq.bB HB); have n8_ := Aside0.mk ((by rw [hg]; exact Nat.ne_of_lt (blk_lt (g := gb184) (o := .cells #[.string ⟨#[]⟩, .int .i64 0, .int .i64 0, .string ⟨#[]⟩, .int .i64 0, .int .i64 0, .int .i64 0] 23 (0, 0)) (XSq.bq BK184)) : gb184 ≠ gb205)); have n9_ := Aside0.mk ((by rw [hg]; exact Nat.ne_of_gt (blk_lt (g := gb184) (o := .cells #[.string ⟨#[]⟩, .int .i64 0, .int .i64 0, .string ⟨#[]⟩, .int .i64 0, .int .i64 0, .int .i64 0] 23 (0, 0)) (XSq.bq BK184)) : gb205 ≠ gb184)); clear HO187 HO192 HO197 BK184 HB; have HO187 := n0_; have HO192 := n1_; have HO197 := n2_; have BK184 := n3_; have HB := n4_; have BK205 := n5_; have GW205 := n6_; have GE205 := n7_; have NB184_205 := n8_; have NB205_184 := n9_; clear n0_ n1_ n2_ n3_ n4_ n5_ n6_ n7_ n8_ n9_ hb hbox hg
             refine hK.out _ _ ⟨HS0_, HS1_, HS2_, HS3_, HS4_, HS5_, HS6_⟩ (fun hHeld => ?_)
             clear hK K
             refine norm_ (a' := ?_) ?_ ?_
             rotate_left
             ·
              show Act.put _ (some 9) _ = _
              simp only [Act.put, List.setIfInBounds_toArray, List.set_cons_zero, List.set_cons_succ, i64_w, i32_w]
              rfl
             refine one_ (i := 23) (N := none) #[true, true, true, true, true, true, true, true, true, true, true, true, true, true, true, true, true, true, true, true, true, true, true, true] rfl rfl (one_of HT_.out (by kernel_rfl)) (by decide) (fun K hK => ?_)
             have hs69 : w68.cell? ⟨gb205, 0, none⟩ = some (.string ⟨#[]⟩) := (blk_cell BK205.out 0).trans rfl; have hfs69 := blk_frozen BK205.out 0; have hns69_0 := NB184_205.out; have hms69_0 := NB205_184.out; have hs70 : w68.cell? ⟨gb205, 1, none⟩ = some (.int .i64 0) := (blk_cell BK205.out 1).trans rfl; have hfs70 := blk_frozen BK205.out 1; have hns70_0 := NB184_205.out; have hms70_0 := NB205_184.out; have hs71 : w68.cell? ⟨gb205, 2, none⟩ = some (.int .i64 0) := (blk_cell BK205.out 2).trans rfl; have hfs71 := blk_frozen BK205.out 2; have hns71_0 := NB184_205.out; have hms71_0 := NB205_184.out; have hs72 : w68.cell? ⟨gb205, 3, none⟩ = some (.string ⟨#[]⟩) := (blk_cell BK205.out 3).trans rfl; have hfs72 := blk_frozen BK205.out 3; have hns72_0 := NB184_205.out; have hms72_0 := NB205_184.out; have hs73 : w68.cell? ⟨gb205, 4, none⟩ = some (.int .i64 0) := (blk_cell BK205.out 4).trans rfl; have hfs73 := blk_frozen BK205.out 4; have hns73_0 := NB184_205.out; have hms73_0 := NB205_184.out; have hs74 : w68.cell? ⟨gb205, 5, none⟩ = some (.int .i64 0) := (blk_cell BK205.out 5).trans rfl; have hfs74 := blk_frozen BK205.out 5; have hns74_0 := NB184_205.out; have hms74_0 := NB205_184.out; have hs75 : w68.cell? ⟨gb205, 6, none⟩ = some (.int .i64 0) := (blk_cell BK205.out 6).trans rfl; have hfs75 := blk_frozen BK205.out 6; have hns75_0 := NB184_205.out; have hms75_0 := NB205_184.out
             refine skip_ (w1 := ?_) (by rfl) rfl ?_ ?_
             rotate_left
             ·
              go_simp
              rfl
             refine hK.out _ _ ⟨((cell_far (p := ⟨gb205, _, none⟩) (XSq.fr (Kd.own_blk (Kd.R_ne HO187.out BK205.out (by decide)))) _).trans (((cell_far (p := ⟨gb205, _, none⟩) (XSq.fr (Kd.own_blk (Kd.R_ne HO187.out BK205.out (by decide)))) _).trans (((cell_far (p := ⟨gb205, _, none⟩) (XSq.fr (Kd.own_blk (Kd.R_ne HO187.out BK205.out (by decide)))) _).trans (((cell_far (p := ⟨gb205, _, none⟩) (XSq.fr (Kd.own_blk (Kd.R_ne HO187.out BK205.out (by decide)))) _).trans (((cell_far (p := ⟨gb205, _, none⟩) (XSq.fr (Kd.own_blk (Kd.R_ne HO187.out BK205.out (by decide)))) _).trans (((cell_far (p := ⟨gb205, _, none⟩) (XSq.fr (Kd.own_blk (Kd.R_ne HO187.out BK205.out (by decide)))) _).trans (((cell_far (p := ⟨gb205, _, none⟩) (XSq.fr (Kd.own_blk (Kd.R_ne HO187.out BK205.out (by decide)))) _).trans (hHeld.1)))))))))))))), ((cell_far (p := ⟨gb205, _, none⟩) (XSq.fr (Kd.own_blk (Kd.R_ne HO192.out BK205.out (by decide)))) _).trans (((cell_far (p := ⟨gb205, _, none⟩) (XSq.fr (Kd.own_blk (Kd.R_ne HO192.out BK205.out (by decide)))) _).trans (((cell_far (p := ⟨gb205, _, none⟩) (XSq.fr (Kd.own_blk (Kd.R_ne HO192.out BK205.out (by decide)))) _).trans (((cell_far (p := ⟨gb205, _, none⟩) (XSq.fr (Kd.own_blk (Kd.R_ne HO192.out BK205.out (by decide)))) _).trans (((cell_far (p := ⟨gb205, _, none⟩) (XSq.fr (Kd.own_blk (Kd.R_ne HO192.out BK205.out (by decide)))) _).trans (((cell_far (p := ⟨gb205, _, none⟩) (XSq.fr (Kd.own_blk (Kd.R_ne HO192.out BK205.out (by decide)))) _).trans (((cell_far (p := ⟨gb205, _, none⟩) (XSq.fr (Kd.own_blk (Kd.R_ne HO192.out BK205.out (by decide)))) _).trans (hHeld.2.1)))))))))))))), ((cell_far (p := ⟨gb205, _, none⟩) (XSq.fr (Kd.own_blk (Kd.R_ne HO192.out BK205.out (by decide)))) _).trans (((cell_far (p := ⟨gb205, _, none⟩) (XSq.fr (Kd.own_blk (Kd.R_ne HO192.out BK205.out (by decide)))) _).trans (((cell_far (p := ⟨gb205, _, none⟩) (XSq.fr (Kd.own_blk (Kd.R_ne HO192.out BK205.out (by decide)))) _).trans (((cell_far (p := ⟨gb205, _, none⟩) (XSq.fr (Kd.own_blk (Kd.R_ne HO192.out BK205.out (by decide)))) _).trans (((cell_far (p := ⟨gb205, _, none⟩) (XSq.fr (Kd.own_blk (Kd.R_ne HO192.out BK205.out (by decide)))) _).trans (((cell_far (p := ⟨gb205, _, none⟩) (XSq.fr (Kd.own_blk (Kd.R_ne HO192.out BK205.out (by decide)))) _).trans (((cell_far (p := ⟨gb205, _, none⟩) (XSq.fr (Kd.own_blk (Kd.R_ne HO192.out BK205.out (by decide)))) _).trans (hHeld.2.2.1)))))))))))))), ((cell_far (p := ⟨gb205, _, none⟩) (XSq.fr (Kd.own_blk (Kd.R_ne HO187.out BK205.out (by decide)))) _).trans (((cell_far (p := ⟨gb205, _, none⟩) (XSq.fr (Kd.own_blk (Kd.R_ne HO187.out BK205.out (by decide)))) _).trans (((cell_far (p := ⟨gb205, _, none⟩) (XSq.fr (Kd.own_blk (Kd.R_ne HO187.out BK205.out (by decide)))) _).trans (((cell_far (p := ⟨gb205, _, none⟩) (XSq.fr (Kd.own_blk (Kd.R_ne HO187.out BK205.out (by decide)))) _).trans (((cell_far (p := ⟨gb205, _, none⟩) (XSq.fr (Kd.own_blk (Kd.R_ne HO187.out BK205.out (by decide)))) _).trans (((cell_far (p := ⟨gb205, _, none⟩) (XSq.fr (Kd.own_blk (Kd.R_ne HO187.out BK205.out (by decide)))) _).trans (((cell_far (p := ⟨gb205, _, none⟩) (XSq.fr (Kd.own_blk (Kd.R_ne HO187.out BK205.out (by decide)))) _).trans (hHeld.2.2.2.1)))))))))))))), ((cell_far (p := ⟨gb205, _, none⟩) (XSq.fr (Kd.own_blk (Kd.R_ne HO197.out BK205.out (by decide)))) _).trans (((cell_far (p := ⟨gb205, _, none⟩) (XSq.fr (Kd.own_blk (Kd.R_ne HO197.out BK205.out (by decide)))) _).trans (((cell_far (p := ⟨gb205, _, none⟩) (XSq.fr (Kd.own_blk (Kd.R_ne HO197.out BK205.out (by decide)))) _).trans (((cell_far (p := ⟨gb205, _, none⟩) (XSq.fr (Kd.own_blk (Kd.R_ne HO197.out BK205.out (by decide)))) _).trans (((cell_far (p := ⟨gb205, _, none⟩) (XSq.fr (Kd.own_blk (Kd.R_ne HO197.out BK205.out (by decide)))) _).trans (((cell_far (p := ⟨gb205, _, none⟩) (XSq.fr (Kd.own_blk (Kd.R_ne HO197.out BK205.out (by decide)))) _).trans (((cell_far (p := ⟨gb205, _, none⟩) (XSq.fr (Kd.own_blk (Kd.R_ne HO197.out BK205.out (by decide)))) _).trans (hHeld.2.2.2.2.1)))))))))))))), ((cell_far (p := ⟨gb205, _, none⟩) (XSq.fr (Kd.own_blk (Kd.R_ne HO197.out BK205.out (by decide)))) _).trans (((cell_far (p := ⟨gb205, _, none⟩) (XSq.fr (Kd.own_blk (Kd.R_ne HO197.out BK205.out (by decide)))) _).trans (((cell_far (p := ⟨gb205, _, none⟩) (XSq.fr (Kd.own_blk (Kd.R_ne HO197.out BK205.out (by decide)))) _).trans (((cell_far (p := ⟨gb205, _, none⟩) (XSq.fr (Kd.own_blk (Kd.R_ne HO197.out BK205.out (by decide)))) _).trans (((cell_far (p := ⟨gb205, _, none⟩) (XSq.fr (Kd.own_blk (Kd.R_ne HO197.out BK205.out (by decide)))) _).trans (((cell_far (p := ⟨gb205, _, none⟩) (XSq.fr (Kd.own_blk (Kd.R_ne HO197.out BK205.out (by decide)))) _).trans (((cell_far (p := ⟨gb205, _, none⟩) (XSq.fr (Kd.own_blk (Kd.R_ne HO197.out BK205.out (by decide)))) _).trans (hHeld.2.2.2.2.2.1)))))))))))))), ((cell_far (p := ⟨gb205, _, none⟩) (XSq.fr (Kd.own_blk (Kd.R_ne HO197.out BK205.out (by decide)))) _).trans (((cell_far (p := ⟨gb205, _, none⟩) (XSq.fr (Kd.own_blk (Kd.R_ne HO197.out BK205.out (by decide)))) _).trans (((cell_far (p := ⟨gb205, _, none⟩) (XSq.fr (Kd.own_blk (Kd.R_ne HO197.out BK205.out (by decide)))) _).trans (((cell_far (p := ⟨gb205, _, none⟩) (XSq.fr (Kd.own_blk (Kd.R_ne HO197.out BK205.out (by decide)))) _).trans (((cell_far (p := ⟨gb205, _, none⟩) (XSq.fr (Kd.own_blk (Kd.R_ne HO197.out BK205.out (by decide)))) _).trans (((cell_far (p := ⟨gb205, _, none⟩) (XSq.fr (Kd.own_blk (Kd.R_ne HO197.out BK205.out (by decide)))) _).trans (((cell_far (p := ⟨gb205, _, none⟩) (XSq.fr (Kd.own_blk (Kd.R_ne HO197.out BK205.out (by decide)))) _).trans (hHeld.2.2.2.2.2.2))))))))))))))⟩ (fun hHeld => ?_)
             clear hK K
             refine done_ (done_of HT_.out (by kernel_rfl)) ?_
             have hnb76 := NB184_205.out; have hnc76 := NB205_184.out; have hcz77_0 : w68.cell? ⟨gb184, 0, none⟩ = some (.string ⟨#[]⟩) := (blk_cell BK184.out 0).trans rfl; have hcz77_1 : w68.cell? ⟨gb184, 1, none⟩ = some (.int .i64 0) := (blk_cell BK184.out 1).trans rfl; have hcz77_2 : w68.cell? ⟨gb184, 2, none⟩ = some (.int .i64 0) := (blk_cell BK184.out 2).trans rfl; have hcz77_3 : w68.cell? ⟨gb184, 3, none⟩ = some (.string ⟨#[]⟩) := (blk_cell BK184.out 3).trans rfl; have hcz77_4 : w68.cell? ⟨gb184, 4, none⟩ = some (.int .i64 0) := (blk_cell BK184.out 4).trans rfl; have hcz77_5 : w68.cell? ⟨gb184, 5, none⟩ = some (.int .i64 0) := (blk_cell BK184.out 5).trans rfl; have hcz77_6 : w68.cell? ⟨gb184, 6, none⟩ = some (.int .i64 0) := (blk_cell BK184.out 6).trans rfl; have hfz77_0 := blk_frozen BK184.out 0; have hfz77_1 := blk_frozen BK184.out 1; have hfz77_2 := blk_frozen BK184.out 2; have hfz77_3 := blk_frozen BK184.out 3; have hfz77_4 := blk_frozen BK184.out 4; have hfz77_5 := blk_frozen BK184.out 5; have hfz77_6 := blk_frozen BK184.out 6
             try go_wp2
             refine bodyPost_ret (results_ct rfl _ _ gb184 23 #[.string ⟨#[]⟩, .int .i64 0, .int .i64 0, .string ⟨#[]⟩, .int .i64 0, .int .i64 0, .int .i64 0] (0, 0) _ rfl (by (with_reducible repeat (first | refine blk_drewN ?_ _ | refine blk_drew ?_ | refine blk_alloc ?_ _)); refine blk_put (cs := #[.string ⟨#[]⟩, .int .i64 0, .int .i64 0, .string ⟨#[]⟩, .int .i64 0, .int .i64 0, .int .i64 0]) ?_ 6 _ rfl; (with_reducible repeat (first | refine blk_drewN ?_ _ | refine blk_drew ?_ | refine blk_alloc ?_ _)); refine blk_put (cs := #[.string ⟨#[]⟩, .int .i64 0, .int .i64 0, .string ⟨#[]⟩, .int .i64 0, .int .i64 0, .int .i64 0]) ?_ 5 _ rfl; (with_reducible repeat (first | refine blk_drewN ?_ _ | refine blk_drew ?_ | refine blk_alloc ?_ _)); refine blk_put (cs := #[.string ⟨#[]⟩, .int .i64 0, .int .i64 0, .string ⟨#[]⟩, .int .i64 0, .int .i64 0, .int .i64 0]) ?_ 4 _ rfl; (with_reducible repeat (first | refine blk_drewN ?_ _ | refine blk_drew ?_ | refine blk_alloc ?_ _)); refine blk_put (cs := #[.string ⟨#[]⟩, .int .i64 0, .int .i64 0, .string ⟨#[]⟩, .int .i64 0, .int .i64 0, .int .i64 0]) ?_ 3 _ rfl; (with_reducible repeat (first | refine blk_drewN ?_ _ | refine blk_drew ?_ | refine blk_alloc ?_ _)); refine blk_put (cs := #[.string ⟨#[]⟩, .int .i64 0, .int .i64 0, .string ⟨#[]⟩, .int .i64 0, .int .i64 0, .int .i64 0]) ?_ 2 _ rfl; (with_reducible repeat (first | refine blk_drewN ?_ _ | refine blk_drew ?_ | refine blk_alloc ?_ _)); refine blk_put (cs := #[.string ⟨#[]⟩, .int .i64 0, .int .i64 0, .string ⟨#[]⟩, .int .i64 0, .int .i64 0, .int .i64 0]) ?_ 1 _ rfl; (with_reducible repeat (first | refine blk_drewN ?_ _ | refine blk_drew ?_ | refine blk_alloc ?_ _)); refine blk_put (cs := #[.string ⟨#[]⟩, .int .i64 0, .int .i64 0, .string ⟨#[]⟩, .int .i64 0, .int .i64 0, .int .i64 0]) ?_ 0 _ rfl; (with_reducible repeat (first | refine blk_drewN ?_ _ | refine blk_drew ?_ | refine blk_alloc ?_ _)); refine blk_far ?_ NB184_205.out _; (with_reducible repeat (first | refine blk_drewN ?_ _ | refine blk_drew ?_ | refine blk_alloc ?_ _)); refine blk_far ?_ NB184_205.out _; (with_reducible repeat (first | refine blk_drewN ?_ _ | refine blk_drew ?_ | refine blk_alloc ?_ _)); refine blk_far ?_ NB184_205.out _; (with_reducible repeat (first | refine blk_drewN ?_ _ | refine blk_drew ?_ | refine blk_alloc ?_ _)); refine blk_far ?_ NB184_205.out _; (with_reducible repeat (first | refine blk_drewN ?_ _ | refine blk_drew ?_ | refine blk_alloc ?_ _)); refine blk_far ?_ NB184_205.out _; (with_reducible repeat (first | refine blk_drewN ?_ _ | refine blk_drew ?_ | refine blk_alloc ?_ _)); refine blk_far ?_ NB184_205.out _; (with_reducible repeat (first | refine blk_drewN ?_ _ | refine blk_drew ?_ | refine blk_alloc ?_ _)); refine blk_far ?_ NB184_205.out _; (with_reducible repeat (first | refine blk_drewN ?_ _ | refine blk_drew ?_ | refine blk_alloc ?_ _)); exact BK184.out) Tryd.underlying23 rfl (by kernel_rfl)) rfl ?_
             exact ⟨by first | rfl | (simp [errW_none, errW_some] <;> rfl) | (simp [*, errW_none, errW_some] <;> rfl), by repeat (first | (with_reducible first | exact HB.out | apply below_alloc | apply pw_below_drewN | apply below_drew1 | refine below_set ?_ GE184.out | refine below_set ?_ GE205.out) | exact HB.out)⟩
           ·
            replace c15 := Bool.eq_false_iff.mpr c15; subst c15
            have H1 : (some ((⟨#[]⟩ : ByteArray), 0, 0, (⟨#[]⟩ : ByteArray), 0, 0, 0, false)) = some (r1, r2, r3, r4, r5, r6, r7, r8) := by rw [if_neg (show ¬ (false = true) by decide)] at H; exact H
            clear H; have H := H1; clear H1
            simp only [Option.some.injEq, Prod.mk.injEq] at H
            obtain ⟨rfl, rfl, rfl, rfl, rfl, rfl, rfl, rfl⟩ := H
            go_enter Tryd.func7, Tryd.ntmps7
            try go_wp2_with (first | ((with_reducible refine gate_dst (N := 2) rfl ?_); refine box_event ?hg (N := 2) ?hd (cs := #[.string ⟨#[]⟩, .int .i64 0, .int .i64 0, .string ⟨#[]⟩, .int .i64 0, .int .i64 0, .int .i64 0]) (t := 23) ?hr ?_; (case hd => rfl); (case hg => rfl); (case hr => first | (go_simp; done) | (go_simp; rfl)); intro gb184 hg w78 hbox hb; have BK184 := Aside0.mk (hbox); have GW184 := XSq.gw hg (XSq.bB HB); have GE184 := XSq.gw hg (XSq.bB HB); replace HB := Aside0.mk (below_step (XSq.bB HB) hb); clear hb hbox hg) | ((with_reducible refine gate_callee (f := 17) rfl ?_); refine goesL_ (some 11) rfl rfl Tryd.func17 (by kernel_rfl) rfl #[.string a0, .string (⟨#[58]⟩ : ByteArray)] rfl (by (try simp only [List.map_toArray, List.map_cons, List.map_nil]); first | done | rfl | (simp only [List.length_drop, List.length_take]; rfl)) ?_; (with_reducible refine (strings_Split.calls a0 (⟨#[58]⟩ : ByteArray) t185 _ A2.out).mono ?_); rintro e w79 ⟨v186, rfl, ho0, hb⟩; refine ⟨_, rfl, ?_⟩; have HO187 := Aside0.mk (Kd.R_lower ho0 (below_size (XSq.bB HB))); replace BK184 := Aside0.mk (blk_below (g := gb184) (o := .cells #[.string ⟨#[]⟩, .int .i64 0, .int .i64 0, .string ⟨#[]⟩, .int .i64 0, .int .i64 0, .int .i64 0] 23 (0, 0)) (XSq.bq BK184) hb); replace HB := Aside0.mk (below_step (XSq.bB HB) hb); clear hb; (try clear hb2); (try clear hk); (try clear hi); (try clear ho0); obtain ⟨Ao80, co80, eo80⟩ := Kd.R_slice HO187.out; subst eo80; have p188 : 0 ≤ (1 : Int) := (by omega); have q188 : 1 < (t185.length : Int) := of_decide_eq_true (by first | (with_reducible assumption) | assumption); obtain ⟨ad188, e188, hx188_0⟩ := Kd.at_string (Kd.R_reads' HO187.out).2.2 1 p188 q188; cases e188; (try simp only [show (1 : Int).toNat = 1 from rfl, Nat.reduceMul, Nat.reduceEqDiff, Go.Addr.add, ↓reduceIte] at hx188_0); have qi188 : (1 < t185.length) = True := eq_true (by omega); (try rw [show ((1 : Int)).toNat = 1 from rfl] at hx188_0); replace p188 := eq_true p188; replace q188 := eq_true q188) | ((with_reducible refine gate_callee (f := 18) rfl ?_); refine goesL_ (some 20) rfl rfl Tryd.func18 (by kernel_rfl) rfl #[.string (rdOf ByteArray.empty t185 1), .string (⟨#[120]⟩ : ByteArray), .int .i64 2, .int .i64 9] rfl (by (try simp only [List.map_toArray, List.map_cons, List.map_nil]); first | done | rfl | (simp only [List.length_drop, List.length_take]; rfl)) ?_; (with_reducible refine (impl_numbers.calls k (rdOf ByteArray.empty t185 1) (⟨#[120]⟩ : ByteArray) 2 9 t189 false _ (XEv.below HE.out (XSq.bB HB)) A5.out).mono ?_); rintro e w81 ⟨v191, rfl, ho0, hb⟩; refine ⟨_, rfl, ?_⟩; have HO192 := Aside0.mk (Kd.R_lower ho0 (below_size (XSq.bB HB))); replace HO187 := Aside0.mk (Kd.R_below (XSq.pR HO187) hb); replace BK184 := Aside0.mk (blk_below (g := gb184) (o := .cells #[.string ⟨#[]⟩, .int .i64 0, .int .i64 0, .string ⟨#[]⟩, .int .i64 0, .int .i64 0, .int .i64 0] 23 (0, 0)) (XSq.bq BK184) hb); replace HB := Aside0.mk (below_step (XSq.bB HB) hb); clear hb; (try clear hb2); (try clear hk); (try clear hi); (try clear ho0); have p193 : 0 ≤ (3 : Int) := (by omega); have q193 : 3 < (t185.length : Int) := of_decide_eq_true (by first | (with_reducible assumption) | assumption); obtain ⟨ad193, e193, hx193_0⟩ := Kd.at_string (Kd.R_reads' HO187.out).2.2 3 p193 q193; obtain rfl : ad188 = ad193 := (by injection e193); (try simp only [show (3 : Int).toNat = 3 from rfl, Nat.reduceMul, Nat.reduceEqDiff, Go.Addr.add, ↓reduceIte] at hx193_0); have qi193 : (3 < t185.length) = True := eq_true (by omega); (try rw [show ((3 : Int)).toNat = 3 from rfl] at hx193_0); replace p193 := eq_true p193; replace q193 := eq_true q193) | ((with_reducible refine gate_callee (f := 18) rfl ?_); refine goesL_ (some 27) rfl rfl Tryd.func18 (by kernel_rfl) rfl #[.string (rdOf ByteArray.empty t185 3), .string (⟨#[44]⟩ : ByteArray), .int .i64 3, .int .i64 9] rfl (by (try simp only [List.map_toArray, List.map_cons, List.map_nil]); first | done | rfl | (simp only [List.length_drop, List.length_take]; rfl)) ?_; (with_reducible refine (impl_numbers.calls k (rdOf ByteArray.empty t185 3) (⟨#[44]⟩ : ByteArray) 3 9 t194 t195 _ (XEv.below HE.out (XSq.bB HB)) A7.out).mono ?_); rintro e w82 ⟨v196, rfl, ho0, hb⟩; refine ⟨_, rfl, ?_⟩; have HO197 := Aside0.mk (Kd.R_lower (Kd.R_new' ho0 (Kd.R_lt (XSq.pR HO192))) (below_size (XSq.bB HB))); replace HO187 := Aside0.mk (Kd.R_below (XSq.pR HO187) hb); replace HO192 := Aside0.mk (Kd.R_elder' (XSq.pR HO192) (Kd.R_base ho0) hb); replace BK184 := Aside0.mk (blk_below (g := gb184) (o := .cells #[.string ⟨#[]⟩, .int .i64 0, .int .i64 0, .string ⟨#[]⟩, .int .i64 0, .int .i64 0, .int .i64 0] 23 (0, 0)) (XSq.bq BK184) hb); replace HB := Aside0.mk (below_step (XSq.bB HB) hb); clear hb; (try clear hb2); (try clear hk); (try clear hi); (try clear ho0)))
            replace HO187 := Aside0.mk (Kd.R_drew HO187.out); replace HO192 := Aside0.mk (Kd.R_drew HO192.out); replace HO197 := Aside0.mk (Kd.R_drew HO197.out); replace BK184 := Aside0.mk (blk_drew BK184.out); replace HB := Aside0.mk (below_drew1 HB.out); have p198 : 0 ≤ (0 : Int) := (by omega); have q198 : 0 < (t185.length : Int) := of_decide_eq_true (by first | (with_reducible assumption) | assumption); obtain ⟨ad198, e198, hx198_0⟩ := Kd.at_string (Kd.R_reads' HO187.out).2.2 0 p198 q198; obtain rfl : ad188 = ad198 := (by injection e198); have qi198 : (0 < t185.length) = True := eq_true (by omega)
            (try rw [show ((0 : Int)).toNat = 0 from rfl] at hx198_0)
            (try rw [Addr.add_zero'] at hx198_0)
            replace p198 := eq_true p198; replace q198 := eq_true q198; obtain ⟨Ao84, co84, eo84⟩ := Kd.R_slice HO192.out
            (first | subst eo84 | (injection eo84 with f1_ f2_ f3_; have f4_ := f1_.symm; have f5_ := f3_.symm; clear f1_ f2_ f3_; subst f4_; subst f5_))
            have p199 : 0 ≤ (0 : Int) := (by omega); have q199 : 0 < (t189.length : Int) := of_decide_eq_true (by first | (with_reducible assumption) | assumption); obtain ⟨ad199, e199, hx199_0⟩ := Kd.at_int (Kd.R_reads' HO192.out).2.2 0 p199 q199; cases e199; have qi199 : (0 < t189.length) = True := eq_true (by omega)
            (try rw [show ((0 : Int)).toNat = 0 from rfl] at hx199_0)
            (try rw [Addr.add_zero'] at hx199_0)
            replace p199 := eq_true p199; replace q199 := eq_true q199; have p200 : 0 ≤ (1 : Int) := (by omega); have q200 : 1 < (t189.length : Int) := of_decide_eq_true (by first | (with_reducible assumption) | assumption); obtain ⟨ad200, e200, hx200_0⟩ := Kd.at_int (Kd.R_reads' HO192.out).2.2 1 p200 q200; obtain rfl : ad199 = ad200 := (by injection e200)
            (try simp only [show (1 : Int).toNat = 1 from rfl, Nat.reduceMul, Nat.reduceEqDiff, Go.Addr.add, ↓reduceIte] at hx200_0)
            have qi200 : (1 < t189.length) = True := eq_true (by omega)
            (try rw [show ((1 : Int)).toNat = 1 from rfl] at hx200_0)
            replace p200 := eq_true p200; replace q200 := eq_true q200; have p201 : 0 ≤ (2 : Int) := (by omega); have q201 : 2 < (t185.length : Int) := of_decide_eq_true (by first | (with_reducible assumption) | assumption); obtain ⟨ad201, e201, hx201_0⟩ := Kd.at_string (Kd.R_reads' HO187.out).2.2 2 p201 q201; obtain rfl : ad188 = ad201 := (by injection e201)
            (try simp only [show (2 : Int).toNat = 2 from rfl, Nat.reduceMul, Nat.reduceEqDiff, Go.Addr.add, ↓reduceIte] at hx201_0)
            have qi201 : (2 < t185.length) = True := eq_true (by omega)
            (try rw [show ((2 : Int)).toNat = 2 from rfl] at hx201_0)
            replace p201 := eq_true p201; replace q201 := eq_true q201; obtain ⟨Ao85, co85, eo85⟩ := Kd.R_slice HO197.out
            (first | subst eo85 | (injection eo85 with f1_ f2_ f3_; have f4_ := f1_.symm; have f5_ := f3_.symm; clear f1_ f2_ f3_; subst f4_; subst f5_))
            have p202 : 0 ≤ (0 : Int) := (by omega); have q202 : 0 < (t194.length : Int) := of_decide_eq_true (by first | (with_reducible assumption) | assumption); obtain ⟨ad202, e202, hx202_0⟩ := Kd.at_int (Kd.R_reads' HO197.out).2.2 0 p202 q202; cases e202; have qi202 : (0 < t194.length) = True := eq_true (by omega)
            (try rw [show ((0 : Int)).toNat = 0 from rfl] at hx202_0)
            (try rw [Addr.add_zero'] at hx202_0)
            replace p202 := eq_true p202; replace q202 := eq_true q202; have p203 : 0 ≤ (1 : Int) := (by omega); have q203 : 1 < (t194.length : Int) := of_decide_eq_true (by first | (with_reducible assumption) | assumption); obtain ⟨ad203, e203, hx203_0⟩ := Kd.at_int (Kd.R_reads' HO197.out).2.2 1 p203 q203; obtain rfl : ad202 = ad203 := (by injection e203)
            (try simp only [show (1 : Int).toNat = 1 from rfl, Nat.reduceMul, Nat.reduceEqDiff, Go.Addr.add, ↓reduceIte] at hx203_0)
            have qi203 : (1 < t194.length) = True := eq_true (by omega)
            (try rw [show ((1 : Int)).toNat = 1 from rfl] at hx203_0)
            replace p203 := eq_true p203; replace q203 := eq_true q203; have p204 : 0 ≤ (2 : Int) := (by omega); have q204 : 2 < (t194.length : Int) := of_decide_eq_true (by first | (with_reducible assumption) | assumption); obtain ⟨ad204, e204, hx204_0⟩ := Kd.at_int (Kd.R_reads' HO197.out).2.2 2 p204 q204; obtain rfl : ad202 = ad204 := (by injection e204)
            (try simp only [show (2 : Int).toNat = 2 from rfl, Nat.reduceMul, Nat.reduceEqDiff, Go.Addr.add, ↓reduceIte] at hx204_0)
            have qi204 : (2 < t194.length) = True := eq_true (by omega)
            (try rw [show ((2 : Int)).toNat = 2 from rfl] at hx204_0)
            replace p204 := eq_true p204; replace q204 := eq_true q204
            refine start_ (n := 24) (S := fun w' => w'.cell? ad188 = some (.string (rdOf ByteArray.empty t185 0)) ∧ w'.cell? ad199 = some (.int .i64 (rd t189 0)) ∧ w'.cell? ⟨ad199.block, ad199.off + 1, none⟩ = some (.int .i64 (rd t189 1)) ∧ w'.cell? ⟨ad188.block, ad188.off + 2, none⟩ = some (.string (rdOf ByteArray.empty t185 2)) ∧ w'.cell? ad202 = some (.int .i64 (rd t194 0)) ∧ w'.cell? ⟨ad202.block, ad202.off + 1, none⟩ = some (.int .i64 (rd t194 1)) ∧ w'.cell? ⟨ad202.block, ad202.off + 2, none⟩ = some (.int .i64 (rd t194 2))) (ds := []) #[false, false, false, false, false, false, false, false, false, false, false, false, false, false, false, false, false, false, false, false, false, false, false, false] (by kernel_rfl) rfl rfl ⟨hx198_0, hx199_0, hx200_0, hx201_0, hx202_0, hx203_0, hx204_0⟩ (fun hHeld => ?_); refine with_tabW impl_ParseWorld.tab6 impl_ParseWorld.bits6 (fun HT_ HW_ => ?_)
            generalize w82.drew = w83 at HO187 HO192 HO197 BK184 HB hx198_0 hx199_0 hx200_0 hx201_0 hx202_0 hx203_0 hx204_0 hHeld ⊢
            refine pure_ (i := 0) (N := some 30) (v := ?_) (a' := ?_) #[true, false, false, false, false, false, false, false, false, false, false, false, false, false, false, false, false, false, false, false, false, false, false, false] rfl rfl (any_of HT_.out (by kernel_rfl)) (fun _ _ _ h => h) (Or.inl ⟨by rfl, ?_⟩) ?_ ?_
            rotate_left
            ·
             intro w'
             go_simp
             with_reducible rfl
            rotate_left
            ·
             simp only [Act.put, List.setIfInBounds_toArray, List.set_cons_zero, List.set_cons_succ, i64_w, i32_w]
             rfl
            refine pure_ (i := 1) (N := some 31) (v := ?_) (a' := ?_) #[true, true, false, false, false, false, false, false, false, false, false, false, false, false, false, false, false, false, false, false, false, false, false, false] rfl rfl (any_of HT_.out (by kernel_rfl)) (fun _ _ _ h => h) (Or.inl ⟨by rfl, ?_⟩) ?_ ?_
            rotate_left
            ·
             intro w'
             go_simp
             with_reducible rfl
            rotate_left
            ·
             simp only [Act.put, List.setIfInBounds_toArray, List.set_cons_zero, List.set_cons_succ, i64_w, i32_w]
             rfl
            refine pure_ (i := 3) (N := some 33) (v := ?_) (a' := ?_) #[true, true, false, true, false, false, false, false, false, false, false, false, false, false, false, false, false, false, false, false, false, false, false, false] rfl rfl (any_of HT_.out (by kernel_rfl)) (fun _ _ _ h => h) (Or.inl ⟨by rfl, ?_⟩) ?_ ?_
            rotate_left
            ·
             intro w'
             go_simp
             with_reducible rfl
            rotate_left
            ·
             simp only [Act.put, List.setIfInBounds_toArray, List.set_cons_zero, List.set_cons_succ, i64_w, i32_w]
             rfl
            refine pure_ (i := 4) (N := some 34) (v := ?_) (a' := ?_) #[true, true, false, true, true, false, false, false, false, false, false, false, false, false, false, false, false, false, false, false, false, false, false, false] rfl rfl (any_of HT_.out (by kernel_rfl)) (fun _ _ _ h => h) (Or.inl ⟨by rfl, ?_⟩) ?_ ?_
            rotate_left
            ·
             intro w'
             go_simp
             with_reducible rfl
            rotate_left
            ·
             simp only [Act.put, List.setIfInBounds_toArray, List.set_cons_zero, List.set_cons_succ, i64_w, i32_w]
             rfl
            refine pure_ (i := 6) (N := some 36) (v := ?_) (a' := ?_) #[true, true, false, true, true, false, true, false, false, false, false, false, false, false, false, false, false, false, false, false, false, false, false, false] rfl rfl (any_of HT_.out (by kernel_rfl)) (fun _ _ _ h => h) (Or.inl ⟨by rfl, ?_⟩) ?_ ?_
            rotate_left
            ·
             intro w'
             go_simp
             with_reducible rfl
            rotate_left
            ·
             simp only [Act.put, List.setIfInBounds_toArray, List.set_cons_zero, List.set_cons_succ, i64_w, i32_w]
             rfl
            refine pure_ (i := 7) (N := some 37) (v := ?_) (a' := ?_) #[true, true, false, true, true, false, true, true, false, false, false, false, false, false, false, false, false, false, false, false, false, false, false, false] rfl rfl (any_of HT_.out (by kernel_rfl)) (fun _ _ _ h => h) (Or.inl ⟨by rfl, ?_⟩) ?_ ?_
            rotate_left
            ·
             intro w'
             go_simp
             with_reducible rfl
            rotate_left
            ·
             simp only [Act.put, List.setIfInBounds_toArray, List.set_cons_zero, List.set_cons_succ, i64_w, i32_w]
             rfl
            refine pure_ (i := 9) (N := some 39) (v := ?_) (a' := ?_) #[true, true, false, true, true, false, true, true, false, true, false, false, false, false, false, false, false, false, false, false, false, false, false, false] rfl rfl (any_of HT_.out (by kernel_rfl)) (fun _ _ _ h => h) (Or.inl ⟨by rfl, ?_⟩) ?_ ?_
            rotate_left
            ·
             intro w'
             go_simp
             with_reducible rfl
            rotate_left
            ·
             simp only [Act.put, List.setIfInBounds_toArray, List.set_cons_zero, List.set_cons_succ, i64_w, i32_w]
             rfl
            refine pure_ (i := 10) (N := some 40) (v := ?_) (a' := ?_) #[true, true, false, true, true, false, true, true, false, true, true, false, false, false, false, false, false, false, false, false, false, false, false, false] rfl rfl (any_of HT_.out (by kernel_rfl)) (fun _ _ _ h => h) (Or.inl ⟨by rfl, ?_⟩) ?_ ?_
            rotate_left
            ·
             intro w'
             go_simp
             with_reducible rfl
            rotate_left
            ·
             simp only [Act.put, List.setIfInBounds_toArray, List.set_cons_zero, List.set_cons_succ, i64_w, i32_w]
             rfl
            refine pure_ (i := 12) (N := some 42) (v := ?_) (a' := ?_) #[true, true, false, true, true, false, true, true, false, true, true, false, true, false, false, false, false, false, false, false, false, false, false, false] rfl rfl (any_of HT_.out (by kernel_rfl)) (fun _ _ _ h => h) (Or.inl ⟨by rfl, ?_⟩) ?_ ?_
            rotate_left
            ·
             intro w'
             go_simp
             with_reducible rfl
            rotate_left
            ·
             simp only [Act.put, List.setIfInBounds_toArray, List.set_cons_zero, List.set_cons_succ, i64_w, i32_w]
             rfl
            refine pure_ (i := 13) (N := some 43) (v := ?_) (a' := ?_) #[true, true, false, true, true, false, true, true, false, true, true, false, true, true, false, false, false, false, false, false, false, false, false, false] rfl rfl (any_of HT_.out (by kernel_rfl)) (fun _ _ _ h => h) (Or.inl ⟨by rfl, ?_⟩) ?_ ?_
            rotate_left
            ·
             intro w'
             go_simp
             with_reducible rfl
            rotate_left
            ·
             simp only [Act.put, List.setIfInBounds_toArray, List.set_cons_zero, List.set_cons_succ, i64_w, i32_w]
             rfl
            refine pure_ (i := 15) (N := some 45) (v := ?_) (a' := ?_) #[true, true, false, true, true, false, true, true, false, true, true, false, true, true, false, true, false, false, false, false, false, false, false, false] rfl rfl (any_of HT_.out (by kernel_rfl)) (fun _ _ _ h => h) (Or.inl ⟨by rfl, ?_⟩) ?_ ?_
            rotate_left
            ·
             intro w'
             go_simp
             with_reducible rfl
            rotate_left
            ·
             simp only [Act.put, List.setIfInBounds_toArray, List.set_cons_zero, List.set_cons_succ, i64_w, i32_w]
             rfl
            refine pure_ (i := 16) (N := some 46) (v := ?_) (a' := ?_) #[true, true, false, true, true, false, true, true, false, true, true, false, true, true, false, true, true, false, false, false, false, false, false, false] rfl rfl (any_of HT_.out (by kernel_rfl)) (fun _ _ _ h => h) (Or.inl ⟨by rfl, ?_⟩) ?_ ?_
            rotate_left
            ·
             intro w'
             go_simp
             with_reducible rfl
            rotate_left
            ·
             simp only [Act.put, List.setIfInBounds_toArray, List.set_cons_zero, List.set_cons_succ, i64_w, i32_w]
             rfl
            refine pure_ (i := 18) (N := some 48) (v := ?_) (a' := ?_) #[true, true, false, true, true, false, true, true, false, true, true, false, true, true, false, true, true, false, true, false, false, false, false, false] rfl rfl (any_of HT_.out (by kernel_rfl)) (fun _ _ _ h => h) (Or.inl ⟨by rfl, ?_⟩) ?_ ?_
            rotate_left
            ·
             intro w'
             go_simp
             with_reducible rfl
            rotate_left
            ·
             simp only [Act.put, List.setIfInBounds_toArray, List.set_cons_zero, List.set_cons_succ, i64_w, i32_w]
             rfl
            refine pure_ (i := 19) (N := some 49) (v := ?_) (a' := ?_) #[true, true, false, true, true, false, true, true, false, true, true, false, true, true, false, true, true, false, true, true, false, false, false, false] rfl rfl (any_of HT_.out (by kernel_rfl)) (fun _ _ _ h => h) (Or.inl ⟨by rfl, ?_⟩) ?_ ?_
            rotate_left
            ·
             intro w'
             go_simp
             with_reducible rfl
            rotate_left
            ·
             simp only [Act.put, List.setIfInBounds_toArray, List.set_cons_zero, List.set_cons_succ, i64_w, i32_w]
             rfl
            refine take_ (i := 2) (N := some 32) (v := ?_) (a' := ?_) #[true, true, true, true, true, false, true, true, false, true, true, false, true, true, false, true, true, false, true, true, false, false, false, false] rfl rfl (take_ofW HT_.out HW_.out (by kernel_rfl)) (fun _ _ _ h => h) (Or.inl ⟨by rfl, ?_⟩) hHeld ?_ ?_
            rotate_left
            ·
             rintro w' ⟨s0, s1, s2, s3, s4, s5, s6⟩
             go_simp
             with_reducible rfl
            rotate_left
            ·
             simp only [Act.put, List.setIfInBounds_toArray, List.set_cons_zero, List.set_cons_succ, i64_w, i32_w]
             rfl
            refine take_ (i := 5) (N := some 35) (v := ?_) (a' := ?_) #[true, true, true, true, true, true, true, true, false, true, true, false, true, true, false, true, true, false, true, true, false, false, false, false] rfl rfl (take_ofW HT_.out HW_.out (by kernel_rfl)) (fun _ _ _ h => h) (Or.inl ⟨by rfl, ?_⟩) hHeld ?_ ?_
            rotate_left
            ·
             rintro w' ⟨s0, s1, s2, s3, s4, s5, s6⟩
             go_simp
             with_reducible rfl
            rotate_left
            ·
             simp only [Act.put, List.setIfInBounds_toArray, List.set_cons_zero, List.set_cons_succ, i64_w, i32_w]
             rfl
            refine take_ (i := 8) (N := some 38) (v := ?_) (a' := ?_) #[true, true, true, true, true, true, true, true, true, true, true, false, true, true, false, true, true, false, true, true, false, false, false, false] rfl rfl (take_ofW HT_.out HW_.out (by kernel_rfl)) (fun _ _ _ h => h) (Or.inl ⟨by rfl, ?_⟩) hHeld ?_ ?_
            rotate_left
            ·
             rintro w' ⟨s0, s1, s2, s3, s4, s5, s6⟩
             go_simp
             with_reducible rfl
            rotate_left
            ·
             simp only [Act.put, List.setIfInBounds_toArray, List.set_cons_zero, List.set_cons_succ, i64_w, i32_w]
             rfl
            refine take_ (i := 11) (N := some 41) (v := ?_) (a' := ?_) #[true, true, true, true, true, true, true, true, true, true, true, true, true, true, false, true, true, false, true, true, false, false, false, false] rfl rfl (take_ofW HT_.out HW_.out (by kernel_rfl)) (fun _ _ _ h => h) (Or.inl ⟨by rfl, ?_⟩) hHeld ?_ ?_
            rotate_left
            ·
             rintro w' ⟨s0, s1, s2, s3, s4, s5, s6⟩
             go_simp
             with_reducible rfl
            rotate_left
            ·
             simp only [Act.put, List.setIfInBounds_toArray, List.set_cons_zero, List.set_cons_succ, i64_w, i32_w]
             rfl
            refine take_ (i := 14) (N := some 44) (v := ?_) (a' := ?_) #[true, true, true, true, true, true, true, true, true, true, true, true, true, true, true, true, true, false, true, true, false, false, false, false] rfl rfl (take_ofW HT_.out HW_.out (by kernel_rfl)) (fun _ _ _ h => h) (Or.inl ⟨by rfl, ?_⟩) hHeld ?_ ?_
            rotate_left
            ·
             rintro w' ⟨s0, s1, s2, s3, s4, s5, s6⟩
             go_simp
             with_reducible rfl
            rotate_left
            ·
             simp only [Act.put, List.setIfInBounds_toArray, List.set_cons_zero, List.set_cons_succ, i64_w, i32_w]
             rfl
            refine take_ (i := 17) (N := some 47) (v := ?_) (a' := ?_) #[true, true, true, true, true, true, true, true, true, true, true, true, true, true, true, true, true, true, true, true, false, false, false, false] rfl rfl (take_ofW HT_.out HW_.out (by kernel_rfl)) (fun _ _ _ h => h) (Or.inl ⟨by rfl, ?_⟩) hHeld ?_ ?_
            rotate_left
            ·
             rintro w' ⟨s0, s1, s2, s3, s4, s5, s6⟩
             go_simp
             with_reducible rfl
            rotate_left
            ·
             simp only [Act.put, List.setIfInBounds_toArray, List.set_cons_zero, List.set_cons_succ, i64_w, i32_w]
             rfl
            refine take_ (i := 20) (N := some 50) (v := ?_) (a' := ?_) #[true, true, true, true, true, true, true, true, true, true, true, true, true, true, true, true, true, true, true, true, true, false, false, false] rfl rfl (take_ofW HT_.out HW_.out (by kernel_rfl)) (fun _ _ _ h => h) (Or.inl ⟨by rfl, ?_⟩) hHeld ?_ ?_
            rotate_left
            ·
             rintro w' ⟨s0, s1, s2, s3, s4, s5, s6⟩
             go_simp
             with_reducible rfl
            rotate_left
            ·
             simp only [Act.put, List.setIfInBounds_toArray, List.set_cons_zero, List.set_cons_succ, i64_w, i32_w]
             rfl
            refine pure_ (i := 21) (N := some 51) (v := ?_) (a' := ?_) #[true, true, true, true, true, true, true, true, true, true, true, true, true, true, true, true, true, true, true, true, true, true, false, false] rfl rfl (any_of HT_.out (by kernel_rfl)) (fun _ _ _ h => h) (Or.inl ⟨by rfl, ?_⟩) ?_ ?_
            rotate_left
            ·
             intro w'
             go_simp
             with_reducible rfl
            rotate_left
            ·
             simp only [Act.put, List.setIfInBounds_toArray, List.set_cons_zero, List.set_cons_succ, i64_w, i32_w]
             rfl
            refine one_ (i := 22) (N := some 9) #[true, true, true, true, true, true, true, true, true, true, true, true, true, true, true, true, true, true, true, true, true, true, true, false] rfl rfl (one_of HT_.out (by kernel_rfl)) (by decide) (fun K hK => ?_)
            refine box_step ?hg (N := 9) ?hd (cs := #[.string ⟨#[]⟩, .int .i64 0, .int .i64 0, .string ⟨#[]⟩, .int .i64 0, .int .i64 0, .int .i64 0]) (t := 23) ?hr ?_; (case hd => rfl); (case hg => rfl); (case hr => first | (go_simp; done) | (go_simp; rfl))
            intro gb205 hg w86 hbox hb; have HS0_ := (hb.cell (World.block_lt_of_cell? _ _ (hHeld.1))).trans (hHeld.1); have HS1_ := (hb.cell (World.block_lt_of_cell? _ _ (hHeld.2.1))).trans (hHeld.2.1); have HS2_ := (hb.cell (World.block_lt_of_cell? _ _ (hHeld.2.2.1))).trans (hHeld.2.2.1); have HS3_ := (hb.cell (World.block_lt_of_cell? _ _ (hHeld.2.2.2.1))).trans (hHeld.2.2.2.1); have HS4_ := (hb.cell (World.block_lt_of_cell? _ _ (hHeld.2.2.2.2.1))).trans (hHeld.2.2.2.2.1); have HS5_ := (hb.cell (World.block_lt_of_cell? _ _ (hHeld.2.2.2.2.2.1))).trans (hHeld.2.2.2.2.2.1); have HS6_ := (hb.cell (World.block_lt_of_cell? _ _ (hHeld.2.2.2.2.2.2))).trans (hHeld.2.2.2.2.2.2); have n0_ := Aside0.mk (Kd.R_below (XSq.pR HO187) hb); have n1_ := Aside0.mk (Kd.R_below (XSq.pR HO192) hb); have n2_ := Aside0.mk (Kd.R_below (XSq.pR HO197) hb); have n3_ := Aside0.mk (blk_below (g := gb184) (o := .cells #[.string ⟨#[]⟩, .int .i64 0, .int .i64 0, .string ⟨#[]⟩, .int .i64 0, .int .i64 0, .int .i64 0] 23 (0, 0)) (XSq.bq BK184) hb); have n4_ := Aside0.mk (below_step (XSq.bB HB) hb); have n5_ := Aside0.mk (hbox); have n6_ := XSq.gw hg (XSq.bB HB); have n7_ := XSq.gw hg (XSq.bB HB); have n8_ := Aside0.mk ((by rw [hg]; exact Nat.ne_of_lt (blk_lt (g := gb184) (o := .cells #[.string ⟨#[]⟩, .int .i64 0, .int .i64 0, .string ⟨#[]⟩, .int .i64 0, .int .i64 0, .int .i64 0] 23 (0, 0)) (XSq.bq BK184)) : gb184 ≠ gb205)); have n9_ := Aside0.mk ((by rw [hg]; exact Nat.ne_of_gt (blk_lt (g := gb184) (o := .cells #[.string ⟨#[]⟩, .int .i64 0, .int .i64 0, .string ⟨#[]⟩, .int .i64 0, .int .i64 0, .int .i64 0] 23 (0, 0)) (XSq.bq BK184)) : gb205 ≠ gb184)); clear HO187 HO192 HO197 BK184 HB; have HO187 := n0_; have HO192 := n1_; have HO197 := n2_; have BK184 := n3_; have HB := n4_; have BK205 := n5_; have GW205 := n6_; have GE205 := n7_; have NB184_205 := n8_; have NB205_184 := n9_; clear n0_ n1_ n2_ n3_ n4_ n5_ n6_ n7_ n8_ n9_ hb hbox hg
            refine hK.out _ _ ⟨HS0_, HS1_, HS2_, HS3_, HS4_, HS5_, HS6_⟩ (fun hHeld => ?_)
            clear hK K
            refine norm_ (a' := ?_) ?_ ?_
            rotate_left
            ·
             show Act.put _ (some 9) _ = _
             simp only [Act.put, List.setIfInBounds_toArray, List.set_cons_zero, List.set_cons_succ, i64_w, i32_w]
             rfl
            refine one_ (i := 23) (N := none) #[true, true, true, true, true, true, true, true, true, true, true, true, true, true, true, true, true, true, true, true, true, true, true, true] rfl rfl (one_of HT_.out (by kernel_rfl)) (by decide) (fun K hK => ?_)
            have hs87 : w86.cell? ⟨gb205, 0, none⟩ = some (.string ⟨#[]⟩) := (blk_cell BK205.out 0).trans rfl; have hfs87 := blk_frozen BK205.out 0; have hns87_0 := NB184_205.out; have hms87_0 := NB205_184.out; have hs88 : w86.cell? ⟨gb205, 1, none⟩ = some (.int .i64 0) := (blk_cell BK205.out 1).trans rfl; have hfs88 := blk_frozen BK205.out 1; have hns88_0 := NB184_205.out; have hms88_0 := NB205_184.out; have hs89 : w86.cell? ⟨gb205, 2, none⟩ = some (.int .i64 0) := (blk_cell BK205.out 2).trans rfl; have hfs89 := blk_frozen BK205.out 2; have hns89_0 := NB184_205.out; have hms89_0 := NB205_184.out; have hs90 : w86.cell? ⟨gb205, 3, none⟩ = some (.string ⟨#[]⟩) := (blk_cell BK205.out 3).trans rfl; have hfs90 := blk_frozen BK205.out 3; have hns90_0 := NB184_205.out; have hms90_0 := NB205_184.out; have hs91 : w86.cell? ⟨gb205, 4, none⟩ = some (.int .i64 0) := (blk_cell BK205.out 4).trans rfl; have hfs91 := blk_frozen BK205.out 4; have hns91_0 := NB184_205.out; have hms91_0 := NB205_184.out; have hs92 : w86.cell? ⟨gb205, 5, none⟩ = some (.int .i64 0) := (blk_cell BK205.out 5).trans rfl; have hfs92 := blk_frozen BK205.out 5; have hns92_0 := NB184_205.out; have hms92_0 := NB205_184.out; have hs93 : w86.cell? ⟨gb205, 6, none⟩ = some (.int .i64 0) := (blk_cell BK205.out 6).trans rfl; have hfs93 := blk_frozen BK205.out 6; have hns93_0 := NB184_205.out; have hms93_0 := NB205_184.out
            refine skip_ (w1 := ?_) (by rfl) rfl ?_ ?_
            rotate_left
            ·
             go_simp
             rfl
            refine hK.out _ _ ⟨((cell_far (p := ⟨gb205, _, none⟩) (XSq.fr (Kd.own_blk (Kd.R_ne HO187.out BK205.out (by decide)))) _).trans (((cell_far (p := ⟨gb205, _, none⟩) (XSq.fr (Kd.own_blk (Kd.R_ne HO187.out BK205.out (by decide)))) _).trans (((cell_far (p := ⟨gb205, _, none⟩) (XSq.fr (Kd.own_blk (Kd.R_ne HO187.out BK205.out (by decide)))) _).trans (((cell_far (p := ⟨gb205, _, none⟩) (XSq.fr (Kd.own_blk (Kd.R_ne HO187.out BK205.out (by decide)))) _).trans (((cell_far (p := ⟨gb205, _, none⟩) (XSq.fr (Kd.own_blk (Kd.R_ne HO187.out BK205.out (by decide)))) _).trans (((cell_far (p := ⟨gb205, _, none⟩) (XSq.fr (Kd.own_blk (Kd.R_ne HO187.out BK205.out (by decide)))) _).trans (((cell_far (p := ⟨gb205, _, none⟩) (XSq.fr (Kd.own_blk (Kd.R_ne HO187.out BK205.out (by decide)))) _).trans (hHeld.1)))))))))))))), ((cell_far (p := ⟨gb205, _, none⟩) (XSq.fr (Kd.own_blk (Kd.R_ne HO192.out BK205.out (by decide)))) _).trans (((cell_far (p := ⟨gb205, _, none⟩) (XSq.fr (Kd.own_blk (Kd.R_ne HO192.out BK205.out (by decide)))) _).trans (((cell_far (p := ⟨gb205, _, none⟩) (XSq.fr (Kd.own_blk (Kd.R_ne HO192.out BK205.out (by decide)))) _).trans (((cell_far (p := ⟨gb205, _, none⟩) (XSq.fr (Kd.own_blk (Kd.R_ne HO192.out BK205.out (by decide)))) _).trans (((cell_far (p := ⟨gb205, _, none⟩) (XSq.fr (Kd.own_blk (Kd.R_ne HO192.out BK205.out (by decide)))) _).trans (((cell_far (p := ⟨gb205, _, none⟩) (XSq.fr (Kd.own_blk (Kd.R_ne HO192.out BK205.out (by decide)))) _).trans (((cell_far (p := ⟨gb205, _, none⟩) (XSq.fr (Kd.own_blk (Kd.R_ne HO192.out BK205.out (by decide)))) _).trans (hHeld.2.1)))))))))))))), ((cell_far (p := ⟨gb205, _, none⟩) (XSq.fr (Kd.own_blk (Kd.R_ne HO192.out BK205.out (by decide)))) _).trans (((cell_far (p := ⟨gb205, _, none⟩) (XSq.fr (Kd.own_blk (Kd.R_ne HO192.out BK205.out (by decide)))) _).trans (((cell_far (p := ⟨gb205, _, none⟩) (XSq.fr (Kd.own_blk (Kd.R_ne HO192.out BK205.out (by decide)))) _).trans (((cell_far (p := ⟨gb205, _, none⟩) (XSq.fr (Kd.own_blk (Kd.R_ne HO192.out BK205.out (by decide)))) _).trans (((cell_far (p := ⟨gb205, _, none⟩) (XSq.fr (Kd.own_blk (Kd.R_ne HO192.out BK205.out (by decide)))) _).trans (((cell_far (p := ⟨gb205, _, none⟩) (XSq.fr (Kd.own_blk (Kd.R_ne HO192.out BK205.out (by decide)))) _).trans (((cell_far (p := ⟨gb205, _, none⟩) (XSq.fr (Kd.own_blk (Kd.R_ne HO192.out BK205.out (by decide)))) _).trans (hHeld.2.2.1)))))))))))))), ((cell_far (p := ⟨gb205, _, none⟩) (XSq.fr (Kd.own_blk (Kd.R_ne HO187.out BK205.out (by decide)))) _).trans (((cell_far (p := ⟨gb205, _, none⟩) (XSq.fr (Kd.own_blk (Kd.R_ne HO187.out BK205.out (by decide)))) _).trans (((cell_far (p := ⟨gb205, _, none⟩) (XSq.fr (Kd.own_blk (Kd.R_ne HO187.out BK205.out (by decide)))) _).trans (((cell_far (p := ⟨gb205, _, none⟩) (XSq.fr (Kd.own_blk (Kd.R_ne HO187.out BK205.out (by decide)))) _).trans (((cell_far (p := ⟨gb205, _, none⟩) (XSq.fr (Kd.own_blk (Kd.R_ne HO187.out BK205.out (by decide)))) _).trans (((cell_far (p := ⟨gb205, _, none⟩) (XSq.fr (Kd.own_blk (Kd.R_ne HO187.out BK205.out (by decide)))) _).trans (((cell_far (p := ⟨gb205, _, none⟩) (XSq.fr (Kd.own_blk (Kd.R_ne HO187.out BK205.out (by decide)))) _).trans (hHeld.2.2.2.1)))))))))))))), ((cell_far (p := ⟨gb205, _, none⟩) (XSq.fr (Kd.own_blk (Kd.R_ne HO197.out BK205.out (by decide)))) _).trans (((cell_far (p := ⟨gb205, _, none⟩) (XSq.fr (Kd.own_blk (Kd.R_ne HO197.out BK205.out (by decide)))) _).trans (((cell_far (p := ⟨gb205, _, none⟩) (XSq.fr (Kd.own_blk (Kd.R_ne HO197.out BK205.out (by decide)))) _).trans (((cell_far (p := ⟨gb205, _, none⟩) (XSq.fr (Kd.own_blk (Kd.R_ne HO197.out BK205.out (by decide)))) _).trans (((cell_far (p := ⟨gb205, _, none⟩) (XSq.fr (Kd.own_blk (Kd.R_ne HO197.out BK205.out (by decide)))) _).trans (((cell_far (p := ⟨gb205, _, none⟩) (XSq.fr (Kd.own_blk (Kd.R_ne HO197.out BK205.out (by decide)))) _).trans (((cell_far (p := ⟨gb205, _, none⟩) (XSq.fr (Kd.own_blk (Kd.R_ne HO197.out BK205.out (by decide)))) _).trans (hHeld.2.2.2.2.1)))))))))))))), ((cell_far (p := ⟨gb205, _, none⟩) (XSq.fr (Kd.own_blk (Kd.R_ne HO197.out BK205.out (by decide)))) _).trans (((cell_far (p := ⟨gb205, _, none⟩) (XSq.fr (Kd.own_blk (Kd.R_ne HO197.out BK205.out (by decide)))) _).trans (((cell_far (p := ⟨gb205, _, none⟩) (XSq.fr (Kd.own_blk (Kd.R_ne HO197.out BK205.out (by decide)))) _).trans (((cell_far (p := ⟨gb205, _, none⟩) (XSq.fr (Kd.own_blk (Kd.R_ne HO197.out BK205.out (by decide)))) _).trans (((cell_far (p := ⟨gb205, _, none⟩) (XSq.fr (Kd.own_blk (Kd.R_ne HO197.out BK205.out (by decide)))) _).trans (((cell_far (p := ⟨gb205, _, none⟩) (XSq.fr (Kd.own_blk (Kd.R_ne HO197.out BK205.out (by decide)))) _).trans (((cell_far (p := ⟨gb205, _, none⟩) (XSq.fr (Kd.own_blk (Kd.R_ne HO197.out BK205.out (by decide)))) _).trans (hHeld.2.2.2.2.2.1)))))))))))))), ((cell_far (p := ⟨gb205, _, none⟩) (XSq.fr (Kd.own_blk (Kd.R_ne HO197.out BK205.out (by decide)))) _).trans (((cell_far (p := ⟨gb205, _, none⟩) (XSq.fr (Kd.own_blk (Kd.R_ne HO197.out BK205.out (by decide)))) _).trans (((cell_far (p := ⟨gb205, _, none⟩) (XSq.fr (Kd.own_blk (Kd.R_ne HO197.out BK205.out (by decide)))) _).trans (((cell_far (p := ⟨gb205, _, none⟩) (XSq.fr (Kd.own_blk (Kd.R_ne HO197.out BK205.out (by decide)))) _).trans (((cell_far (p := ⟨gb205, _, none⟩) (XSq.fr (Kd.own_blk (Kd.R_ne HO197.out BK205.out (by decide)))) _).trans (((cell_far (p := ⟨gb205, _, none⟩) (XSq.fr (Kd.own_blk (Kd.R_ne HO197.out BK205.out (by decide)))) _).trans (((cell_far (p := ⟨gb205, _, none⟩) (XSq.fr (Kd.own_blk (Kd.R_ne HO197.out BK205.out (by decide)))) _).trans (hHeld.2.2.2.2.2.2))))))))))))))⟩ (fun hHeld => ?_)
            clear hK K
            refine done_ (done_of HT_.out (by kernel_rfl)) ?_
            have hnb94 := NB184_205.out; have hnc94 := NB205_184.out; have hcz95_0 : w86.cell? ⟨gb184, 0, none⟩ = some (.string ⟨#[]⟩) := (blk_cell BK184.out 0).trans rfl; have hcz95_1 : w86.cell? ⟨gb184, 1, none⟩ = some (.int .i64 0) := (blk_cell BK184.out 1).trans rfl; have hcz95_2 : w86.cell? ⟨gb184, 2, none⟩ = some (.int .i64 0) := (blk_cell BK184.out 2).trans rfl; have hcz95_3 : w86.cell? ⟨gb184, 3, none⟩ = some (.string ⟨#[]⟩) := (blk_cell BK184.out 3).trans rfl; have hcz95_4 : w86.cell? ⟨gb184, 4, none⟩ = some (.int .i64 0) := (blk_cell BK184.out 4).trans rfl; have hcz95_5 : w86.cell? ⟨gb184, 5, none⟩ = some (.int .i64 0) := (blk_cell BK184.out 5).trans rfl; have hcz95_6 : w86.cell? ⟨gb184, 6, none⟩ = some (.int .i64 0) := (blk_cell BK184.out 6).trans rfl; have hfz95_0 := blk_frozen BK184.out 0; have hfz95_1 := blk_frozen BK184.out 1; have hfz95_2 := blk_frozen BK184.out 2; have hfz95_3 := blk_frozen BK184.out 3; have hfz95_4 := blk_frozen BK184.out 4; have hfz95_5 := blk_frozen BK184.out 5; have hfz95_6 := blk_frozen BK184.out 6
            try go_wp2
            refine bodyPost_ret (results_ct rfl _ _ gb184 23 #[.string ⟨#[]⟩, .int .i64 0, .int .i64 0, .string ⟨#[]⟩, .int .i64 0, .int .i64 0, .int .i64 0] (0, 0) _ rfl (by (with_reducible repeat (first | refine blk_drewN ?_ _ | refine blk_drew ?_ | refine blk_alloc ?_ _)); refine blk_put (cs := #[.string ⟨#[]⟩, .int .i64 0, .int .i64 0, .string ⟨#[]⟩, .int .i64 0, .int .i64 0, .int .i64 0]) ?_ 6 _ rfl; (with_reducible repeat (first | refine blk_drewN ?_ _ | refine blk_drew ?_ | refine blk_alloc ?_ _)); refine blk_put (cs := #[.string ⟨#[]⟩, .int .i64 0, .int .i64 0, .string ⟨#[]⟩, .int .i64 0, .int .i64 0, .int .i64 0]) ?_ 5 _ rfl; (with_reducible repeat (first | refine blk_drewN ?_ _ | refine blk_drew ?_ | refine blk_alloc ?_ _)); refine blk_put (cs := #[.string ⟨#[]⟩, .int .i64 0, .int .i64 0, .string ⟨#[]⟩, .int .i64 0, .int .i64 0, .int .i64 0]) ?_ 4 _ rfl; (with_reducible repeat (first | refine blk_drewN ?_ _ | refine blk_drew ?_ | refine blk_alloc ?_ _)); refine blk_put (cs := #[.string ⟨#[]⟩, .int .i64 0, .int .i64 0, .string ⟨#[]⟩, .int .i64 0, .int .i64 0, .int .i64 0]) ?_ 3 _ rfl; (with_reducible repeat (first | refine blk_drewN ?_ _ | refine blk_drew ?_ | refine blk_alloc ?_ _)); refine blk_put (cs := #[.string ⟨#[]⟩, .int .i64 0, .int .i64 0, .string ⟨#[]⟩, .int .i64 0, .int .i64 0, .int .i64 0]) ?_ 2 _ rfl; (with_reducible repeat (first | refine blk_drewN ?_ _ | refine blk_drew ?_ | refine blk_alloc ?_ _)); refine blk_put (cs := #[.string ⟨#[]⟩, .int .i64 0, .int .i64 0, .string ⟨#[]⟩, .int .i64 0, .int .i64 0, .int .i64 0]) ?_ 1 _ rfl; (with_reducible repeat (first | refine blk_drewN ?_ _ | refine blk_drew ?_ | refine blk_alloc ?_ _)); refine blk_put (cs := #[.string ⟨#[]⟩, .int .i64 0, .int .i64 0, .string ⟨#[]⟩, .int .i64 0, .int .i64 0, .int .i64 0]) ?_ 0 _ rfl; (with_reducible repeat (first | refine blk_drewN ?_ _ | refine blk_drew ?_ | refine blk_alloc ?_ _)); refine blk_far ?_ NB184_205.out _; (with_reducible repeat (first | refine blk_drewN ?_ _ | refine blk_drew ?_ | refine blk_alloc ?_ _)); refine blk_far ?_ NB184_205.out _; (with_reducible repeat (first | refine blk_drewN ?_ _ | refine blk_drew ?_ | refine blk_alloc ?_ _)); refine blk_far ?_ NB184_205.out _; (with_reducible repeat (first | refine blk_drewN ?_ _ | refine blk_drew ?_ | refine blk_alloc ?_ _)); refine blk_far ?_ NB184_205.out _; (with_reducible repeat (first | refine blk_drewN ?_ _ | refine blk_drew ?_ | refine blk_alloc ?_ _)); refine blk_far ?_ NB184_205.out _; (with_reducible repeat (first | refine blk_drewN ?_ _ | refine blk_drew ?_ | refine blk_alloc ?_ _)); refine blk_far ?_ NB184_205.out _; (with_reducible repeat (first | refine blk_drewN ?_ _ | refine blk_drew ?_ | refine blk_alloc ?_ _)); refine blk_far ?_ NB184_205.out _; (with_reducible repeat (first | refine blk_drewN ?_ _ | refine blk_drew ?_ | refine blk_alloc ?_ _)); exact BK184.out) Tryd.underlying23 rfl (by kernel_rfl)) rfl ?_
            exact ⟨by first | rfl | (simp [errW_none, errW_some] <;> rfl) | (simp [*, errW_none, errW_some] <;> rfl), by repeat (first | (with_reducible first | exact HB.out | apply below_alloc | apply pw_below_drewN | apply below_drew1 | refine below_set ?_ GE184.out | refine below_set ?_ GE205.out) | exact HB.out)⟩
          ·
           rw [if_neg c14] at H
           exact absurd H (by simp)
         ·
          rw [if_neg c13] at H
          exact absurd H (by simp)
        ·
         rw [if_neg c12] at H
         exact absurd H (by simp)
       ·
        rw [if_neg c11] at H
        exact absurd H (by simp)
      ·
       rw [if_neg c10] at H
       exact absurd H (by simp)
     ·
      rw [if_neg c9] at H
      exact absurd H (by simp)
    ·
     rw [if_neg c8] at H
     exact absurd H (by simp)
   ·
    rw [if_neg c6] at H
    exact absurd H (by simp)
  ·
   rw [if_neg c4] at H
   exact absurd H (by simp)
 ·
  rw [if_neg c3] at H
  have c3b0 : ((t185.length : Int) == 4) = false := beq_eq_false_iff_ne.mpr c3; have c3b1 : ((t185.length : Int) != 4) = true := bne_iff_ne.mpr c3
  simp only [Option.some.injEq, Prod.mk.injEq] at H
  obtain ⟨rfl, rfl, rfl, rfl, rfl, rfl, rfl, rfl⟩ := H
  go_enter Tryd.func7, Tryd.ntmps7
  go_wp2_with (first | ((with_reducible refine gate_dst (N := 2) rfl ?_); refine box_event ?hg (N := 2) ?hd (cs := #[.string ⟨#[]⟩, .int .i64 0, .int .i64 0, .string ⟨#[]⟩, .int .i64 0, .int .i64 0, .int .i64 0]) (t := 23) ?hr ?_; (case hd => rfl); (case hg => rfl); (case hr => first | (go_simp; done) | (go_simp; rfl)); intro gb184 hg w96 hbox hb; have BK184 := Aside0.mk (hbox); have GW184 := XSq.gw hg (XSq.bB HB); have GE184 := XSq.gw hg (XSq.bB HB); replace HB := Aside0.mk (below_step (XSq.bB HB) hb); clear hb hbox hg) | ((with_reducible refine gate_callee (f := 17) rfl ?_); refine goesL_ (some 11) rfl rfl Tryd.func17 (by kernel_rfl) rfl #[.string a0, .string (⟨#[58]⟩ : ByteArray)] rfl (by (try simp only [List.map_toArray, List.map_cons, List.map_nil]); first | done | rfl | (simp only [List.length_drop, List.length_take]; rfl)) ?_; (with_reducible refine (strings_Split.calls a0 (⟨#[58]⟩ : ByteArray) t185 _ A2.out).mono ?_); rintro e w97 ⟨v186, rfl, ho0, hb⟩; refine ⟨_, rfl, ?_⟩; have HO187 := Aside0.mk (Kd.R_lower ho0 (below_size (XSq.bB HB))); replace BK184 := Aside0.mk (blk_below (g := gb184) (o := .cells #[.string ⟨#[]⟩, .int .i64 0, .int .i64 0, .string ⟨#[]⟩, .int .i64 0, .int .i64 0, .int .i64 0] 23 (0, 0)) (XSq.bq BK184) hb); replace HB := Aside0.mk (below_step (XSq.bB HB) hb); clear hb; (try clear hb2); (try clear hk); (try clear hi); (try clear ho0); obtain ⟨Ao98, co98, eo98⟩ := Kd.R_slice HO187.out; subst eo98; have hcz99_0 : w97.cell? ⟨gb184, 0, none⟩ = some (.string ⟨#[]⟩) := (blk_cell BK184.out 0).trans rfl; have hcz99_1 : w97.cell? ⟨gb184, 1, none⟩ = some (.int .i64 0) := (blk_cell BK184.out 1).trans rfl; have hcz99_2 : w97.cell? ⟨gb184, 2, none⟩ = some (.int .i64 0) := (blk_cell BK184.out 2).trans rfl; have hcz99_3 : w97.cell? ⟨gb184, 3, none⟩ = some (.string ⟨#[]⟩) := (blk_cell BK184.out 3).trans rfl; have hcz99_4 : w97.cell? ⟨gb184, 4, none⟩ = some (.int .i64 0) := (blk_cell BK184.out 4).trans rfl; have hcz99_5 : w97.cell? ⟨gb184, 5, none⟩ = some (.int .i64 0) := (blk_cell BK184.out 5).trans rfl; have hcz99_6 : w97.cell? ⟨gb184, 6, none⟩ = some (.int .i64 0) := (blk_cell BK184.out 6).trans rfl; have hfz99_0 := blk_frozen BK184.out 0; have hfz99_1 := blk_frozen BK184.out 1; have hfz99_2 := blk_frozen BK184.out 2; have hfz99_3 := blk_frozen BK184.out 3; have hfz99_4 := blk_frozen BK184.out 4; have hfz99_5 := blk_frozen BK184.out 5; have hfz99_6 := blk_frozen BK184.out 6))
  refine bodyPost_ret (results_ct rfl _ _ gb184 23 #[.string ⟨#[]⟩, .int .i64 0, .int .i64 0, .string ⟨#[]⟩, .int .i64 0, .int .i64 0, .int .i64 0] (0, 0) _ rfl (by (with_reducible repeat (first | refine blk_drewN ?_ _ | refine blk_drew ?_ | refine blk_alloc ?_ _)); refine blk_put (cs := #[.string ⟨#[]⟩, .int .i64 0, .int .i64 0, .string ⟨#[]⟩, .int .i64 0, .int .i64 0, .int .i64 0]) ?_ 6 _ rfl; (with_reducible repeat (first | refine blk_drewN ?_ _ | refine blk_drew ?_ | refine blk_alloc ?_ _)); refine blk_put (cs := #[.string ⟨#[]⟩, .int .i64 0, .int .i64 0, .string ⟨#[]⟩, .int .i64 0, .int .i64 0, .int .i64 0]) ?_ 5 _ rfl; (with_reducible repeat (first | refine blk_drewN ?_ _ | refine blk_drew ?_ | refine blk_alloc ?_ _)); refine blk_put (cs := #[.string ⟨#[]⟩, .int .i64 0, .int .i64 0, .string ⟨#[]⟩, .int .i64 0, .int .i64 0, .int .i64 0]) ?_ 4 _ rfl; (with_reducible repeat (first | refine blk_drewN ?_ _ | refine blk_drew ?_ | refine blk_alloc ?_ _)); refine blk_put (cs := #[.string ⟨#[]⟩, .int .i64 0, .int .i64 0, .string ⟨#[]⟩, .int .i64 0, .int .i64 0, .int .i64 0]) ?_ 3 _ rfl; (with_reducible repeat (first | refine blk_drewN ?_ _ | refine blk_drew ?_ | refine blk_alloc ?_ _)); refine blk_put (cs := #[.string ⟨#[]⟩, .int .i64 0, .int .i64 0, .string ⟨#[]⟩, .int .i64 0, .int .i64 0, .int .i64 0]) ?_ 2 _ rfl; (with_reducible repeat (first | refine blk_drewN ?_ _ | refine blk_drew ?_ | refine blk_alloc ?_ _)); refine blk_put (cs := #[.string ⟨#[]⟩, .int .i64 0, .int .i64 0, .string ⟨#[]⟩, .int .i64 0, .int .i64 0, .int .i64 0]) ?_ 1 _ rfl; (with_reducible repeat (first | refine blk_drewN ?_ _ | refine blk_drew ?_ | refine blk_alloc ?_ _)); refine blk_put (cs := #[.string ⟨#[]⟩, .int .i64 0, .int .i64 0, .string ⟨#[]⟩, .int .i64 0, .int .i64 0, .int .i64 0]) ?_ 0 _ rfl; (with_reducible repeat (first | refine blk_drewN ?_ _ | refine blk_drew ?_ | refine blk_alloc ?_ _)); exact BK184.out) Tryd.underlying23 rfl (by kernel_rfl)) rfl ?_
  exact ⟨by first | rfl | (simp [errW_none, errW_some] <;> rfl) | (simp [*, errW_none, errW_some] <;> rfl), by repeat (first | (with_reducible first | exact HB.out | apply below_alloc | apply pw_below_drewN | apply below_drew1 | refine below_set ?_ GE184.out) | exact HB.out)⟩

end Go.Proofs.YtjhokefoocajpaaDoor.PFnExactParseWorld
