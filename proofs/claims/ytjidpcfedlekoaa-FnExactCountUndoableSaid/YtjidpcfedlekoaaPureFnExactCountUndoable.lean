/- CountUndoable of the program and of the reference agree at all whole numbers of the machine. Conditions: none beyond that. -/
import Derived.Test.YtjidpcfedlekoaaQFnExactCountUndoable
namespace Go.Proofs.Ytjidpcfedlekoaa.Pure
open Go.RowKit Go.Proofs.Ytjidpcfedlekoaa.PFnExactCountUndoable Go.Proofs.YtjidpcfedlekoaaW.PrintWords Go.Proofs.YtjidpcfedlekoaaW.PrintLast
set_option linter.unusedVariables false
set_option linter.unusedSimpArgs false
theorem FnExactCountUndoable : LawHolds := by
  intro a0 a1 h0 h1
  by_cases hr : 1 ≤ a0 ∧ a0 ≤ 4 ∧ 1 ≤ a1 ∧ a1 ≤ 4
  · obtain ⟨h1, h2, h3, h4⟩ := hr
    have e0 : a0 = 1 ∨ a0 = 2 ∨ a0 = 3 ∨ a0 = 4 := by omega
    have e1 : a1 = 1 ∨ a1 = 2 ∨ a1 = 3 ∨ a1 = 4 := by omega
    refine ⟨20, ?_⟩
    rcases e0 with rfl | rfl | rfl | rfl <;> rcases e1 with rfl | rfl | rfl | rfl <;> decide +kernel
  · refine ⟨0, ?_⟩
    have hs : spec_taRows.f a0 a1 = some false := by
      unfold spec_taRows.f spec_l1In.f
      by_cases c1 : a0 ≥ 1 <;> by_cases c2 : a0 ≤ 4 <;> by_cases c3 : a1 ≥ 1 <;> by_cases c4 : a1 ≤ 4 <;> simp [c1, c2, c3, c4]
      omega
    have hi : impl_isCounted.f a0 a1 = some false := by
      unfold impl_isCounted.f impl_isShape.f impl_within.f
      by_cases c1 : 1 ≤ a0 <;> by_cases c2 : a0 ≤ 4 <;> by_cases c3 : 1 ≤ a1 <;> by_cases c4 : a1 ≤ 4 <;> simp [c1, c2, c3, c4]
      omega
    unfold laws_FnExactCountUndoable.f spec_CountUndoable.f impl_CountUndoable.f
    rw [hs, hi]
    rfl

end Go.Proofs.Ytjidpcfedlekoaa.Pure
