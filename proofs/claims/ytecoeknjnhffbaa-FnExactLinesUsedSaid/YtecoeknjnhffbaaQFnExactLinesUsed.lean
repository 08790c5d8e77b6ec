-- Made by wip/tools/xkit.py (a program of this session's) with the kit's printer.
import Derived.Test.YtecoeknjnhffbaaPFnExactLinesUsedx
namespace Go.Proofs.Ytecoeknjnhffbaa.PFnExactLinesUsed
open Go.RowKit Go.Proofs.YtecoeknjnhffbaaW.PrintWords Go.Proofs.YtecoeknjnhffbaaW.PrintLast
/-- The pure statement of the law. -/
def LawHolds : Prop := ∀ (l0_0 : List (List Int)) (l0_1 : List Int) (a1 : Int) (a2 : Int), (l0_0.length ≤ maxLen ∧ l0_0.length * 24 ≤ 140737488351232 ∧ ∀ y0 ∈ l0_0, (y0.length ≤ maxLen ∧ y0.length * 8 ≤ 140737488351232 ∧ ∀ y1 ∈ y0, (Lit.int .i64 y1).wf = true)) → (l0_1.length ≤ maxLen ∧ l0_1.length * 8 ≤ 140737488351232 ∧ ∀ y0 ∈ l0_1, (Lit.int .i64 y0).wf = true) → (Lit.int .i64 a1).wf = true → (Lit.int .i64 a2).wf = true → ∃ k, laws_FnExactLinesUsed.f k l0_0 l0_1 a1 a2 = some true
end Go.Proofs.Ytecoeknjnhffbaa.PFnExactLinesUsed
