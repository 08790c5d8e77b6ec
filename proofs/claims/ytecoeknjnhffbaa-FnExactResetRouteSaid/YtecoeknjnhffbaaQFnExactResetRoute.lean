-- Made by wip/tools/xkit.py (a program of this session's) with the kit's printer.
import Derived.Test.YtecoeknjnhffbaaPFnExactResetRoutex
namespace Go.Proofs.Ytecoeknjnhffbaa.PFnExactResetRoute
open Go.RowKit Go.Proofs.YtecoeknjnhffbaaW.PrintWords Go.Proofs.YtecoeknjnhffbaaW.PrintLast
/-- The pure statement of the law. -/
def LawHolds : Prop := ∀ (l0_0 : List (List Int)) (l0_1 : List Int), (l0_0.length ≤ maxLen ∧ l0_0.length * 24 ≤ 140737488351232 ∧ ∀ y0 ∈ l0_0, (y0.length ≤ maxLen ∧ y0.length * 8 ≤ 140737488351232 ∧ ∀ y1 ∈ y0, (Lit.int .i64 y1).wf = true)) → (l0_1.length ≤ maxLen ∧ l0_1.length * 8 ≤ 140737488351232 ∧ ∀ y0 ∈ l0_1, (Lit.int .i64 y0).wf = true) → ∃ k, laws_FnExactResetRoute.f k l0_0 l0_1 = some true
end Go.Proofs.Ytecoeknjnhffbaa.PFnExactResetRoute
