-- Made by wip/tools/xkit.py (a program of this session's) with the kit's printer.
import Derived.Test.YtnmaidjbnjhmbaaPFnExactIsTablex
namespace Go.Proofs.Ytnmaidjbnjhmbaa.PFnExactIsTable
open Go.RowKit Go.Proofs.YtnmaidjbnjhmbaaW.PrintWords Go.Proofs.YtnmaidjbnjhmbaaW.PrintLast
/-- The pure statement of the law. -/
def LawHolds : Prop := ∀ (a0_0 : Int) (a0_1 : Int) (l0_2 : List (S44)), (Lit.int .i64 a0_0).wf = true → (Lit.int .i64 a0_1).wf = true → (l0_2.length ≤ maxLen ∧ l0_2.length * 32 ≤ 140737488351232 ∧ ∀ y0 ∈ l0_2, ((Lit.int .i64 y0.f0).wf = true ∧ y0.f1.size ≤ 140737488351232 ∧ (Lit.int .i64 y0.f2).wf = true)) → ∃ k, laws_FnExactIsTable.f k a0_0 a0_1 l0_2 = some true
end Go.Proofs.Ytnmaidjbnjhmbaa.PFnExactIsTable
