-- Made by wip/tools/xkit.py (a program of this session's) with the kit's printer.
import Derived.Test.YtecoeknjnhffbaaPFnExactLineRoutex
namespace Go.Proofs.Ytecoeknjnhffbaa.PFnExactLineRoute
open Go.RowKit Go.Proofs.YtecoeknjnhffbaaW.PrintWords Go.Proofs.YtecoeknjnhffbaaW.PrintLast
/-- The pure statement of the law. -/
def LawHolds : Prop := ∀ (a0 : Int), (Lit.int .i64 a0).wf = true → ∃ k, laws_FnExactLineRoute.f k a0 = some true
end Go.Proofs.Ytecoeknjnhffbaa.PFnExactLineRoute
