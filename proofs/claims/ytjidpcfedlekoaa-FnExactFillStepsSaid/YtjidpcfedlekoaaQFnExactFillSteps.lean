-- Made by wip/tools/xkit.py (a program of this session's) with the kit's printer.
import Derived.Test.YtjidpcfedlekoaaPFnExactFillStepsx
namespace Go.Proofs.Ytjidpcfedlekoaa.PFnExactFillSteps
open Go.RowKit Go.Proofs.YtjidpcfedlekoaaW.PrintWords Go.Proofs.YtjidpcfedlekoaaW.PrintLast
/-- The pure statement of the law. -/
def LawHolds : Prop := ∀ (a0 : Int), (Lit.int .i64 a0).wf = true → ∃ k, laws_FnExactFillSteps.f k a0 = some true
end Go.Proofs.Ytjidpcfedlekoaa.PFnExactFillSteps
