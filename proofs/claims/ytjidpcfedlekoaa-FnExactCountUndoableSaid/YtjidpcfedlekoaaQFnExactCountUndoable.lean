-- Made by wip/tools/xkit.py (a program of this session's) with the kit's printer.
import Derived.Test.YtjidpcfedlekoaaPFnExactCountUndoablex
namespace Go.Proofs.Ytjidpcfedlekoaa.PFnExactCountUndoable
open Go.RowKit Go.Proofs.YtjidpcfedlekoaaW.PrintWords Go.Proofs.YtjidpcfedlekoaaW.PrintLast
/-- The pure statement of the law. -/
def LawHolds : Prop := ∀ (a0 : Int) (a1 : Int), (Lit.int .i64 a0).wf = true → (Lit.int .i64 a1).wf = true → ∃ k, laws_FnExactCountUndoable.f k a0 a1 = some true
end Go.Proofs.Ytjidpcfedlekoaa.PFnExactCountUndoable
