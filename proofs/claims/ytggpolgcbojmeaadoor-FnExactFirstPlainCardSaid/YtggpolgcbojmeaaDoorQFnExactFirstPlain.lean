-- Made by wip/tools/xkit.py (a program of this session's) with the kit's printer.
import Derived.Test.YtggpolgcbojmeaaDoorPFnExactFirstPlainx
namespace Go.Proofs.YtggpolgcbojmeaaDoor.PFnExactFirstPlain
open Go.RowKit Go.Proofs.YtggpolgcbojmeaaDoorW.PrintWords Go.Proofs.YtggpolgcbojmeaaDoorW.PrintLast
/-- The pure statement of the law. -/
def LawHolds : Prop := ∀ (a0 : ByteArray), a0.size ≤ 140737488351232 → ∃ k, laws_FnExactFirstPlain.f k a0 = some true
end Go.Proofs.YtggpolgcbojmeaaDoor.PFnExactFirstPlain
