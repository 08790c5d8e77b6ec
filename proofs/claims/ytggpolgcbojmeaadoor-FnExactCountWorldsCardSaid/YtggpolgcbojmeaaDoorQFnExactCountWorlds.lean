-- Made by wip/tools/xkit.py (a program of this session's) with the kit's printer.
import Derived.Test.YtggpolgcbojmeaaDoorPFnExactCountWorldsx
namespace Go.Proofs.YtggpolgcbojmeaaDoor.PFnExactCountWorlds
open Go.RowKit Go.Proofs.YtggpolgcbojmeaaDoorW.PrintWords Go.Proofs.YtggpolgcbojmeaaDoorW.PrintLast
/-- The pure statement of the law. -/
def LawHolds : Prop := ∀ (a0 : ByteArray) (a1 : Int) (a2 : Int), a0.size ≤ 140737488351232 → (Lit.int .i64 a1).wf = true → (Lit.int .i64 a2).wf = true → ∃ k, laws_FnExactCountWorlds.f k a0 a1 a2 = some true
end Go.Proofs.YtggpolgcbojmeaaDoor.PFnExactCountWorlds
