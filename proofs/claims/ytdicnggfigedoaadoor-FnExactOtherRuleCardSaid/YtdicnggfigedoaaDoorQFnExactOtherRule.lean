-- Made by wip/tools/xkit.py (a program of this session's) with the kit's printer.
import Derived.Test.YtdicnggfigedoaaDoorPFnExactOtherRulex
namespace Go.Proofs.YtdicnggfigedoaaDoor.PFnExactOtherRule
open Go.RowKit Go.Proofs.YtdicnggfigedoaaDoorW.PrintWords Go.Proofs.YtdicnggfigedoaaDoorW.PrintLast
/-- The pure statement of the law. -/
def LawHolds : Prop := ∀ (a0 : ByteArray), a0.size ≤ 140737488351232 → ∃ k, laws_FnExactOtherRule.f k a0 = some true
end Go.Proofs.YtdicnggfigedoaaDoor.PFnExactOtherRule
