-- Made by wip/tools/xkit.py (a program of this session's) with the kit's printer.
import Derived.Test.YtjidpcfedlekoaaPFnExactConstantsx
namespace Go.Proofs.Ytjidpcfedlekoaa.PFnExactConstants
open Go.RowKit Go.Proofs.YtjidpcfedlekoaaW.PrintWords Go.Proofs.YtjidpcfedlekoaaW.PrintLast
/-- The pure statement of the law. -/
def LawHolds : Prop := laws_FnExactConstants.f  = some true
end Go.Proofs.Ytjidpcfedlekoaa.PFnExactConstants
