-- Made by wip/tools/xkit.py (a program of this session's) with the kit's printer.
import Derived.Test.YtggpolgcbojmeaaDoorPFnExactColourSumx0
import Derived.Test.YtggpolgcbojmeaaDoorPFnExactColourSumx1
import Derived.Test.YtggpolgcbojmeaaDoorPFnExactColourSumx2
import Derived.Test.YtggpolgcbojmeaaDoorPFnExactColourSumx3
namespace Go.Proofs.YtggpolgcbojmeaaDoor.PFnExactColourSum
open Go.RowKit Go.Proofs.YtggpolgcbojmeaaDoorW.PrintWords Go.Proofs.YtggpolgcbojmeaaDoorW.PrintLast Go.Proofs.YtggpolgcbojmeaaDoorW.PrintMore
attribute [local go_sem] max2_int min2_int max_two min_two max_three min_three max_four min_four   -- for this text's walks alone
set_option linter.unusedVariables false
set_option linter.unusedSimpArgs false

end Go.Proofs.YtggpolgcbojmeaaDoor.PFnExactColourSum
