-- Made by wip/tools/xkit.py (a program of this session's) with the kit's printer.
import Derived.Test.YtggpolgcbojmeaaDoorPFnExactWorldBeforex0
import Derived.Test.YtggpolgcbojmeaaDoorPFnExactWorldBeforex1
import Derived.Test.YtggpolgcbojmeaaDoorPFnExactWorldBeforex2
import Derived.Test.YtggpolgcbojmeaaDoorPFnExactWorldBeforex3
import Derived.Test.YtggpolgcbojmeaaDoorPFnExactWorldBeforex4
import Derived.Test.YtggpolgcbojmeaaDoorPFnExactWorldBeforex5
import Derived.Test.YtggpolgcbojmeaaDoorPFnExactWorldBeforex6
import Derived.Test.YtggpolgcbojmeaaDoorPFnExactWorldBeforex7
import Derived.Test.YtggpolgcbojmeaaDoorPFnExactWorldBeforex8
namespace Go.Proofs.YtggpolgcbojmeaaDoor.PFnExactWorldBefore
open Go.RowKit Go.Proofs.YtggpolgcbojmeaaDoorW.PrintWords Go.Proofs.YtggpolgcbojmeaaDoorW.PrintLast Go.Proofs.YtggpolgcbojmeaaDoorW.PrintMore
attribute [local go_sem] max2_int min2_int max_two min_two max_three min_three max_four min_four   -- for this text's walks alone
set_option linter.unusedVariables false
set_option linter.unusedSimpArgs false

end Go.Proofs.YtggpolgcbojmeaaDoor.PFnExactWorldBefore
