-- Made by wip/tools/xkit.py (a program of this session's) with the kit's printer.
import Derived.Test.YtecoeknjnhffbaaPFnExactRingRoutex0
import Derived.Test.YtecoeknjnhffbaaPFnExactRingRoutex1
import Derived.Test.YtecoeknjnhffbaaPFnExactRingRoutex2
import Derived.Test.YtecoeknjnhffbaaPFnExactRingRoutex3
namespace Go.Proofs.Ytecoeknjnhffbaa.PFnExactRingRoute
open Go.RowKit Go.Proofs.YtecoeknjnhffbaaW.PrintWords Go.Proofs.YtecoeknjnhffbaaW.PrintLast Go.Proofs.YtecoeknjnhffbaaW.PrintMore
attribute [local go_sem] max2_int min2_int max_two min_two max_three min_three max_four min_four   -- for this text's walks alone
set_option linter.unusedVariables false
set_option linter.unusedSimpArgs false

end Go.Proofs.Ytecoeknjnhffbaa.PFnExactRingRoute
