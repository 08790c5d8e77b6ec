-- Made by wip/tools/xkit.py (a program of this session's) with the kit's printer.
import Derived.Test.YtecoeknjnhffbaaPFnExactLineRoutex0
import Derived.Test.YtecoeknjnhffbaaPFnExactLineRoutex1
import Derived.Test.YtecoeknjnhffbaaPFnExactLineRoutex2
namespace Go.Proofs.Ytecoeknjnhffbaa.PFnExactLineRoute
open Go.RowKit Go.Proofs.YtecoeknjnhffbaaW.PrintWords Go.Proofs.YtecoeknjnhffbaaW.PrintLast Go.Proofs.YtecoeknjnhffbaaW.PrintMore
attribute [local go_sem] max2_int min2_int max_two min_two max_three min_three max_four min_four   -- for this text's walks alone
set_option linter.unusedVariables false
set_option linter.unusedSimpArgs false

end Go.Proofs.Ytecoeknjnhffbaa.PFnExactLineRoute
