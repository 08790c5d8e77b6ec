-- Made by wip/tools/xkit.py (a program of this session's) with the kit's printer.
import Derived.Test.YtecoeknjnhffbaaPFnExactStepRoutex0
import Derived.Test.YtecoeknjnhffbaaPFnExactStepRoutex1
import Derived.Test.YtecoeknjnhffbaaPFnExactStepRoutex2
import Derived.Test.YtecoeknjnhffbaaPFnExactStepRoutex3
import Derived.Test.YtecoeknjnhffbaaPFnExactStepRoutex4
import Derived.Test.YtecoeknjnhffbaaPFnExactStepRoutex5
import Derived.Test.YtecoeknjnhffbaaPFnExactStepRoutex6
namespace Go.Proofs.Ytecoeknjnhffbaa.PFnExactStepRoute
open Go.RowKit Go.Proofs.YtecoeknjnhffbaaW.PrintWords Go.Proofs.YtecoeknjnhffbaaW.PrintLast Go.Proofs.YtecoeknjnhffbaaW.PrintMore
attribute [local go_sem] max2_int min2_int max_two min_two max_three min_three max_four min_four   -- for this text's walks alone
set_option linter.unusedVariables false
set_option linter.unusedSimpArgs false

end Go.Proofs.Ytecoeknjnhffbaa.PFnExactStepRoute
