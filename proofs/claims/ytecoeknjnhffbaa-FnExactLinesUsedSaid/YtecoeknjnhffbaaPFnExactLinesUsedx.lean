-- Made by wip/tools/xkit.py (a program of this session's) with the kit's printer.
import Derived.Test.YtecoeknjnhffbaaPFnExactLinesUsedx0
import Derived.Test.YtecoeknjnhffbaaPFnExactLinesUsedx1
import Derived.Test.YtecoeknjnhffbaaPFnExactLinesUsedx2
import Derived.Test.YtecoeknjnhffbaaPFnExactLinesUsedx3
import Derived.Test.YtecoeknjnhffbaaPFnExactLinesUsedx4
import Derived.Test.YtecoeknjnhffbaaPFnExactLinesUsedx5
import Derived.Test.YtecoeknjnhffbaaPFnExactLinesUsedx6
import Derived.Test.YtecoeknjnhffbaaPFnExactLinesUsedx7
import Derived.Test.YtecoeknjnhffbaaPFnExactLinesUsedx8
namespace Go.Proofs.Ytecoeknjnhffbaa.PFnExactLinesUsed
open Go.RowKit Go.Proofs.YtecoeknjnhffbaaW.PrintWords Go.Proofs.YtecoeknjnhffbaaW.PrintLast Go.Proofs.YtecoeknjnhffbaaW.PrintMore
attribute [local go_sem] max2_int min2_int max_two min_two max_three min_three max_four min_four   -- for this text's walks alone
set_option linter.unusedVariables false
set_option linter.unusedSimpArgs false

end Go.Proofs.Ytecoeknjnhffbaa.PFnExactLinesUsed
