-- Made by wip/tools/xkit.py (a program of this session's) with the kit's printer.
import Derived.Test.YtecoeknjnhffbaaPFnExactVisitsOfWalkx0
import Derived.Test.YtecoeknjnhffbaaPFnExactVisitsOfWalkx1
import Derived.Test.YtecoeknjnhffbaaPFnExactVisitsOfWalkx2
import Derived.Test.YtecoeknjnhffbaaPFnExactVisitsOfWalkx3
import Derived.Test.YtecoeknjnhffbaaPFnExactVisitsOfWalkx4
import Derived.Test.YtecoeknjnhffbaaPFnExactVisitsOfWalkx5
import Derived.Test.YtecoeknjnhffbaaPFnExactVisitsOfWalkx6
namespace Go.Proofs.Ytecoeknjnhffbaa.PFnExactVisitsOfWalk
open Go.RowKit Go.Proofs.YtecoeknjnhffbaaW.PrintWords Go.Proofs.YtecoeknjnhffbaaW.PrintLast Go.Proofs.YtecoeknjnhffbaaW.PrintMore
attribute [local go_sem] max2_int min2_int max_two min_two max_three min_three max_four min_four   -- for this text's walks alone
set_option linter.unusedVariables false
set_option linter.unusedSimpArgs false

end Go.Proofs.Ytecoeknjnhffbaa.PFnExactVisitsOfWalk
