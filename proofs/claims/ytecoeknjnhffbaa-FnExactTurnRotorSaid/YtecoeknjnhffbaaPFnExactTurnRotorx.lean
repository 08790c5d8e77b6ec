-- Made by wip/tools/xkit.py (a program of this session's) with the kit's printer.
import Derived.Test.YtecoeknjnhffbaaPFnExactTurnRotorx0
import Derived.Test.YtecoeknjnhffbaaPFnExactTurnRotorx1
import Derived.Test.YtecoeknjnhffbaaPFnExactTurnRotorx2
import Derived.Test.YtecoeknjnhffbaaPFnExactTurnRotorx3
import Derived.Test.YtecoeknjnhffbaaPFnExactTurnRotorx4
import Derived.Test.YtecoeknjnhffbaaPFnExactTurnRotorx5
import Derived.Test.YtecoeknjnhffbaaPFnExactTurnRotorx6
namespace Go.Proofs.Ytecoeknjnhffbaa.PFnExactTurnRotor
open Go.RowKit Go.Proofs.YtecoeknjnhffbaaW.PrintWords Go.Proofs.YtecoeknjnhffbaaW.PrintLast Go.Proofs.YtecoeknjnhffbaaW.PrintMore
attribute [local go_sem] max2_int min2_int max_two min_two max_three min_three max_four min_four   -- for this text's walks alone
set_option linter.unusedVariables false
set_option linter.unusedSimpArgs false

end Go.Proofs.Ytecoeknjnhffbaa.PFnExactTurnRotor
