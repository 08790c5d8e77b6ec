-- Made by wip/tools/xkit.py (a program of this session's) with the kit's printer.
import Derived.Test.YtbekekbonnhnlaaDoorPFnExactTurnWorldx0
import Derived.Test.YtbekekbonnhnlaaDoorPFnExactTurnWorldx1
import Derived.Test.YtbekekbonnhnlaaDoorPFnExactTurnWorldx2
import Derived.Test.YtbekekbonnhnlaaDoorPFnExactTurnWorldx3
import Derived.Test.YtbekekbonnhnlaaDoorPFnExactTurnWorldx4
import Derived.Test.YtbekekbonnhnlaaDoorPFnExactTurnWorldx5
namespace Go.Proofs.YtbekekbonnhnlaaDoor.PFnExactTurnWorld
open Go.RowKit Go.Proofs.YtbekekbonnhnlaaDoorW.PrintWords Go.Proofs.YtbekekbonnhnlaaDoorW.PrintLast Go.Proofs.YtbekekbonnhnlaaDoorW.PrintMore
attribute [local go_sem] max2_int min2_int max_two min_two max_three min_three max_four min_four   -- for this text's walks alone
set_option linter.unusedVariables false
set_option linter.unusedSimpArgs false

end Go.Proofs.YtbekekbonnhnlaaDoor.PFnExactTurnWorld
