-- Made by wip/tools/xkit.py (a program of this session's) with the kit's printer.
import Derived.Test.YtdicnggfigedoaaGreatDoorPFnExactBackWorldx0
import Derived.Test.YtdicnggfigedoaaGreatDoorPFnExactBackWorldx1
import Derived.Test.YtdicnggfigedoaaGreatDoorPFnExactBackWorldx2
import Derived.Test.YtdicnggfigedoaaGreatDoorPFnExactBackWorldx3
import Derived.Test.YtdicnggfigedoaaGreatDoorPFnExactBackWorldx4
import Derived.Test.YtdicnggfigedoaaGreatDoorPFnExactBackWorldx5
import Derived.Test.YtdicnggfigedoaaGreatDoorPFnExactBackWorldx6
import Derived.Test.YtdicnggfigedoaaGreatDoorPFnExactBackWorldx7
import Derived.Test.YtdicnggfigedoaaGreatDoorPFnExactBackWorldx8
namespace Go.Proofs.YtdicnggfigedoaaGreatDoor.PFnExactBackWorld
open Go.RowKit Go.Proofs.YtdicnggfigedoaaGreatDoorW.PrintWords Go.Proofs.YtdicnggfigedoaaGreatDoorW.PrintLast Go.Proofs.YtdicnggfigedoaaGreatDoorW.PrintMore
attribute [local go_sem] max2_int min2_int max_two min_two max_three min_three max_four min_four   -- for this text's walks alone
set_option linter.unusedVariables false
set_option linter.unusedSimpArgs false

end Go.Proofs.YtdicnggfigedoaaGreatDoor.PFnExactBackWorld
