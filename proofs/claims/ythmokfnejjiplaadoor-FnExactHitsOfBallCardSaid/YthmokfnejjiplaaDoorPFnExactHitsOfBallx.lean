-- Made by wip/tools/xkit.py (a program of this session's) with the kit's printer.
import Derived.Test.YthmokfnejjiplaaDoorPFnExactHitsOfBallx0
import Derived.Test.YthmokfnejjiplaaDoorPFnExactHitsOfBallx1
import Derived.Test.YthmokfnejjiplaaDoorPFnExactHitsOfBallx2
import Derived.Test.YthmokfnejjiplaaDoorPFnExactHitsOfBallx3
import Derived.Test.YthmokfnejjiplaaDoorPFnExactHitsOfBallx4
import Derived.Test.YthmokfnejjiplaaDoorPFnExactHitsOfBallx5
import Derived.Test.YthmokfnejjiplaaDoorPFnExactHitsOfBallx6
import Derived.Test.YthmokfnejjiplaaDoorPFnExactHitsOfBallx7
import Derived.Test.YthmokfnejjiplaaDoorPFnExactHitsOfBallx8
import Derived.Test.YthmokfnejjiplaaDoorPFnExactHitsOfBallx9
import Derived.Test.YthmokfnejjiplaaDoorPFnExactHitsOfBallx10
namespace Go.Proofs.YthmokfnejjiplaaDoor.PFnExactHitsOfBall
open Go.RowKit Go.Proofs.YthmokfnejjiplaaDoorW.PrintWords Go.Proofs.YthmokfnejjiplaaDoorW.PrintLast Go.Proofs.YthmokfnejjiplaaDoorW.PrintMore
attribute [local go_sem] max2_int min2_int max_two min_two max_three min_three max_four min_four   -- for this text's walks alone
set_option linter.unusedVariables false
set_option linter.unusedSimpArgs false

end Go.Proofs.YthmokfnejjiplaaDoor.PFnExactHitsOfBall
