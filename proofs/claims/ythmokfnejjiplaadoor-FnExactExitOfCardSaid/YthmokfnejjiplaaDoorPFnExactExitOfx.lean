-- Made by wip/tools/xkit.py (a program of this session's) with the kit's printer.
import Derived.Test.YthmokfnejjiplaaDoorPFnExactExitOfx0
import Derived.Test.YthmokfnejjiplaaDoorPFnExactExitOfx1
import Derived.Test.YthmokfnejjiplaaDoorPFnExactExitOfx2
import Derived.Test.YthmokfnejjiplaaDoorPFnExactExitOfx3
import Derived.Test.YthmokfnejjiplaaDoorPFnExactExitOfx4
import Derived.Test.YthmokfnejjiplaaDoorPFnExactExitOfx5
import Derived.Test.YthmokfnejjiplaaDoorPFnExactExitOfx6
import Derived.Test.YthmokfnejjiplaaDoorPFnExactExitOfx7
import Derived.Test.YthmokfnejjiplaaDoorPFnExactExitOfx8
import Derived.Test.YthmokfnejjiplaaDoorPFnExactExitOfx9
import Derived.Test.YthmokfnejjiplaaDoorPFnExactExitOfx10
namespace Go.Proofs.YthmokfnejjiplaaDoor.PFnExactExitOf
open Go.RowKit Go.Proofs.YthmokfnejjiplaaDoorW.PrintWords Go.Proofs.YthmokfnejjiplaaDoorW.PrintLast Go.Proofs.YthmokfnejjiplaaDoorW.PrintMore
attribute [local go_sem] max2_int min2_int max_two min_two max_three min_three max_four min_four   -- for this text's walks alone
set_option linter.unusedVariables false
set_option linter.unusedSimpArgs false

end Go.Proofs.YthmokfnejjiplaaDoor.PFnExactExitOf
