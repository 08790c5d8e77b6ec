-- Made by wip/tools/xkit.py (a program of this session's) with the kit's printer.
import Derived.Test.YthmokfnejjiplaaDoorPFnExactCountMirrorsx0
import Derived.Test.YthmokfnejjiplaaDoorPFnExactCountMirrorsx1
import Derived.Test.YthmokfnejjiplaaDoorPFnExactCountMirrorsx2
namespace Go.Proofs.YthmokfnejjiplaaDoor.PFnExactCountMirrors
open Go.RowKit Go.Proofs.YthmokfnejjiplaaDoorW.PrintWords Go.Proofs.YthmokfnejjiplaaDoorW.PrintLast Go.Proofs.YthmokfnejjiplaaDoorW.PrintMore
attribute [local go_sem] max2_int min2_int max_two min_two max_three min_three max_four min_four   -- for this text's walks alone
set_option linter.unusedVariables false
set_option linter.unusedSimpArgs false

end Go.Proofs.YthmokfnejjiplaaDoor.PFnExactCountMirrors
