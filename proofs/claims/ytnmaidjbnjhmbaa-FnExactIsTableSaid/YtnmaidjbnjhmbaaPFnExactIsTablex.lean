-- Made by wip/tools/xkit.py (a program of this session's) with the kit's printer.
import Derived.Test.YtnmaidjbnjhmbaaPFnExactIsTablex0
import Derived.Test.YtnmaidjbnjhmbaaPFnExactIsTablex1
import Derived.Test.YtnmaidjbnjhmbaaPFnExactIsTablex2
import Derived.Test.YtnmaidjbnjhmbaaPFnExactIsTablex3
namespace Go.Proofs.Ytnmaidjbnjhmbaa.PFnExactIsTable
open Go.RowKit Go.Proofs.YtnmaidjbnjhmbaaW.PrintWords Go.Proofs.YtnmaidjbnjhmbaaW.PrintLast Go.Proofs.YtnmaidjbnjhmbaaW.PrintMore
attribute [local go_sem] max2_int min2_int max_two min_two max_three min_three max_four min_four   -- for this text's walks alone
set_option linter.unusedVariables false
set_option linter.unusedSimpArgs false

end Go.Proofs.Ytnmaidjbnjhmbaa.PFnExactIsTable
