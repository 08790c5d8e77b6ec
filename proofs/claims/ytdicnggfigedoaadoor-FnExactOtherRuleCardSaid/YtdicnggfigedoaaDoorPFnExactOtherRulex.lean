-- Made by wip/tools/xkit.py (a program of this session's) with the kit's printer.
import Derived.Test.YtdicnggfigedoaaDoorPFnExactOtherRulex0
import Derived.Test.YtdicnggfigedoaaDoorPFnExactOtherRulex1
import Derived.Test.YtdicnggfigedoaaDoorPFnExactOtherRulex2
namespace Go.Proofs.YtdicnggfigedoaaDoor.PFnExactOtherRule
open Go.RowKit Go.Proofs.YtdicnggfigedoaaDoorW.PrintWords Go.Proofs.YtdicnggfigedoaaDoorW.PrintLast Go.Proofs.YtdicnggfigedoaaDoorW.PrintMore
attribute [local go_sem] max2_int min2_int max_two min_two max_three min_three max_four min_four   -- for this text's walks alone
set_option linter.unusedVariables false
set_option linter.unusedSimpArgs false

end Go.Proofs.YtdicnggfigedoaaDoor.PFnExactOtherRule
