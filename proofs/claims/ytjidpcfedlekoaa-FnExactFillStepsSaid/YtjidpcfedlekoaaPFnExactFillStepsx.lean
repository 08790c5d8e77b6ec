-- Made by wip/tools/xkit.py (a program of this session's) with the kit's printer.
import Derived.Test.YtjidpcfedlekoaaPFnExactFillStepsx0
import Derived.Test.YtjidpcfedlekoaaPFnExactFillStepsx1
namespace Go.Proofs.Ytjidpcfedlekoaa.PFnExactFillSteps
open Go.RowKit Go.Proofs.YtjidpcfedlekoaaW.PrintWords Go.Proofs.YtjidpcfedlekoaaW.PrintLast Go.Proofs.YtjidpcfedlekoaaW.PrintMore
attribute [local go_sem] max2_int min2_int max_two min_two max_three min_three max_four min_four   -- for this text's walks alone
set_option linter.unusedVariables false
set_option linter.unusedSimpArgs false

end Go.Proofs.Ytjidpcfedlekoaa.PFnExactFillSteps
