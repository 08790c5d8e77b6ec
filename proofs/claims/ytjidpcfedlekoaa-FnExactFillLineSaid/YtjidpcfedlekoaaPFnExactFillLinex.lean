-- Made by wip/tools/xkit.py (a program of this session's) with the kit's printer.
import Derived.Test.YtjidpcfedlekoaaPFnExactFillLinex0
import Derived.Test.YtjidpcfedlekoaaPFnExactFillLinex1
namespace Go.Proofs.Ytjidpcfedlekoaa.PFnExactFillLine
open Go.RowKit Go.Proofs.YtjidpcfedlekoaaW.PrintWords Go.Proofs.YtjidpcfedlekoaaW.PrintLast Go.Proofs.YtjidpcfedlekoaaW.PrintMore
attribute [local go_sem] max2_int min2_int max_two min_two max_three min_three max_four min_four   -- for this text's walks alone
set_option linter.unusedVariables false
set_option linter.unusedSimpArgs false

end Go.Proofs.Ytjidpcfedlekoaa.PFnExactFillLine
