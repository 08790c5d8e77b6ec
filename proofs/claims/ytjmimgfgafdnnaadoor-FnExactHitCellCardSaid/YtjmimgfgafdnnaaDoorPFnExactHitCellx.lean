-- Made by wip/tools/xkit.py (a program of this session's) with the kit's printer.
import Derived.Test.YtjmimgfgafdnnaaDoorPFnExactHitCellx0
import Derived.Test.YtjmimgfgafdnnaaDoorPFnExactHitCellx1
import Derived.Test.YtjmimgfgafdnnaaDoorPFnExactHitCellx2
import Derived.Test.YtjmimgfgafdnnaaDoorPFnExactHitCellx3
import Derived.Test.YtjmimgfgafdnnaaDoorPFnExactHitCellx4
import Derived.Test.YtjmimgfgafdnnaaDoorPFnExactHitCellx5
import Derived.Test.YtjmimgfgafdnnaaDoorPFnExactHitCellx6
namespace Go.Proofs.YtjmimgfgafdnnaaDoor.PFnExactHitCell
open Go.RowKit Go.Proofs.YtjmimgfgafdnnaaDoorW.PrintWords Go.Proofs.YtjmimgfgafdnnaaDoorW.PrintLast Go.Proofs.YtjmimgfgafdnnaaDoorW.PrintMore
attribute [local go_sem] max2_int min2_int max_two min_two max_three min_three max_four min_four   -- for this text's walks alone
set_option linter.unusedVariables false
set_option linter.unusedSimpArgs false

end Go.Proofs.YtjmimgfgafdnnaaDoor.PFnExactHitCell
