-- Made by wip/tools/xkit.py (a program of this session's) with the kit's printer.
import Derived.Test.YtieedlokpbeebaaDoorPFnExactColourOfSpotx0
import Derived.Test.YtieedlokpbeebaaDoorPFnExactColourOfSpotx1
import Derived.Test.YtieedlokpbeebaaDoorPFnExactColourOfSpotx2
import Derived.Test.YtieedlokpbeebaaDoorPFnExactColourOfSpotx3
import Derived.Test.YtieedlokpbeebaaDoorPFnExactColourOfSpotx4
import Derived.Test.YtieedlokpbeebaaDoorPFnExactColourOfSpotx5
import Derived.Test.YtieedlokpbeebaaDoorPFnExactColourOfSpotx6
import Derived.Test.YtieedlokpbeebaaDoorPFnExactColourOfSpotx7
namespace Go.Proofs.YtieedlokpbeebaaDoor.PFnExactColourOfSpot
open Go.RowKit Go.Proofs.YtieedlokpbeebaaDoorW.PrintWords Go.Proofs.YtieedlokpbeebaaDoorW.PrintLast Go.Proofs.YtieedlokpbeebaaDoorW.PrintMore
attribute [local go_sem] max2_int min2_int max_two min_two max_three min_three max_four min_four   -- for this text's walks alone
set_option linter.unusedVariables false
set_option linter.unusedSimpArgs false

end Go.Proofs.YtieedlokpbeebaaDoor.PFnExactColourOfSpot
