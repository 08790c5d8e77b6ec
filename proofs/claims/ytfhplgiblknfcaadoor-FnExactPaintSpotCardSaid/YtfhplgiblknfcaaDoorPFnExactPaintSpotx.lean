-- Made by wip/tools/xkit.py (a program of this session's) with the kit's printer.
import Derived.Test.YtfhplgiblknfcaaDoorPFnExactPaintSpotx0
import Derived.Test.YtfhplgiblknfcaaDoorPFnExactPaintSpotx1
import Derived.Test.YtfhplgiblknfcaaDoorPFnExactPaintSpotx2
import Derived.Test.YtfhplgiblknfcaaDoorPFnExactPaintSpotx3
import Derived.Test.YtfhplgiblknfcaaDoorPFnExactPaintSpotx4
import Derived.Test.YtfhplgiblknfcaaDoorPFnExactPaintSpotx5
import Derived.Test.YtfhplgiblknfcaaDoorPFnExactPaintSpotx6
import Derived.Test.YtfhplgiblknfcaaDoorPFnExactPaintSpotx7
import Derived.Test.YtfhplgiblknfcaaDoorPFnExactPaintSpotx8
import Derived.Test.YtfhplgiblknfcaaDoorPFnExactPaintSpotx9
namespace Go.Proofs.YtfhplgiblknfcaaDoor.PFnExactPaintSpot
open Go.RowKit Go.Proofs.YtfhplgiblknfcaaDoorW.PrintWords Go.Proofs.YtfhplgiblknfcaaDoorW.PrintLast Go.Proofs.YtfhplgiblknfcaaDoorW.PrintMore
attribute [local go_sem] max2_int min2_int max_two min_two max_three min_three max_four min_four   -- for this text's walks alone
set_option linter.unusedVariables false
set_option linter.unusedSimpArgs false

end Go.Proofs.YtfhplgiblknfcaaDoor.PFnExactPaintSpot
