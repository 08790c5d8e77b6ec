-- Made by wip/tools/xkit.py (a program of this session's) with the kit's printer.
import Derived.Test.YtnbfjggbplofgaaDoorPFnExactCountTracksx0
import Derived.Test.YtnbfjggbplofgaaDoorPFnExactCountTracksx1
import Derived.Test.YtnbfjggbplofgaaDoorPFnExactCountTracksx2
import Derived.Test.YtnbfjggbplofgaaDoorPFnExactCountTracksx3
import Derived.Test.YtnbfjggbplofgaaDoorPFnExactCountTracksx4
import Derived.Test.YtnbfjggbplofgaaDoorPFnExactCountTracksx5
import Derived.Test.YtnbfjggbplofgaaDoorPFnExactCountTracksx6
import Derived.Test.YtnbfjggbplofgaaDoorPFnExactCountTracksx7
namespace Go.Proofs.YtnbfjggbplofgaaDoor.PFnExactCountTracks
open Go.RowKit Go.Proofs.YtnbfjggbplofgaaDoorW.PrintWords Go.Proofs.YtnbfjggbplofgaaDoorW.PrintLast Go.Proofs.YtnbfjggbplofgaaDoorW.PrintMore
attribute [local go_sem] max2_int min2_int max_two min_two max_three min_three max_four min_four   -- for this text's walks alone
set_option linter.unusedVariables false
set_option linter.unusedSimpArgs false

end Go.Proofs.YtnbfjggbplofgaaDoor.PFnExactCountTracks
