-- Made by wip/tools/xkit.py (a program of this session's) with the kit's printer.
import Derived.Test.YtpfnichcpbgikaaDoorPFnExactPlainOfWorldx0
import Derived.Test.YtpfnichcpbgikaaDoorPFnExactPlainOfWorldx1
import Derived.Test.YtpfnichcpbgikaaDoorPFnExactPlainOfWorldx2
import Derived.Test.YtpfnichcpbgikaaDoorPFnExactPlainOfWorldx3
import Derived.Test.YtpfnichcpbgikaaDoorPFnExactPlainOfWorldx4
import Derived.Test.YtpfnichcpbgikaaDoorPFnExactPlainOfWorldx5
namespace Go.Proofs.YtpfnichcpbgikaaDoor.PFnExactPlainOfWorld
open Go.RowKit Go.Proofs.YtpfnichcpbgikaaDoorW.PrintWords Go.Proofs.YtpfnichcpbgikaaDoorW.PrintLast Go.Proofs.YtpfnichcpbgikaaDoorW.PrintMore
attribute [local go_sem] max2_int min2_int max_two min_two max_three min_three max_four min_four   -- for this text's walks alone
set_option linter.unusedVariables false
set_option linter.unusedSimpArgs false

end Go.Proofs.YtpfnichcpbgikaaDoor.PFnExactPlainOfWorld
