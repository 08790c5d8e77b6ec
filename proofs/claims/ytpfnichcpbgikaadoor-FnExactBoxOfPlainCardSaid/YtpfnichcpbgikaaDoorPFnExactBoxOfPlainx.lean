-- Made by wip/tools/xkit.py (a program of this session's) with the kit's printer.
import Derived.Test.YtpfnichcpbgikaaDoorPFnExactBoxOfPlainx0
import Derived.Test.YtpfnichcpbgikaaDoorPFnExactBoxOfPlainx1
import Derived.Test.YtpfnichcpbgikaaDoorPFnExactBoxOfPlainx2
import Derived.Test.YtpfnichcpbgikaaDoorPFnExactBoxOfPlainx3
import Derived.Test.YtpfnichcpbgikaaDoorPFnExactBoxOfPlainx4
import Derived.Test.YtpfnichcpbgikaaDoorPFnExactBoxOfPlainx5
import Derived.Test.YtpfnichcpbgikaaDoorPFnExactBoxOfPlainx6
import Derived.Test.YtpfnichcpbgikaaDoorPFnExactBoxOfPlainx7
import Derived.Test.YtpfnichcpbgikaaDoorPFnExactBoxOfPlainx8
import Derived.Test.YtpfnichcpbgikaaDoorPFnExactBoxOfPlainx9
namespace Go.Proofs.YtpfnichcpbgikaaDoor.PFnExactBoxOfPlain
open Go.RowKit Go.Proofs.YtpfnichcpbgikaaDoorW.PrintWords Go.Proofs.YtpfnichcpbgikaaDoorW.PrintLast Go.Proofs.YtpfnichcpbgikaaDoorW.PrintMore
attribute [local go_sem] max2_int min2_int max_two min_two max_three min_three max_four min_four   -- for this text's walks alone
set_option linter.unusedVariables false
set_option linter.unusedSimpArgs false

end Go.Proofs.YtpfnichcpbgikaaDoor.PFnExactBoxOfPlain
