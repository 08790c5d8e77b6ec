-- Made by wip/tools/xkit.py (a program of this session's) with the kit's printer.
import Derived.Test.YtjhokefoocajpaaDoorPFnExactParseWorldx0
import Derived.Test.YtjhokefoocajpaaDoorPFnExactParseWorldx1
import Derived.Test.YtjhokefoocajpaaDoorPFnExactParseWorldx2
import Derived.Test.YtjhokefoocajpaaDoorPFnExactParseWorldx3
import Derived.Test.YtjhokefoocajpaaDoorPFnExactParseWorldx4
import Derived.Test.YtjhokefoocajpaaDoorPFnExactParseWorldx5
import Derived.Test.YtjhokefoocajpaaDoorPFnExactParseWorldx6
namespace Go.Proofs.YtjhokefoocajpaaDoor.PFnExactParseWorld
open Go.RowKit Go.Proofs.YtjhokefoocajpaaDoorW.PrintWords Go.Proofs.YtjhokefoocajpaaDoorW.PrintLast Go.Proofs.YtjhokefoocajpaaDoorW.PrintMore
attribute [local go_sem] max2_int min2_int max_two min_two max_three min_three max_four min_four   -- for this text's walks alone
set_option linter.unusedVariables false
set_option linter.unusedSimpArgs false

end Go.Proofs.YtjhokefoocajpaaDoor.PFnExactParseWorld
