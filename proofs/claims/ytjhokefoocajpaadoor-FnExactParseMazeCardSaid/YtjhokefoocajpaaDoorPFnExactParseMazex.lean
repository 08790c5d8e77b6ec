-- Made by wip/tools/xkit.py (a program of this session's) with the kit's printer.
import Derived.Test.YtjhokefoocajpaaDoorPFnExactParseMazex0
import Derived.Test.YtjhokefoocajpaaDoorPFnExactParseMazex1
import Derived.Test.YtjhokefoocajpaaDoorPFnExactParseMazex2
import Derived.Test.YtjhokefoocajpaaDoorPFnExactParseMazex3
import Derived.Test.YtjhokefoocajpaaDoorPFnExactParseMazex4
import Derived.Test.YtjhokefoocajpaaDoorPFnExactParseMazex5
namespace Go.Proofs.YtjhokefoocajpaaDoor.PFnExactParseMaze
open Go.RowKit Go.Proofs.YtjhokefoocajpaaDoorW.PrintWords Go.Proofs.YtjhokefoocajpaaDoorW.PrintLast Go.Proofs.YtjhokefoocajpaaDoorW.PrintMore
attribute [local go_sem] max2_int min2_int max_two min_two max_three min_three max_four min_four   -- for this text's walks alone
set_option linter.unusedVariables false
set_option linter.unusedSimpArgs false

end Go.Proofs.YtjhokefoocajpaaDoor.PFnExactParseMaze
