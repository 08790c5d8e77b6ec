-- Made by wip/tools/xkit.py (a program of this session's) with the kit's printer.
import Derived.Test.YtggpolgcbojmeaaDoorProg
import Derived.Below
import Derived.Deep.Draws
import Derived.Deep.AppendLies
import Derived.Maps.AppendAt
import Derived.OwnWalk
import Derived.Laws.BytesArg
import Derived.Laws.MakeOwn
import Derived.Laws.OwnMore
import Derived.Deep.OwnRows
import Derived.Tactics
import Derived.Lib.ConvBytes
import Derived.Laws.Slices
import Derived.WalkKit
import Derived.KernelRfl
import Derived.RowKit3
import Derived.Deep.LoopGhost
import Derived.Deep.QuietTactic
import Derived.BigQuiet
import Derived.WideLaws
import Derived.Deep.DeepCutAuto
import Derived.Deep.CutBlock
import Derived.Deep.RegionHeld3
import Derived.Laws.Rows
import Derived.Lib.AppendStr
import Derived.ArgAppend
import Derived.Laws.IdiomCopy
import Derived.OrdersHeld
import Derived.Laws.BitsLemmas
import Derived.RowKit
import Derived.Shelf.Strings.SlTrimAscii
import Derived.Test.YtggpolgcbojmeaaDoorXLays
import Derived.Test.YtggpolgcbojmeaaDoorWWords
import Derived.Test.YtggpolgcbojmeaaDoorWLast
import Derived.Test.YtggpolgcbojmeaaDoorWTab
import Derived.Test.YtggpolgcbojmeaaDoorWFour
import Derived.Test.YtggpolgcbojmeaaDoorWQPut
import Derived.Test.YtggpolgcbojmeaaDoorWApart
import Derived.Test.YtggpolgcbojmeaaDoorWArr
import Derived.Test.YtggpolgcbojmeaaDoorWZeros
import Derived.Test.YtggpolgcbojmeaaDoorWFoot
import Derived.Test.YtggpolgcbojmeaaDoorWKept
import Derived.Test.YtggpolgcbojmeaaDoorWShare
import Derived.Test.YtggpolgcbojmeaaDoorWN
import Derived.Test.YtggpolgcbojmeaaDoorWFootNe
import Derived.Test.YtggpolgcbojmeaaDoorWAt
import Derived.Test.YtggpolgcbojmeaaDoorWEqStruct
import Derived.Test.YtggpolgcbojmeaaDoorWRepsOne
import Derived.Test.YtggpolgcbojmeaaDoorWInv
import Derived.Test.YtggpolgcbojmeaaDoorWInvWords
import Derived.Test.YtggpolgcbojmeaaDoorWGuard
import Derived.Test.YtggpolgcbojmeaaDoorWNEv
import Derived.Test.YtggpolgcbojmeaaDoorWMore
namespace Go.Proofs.YtggpolgcbojmeaaDoor.PFnExactCountWorlds
open Go.RowKit Go.Proofs.YtggpolgcbojmeaaDoorW.PrintWords Go.Proofs.YtggpolgcbojmeaaDoorW.PrintLast Go.Proofs.YtggpolgcbojmeaaDoorW.PrintMore
attribute [local go_sem] max2_int min2_int max_two min_two max_three min_three max_four min_four   -- for this text's walks alone
set_option linter.unusedVariables false
set_option linter.unusedSimpArgs false



def errW : Option Int → Value
  | none => .nilIface
  | some c => .iface 0 (.int .i64 c)
theorem errW_none : errW none = .nilIface := rfl
theorem errW_some (c : Int) : errW (some c) = .iface 0 (.int .i64 c) := rfl

-- the values' own types

end Go.Proofs.YtggpolgcbojmeaaDoor.PFnExactCountWorlds
