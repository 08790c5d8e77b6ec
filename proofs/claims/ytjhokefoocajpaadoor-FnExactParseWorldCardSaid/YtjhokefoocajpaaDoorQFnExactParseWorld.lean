-- Made by wip/tools/xkit.py (a program of this session's) with the kit's printer.
import Derived.Test.YtjhokefoocajpaaDoorPFnExactParseWorldx
namespace Go.Proofs.YtjhokefoocajpaaDoor.PFnExactParseWorld
open Go.RowKit Go.Proofs.YtjhokefoocajpaaDoorW.PrintWords Go.Proofs.YtjhokefoocajpaaDoorW.PrintLast
/-- The pure statement of the law. -/
def LawHolds : Prop := ∀ (a0 : ByteArray), a0.size ≤ 140737488351232 → ∃ k, laws_FnExactParseWorld.f k a0 = some true
end Go.Proofs.YtjhokefoocajpaaDoor.PFnExactParseWorld
