-- Made by wip/tools/xkit.py (a program of this session's) with the kit's printer.
import Derived.Test.YtnbfjggbplofgaaDoorPFnExactCountTracksx
namespace Go.Proofs.YtnbfjggbplofgaaDoor.PFnExactCountTracks
open Go.RowKit Go.Proofs.YtnbfjggbplofgaaDoorW.PrintWords Go.Proofs.YtnbfjggbplofgaaDoorW.PrintLast
/-- The pure statement of the law. -/
def LawHolds : Prop := ∀ (a0_0 : Int) (a0_1 : Int) (a0_2 : ByteArray) (a0_3 : Bool), (Lit.int .i64 a0_0).wf = true → (Lit.int .i64 a0_1).wf = true → a0_2.size ≤ 140737488351232 → True → ∃ k, laws_FnExactCountTracks.f k a0_0 a0_1 a0_2 a0_3 = some true
end Go.Proofs.YtnbfjggbplofgaaDoor.PFnExactCountTracks
