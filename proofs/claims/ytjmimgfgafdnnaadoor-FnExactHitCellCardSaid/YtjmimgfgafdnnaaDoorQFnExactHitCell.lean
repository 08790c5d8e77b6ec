-- Made by wip/tools/xkit.py (a program of this session's) with the kit's printer.
import Derived.Test.YtjmimgfgafdnnaaDoorPFnExactHitCellx
namespace Go.Proofs.YtjmimgfgafdnnaaDoor.PFnExactHitCell
open Go.RowKit Go.Proofs.YtjmimgfgafdnnaaDoorW.PrintWords Go.Proofs.YtjmimgfgafdnnaaDoorW.PrintLast
/-- The pure statement of the law. -/
def LawHolds : Prop := ∀ (a0_0 : Int) (a0_1 : Int) (a0_2 : ByteArray) (a0_3 : Bool) (a1_0 : Int) (a1_1 : Int) (a1_2 : Int), (Lit.int .i64 a0_0).wf = true → (Lit.int .i64 a0_1).wf = true → a0_2.size ≤ 140737488351232 → True → (Lit.int .i64 a1_0).wf = true → (Lit.int .i64 a1_1).wf = true → (Lit.int .i64 a1_2).wf = true → ∃ k, laws_FnExactHitCell.f k a0_0 a0_1 a0_2 a0_3 a1_0 a1_1 a1_2 = some true
end Go.Proofs.YtjmimgfgafdnnaaDoor.PFnExactHitCell
