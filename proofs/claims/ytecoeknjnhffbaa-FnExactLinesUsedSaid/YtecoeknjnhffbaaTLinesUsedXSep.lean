/- What lies behind a variable in memory. Plain theorems. Conditions: none. -/
import Derived.Test.YtecoeknjnhffbaaTLinesUsedW
namespace Go.Proofs.Ytecoeknjnhffbaa.XSep
open Go.RowKit Go.Proofs.YtecoeknjnhffbaaW.PrintWords
set_option linter.unusedVariables false
theorem le_of_blk {W : World} {n g k : Nat} {o : Obj} (hn : n ≤ g) (h : W.heap.size ≤ k) (hb : W.heap[g]? = some o) : n ≤ k := Nat.le_trans hn (Nat.le_of_lt (Nat.lt_of_lt_of_le (blk_lt hb) h))
end Go.Proofs.Ytecoeknjnhffbaa.XSep
