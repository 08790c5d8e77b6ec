/- Two short words for steps that the printed texts take often. Plain theorems. Conditions: none. -/
import Derived.Test.YtjidpcfedlekoaaTFillStepsW
namespace Go.Proofs.Ytjidpcfedlekoaa.XSq
open Go.RowKit Go.Proofs.YtjidpcfedlekoaaW.PrintWords
set_option linter.unusedVariables false
/-- What lay below stands in a world that only draws, lays blocks or writes into new ones since. -/
theorem bB {B : Nat} {w W0 W : World} (H : Aside0 (Below B w W0)) (h : Below B w W0 → Below B w W := by intro h_; repeat (first | (with_reducible first | exact h_ | apply below_alloc | apply pw_below_drewN | apply below_drew1 | refine below_set ?_ (Aside0.out (by assumption))) | exact h_)) : Below B w W := h H.out
end Go.Proofs.Ytjidpcfedlekoaa.XSq
