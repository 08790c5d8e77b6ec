/- The exported constants are those of the specification. Conditions: none. -/
import Derived.Test.YtjidpcfedlekoaaQFnExactConstants
namespace Go.Proofs.Ytjidpcfedlekoaa.Pure
open Go.RowKit Go.Proofs.Ytjidpcfedlekoaa.PFnExactConstants Go.Proofs.YtjidpcfedlekoaaW.PrintWords Go.Proofs.YtjidpcfedlekoaaW.PrintLast
set_option linter.unusedVariables false
set_option linter.unusedSimpArgs false
theorem FnExactConstants : LawHolds := rfl

end Go.Proofs.Ytjidpcfedlekoaa.Pure
