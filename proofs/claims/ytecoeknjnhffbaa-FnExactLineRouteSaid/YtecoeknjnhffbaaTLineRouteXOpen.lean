/- What an argument of a law reads as, kind by kind: from the form's reading of an argument to the kinds' own words. Conditions: none beyond those that each lemma states. -/
import Derived.Test.YtecoeknjnhffbaaTLineRouteW
import Derived.ChangeArms
import Derived.Deep.Slices
import Derived.DataElems
import Derived.SizedLaws
import Derived.Below
namespace Go.Proofs.Ytecoeknjnhffbaa.XOpen
open Go.RowKit Go.Proofs.YtecoeknjnhffbaaW.PrintWords Go.ChangeShapes Go.WideShapes Go.Deep
set_option linter.unusedVariables false

section
variable {H : Type} (enc : TypeId × Value → H) (P : Program) (W : World)

end
end Go.Proofs.Ytecoeknjnhffbaa.XOpen
