/- What an argument of a law reads as, kind by kind: from the form's reading of an argument to the kinds' own words. Conditions: none beyond those that each lemma states. -/
import Derived.Test.YtjhokefoocajpaaDoorTParseWorldW
import Derived.ChangeArms
import Derived.Deep.Slices
import Derived.DataElems
import Derived.SizedLaws
import Derived.Below
namespace Go.Proofs.YtjhokefoocajpaaDoor.XOpen
open Go.RowKit Go.Proofs.YtjhokefoocajpaaDoorW.PrintWords Go.ChangeShapes Go.WideShapes Go.Deep
set_option linter.unusedVariables false

section
variable {H : Type} (enc : TypeId × Value → H) (P : Program) (W : World)

/-- What reads at type t is a value of the kind d of which T holds. -/
def Op {α : Type} (t : TypeId) (d : Kd α) (T : α → Prop) : Prop :=
  ∀ (fuel : Nat) (cs : List Value) (x : DataW H × List MemPlace), DataW.trod enc P W 0 (fun _ => true) true fuel t cs = some x →
    (∀ n ∈ DataW.weights P t x.1, n ≤ reachBytes) → ∃ a : α, d.K W a cs ∧ T a

end
end Go.Proofs.YtjhokefoocajpaaDoor.XOpen
