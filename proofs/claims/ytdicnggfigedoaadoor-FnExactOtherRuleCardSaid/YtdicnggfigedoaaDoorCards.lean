/-
  DERIVED. GIVEN WITH THE SEED: THE CARDS: each row of YtdicnggfigedoaaDoorRows.lean that lists a variable, with what it lists TIED to the program's text (the seventh form; the later family's looks); each row that meets fmt, with fmt's text TOLD by the authors' own Lean function (tested against real Go, not proved from fmt's source: count such statements apart). THE CARD IS WHAT COUNTS. Prove the row's statement (the work); the ties are given (YtdicnggfigedoaaDoorTie.lean); close each card by the builder's one call (the guide's Derived/Test/ToyasCard.lean, 'card_holds'). Laid BY PROGRAM, IN A SANDBOX (cutbox-door.mjs). By AI agents, Wed Nov 11 2026. No macro, syntax, notation, axiom, sorry.
-/
import Derived.Test.YtdicnggfigedoaaDoorRows
import GoSem.ClaimSeven
namespace Go.Proofs.YtdicnggfigedoaaDoor
namespace Rows

/-- THE TIED CARD OF 'laws.FnExactOtherRule'. -/
def fnExactOtherRuleCard : Claim7 := { stood := { row := fnExactOtherRuleRow, standIns := [], harness := (true, "cdac3360e97378908d39e519afea02b074e2d27f4ec11c4d11b97ec247cb292c"), looks := true }, kinds := [], alts := [], laidByText := true, laidKinds := [.data, .pinned], laidTests := true, laidLooks := .later }
def FnExactOtherRuleCardSaid : Prop := Claim7.holds Tryd.pinned (.plain (OpenSpec.ofChange fnExactOtherRuleSpec)) fnExactOtherRuleCard

/-- THE SECOND FORM's CARD OF 'laws.FnExactOtherRule'. -/
def fnExactOtherRuleUptoCard : Claim7 := { stood := { row := fnExactOtherRuleUptoRow, standIns := [], harness := (true, "cdac3360e97378908d39e519afea02b074e2d27f4ec11c4d11b97ec247cb292c"), looks := true }, kinds := [], alts := [], laidByText := true, laidKinds := [.data, .pinned], laidTests := true, laidLooks := .later }
def FnExactOtherRuleUptoCardSaid : Prop := Claim7.holds Tryd.pinned (.plain (OpenSpec.upto fnExactOtherRuleSpec)) fnExactOtherRuleUptoCard
end Rows
end Go.Proofs.YtdicnggfigedoaaDoor
