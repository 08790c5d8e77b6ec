/-
  DERIVED. GIVEN WITH THE SEED: THE CARDS: each row of YtbekekbonnhnlaaDoorRows.lean that lists a variable, with what it lists TIED to the program's text (the seventh form; the later family's looks); each row that meets fmt, with fmt's text TOLD by the authors' own Lean function (tested against real Go, not proved from fmt's source: count such statements apart). THE CARD IS WHAT COUNTS. Prove the row's statement (the work); the ties are given (YtbekekbonnhnlaaDoorTie.lean); close each card by the builder's one call (the guide's Derived/Test/ToyasCard.lean, 'card_holds'). Laid BY PROGRAM, IN A SANDBOX (cutbox-door.mjs). By AI agents, Wed Nov 11 2026. No macro, syntax, notation, axiom, sorry.
-/
import Derived.Test.YtbekekbonnhnlaaDoorRows
import GoSem.ClaimSeven
namespace Go.Proofs.YtbekekbonnhnlaaDoor
namespace Rows

/-- THE TIED CARD OF 'laws.FnExactTurnWorld'. -/
def fnExactTurnWorldCard : Claim7 := { stood := { row := fnExactTurnWorldRow, standIns := [], harness := (true, "f0e105496054ab35cb92c4205a6e18469f076809f1d693ef4458194526f0ff47"), looks := true }, kinds := [], alts := [], laidByText := true, laidKinds := [.data, .pinned], laidTests := true, laidLooks := .later }
def FnExactTurnWorldCardSaid : Prop := Claim7.holds Tryd.pinned (.plain (OpenSpec.ofChange fnExactTurnWorldSpec)) fnExactTurnWorldCard

/-- THE TIED CARD OF 'laws.FnExactShiftWorld'. -/
def fnExactShiftWorldCard : Claim7 := { stood := { row := fnExactShiftWorldRow, standIns := [], harness := (true, "f0e105496054ab35cb92c4205a6e18469f076809f1d693ef4458194526f0ff47"), looks := true }, kinds := [], alts := [], laidByText := true, laidKinds := [.data, .pinned], laidTests := true, laidLooks := .later }
def FnExactShiftWorldCardSaid : Prop := Claim7.holds Tryd.pinned (.plain (OpenSpec.ofChange fnExactShiftWorldSpec)) fnExactShiftWorldCard

/-- THE TIED CARD OF 'laws.FnExactWorldText'. -/
def fnExactWorldTextCard : Claim7 := { stood := { row := fnExactWorldTextRow, standIns := [], harness := (true, "f0e105496054ab35cb92c4205a6e18469f076809f1d693ef4458194526f0ff47"), looks := true }, kinds := [], alts := [], laidByText := true, laidKinds := [.data, .data, .data, .data, .pinned], laidTests := true, laidLooks := .later }
def FnExactWorldTextCardSaid : Prop := Claim7.holds Tryd.pinned (.plain (OpenSpec.ofChange fnExactWorldTextSpec)) fnExactWorldTextCard

/-- THE TIED CARD OF 'laws.FnExactParseWorld'. -/
def fnExactParseWorldCard : Claim7 := { stood := { row := fnExactParseWorldRow, standIns := [], harness := (true, "f0e105496054ab35cb92c4205a6e18469f076809f1d693ef4458194526f0ff47"), looks := true }, kinds := [], alts := [], laidByText := true, laidKinds := [.data, .data, .data, .data, .sentinel, .sentinel, .pinned], laidTests := true, laidLooks := .later }
def FnExactParseWorldCardSaid : Prop := Claim7.holds Tryd.pinned (.plain (OpenSpec.ofChange fnExactParseWorldSpec)) fnExactParseWorldCard

/-- THE SECOND FORM's CARD OF 'laws.FnExactTurnWorld'. -/
def fnExactTurnWorldUptoCard : Claim7 := { stood := { row := fnExactTurnWorldUptoRow, standIns := [], harness := (true, "f0e105496054ab35cb92c4205a6e18469f076809f1d693ef4458194526f0ff47"), looks := true }, kinds := [], alts := [], laidByText := true, laidKinds := [.data, .pinned], laidTests := true, laidLooks := .later }
def FnExactTurnWorldUptoCardSaid : Prop := Claim7.holds Tryd.pinned (.plain (OpenSpec.upto fnExactTurnWorldSpec)) fnExactTurnWorldUptoCard

/-- THE SECOND FORM's CARD OF 'laws.FnExactShiftWorld'. -/
def fnExactShiftWorldUptoCard : Claim7 := { stood := { row := fnExactShiftWorldUptoRow, standIns := [], harness := (true, "f0e105496054ab35cb92c4205a6e18469f076809f1d693ef4458194526f0ff47"), looks := true }, kinds := [], alts := [], laidByText := true, laidKinds := [.data, .pinned], laidTests := true, laidLooks := .later }
def FnExactShiftWorldUptoCardSaid : Prop := Claim7.holds Tryd.pinned (.plain (OpenSpec.upto fnExactShiftWorldSpec)) fnExactShiftWorldUptoCard

/-- THE SECOND FORM's CARD OF 'laws.FnExactWorldText'. -/
def fnExactWorldTextUptoCard : Claim7 := { stood := { row := fnExactWorldTextUptoRow, standIns := [], harness := (true, "f0e105496054ab35cb92c4205a6e18469f076809f1d693ef4458194526f0ff47"), looks := true }, kinds := [], alts := [], laidByText := true, laidKinds := [.data, .data, .data, .data, .pinned], laidTests := true, laidLooks := .later }
def FnExactWorldTextUptoCardSaid : Prop := Claim7.holds Tryd.pinned (.plain (OpenSpec.upto fnExactWorldTextSpec)) fnExactWorldTextUptoCard

/-- THE SECOND FORM's CARD OF 'laws.FnExactParseWorld'. -/
def fnExactParseWorldUptoCard : Claim7 := { stood := { row := fnExactParseWorldUptoRow, standIns := [], harness := (true, "f0e105496054ab35cb92c4205a6e18469f076809f1d693ef4458194526f0ff47"), looks := true }, kinds := [], alts := [], laidByText := true, laidKinds := [.data, .data, .data, .data, .sentinel, .sentinel, .pinned], laidTests := true, laidLooks := .later }
def FnExactParseWorldUptoCardSaid : Prop := Claim7.holds Tryd.pinned (.plain (OpenSpec.upto fnExactParseWorldSpec)) fnExactParseWorldUptoCard
end Rows
end Go.Proofs.YtbekekbonnhnlaaDoor
