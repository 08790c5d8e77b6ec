/-
  DERIVED. GIVEN WITH THE SEED: THE CARDS: each row of YtggpolgcbojmeaaDoorRows.lean that lists a variable, with what it lists TIED to the program's text (the seventh form; the later family's looks); each row that meets fmt, with fmt's text TOLD by the authors' own Lean function (tested against real Go, not proved from fmt's source: count such statements apart). THE CARD IS WHAT COUNTS. Prove the row's statement (the work); the ties are given (YtggpolgcbojmeaaDoorTie.lean); close each card by the builder's one call (the guide's Derived/Test/ToyasCard.lean, 'card_holds'). Laid BY PROGRAM, IN A SANDBOX (cutbox-door.mjs). By AI agents, Wed Nov 11 2026. No macro, syntax, notation, axiom, sorry.
-/
import Derived.Test.YtggpolgcbojmeaaDoorRows
import GoSem.ClaimSeven
namespace Go.Proofs.YtggpolgcbojmeaaDoor
namespace Rows

/-- THE TIED CARD OF 'laws.FnExactIsRule'. -/
def fnExactIsRuleCard : Claim7 := { stood := { row := fnExactIsRuleRow, standIns := [], harness := (true, "02d41f27fc781fa17a7560ea5bd437737e4d67f19760c0c4f726f88c30822e37"), looks := false }, kinds := [], alts := [], laidByText := true, laidKinds := [.data, .pinned], laidTests := true, laidLooks := .later }
def FnExactIsRuleCardSaid : Prop := Claim7.holds Tryd.pinned (.plain (OpenSpec.ofChange fnExactIsRuleSpec)) fnExactIsRuleCard

/-- THE TIED CARD OF 'laws.FnExactIsWorld'. -/
def fnExactIsWorldCard : Claim7 := { stood := { row := fnExactIsWorldRow, standIns := [], harness := (true, "02d41f27fc781fa17a7560ea5bd437737e4d67f19760c0c4f726f88c30822e37"), looks := false }, kinds := [], alts := [], laidByText := true, laidKinds := [.data, .pinned], laidTests := true, laidLooks := .later }
def FnExactIsWorldCardSaid : Prop := Claim7.holds Tryd.pinned (.plain (OpenSpec.ofChange fnExactIsWorldSpec)) fnExactIsWorldCard

/-- THE TIED CARD OF 'laws.FnExactColourAt'. -/
def fnExactColourAtCard : Claim7 := { stood := { row := fnExactColourAtRow, standIns := [], harness := (true, "02d41f27fc781fa17a7560ea5bd437737e4d67f19760c0c4f726f88c30822e37"), looks := false }, kinds := [], alts := [], laidByText := true, laidKinds := [.data, .pinned], laidTests := true, laidLooks := .later }
def FnExactColourAtCardSaid : Prop := Claim7.holds Tryd.pinned (.plain (OpenSpec.ofChange fnExactColourAtSpec)) fnExactColourAtCard

/-- THE TIED CARD OF 'laws.FnExactColourSum'. -/
def fnExactColourSumCard : Claim7 := { stood := { row := fnExactColourSumRow, standIns := [], harness := (true, "02d41f27fc781fa17a7560ea5bd437737e4d67f19760c0c4f726f88c30822e37"), looks := false }, kinds := [], alts := [], laidByText := true, laidKinds := [.data, .pinned], laidTests := true, laidLooks := .later }
def FnExactColourSumCardSaid : Prop := Claim7.holds Tryd.pinned (.plain (OpenSpec.ofChange fnExactColourSumSpec)) fnExactColourSumCard

/-- THE TIED CARD OF 'laws.FnExactPlaceAnt'. -/
def fnExactPlaceAntCard : Claim7 := { stood := { row := fnExactPlaceAntRow, standIns := [], harness := (true, "02d41f27fc781fa17a7560ea5bd437737e4d67f19760c0c4f726f88c30822e37"), looks := false }, kinds := [], alts := [], laidByText := true, laidKinds := [.data, .pinned], laidTests := true, laidLooks := .later }
def FnExactPlaceAntCardSaid : Prop := Claim7.holds Tryd.pinned (.plain (OpenSpec.ofChange fnExactPlaceAntSpec)) fnExactPlaceAntCard

/-- THE TIED CARD OF 'laws.FnExactCountColours'. -/
def fnExactCountColoursCard : Claim7 := { stood := { row := fnExactCountColoursRow, standIns := [], harness := (true, "02d41f27fc781fa17a7560ea5bd437737e4d67f19760c0c4f726f88c30822e37"), looks := false }, kinds := [], alts := [], laidByText := true, laidKinds := [.data, .pinned], laidTests := true, laidLooks := .later }
def FnExactCountColoursCardSaid : Prop := Claim7.holds Tryd.pinned (.plain (OpenSpec.ofChange fnExactCountColoursSpec)) fnExactCountColoursCard

/-- THE TIED CARD OF 'laws.FnExactPaintCell'. -/
def fnExactPaintCellCard : Claim7 := { stood := { row := fnExactPaintCellRow, standIns := [], harness := (true, "02d41f27fc781fa17a7560ea5bd437737e4d67f19760c0c4f726f88c30822e37"), looks := false }, kinds := [], alts := [], laidByText := true, laidKinds := [.data, .pinned], laidTests := true, laidLooks := .later }
def FnExactPaintCellCardSaid : Prop := Claim7.holds Tryd.pinned (.plain (OpenSpec.ofChange fnExactPaintCellSpec)) fnExactPaintCellCard

/-- THE TIED CARD OF 'laws.FnExactStepBack'. -/
def fnExactStepBackCard : Claim7 := { stood := { row := fnExactStepBackRow, standIns := [], harness := (true, "02d41f27fc781fa17a7560ea5bd437737e4d67f19760c0c4f726f88c30822e37"), looks := false }, kinds := [], alts := [], laidByText := true, laidKinds := [.data, .pinned], laidTests := true, laidLooks := .later }
def FnExactStepBackCardSaid : Prop := Claim7.holds Tryd.pinned (.plain (OpenSpec.ofChange fnExactStepBackSpec)) fnExactStepBackCard

/-- THE TIED CARD OF 'laws.FnExactWorldBefore'. -/
def fnExactWorldBeforeCard : Claim7 := { stood := { row := fnExactWorldBeforeRow, standIns := [], harness := (true, "02d41f27fc781fa17a7560ea5bd437737e4d67f19760c0c4f726f88c30822e37"), looks := false }, kinds := [], alts := [], laidByText := true, laidKinds := [.data, .pinned], laidTests := true, laidLooks := .later }
def FnExactWorldBeforeCardSaid : Prop := Claim7.holds Tryd.pinned (.plain (OpenSpec.ofChange fnExactWorldBeforeSpec)) fnExactWorldBeforeCard

/-- THE TIED CARD OF 'laws.FnExactCountWorlds'. -/
def fnExactCountWorldsCard : Claim7 := { stood := { row := fnExactCountWorldsRow, standIns := [], harness := (true, "02d41f27fc781fa17a7560ea5bd437737e4d67f19760c0c4f726f88c30822e37"), looks := false }, kinds := [], alts := [], laidByText := true, laidKinds := [.data, .pinned], laidTests := true, laidLooks := .later }
def FnExactCountWorldsCardSaid : Prop := Claim7.holds Tryd.pinned (.plain (OpenSpec.ofChange fnExactCountWorldsSpec)) fnExactCountWorldsCard

/-- THE TIED CARD OF 'laws.FnExactEmptyWorld'. -/
def fnExactEmptyWorldCard : Claim7 := { stood := { row := fnExactEmptyWorldRow, standIns := [], harness := (true, "02d41f27fc781fa17a7560ea5bd437737e4d67f19760c0c4f726f88c30822e37"), looks := false }, kinds := [], alts := [], laidByText := true, laidKinds := [.data, .pinned], laidTests := true, laidLooks := .later }
def FnExactEmptyWorldCardSaid : Prop := Claim7.holds Tryd.pinned (.plain (OpenSpec.ofChange fnExactEmptyWorldSpec)) fnExactEmptyWorldCard

/-- THE TIED CARD OF 'laws.FnExactFirstPlain'. -/
def fnExactFirstPlainCard : Claim7 := { stood := { row := fnExactFirstPlainRow, standIns := [], harness := (true, "02d41f27fc781fa17a7560ea5bd437737e4d67f19760c0c4f726f88c30822e37"), looks := false }, kinds := [], alts := [], laidByText := true, laidKinds := [.data, .pinned], laidTests := true, laidLooks := .later }
def FnExactFirstPlainCardSaid : Prop := Claim7.holds Tryd.pinned (.plain (OpenSpec.ofChange fnExactFirstPlainSpec)) fnExactFirstPlainCard

/-- THE SECOND FORM's CARD OF 'laws.FnExactIsRule'. -/
def fnExactIsRuleUptoCard : Claim7 := { stood := { row := fnExactIsRuleUptoRow, standIns := [], harness := (true, "02d41f27fc781fa17a7560ea5bd437737e4d67f19760c0c4f726f88c30822e37"), looks := false }, kinds := [], alts := [], laidByText := true, laidKinds := [.data, .pinned], laidTests := true, laidLooks := .later }
def FnExactIsRuleUptoCardSaid : Prop := Claim7.holds Tryd.pinned (.plain (OpenSpec.upto fnExactIsRuleSpec)) fnExactIsRuleUptoCard

/-- THE SECOND FORM's CARD OF 'laws.FnExactIsWorld'. -/
def fnExactIsWorldUptoCard : Claim7 := { stood := { row := fnExactIsWorldUptoRow, standIns := [], harness := (true, "02d41f27fc781fa17a7560ea5bd437737e4d67f19760c0c4f726f88c30822e37"), looks := false }, kinds := [], alts := [], laidByText := true, laidKinds := [.data, .pinned], laidTests := true, laidLooks := .later }
def FnExactIsWorldUptoCardSaid : Prop := Claim7.holds Tryd.pinned (.plain (OpenSpec.upto fnExactIsWorldSpec)) fnExactIsWorldUptoCard

/-- THE SECOND FORM's CARD OF 'laws.FnExactColourAt'. -/
def fnExactColourAtUptoCard : Claim7 := { stood := { row := fnExactColourAtUptoRow, standIns := [], harness := (true, "02d41f27fc781fa17a7560ea5bd437737e4d67f19760c0c4f726f88c30822e37"), looks := false }, kinds := [], alts := [], laidByText := true, laidKinds := [.data, .pinned], laidTests := true, laidLooks := .later }
def FnExactColourAtUptoCardSaid : Prop := Claim7.holds Tryd.pinned (.plain (OpenSpec.upto fnExactColourAtSpec)) fnExactColourAtUptoCard

/-- THE SECOND FORM's CARD OF 'laws.FnExactColourSum'. -/
def fnExactColourSumUptoCard : Claim7 := { stood := { row := fnExactColourSumUptoRow, standIns := [], harness := (true, "02d41f27fc781fa17a7560ea5bd437737e4d67f19760c0c4f726f88c30822e37"), looks := false }, kinds := [], alts := [], laidByText := true, laidKinds := [.data, .pinned], laidTests := true, laidLooks := .later }
def FnExactColourSumUptoCardSaid : Prop := Claim7.holds Tryd.pinned (.plain (OpenSpec.upto fnExactColourSumSpec)) fnExactColourSumUptoCard

/-- THE SECOND FORM's CARD OF 'laws.FnExactPlaceAnt'. -/
def fnExactPlaceAntUptoCard : Claim7 := { stood := { row := fnExactPlaceAntUptoRow, standIns := [], harness := (true, "02d41f27fc781fa17a7560ea5bd437737e4d67f19760c0c4f726f88c30822e37"), looks := false }, kinds := [], alts := [], laidByText := true, laidKinds := [.data, .pinned], laidTests := true, laidLooks := .later }
def FnExactPlaceAntUptoCardSaid : Prop := Claim7.holds Tryd.pinned (.plain (OpenSpec.upto fnExactPlaceAntSpec)) fnExactPlaceAntUptoCard

/-- THE SECOND FORM's CARD OF 'laws.FnExactCountColours'. -/
def fnExactCountColoursUptoCard : Claim7 := { stood := { row := fnExactCountColoursUptoRow, standIns := [], harness := (true, "02d41f27fc781fa17a7560ea5bd437737e4d67f19760c0c4f726f88c30822e37"), looks := false }, kinds := [], alts := [], laidByText := true, laidKinds := [.data, .pinned], laidTests := true, laidLooks := .later }
def FnExactCountColoursUptoCardSaid : Prop := Claim7.holds Tryd.pinned (.plain (OpenSpec.upto fnExactCountColoursSpec)) fnExactCountColoursUptoCard

/-- THE SECOND FORM's CARD OF 'laws.FnExactPaintCell'. -/
def fnExactPaintCellUptoCard : Claim7 := { stood := { row := fnExactPaintCellUptoRow, standIns := [], harness := (true, "02d41f27fc781fa17a7560ea5bd437737e4d67f19760c0c4f726f88c30822e37"), looks := false }, kinds := [], alts := [], laidByText := true, laidKinds := [.data, .pinned], laidTests := true, laidLooks := .later }
def FnExactPaintCellUptoCardSaid : Prop := Claim7.holds Tryd.pinned (.plain (OpenSpec.upto fnExactPaintCellSpec)) fnExactPaintCellUptoCard

/-- THE SECOND FORM's CARD OF 'laws.FnExactStepBack'. -/
def fnExactStepBackUptoCard : Claim7 := { stood := { row := fnExactStepBackUptoRow, standIns := [], harness := (true, "02d41f27fc781fa17a7560ea5bd437737e4d67f19760c0c4f726f88c30822e37"), looks := false }, kinds := [], alts := [], laidByText := true, laidKinds := [.data, .pinned], laidTests := true, laidLooks := .later }
def FnExactStepBackUptoCardSaid : Prop := Claim7.holds Tryd.pinned (.plain (OpenSpec.upto fnExactStepBackSpec)) fnExactStepBackUptoCard

/-- THE SECOND FORM's CARD OF 'laws.FnExactWorldBefore'. -/
def fnExactWorldBeforeUptoCard : Claim7 := { stood := { row := fnExactWorldBeforeUptoRow, standIns := [], harness := (true, "02d41f27fc781fa17a7560ea5bd437737e4d67f19760c0c4f726f88c30822e37"), looks := false }, kinds := [], alts := [], laidByText := true, laidKinds := [.data, .pinned], laidTests := true, laidLooks := .later }
def FnExactWorldBeforeUptoCardSaid : Prop := Claim7.holds Tryd.pinned (.plain (OpenSpec.upto fnExactWorldBeforeSpec)) fnExactWorldBeforeUptoCard

/-- THE SECOND FORM's CARD OF 'laws.FnExactCountWorlds'. -/
def fnExactCountWorldsUptoCard : Claim7 := { stood := { row := fnExactCountWorldsUptoRow, standIns := [], harness := (true, "02d41f27fc781fa17a7560ea5bd437737e4d67f19760c0c4f726f88c30822e37"), looks := false }, kinds := [], alts := [], laidByText := true, laidKinds := [.data, .pinned], laidTests := true, laidLooks := .later }
def FnExactCountWorldsUptoCardSaid : Prop := Claim7.holds Tryd.pinned (.plain (OpenSpec.upto fnExactCountWorldsSpec)) fnExactCountWorldsUptoCard

/-- THE SECOND FORM's CARD OF 'laws.FnExactEmptyWorld'. -/
def fnExactEmptyWorldUptoCard : Claim7 := { stood := { row := fnExactEmptyWorldUptoRow, standIns := [], harness := (true, "02d41f27fc781fa17a7560ea5bd437737e4d67f19760c0c4f726f88c30822e37"), looks := false }, kinds := [], alts := [], laidByText := true, laidKinds := [.data, .pinned], laidTests := true, laidLooks := .later }
def FnExactEmptyWorldUptoCardSaid : Prop := Claim7.holds Tryd.pinned (.plain (OpenSpec.upto fnExactEmptyWorldSpec)) fnExactEmptyWorldUptoCard

/-- THE SECOND FORM's CARD OF 'laws.FnExactFirstPlain'. -/
def fnExactFirstPlainUptoCard : Claim7 := { stood := { row := fnExactFirstPlainUptoRow, standIns := [], harness := (true, "02d41f27fc781fa17a7560ea5bd437737e4d67f19760c0c4f726f88c30822e37"), looks := false }, kinds := [], alts := [], laidByText := true, laidKinds := [.data, .pinned], laidTests := true, laidLooks := .later }
def FnExactFirstPlainUptoCardSaid : Prop := Claim7.holds Tryd.pinned (.plain (OpenSpec.upto fnExactFirstPlainSpec)) fnExactFirstPlainUptoCard
end Rows
end Go.Proofs.YtggpolgcbojmeaaDoor
