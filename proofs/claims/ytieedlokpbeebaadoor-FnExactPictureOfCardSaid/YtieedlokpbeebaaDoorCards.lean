/-
  DERIVED. GIVEN WITH THE SEED: THE CARDS: each row of YtieedlokpbeebaaDoorRows.lean that lists a variable, with what it lists TIED to the program's text (the seventh form; the later family's looks); each row that meets fmt, with fmt's text TOLD by the authors' own Lean function (tested against real Go, not proved from fmt's source: count such statements apart). THE CARD IS WHAT COUNTS. Prove the row's statement (the work); the ties are given (YtieedlokpbeebaaDoorTie.lean); close each card by the builder's one call (the guide's Derived/Test/ToyasCard.lean, 'card_holds'). Laid BY PROGRAM, IN A SANDBOX (cutbox-door.mjs). By AI agents, Wed Nov 11 2026. No macro, syntax, notation, axiom, sorry.
-/
import Derived.Test.YtieedlokpbeebaaDoorRows
import GoSem.ClaimSeven
namespace Go.Proofs.YtieedlokpbeebaaDoor
namespace Rows

/-- THE TIED CARD OF 'laws.FnExactPlainBefore'. -/
def fnExactPlainBeforeCard : Claim7 := { stood := { row := fnExactPlainBeforeRow, standIns := [], harness := (true, "991bfe20ff09fe4bc3b97409bfe434fce7f3f4c3ecbd598bfbba9b5d973e6849"), looks := false }, kinds := [], alts := [], laidByText := true, laidKinds := [.data, .pinned], laidTests := true, laidLooks := .later }
def FnExactPlainBeforeCardSaid : Prop := Claim7.holds Tryd.pinned (.plain (OpenSpec.ofChange fnExactPlainBeforeSpec)) fnExactPlainBeforeCard

/-- THE TIED CARD OF 'laws.FnExactColourOfSpot'. -/
def fnExactColourOfSpotCard : Claim7 := { stood := { row := fnExactColourOfSpotRow, standIns := [], harness := (true, "991bfe20ff09fe4bc3b97409bfe434fce7f3f4c3ecbd598bfbba9b5d973e6849"), looks := false }, kinds := [], alts := [], laidByText := true, laidKinds := [.data, .pinned], laidTests := true, laidLooks := .later }
def FnExactColourOfSpotCardSaid : Prop := Claim7.holds Tryd.pinned (.plain (OpenSpec.ofChange fnExactColourOfSpotSpec)) fnExactColourOfSpotCard

/-- THE TIED CARD OF 'laws.FnExactPictureOf'. -/
def fnExactPictureOfCard : Claim7 := { stood := { row := fnExactPictureOfRow, standIns := [], harness := (true, "991bfe20ff09fe4bc3b97409bfe434fce7f3f4c3ecbd598bfbba9b5d973e6849"), looks := false }, kinds := [], alts := [], laidByText := true, laidKinds := [.data, .pinned], laidTests := true, laidLooks := .later }
def FnExactPictureOfCardSaid : Prop := Claim7.holds Tryd.pinned (.plain (OpenSpec.ofChange fnExactPictureOfSpec)) fnExactPictureOfCard

/-- THE TIED CARD OF 'laws.FnExactPaintSpot'. -/
def fnExactPaintSpotCard : Claim7 := { stood := { row := fnExactPaintSpotRow, standIns := [], harness := (true, "991bfe20ff09fe4bc3b97409bfe434fce7f3f4c3ecbd598bfbba9b5d973e6849"), looks := false }, kinds := [], alts := [], laidByText := true, laidKinds := [.data, .pinned], laidTests := true, laidLooks := .later }
def FnExactPaintSpotCardSaid : Prop := Claim7.holds Tryd.pinned (.plain (OpenSpec.ofChange fnExactPaintSpotSpec)) fnExactPaintSpotCard

/-- THE SECOND FORM's CARD OF 'laws.FnExactPlainBefore'. -/
def fnExactPlainBeforeUptoCard : Claim7 := { stood := { row := fnExactPlainBeforeUptoRow, standIns := [], harness := (true, "991bfe20ff09fe4bc3b97409bfe434fce7f3f4c3ecbd598bfbba9b5d973e6849"), looks := false }, kinds := [], alts := [], laidByText := true, laidKinds := [.data, .pinned], laidTests := true, laidLooks := .later }
def FnExactPlainBeforeUptoCardSaid : Prop := Claim7.holds Tryd.pinned (.plain (OpenSpec.upto fnExactPlainBeforeSpec)) fnExactPlainBeforeUptoCard

/-- THE SECOND FORM's CARD OF 'laws.FnExactColourOfSpot'. -/
def fnExactColourOfSpotUptoCard : Claim7 := { stood := { row := fnExactColourOfSpotUptoRow, standIns := [], harness := (true, "991bfe20ff09fe4bc3b97409bfe434fce7f3f4c3ecbd598bfbba9b5d973e6849"), looks := false }, kinds := [], alts := [], laidByText := true, laidKinds := [.data, .pinned], laidTests := true, laidLooks := .later }
def FnExactColourOfSpotUptoCardSaid : Prop := Claim7.holds Tryd.pinned (.plain (OpenSpec.upto fnExactColourOfSpotSpec)) fnExactColourOfSpotUptoCard

/-- THE SECOND FORM's CARD OF 'laws.FnExactPictureOf'. -/
def fnExactPictureOfUptoCard : Claim7 := { stood := { row := fnExactPictureOfUptoRow, standIns := [], harness := (true, "991bfe20ff09fe4bc3b97409bfe434fce7f3f4c3ecbd598bfbba9b5d973e6849"), looks := false }, kinds := [], alts := [], laidByText := true, laidKinds := [.data, .pinned], laidTests := true, laidLooks := .later }
def FnExactPictureOfUptoCardSaid : Prop := Claim7.holds Tryd.pinned (.plain (OpenSpec.upto fnExactPictureOfSpec)) fnExactPictureOfUptoCard

/-- THE SECOND FORM's CARD OF 'laws.FnExactPaintSpot'. -/
def fnExactPaintSpotUptoCard : Claim7 := { stood := { row := fnExactPaintSpotUptoRow, standIns := [], harness := (true, "991bfe20ff09fe4bc3b97409bfe434fce7f3f4c3ecbd598bfbba9b5d973e6849"), looks := false }, kinds := [], alts := [], laidByText := true, laidKinds := [.data, .pinned], laidTests := true, laidLooks := .later }
def FnExactPaintSpotUptoCardSaid : Prop := Claim7.holds Tryd.pinned (.plain (OpenSpec.upto fnExactPaintSpotSpec)) fnExactPaintSpotUptoCard
end Rows
end Go.Proofs.YtieedlokpbeebaaDoor
