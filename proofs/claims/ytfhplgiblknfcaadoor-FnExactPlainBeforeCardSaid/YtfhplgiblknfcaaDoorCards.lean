/-
  DERIVED. GIVEN WITH THE SEED: THE CARDS: each row of YtfhplgiblknfcaaDoorRows.lean that lists a variable, with what it lists TIED to the program's text (the seventh form; the later family's looks); each row that meets fmt, with fmt's text TOLD by the authors' own Lean function (tested against real Go, not proved from fmt's source: count such statements apart). THE CARD IS WHAT COUNTS. Prove the row's statement (the work); the ties are given (YtfhplgiblknfcaaDoorTie.lean); close each card by the builder's one call (the guide's Derived/Test/ToyasCard.lean, 'card_holds'). Laid BY PROGRAM, IN A SANDBOX (cutbox-door.mjs). By AI agents, Wed Nov 11 2026. No macro, syntax, notation, axiom, sorry.
-/
import Derived.Test.YtfhplgiblknfcaaDoorRows
import GoSem.ClaimSeven
namespace Go.Proofs.YtfhplgiblknfcaaDoor
namespace Rows

/-- THE TIED CARD OF 'laws.FnExactPlainBefore'. -/
def fnExactPlainBeforeCard : Claim7 := { stood := { row := fnExactPlainBeforeRow, standIns := [], harness := (true, "e9b2281411234dbb1a5b92c5e5a745a70007f6f119d959e05494a55751901de3"), looks := false }, kinds := [], alts := [], laidByText := true, laidKinds := [.data, .pinned], laidTests := true, laidLooks := .later }
def FnExactPlainBeforeCardSaid : Prop := Claim7.holds Tryd.pinned (.plain (OpenSpec.ofChange fnExactPlainBeforeSpec)) fnExactPlainBeforeCard

/-- THE TIED CARD OF 'laws.FnExactPaintSpot'. -/
def fnExactPaintSpotCard : Claim7 := { stood := { row := fnExactPaintSpotRow, standIns := [], harness := (true, "e9b2281411234dbb1a5b92c5e5a745a70007f6f119d959e05494a55751901de3"), looks := false }, kinds := [], alts := [], laidByText := true, laidKinds := [.data, .pinned], laidTests := true, laidLooks := .later }
def FnExactPaintSpotCardSaid : Prop := Claim7.holds Tryd.pinned (.plain (OpenSpec.ofChange fnExactPaintSpotSpec)) fnExactPaintSpotCard

/-- THE SECOND FORM's CARD OF 'laws.FnExactPlainBefore'. -/
def fnExactPlainBeforeUptoCard : Claim7 := { stood := { row := fnExactPlainBeforeUptoRow, standIns := [], harness := (true, "e9b2281411234dbb1a5b92c5e5a745a70007f6f119d959e05494a55751901de3"), looks := false }, kinds := [], alts := [], laidByText := true, laidKinds := [.data, .pinned], laidTests := true, laidLooks := .later }
def FnExactPlainBeforeUptoCardSaid : Prop := Claim7.holds Tryd.pinned (.plain (OpenSpec.upto fnExactPlainBeforeSpec)) fnExactPlainBeforeUptoCard

/-- THE SECOND FORM's CARD OF 'laws.FnExactPaintSpot'. -/
def fnExactPaintSpotUptoCard : Claim7 := { stood := { row := fnExactPaintSpotUptoRow, standIns := [], harness := (true, "e9b2281411234dbb1a5b92c5e5a745a70007f6f119d959e05494a55751901de3"), looks := false }, kinds := [], alts := [], laidByText := true, laidKinds := [.data, .pinned], laidTests := true, laidLooks := .later }
def FnExactPaintSpotUptoCardSaid : Prop := Claim7.holds Tryd.pinned (.plain (OpenSpec.upto fnExactPaintSpotSpec)) fnExactPaintSpotUptoCard
end Rows
end Go.Proofs.YtfhplgiblknfcaaDoor
