/-
  DERIVED. GIVEN WITH THE SEED: THE CARDS: each row of YtjmimgfgafdnnaaDoorRows.lean that lists a variable, with what it lists TIED to the program's text (the seventh form; the later family's looks); each row that meets fmt, with fmt's text TOLD by the authors' own Lean function (tested against real Go, not proved from fmt's source: count such statements apart). THE CARD IS WHAT COUNTS. Prove the row's statement (the work); the ties are given (YtjmimgfgafdnnaaDoorTie.lean); close each card by the builder's one call (the guide's Derived/Test/ToyasCard.lean, 'card_holds'). Laid BY PROGRAM, IN A SANDBOX (cutbox-door.mjs). By AI agents, Wed Nov 11 2026. No macro, syntax, notation, axiom, sorry.
-/
import Derived.Test.YtjmimgfgafdnnaaDoorRows
import GoSem.ClaimSeven
namespace Go.Proofs.YtjmimgfgafdnnaaDoor
namespace Rows

/-- THE TIED CARD OF 'laws.FnExactHitCell'. -/
def fnExactHitCellCard : Claim7 := { stood := { row := fnExactHitCellRow, standIns := [], harness := (true, "07fd02c6d8b3c08f8de34cc5ad9b4329ebf8137b92e563ca93f54097ebbe7435"), looks := true }, kinds := [], alts := [], laidByText := true, laidKinds := [.data, .pinned], laidTests := true, laidLooks := .later }
def FnExactHitCellCardSaid : Prop := Claim7.holds Tryd.pinned (.plain (OpenSpec.ofChange fnExactHitCellSpec)) fnExactHitCellCard

/-- THE TIED CARD OF 'laws.FnExactParseMaze'. -/
def fnExactParseMazeCard : Claim7 := { stood := { row := fnExactParseMazeRow, standIns := [], harness := (true, "07fd02c6d8b3c08f8de34cc5ad9b4329ebf8137b92e563ca93f54097ebbe7435"), looks := true }, kinds := [], alts := [], laidByText := true, laidKinds := [.data, .data, .data, .data, .sentinel, .sentinel, .pinned], laidTests := true, laidLooks := .later }
def FnExactParseMazeCardSaid : Prop := Claim7.holds Tryd.pinned (.plain (OpenSpec.ofChange fnExactParseMazeSpec)) fnExactParseMazeCard

/-- THE TIED CARD OF 'laws.FnExactMazeText'. -/
def fnExactMazeTextCard : Claim7 := { stood := { row := fnExactMazeTextRow, standIns := [], harness := (true, "07fd02c6d8b3c08f8de34cc5ad9b4329ebf8137b92e563ca93f54097ebbe7435"), looks := true }, kinds := [], alts := [], laidByText := true, laidKinds := [.data, .data, .data, .data, .pinned], laidTests := true, laidLooks := .later }
def FnExactMazeTextCardSaid : Prop := Claim7.holds Tryd.pinned (.plain (OpenSpec.ofChange fnExactMazeTextSpec)) fnExactMazeTextCard

/-- THE TIED CARD OF 'laws.FnExactCountTracks'. -/
def fnExactCountTracksCard : Claim7 := { stood := { row := fnExactCountTracksRow, standIns := [], harness := (true, "07fd02c6d8b3c08f8de34cc5ad9b4329ebf8137b92e563ca93f54097ebbe7435"), looks := true }, kinds := [], alts := [], laidByText := true, laidKinds := [.data, .pinned], laidTests := true, laidLooks := .later }
def FnExactCountTracksCardSaid : Prop := Claim7.holds Tryd.pinned (.plain (OpenSpec.ofChange fnExactCountTracksSpec)) fnExactCountTracksCard

/-- THE SECOND FORM's CARD OF 'laws.FnExactHitCell'. -/
def fnExactHitCellUptoCard : Claim7 := { stood := { row := fnExactHitCellUptoRow, standIns := [], harness := (true, "07fd02c6d8b3c08f8de34cc5ad9b4329ebf8137b92e563ca93f54097ebbe7435"), looks := true }, kinds := [], alts := [], laidByText := true, laidKinds := [.data, .pinned], laidTests := true, laidLooks := .later }
def FnExactHitCellUptoCardSaid : Prop := Claim7.holds Tryd.pinned (.plain (OpenSpec.upto fnExactHitCellSpec)) fnExactHitCellUptoCard

/-- THE SECOND FORM's CARD OF 'laws.FnExactParseMaze'. -/
def fnExactParseMazeUptoCard : Claim7 := { stood := { row := fnExactParseMazeUptoRow, standIns := [], harness := (true, "07fd02c6d8b3c08f8de34cc5ad9b4329ebf8137b92e563ca93f54097ebbe7435"), looks := true }, kinds := [], alts := [], laidByText := true, laidKinds := [.data, .data, .data, .data, .sentinel, .sentinel, .pinned], laidTests := true, laidLooks := .later }
def FnExactParseMazeUptoCardSaid : Prop := Claim7.holds Tryd.pinned (.plain (OpenSpec.upto fnExactParseMazeSpec)) fnExactParseMazeUptoCard

/-- THE SECOND FORM's CARD OF 'laws.FnExactMazeText'. -/
def fnExactMazeTextUptoCard : Claim7 := { stood := { row := fnExactMazeTextUptoRow, standIns := [], harness := (true, "07fd02c6d8b3c08f8de34cc5ad9b4329ebf8137b92e563ca93f54097ebbe7435"), looks := true }, kinds := [], alts := [], laidByText := true, laidKinds := [.data, .data, .data, .data, .pinned], laidTests := true, laidLooks := .later }
def FnExactMazeTextUptoCardSaid : Prop := Claim7.holds Tryd.pinned (.plain (OpenSpec.upto fnExactMazeTextSpec)) fnExactMazeTextUptoCard

/-- THE SECOND FORM's CARD OF 'laws.FnExactCountTracks'. -/
def fnExactCountTracksUptoCard : Claim7 := { stood := { row := fnExactCountTracksUptoRow, standIns := [], harness := (true, "07fd02c6d8b3c08f8de34cc5ad9b4329ebf8137b92e563ca93f54097ebbe7435"), looks := true }, kinds := [], alts := [], laidByText := true, laidKinds := [.data, .pinned], laidTests := true, laidLooks := .later }
def FnExactCountTracksUptoCardSaid : Prop := Claim7.holds Tryd.pinned (.plain (OpenSpec.upto fnExactCountTracksSpec)) fnExactCountTracksUptoCard
end Rows
end Go.Proofs.YtjmimgfgafdnnaaDoor
