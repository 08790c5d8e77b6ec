/-
  DERIVED. GIVEN WITH THE SEED: THE CARDS: each row of YtdicnggfigedoaaGreatDoorRows.lean that lists a variable, with what it lists TIED to the program's text (the seventh form; the later family's looks); each row that meets fmt, with fmt's text TOLD by the authors' own Lean function (tested against real Go, not proved from fmt's source: count such statements apart). THE CARD IS WHAT COUNTS. Prove the row's statement (the work); the ties are given (YtdicnggfigedoaaGreatDoorTie.lean); close each card by the builder's one call (the guide's Derived/Test/ToyasCard.lean, 'card_holds'). Laid BY PROGRAM, IN A SANDBOX (cutbox-door.mjs). By AI agents, Wed Nov 11 2026. No macro, syntax, notation, axiom, sorry.
-/
import Derived.Test.YtdicnggfigedoaaGreatDoorRows
import GoSem.ClaimSeven
namespace Go.Proofs.YtdicnggfigedoaaGreatDoor
namespace Rows

/-- THE TIED CARD OF 'laws.FnExactMirrorMaze'. -/
def fnExactMirrorMazeCard : Claim7 := { stood := { row := fnExactMirrorMazeRow, standIns := [], harness := (true, "e6430e67fafa72f537d8bc2ce2b562da8e8dbe8fac01f22336235a0184b517c5"), looks := true }, kinds := [], alts := [], laidByText := true, laidKinds := [.data, .pinned], laidTests := true, laidLooks := .later }
def FnExactMirrorMazeCardSaid : Prop := Claim7.holds Tryz.pinned (.plain (OpenSpec.ofChange fnExactMirrorMazeSpec)) fnExactMirrorMazeCard

/-- THE TIED CARD OF 'laws.FnExactTurnMaze'. -/
def fnExactTurnMazeCard : Claim7 := { stood := { row := fnExactTurnMazeRow, standIns := [], harness := (true, "e6430e67fafa72f537d8bc2ce2b562da8e8dbe8fac01f22336235a0184b517c5"), looks := true }, kinds := [], alts := [], laidByText := true, laidKinds := [.data, .pinned], laidTests := true, laidLooks := .later }
def FnExactTurnMazeCardSaid : Prop := Claim7.holds Tryz.pinned (.plain (OpenSpec.ofChange fnExactTurnMazeSpec)) fnExactTurnMazeCard

/-- THE TIED CARD OF 'laws.FnExactMirrorWorld'. -/
def fnExactMirrorWorldCard : Claim7 := { stood := { row := fnExactMirrorWorldRow, standIns := [], harness := (true, "e6430e67fafa72f537d8bc2ce2b562da8e8dbe8fac01f22336235a0184b517c5"), looks := true }, kinds := [], alts := [], laidByText := true, laidKinds := [.data, .pinned], laidTests := true, laidLooks := .later }
def FnExactMirrorWorldCardSaid : Prop := Claim7.holds Tryz.pinned (.plain (OpenSpec.ofChange fnExactMirrorWorldSpec)) fnExactMirrorWorldCard

/-- THE TIED CARD OF 'laws.FnExactBackWorld'. -/
def fnExactBackWorldCard : Claim7 := { stood := { row := fnExactBackWorldRow, standIns := [], harness := (true, "e6430e67fafa72f537d8bc2ce2b562da8e8dbe8fac01f22336235a0184b517c5"), looks := true }, kinds := [], alts := [], laidByText := true, laidKinds := [.data, .pinned], laidTests := true, laidLooks := .later }
def FnExactBackWorldCardSaid : Prop := Claim7.holds Tryz.pinned (.plain (OpenSpec.ofChange fnExactBackWorldSpec)) fnExactBackWorldCard

/-- THE SECOND FORM's CARD OF 'laws.FnExactMirrorMaze'. -/
def fnExactMirrorMazeUptoCard : Claim7 := { stood := { row := fnExactMirrorMazeUptoRow, standIns := [], harness := (true, "e6430e67fafa72f537d8bc2ce2b562da8e8dbe8fac01f22336235a0184b517c5"), looks := true }, kinds := [], alts := [], laidByText := true, laidKinds := [.data, .pinned], laidTests := true, laidLooks := .later }
def FnExactMirrorMazeUptoCardSaid : Prop := Claim7.holds Tryz.pinned (.plain (OpenSpec.upto fnExactMirrorMazeSpec)) fnExactMirrorMazeUptoCard

/-- THE SECOND FORM's CARD OF 'laws.FnExactTurnMaze'. -/
def fnExactTurnMazeUptoCard : Claim7 := { stood := { row := fnExactTurnMazeUptoRow, standIns := [], harness := (true, "e6430e67fafa72f537d8bc2ce2b562da8e8dbe8fac01f22336235a0184b517c5"), looks := true }, kinds := [], alts := [], laidByText := true, laidKinds := [.data, .pinned], laidTests := true, laidLooks := .later }
def FnExactTurnMazeUptoCardSaid : Prop := Claim7.holds Tryz.pinned (.plain (OpenSpec.upto fnExactTurnMazeSpec)) fnExactTurnMazeUptoCard

/-- THE SECOND FORM's CARD OF 'laws.FnExactMirrorWorld'. -/
def fnExactMirrorWorldUptoCard : Claim7 := { stood := { row := fnExactMirrorWorldUptoRow, standIns := [], harness := (true, "e6430e67fafa72f537d8bc2ce2b562da8e8dbe8fac01f22336235a0184b517c5"), looks := true }, kinds := [], alts := [], laidByText := true, laidKinds := [.data, .pinned], laidTests := true, laidLooks := .later }
def FnExactMirrorWorldUptoCardSaid : Prop := Claim7.holds Tryz.pinned (.plain (OpenSpec.upto fnExactMirrorWorldSpec)) fnExactMirrorWorldUptoCard

/-- THE SECOND FORM's CARD OF 'laws.FnExactBackWorld'. -/
def fnExactBackWorldUptoCard : Claim7 := { stood := { row := fnExactBackWorldUptoRow, standIns := [], harness := (true, "e6430e67fafa72f537d8bc2ce2b562da8e8dbe8fac01f22336235a0184b517c5"), looks := true }, kinds := [], alts := [], laidByText := true, laidKinds := [.data, .pinned], laidTests := true, laidLooks := .later }
def FnExactBackWorldUptoCardSaid : Prop := Claim7.holds Tryz.pinned (.plain (OpenSpec.upto fnExactBackWorldSpec)) fnExactBackWorldUptoCard
end Rows
end Go.Proofs.YtdicnggfigedoaaGreatDoor
