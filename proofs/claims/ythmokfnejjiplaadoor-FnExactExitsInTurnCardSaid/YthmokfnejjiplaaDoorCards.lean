/-
  DERIVED. GIVEN WITH THE SEED: THE CARDS: each row of YthmokfnejjiplaaDoorRows.lean that lists a variable, with what it lists TIED to the program's text (the seventh form; the later family's looks); each row that meets fmt, with fmt's text TOLD by the authors' own Lean function (tested against real Go, not proved from fmt's source: count such statements apart). THE CARD IS WHAT COUNTS. Prove the row's statement (the work); the ties are given (YthmokfnejjiplaaDoorTie.lean); close each card by the builder's one call (the guide's Derived/Test/ToyasCard.lean, 'card_holds'). Laid BY PROGRAM, IN A SANDBOX (cutbox-door.mjs). By AI agents, Wed Nov 11 2026. No macro, syntax, notation, axiom, sorry.
-/
import Derived.Test.YthmokfnejjiplaaDoorRows
import GoSem.ClaimSeven
namespace Go.Proofs.YthmokfnejjiplaaDoor
namespace Rows

/-- THE TIED CARD OF 'laws.FnExactIsMaze'. -/
def fnExactIsMazeCard : Claim7 := { stood := { row := fnExactIsMazeRow, standIns := [], harness := (true, "26d39d70a7ddf55256cadea96264a5d71d7f37eb32efd027c56404f4475c94be"), looks := false }, kinds := [], alts := [], laidByText := true, laidKinds := [.data, .pinned], laidTests := true, laidLooks := .later }
def FnExactIsMazeCardSaid : Prop := Claim7.holds Tryd.pinned (.plain (OpenSpec.ofChange fnExactIsMazeSpec)) fnExactIsMazeCard

/-- THE TIED CARD OF 'laws.FnExactIsBall'. -/
def fnExactIsBallCard : Claim7 := { stood := { row := fnExactIsBallRow, standIns := [], harness := (true, "26d39d70a7ddf55256cadea96264a5d71d7f37eb32efd027c56404f4475c94be"), looks := false }, kinds := [], alts := [], laidByText := true, laidKinds := [.data, .pinned], laidTests := true, laidLooks := .later }
def FnExactIsBallCardSaid : Prop := Claim7.holds Tryd.pinned (.plain (OpenSpec.ofChange fnExactIsBallSpec)) fnExactIsBallCard

/-- THE TIED CARD OF 'laws.FnExactEntryOf'. -/
def fnExactEntryOfCard : Claim7 := { stood := { row := fnExactEntryOfRow, standIns := [], harness := (true, "26d39d70a7ddf55256cadea96264a5d71d7f37eb32efd027c56404f4475c94be"), looks := false }, kinds := [], alts := [], laidByText := true, laidKinds := [.data, .pinned], laidTests := true, laidLooks := .later }
def FnExactEntryOfCardSaid : Prop := Claim7.holds Tryd.pinned (.plain (OpenSpec.ofChange fnExactEntryOfSpec)) fnExactEntryOfCard

/-- THE TIED CARD OF 'laws.FnExactHitCell'. -/
def fnExactHitCellCard : Claim7 := { stood := { row := fnExactHitCellRow, standIns := [], harness := (true, "26d39d70a7ddf55256cadea96264a5d71d7f37eb32efd027c56404f4475c94be"), looks := false }, kinds := [], alts := [], laidByText := true, laidKinds := [.data, .pinned], laidTests := true, laidLooks := .later }
def FnExactHitCellCardSaid : Prop := Claim7.holds Tryd.pinned (.plain (OpenSpec.ofChange fnExactHitCellSpec)) fnExactHitCellCard

/-- THE TIED CARD OF 'laws.FnExactCountMirrors'. -/
def fnExactCountMirrorsCard : Claim7 := { stood := { row := fnExactCountMirrorsRow, standIns := [], harness := (true, "26d39d70a7ddf55256cadea96264a5d71d7f37eb32efd027c56404f4475c94be"), looks := false }, kinds := [], alts := [], laidByText := true, laidKinds := [.data, .pinned], laidTests := true, laidLooks := .later }
def FnExactCountMirrorsCardSaid : Prop := Claim7.holds Tryd.pinned (.plain (OpenSpec.ofChange fnExactCountMirrorsSpec)) fnExactCountMirrorsCard

/-- THE TIED CARD OF 'laws.FnExactExitOf'. -/
def fnExactExitOfCard : Claim7 := { stood := { row := fnExactExitOfRow, standIns := [], harness := (true, "26d39d70a7ddf55256cadea96264a5d71d7f37eb32efd027c56404f4475c94be"), looks := false }, kinds := [], alts := [], laidByText := true, laidKinds := [.data, .pinned], laidTests := true, laidLooks := .later }
def FnExactExitOfCardSaid : Prop := Claim7.holds Tryd.pinned (.plain (OpenSpec.ofChange fnExactExitOfSpec)) fnExactExitOfCard

/-- THE TIED CARD OF 'laws.FnExactHitsOfBall'. -/
def fnExactHitsOfBallCard : Claim7 := { stood := { row := fnExactHitsOfBallRow, standIns := [], harness := (true, "26d39d70a7ddf55256cadea96264a5d71d7f37eb32efd027c56404f4475c94be"), looks := false }, kinds := [], alts := [], laidByText := true, laidKinds := [.data, .pinned], laidTests := true, laidLooks := .later }
def FnExactHitsOfBallCardSaid : Prop := Claim7.holds Tryd.pinned (.plain (OpenSpec.ofChange fnExactHitsOfBallSpec)) fnExactHitsOfBallCard

/-- THE TIED CARD OF 'laws.FnExactLongestTrack'. -/
def fnExactLongestTrackCard : Claim7 := { stood := { row := fnExactLongestTrackRow, standIns := [], harness := (true, "26d39d70a7ddf55256cadea96264a5d71d7f37eb32efd027c56404f4475c94be"), looks := false }, kinds := [], alts := [], laidByText := true, laidKinds := [.data, .pinned], laidTests := true, laidLooks := .later }
def FnExactLongestTrackCardSaid : Prop := Claim7.holds Tryd.pinned (.plain (OpenSpec.ofChange fnExactLongestTrackSpec)) fnExactLongestTrackCard

/-- THE TIED CARD OF 'laws.FnExactBallsUntilSame'. -/
def fnExactBallsUntilSameCard : Claim7 := { stood := { row := fnExactBallsUntilSameRow, standIns := [], harness := (true, "26d39d70a7ddf55256cadea96264a5d71d7f37eb32efd027c56404f4475c94be"), looks := false }, kinds := [], alts := [], laidByText := true, laidKinds := [.data, .pinned], laidTests := true, laidLooks := .later }
def FnExactBallsUntilSameCardSaid : Prop := Claim7.holds Tryd.pinned (.plain (OpenSpec.ofChange fnExactBallsUntilSameSpec)) fnExactBallsUntilSameCard

/-- THE TIED CARD OF 'laws.FnExactMazeAfterBall'. -/
def fnExactMazeAfterBallCard : Claim7 := { stood := { row := fnExactMazeAfterBallRow, standIns := [], harness := (true, "26d39d70a7ddf55256cadea96264a5d71d7f37eb32efd027c56404f4475c94be"), looks := false }, kinds := [], alts := [], laidByText := true, laidKinds := [.data, .pinned], laidTests := true, laidLooks := .later }
def FnExactMazeAfterBallCardSaid : Prop := Claim7.holds Tryd.pinned (.plain (OpenSpec.ofChange fnExactMazeAfterBallSpec)) fnExactMazeAfterBallCard

/-- THE TIED CARD OF 'laws.FnExactExitTable'. -/
def fnExactExitTableCard : Claim7 := { stood := { row := fnExactExitTableRow, standIns := [], harness := (true, "26d39d70a7ddf55256cadea96264a5d71d7f37eb32efd027c56404f4475c94be"), looks := false }, kinds := [], alts := [], laidByText := true, laidKinds := [.data, .pinned], laidTests := true, laidLooks := .later }
def FnExactExitTableCardSaid : Prop := Claim7.holds Tryd.pinned (.plain (OpenSpec.ofChange fnExactExitTableSpec)) fnExactExitTableCard

/-- THE TIED CARD OF 'laws.FnExactExitsInTurn'. -/
def fnExactExitsInTurnCard : Claim7 := { stood := { row := fnExactExitsInTurnRow, standIns := [], harness := (true, "26d39d70a7ddf55256cadea96264a5d71d7f37eb32efd027c56404f4475c94be"), looks := false }, kinds := [], alts := [], laidByText := true, laidKinds := [.data, .pinned], laidTests := true, laidLooks := .later }
def FnExactExitsInTurnCardSaid : Prop := Claim7.holds Tryd.pinned (.plain (OpenSpec.ofChange fnExactExitsInTurnSpec)) fnExactExitsInTurnCard

/-- THE SECOND FORM's CARD OF 'laws.FnExactIsMaze'. -/
def fnExactIsMazeUptoCard : Claim7 := { stood := { row := fnExactIsMazeUptoRow, standIns := [], harness := (true, "26d39d70a7ddf55256cadea96264a5d71d7f37eb32efd027c56404f4475c94be"), looks := false }, kinds := [], alts := [], laidByText := true, laidKinds := [.data, .pinned], laidTests := true, laidLooks := .later }
def FnExactIsMazeUptoCardSaid : Prop := Claim7.holds Tryd.pinned (.plain (OpenSpec.upto fnExactIsMazeSpec)) fnExactIsMazeUptoCard

/-- THE SECOND FORM's CARD OF 'laws.FnExactIsBall'. -/
def fnExactIsBallUptoCard : Claim7 := { stood := { row := fnExactIsBallUptoRow, standIns := [], harness := (true, "26d39d70a7ddf55256cadea96264a5d71d7f37eb32efd027c56404f4475c94be"), looks := false }, kinds := [], alts := [], laidByText := true, laidKinds := [.data, .pinned], laidTests := true, laidLooks := .later }
def FnExactIsBallUptoCardSaid : Prop := Claim7.holds Tryd.pinned (.plain (OpenSpec.upto fnExactIsBallSpec)) fnExactIsBallUptoCard

/-- THE SECOND FORM's CARD OF 'laws.FnExactEntryOf'. -/
def fnExactEntryOfUptoCard : Claim7 := { stood := { row := fnExactEntryOfUptoRow, standIns := [], harness := (true, "26d39d70a7ddf55256cadea96264a5d71d7f37eb32efd027c56404f4475c94be"), looks := false }, kinds := [], alts := [], laidByText := true, laidKinds := [.data, .pinned], laidTests := true, laidLooks := .later }
def FnExactEntryOfUptoCardSaid : Prop := Claim7.holds Tryd.pinned (.plain (OpenSpec.upto fnExactEntryOfSpec)) fnExactEntryOfUptoCard

/-- THE SECOND FORM's CARD OF 'laws.FnExactHitCell'. -/
def fnExactHitCellUptoCard : Claim7 := { stood := { row := fnExactHitCellUptoRow, standIns := [], harness := (true, "26d39d70a7ddf55256cadea96264a5d71d7f37eb32efd027c56404f4475c94be"), looks := false }, kinds := [], alts := [], laidByText := true, laidKinds := [.data, .pinned], laidTests := true, laidLooks := .later }
def FnExactHitCellUptoCardSaid : Prop := Claim7.holds Tryd.pinned (.plain (OpenSpec.upto fnExactHitCellSpec)) fnExactHitCellUptoCard

/-- THE SECOND FORM's CARD OF 'laws.FnExactCountMirrors'. -/
def fnExactCountMirrorsUptoCard : Claim7 := { stood := { row := fnExactCountMirrorsUptoRow, standIns := [], harness := (true, "26d39d70a7ddf55256cadea96264a5d71d7f37eb32efd027c56404f4475c94be"), looks := false }, kinds := [], alts := [], laidByText := true, laidKinds := [.data, .pinned], laidTests := true, laidLooks := .later }
def FnExactCountMirrorsUptoCardSaid : Prop := Claim7.holds Tryd.pinned (.plain (OpenSpec.upto fnExactCountMirrorsSpec)) fnExactCountMirrorsUptoCard

/-- THE SECOND FORM's CARD OF 'laws.FnExactExitOf'. -/
def fnExactExitOfUptoCard : Claim7 := { stood := { row := fnExactExitOfUptoRow, standIns := [], harness := (true, "26d39d70a7ddf55256cadea96264a5d71d7f37eb32efd027c56404f4475c94be"), looks := false }, kinds := [], alts := [], laidByText := true, laidKinds := [.data, .pinned], laidTests := true, laidLooks := .later }
def FnExactExitOfUptoCardSaid : Prop := Claim7.holds Tryd.pinned (.plain (OpenSpec.upto fnExactExitOfSpec)) fnExactExitOfUptoCard

/-- THE SECOND FORM's CARD OF 'laws.FnExactHitsOfBall'. -/
def fnExactHitsOfBallUptoCard : Claim7 := { stood := { row := fnExactHitsOfBallUptoRow, standIns := [], harness := (true, "26d39d70a7ddf55256cadea96264a5d71d7f37eb32efd027c56404f4475c94be"), looks := false }, kinds := [], alts := [], laidByText := true, laidKinds := [.data, .pinned], laidTests := true, laidLooks := .later }
def FnExactHitsOfBallUptoCardSaid : Prop := Claim7.holds Tryd.pinned (.plain (OpenSpec.upto fnExactHitsOfBallSpec)) fnExactHitsOfBallUptoCard

/-- THE SECOND FORM's CARD OF 'laws.FnExactLongestTrack'. -/
def fnExactLongestTrackUptoCard : Claim7 := { stood := { row := fnExactLongestTrackUptoRow, standIns := [], harness := (true, "26d39d70a7ddf55256cadea96264a5d71d7f37eb32efd027c56404f4475c94be"), looks := false }, kinds := [], alts := [], laidByText := true, laidKinds := [.data, .pinned], laidTests := true, laidLooks := .later }
def FnExactLongestTrackUptoCardSaid : Prop := Claim7.holds Tryd.pinned (.plain (OpenSpec.upto fnExactLongestTrackSpec)) fnExactLongestTrackUptoCard

/-- THE SECOND FORM's CARD OF 'laws.FnExactBallsUntilSame'. -/
def fnExactBallsUntilSameUptoCard : Claim7 := { stood := { row := fnExactBallsUntilSameUptoRow, standIns := [], harness := (true, "26d39d70a7ddf55256cadea96264a5d71d7f37eb32efd027c56404f4475c94be"), looks := false }, kinds := [], alts := [], laidByText := true, laidKinds := [.data, .pinned], laidTests := true, laidLooks := .later }
def FnExactBallsUntilSameUptoCardSaid : Prop := Claim7.holds Tryd.pinned (.plain (OpenSpec.upto fnExactBallsUntilSameSpec)) fnExactBallsUntilSameUptoCard

/-- THE SECOND FORM's CARD OF 'laws.FnExactMazeAfterBall'. -/
def fnExactMazeAfterBallUptoCard : Claim7 := { stood := { row := fnExactMazeAfterBallUptoRow, standIns := [], harness := (true, "26d39d70a7ddf55256cadea96264a5d71d7f37eb32efd027c56404f4475c94be"), looks := false }, kinds := [], alts := [], laidByText := true, laidKinds := [.data, .pinned], laidTests := true, laidLooks := .later }
def FnExactMazeAfterBallUptoCardSaid : Prop := Claim7.holds Tryd.pinned (.plain (OpenSpec.upto fnExactMazeAfterBallSpec)) fnExactMazeAfterBallUptoCard

/-- THE SECOND FORM's CARD OF 'laws.FnExactExitTable'. -/
def fnExactExitTableUptoCard : Claim7 := { stood := { row := fnExactExitTableUptoRow, standIns := [], harness := (true, "26d39d70a7ddf55256cadea96264a5d71d7f37eb32efd027c56404f4475c94be"), looks := false }, kinds := [], alts := [], laidByText := true, laidKinds := [.data, .pinned], laidTests := true, laidLooks := .later }
def FnExactExitTableUptoCardSaid : Prop := Claim7.holds Tryd.pinned (.plain (OpenSpec.upto fnExactExitTableSpec)) fnExactExitTableUptoCard

/-- THE SECOND FORM's CARD OF 'laws.FnExactExitsInTurn'. -/
def fnExactExitsInTurnUptoCard : Claim7 := { stood := { row := fnExactExitsInTurnUptoRow, standIns := [], harness := (true, "26d39d70a7ddf55256cadea96264a5d71d7f37eb32efd027c56404f4475c94be"), looks := false }, kinds := [], alts := [], laidByText := true, laidKinds := [.data, .pinned], laidTests := true, laidLooks := .later }
def FnExactExitsInTurnUptoCardSaid : Prop := Claim7.holds Tryd.pinned (.plain (OpenSpec.upto fnExactExitsInTurnSpec)) fnExactExitsInTurnUptoCard
end Rows
end Go.Proofs.YthmokfnejjiplaaDoor
