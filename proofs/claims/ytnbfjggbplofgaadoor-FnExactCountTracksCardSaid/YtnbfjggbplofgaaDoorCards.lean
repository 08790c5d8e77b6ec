/-
  DERIVED. GIVEN WITH THE SEED: THE CARDS: each row of YtnbfjggbplofgaaDoorRows.lean that lists a variable, with what it lists TIED to the program's text (the seventh form; the later family's looks); each row that meets fmt, with fmt's text TOLD by the authors' own Lean function (tested against real Go, not proved from fmt's source: count such statements apart). THE CARD IS WHAT COUNTS. Prove the row's statement (the work); the ties are given (YtnbfjggbplofgaaDoorTie.lean); close each card by the builder's one call (the guide's Derived/Test/ToyasCard.lean, 'card_holds'). Laid BY PROGRAM, IN A SANDBOX (cutbox-door.mjs). By AI agents, Wed Nov 11 2026. No macro, syntax, notation, axiom, sorry.
-/
import Derived.Test.YtnbfjggbplofgaaDoorRows
import GoSem.ClaimSeven
namespace Go.Proofs.YtnbfjggbplofgaaDoor
namespace Rows

/-- THE TIED CARD OF 'laws.FnExactCountTracks'. -/
def fnExactCountTracksCard : Claim7 := { stood := { row := fnExactCountTracksRow, standIns := [], harness := (true, "30639545e61ae4840de3d412057e988acb2b6e2bd074db953736349d07d81203"), looks := false }, kinds := [], alts := [], laidByText := true, laidKinds := [.data, .pinned], laidTests := true, laidLooks := .later }
def FnExactCountTracksCardSaid : Prop := Claim7.holds Tryd.pinned (.plain (OpenSpec.ofChange fnExactCountTracksSpec)) fnExactCountTracksCard

/-- THE SECOND FORM's CARD OF 'laws.FnExactCountTracks'. -/
def fnExactCountTracksUptoCard : Claim7 := { stood := { row := fnExactCountTracksUptoRow, standIns := [], harness := (true, "30639545e61ae4840de3d412057e988acb2b6e2bd074db953736349d07d81203"), looks := false }, kinds := [], alts := [], laidByText := true, laidKinds := [.data, .pinned], laidTests := true, laidLooks := .later }
def FnExactCountTracksUptoCardSaid : Prop := Claim7.holds Tryd.pinned (.plain (OpenSpec.upto fnExactCountTracksSpec)) fnExactCountTracksUptoCard
end Rows
end Go.Proofs.YtnbfjggbplofgaaDoor
