/-
  DERIVED. GIVEN WITH THE SEED: THE CARDS: each row of YtjhokefoocajpaaDoorRows.lean that lists a variable, with what it lists TIED to the program's text (the seventh form; the later family's looks); each row that meets fmt, with fmt's text TOLD by the authors' own Lean function (tested against real Go, not proved from fmt's source: count such statements apart). THE CARD IS WHAT COUNTS. Prove the row's statement (the work); the ties are given (YtjhokefoocajpaaDoorTie.lean); close each card by the builder's one call (the guide's Derived/Test/ToyasCard.lean, 'card_holds'). Laid BY PROGRAM, IN A SANDBOX (cutbox-door.mjs). By AI agents, Wed Nov 11 2026. No macro, syntax, notation, axiom, sorry.
-/
import Derived.Test.YtjhokefoocajpaaDoorRows
import GoSem.ClaimSeven
namespace Go.Proofs.YtjhokefoocajpaaDoor
namespace Rows

/-- THE TIED CARD OF 'laws.FnExactParseWorld'. -/
def fnExactParseWorldCard : Claim7 := { stood := { row := fnExactParseWorldRow, standIns := [], harness := (true, "d6d9757351bec0a45bf610fe371b701b42f26d3a339a6b4b9cf1c7f7fb2f2ce6"), looks := true }, kinds := [], alts := [], laidByText := true, laidKinds := [.data, .data, .data, .data, .sentinel, .sentinel, .pinned], laidTests := true, laidLooks := .later }
def FnExactParseWorldCardSaid : Prop := Claim7.holds Tryd.pinned (.plain (OpenSpec.ofChange fnExactParseWorldSpec)) fnExactParseWorldCard

/-- THE TIED CARD OF 'laws.FnExactParseMaze'. -/
def fnExactParseMazeCard : Claim7 := { stood := { row := fnExactParseMazeRow, standIns := [], harness := (true, "d6d9757351bec0a45bf610fe371b701b42f26d3a339a6b4b9cf1c7f7fb2f2ce6"), looks := true }, kinds := [], alts := [], laidByText := true, laidKinds := [.data, .data, .data, .data, .sentinel, .sentinel, .pinned], laidTests := true, laidLooks := .later }
def FnExactParseMazeCardSaid : Prop := Claim7.holds Tryd.pinned (.plain (OpenSpec.ofChange fnExactParseMazeSpec)) fnExactParseMazeCard

/-- THE TIED CARD OF 'laws.FnExactCountTracks'. -/
def fnExactCountTracksCard : Claim7 := { stood := { row := fnExactCountTracksRow, standIns := [], harness := (true, "d6d9757351bec0a45bf610fe371b701b42f26d3a339a6b4b9cf1c7f7fb2f2ce6"), looks := true }, kinds := [], alts := [], laidByText := true, laidKinds := [.data, .pinned], laidTests := true, laidLooks := .later }
def FnExactCountTracksCardSaid : Prop := Claim7.holds Tryd.pinned (.plain (OpenSpec.ofChange fnExactCountTracksSpec)) fnExactCountTracksCard

/-- THE SECOND FORM's CARD OF 'laws.FnExactParseWorld'. -/
def fnExactParseWorldUptoCard : Claim7 := { stood := { row := fnExactParseWorldUptoRow, standIns := [], harness := (true, "d6d9757351bec0a45bf610fe371b701b42f26d3a339a6b4b9cf1c7f7fb2f2ce6"), looks := true }, kinds := [], alts := [], laidByText := true, laidKinds := [.data, .data, .data, .data, .sentinel, .sentinel, .pinned], laidTests := true, laidLooks := .later }
def FnExactParseWorldUptoCardSaid : Prop := Claim7.holds Tryd.pinned (.plain (OpenSpec.upto fnExactParseWorldSpec)) fnExactParseWorldUptoCard

/-- THE SECOND FORM's CARD OF 'laws.FnExactParseMaze'. -/
def fnExactParseMazeUptoCard : Claim7 := { stood := { row := fnExactParseMazeUptoRow, standIns := [], harness := (true, "d6d9757351bec0a45bf610fe371b701b42f26d3a339a6b4b9cf1c7f7fb2f2ce6"), looks := true }, kinds := [], alts := [], laidByText := true, laidKinds := [.data, .data, .data, .data, .sentinel, .sentinel, .pinned], laidTests := true, laidLooks := .later }
def FnExactParseMazeUptoCardSaid : Prop := Claim7.holds Tryd.pinned (.plain (OpenSpec.upto fnExactParseMazeSpec)) fnExactParseMazeUptoCard

/-- THE SECOND FORM's CARD OF 'laws.FnExactCountTracks'. -/
def fnExactCountTracksUptoCard : Claim7 := { stood := { row := fnExactCountTracksUptoRow, standIns := [], harness := (true, "d6d9757351bec0a45bf610fe371b701b42f26d3a339a6b4b9cf1c7f7fb2f2ce6"), looks := true }, kinds := [], alts := [], laidByText := true, laidKinds := [.data, .pinned], laidTests := true, laidLooks := .later }
def FnExactCountTracksUptoCardSaid : Prop := Claim7.holds Tryd.pinned (.plain (OpenSpec.upto fnExactCountTracksSpec)) fnExactCountTracksUptoCard
end Rows
end Go.Proofs.YtjhokefoocajpaaDoor
