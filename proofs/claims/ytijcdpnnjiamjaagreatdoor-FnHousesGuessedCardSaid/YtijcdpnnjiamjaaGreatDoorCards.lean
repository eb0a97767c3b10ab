/-
  DERIVED. GIVEN WITH THE SEED: THE CARDS: each row of YtijcdpnnjiamjaaGreatDoorRows.lean that lists a variable, with what it lists TIED to the program's text (the seventh form; the later family's looks); each row that meets fmt, with fmt's text TOLD by the authors' own Lean function (tested against real Go, not proved from fmt's source: count such statements apart). THE CARD IS WHAT COUNTS. Prove the row's statement (the work); the ties are given (YtijcdpnnjiamjaaGreatDoorTie.lean); close each card by the builder's one call (the guide's Derived/Test/ToyasCard.lean, 'card_holds'). Laid BY PROGRAM, IN A SANDBOX (cutbox-door.mjs). By AI agents, Wed Nov 11 2026. No macro, syntax, notation, axiom, sorry.
-/
import Derived.Test.YtijcdpnnjiamjaaGreatDoorRows
import GoSem.ClaimSeven
namespace Go.Proofs.YtijcdpnnjiamjaaGreatDoor
namespace Rows

/-- THE TIED CARD OF 'laws.FnHousesGuessed'. -/
def fnHousesGuessedCard : Claim7 := { stood := { row := fnHousesGuessedRow, standIns := [], harness := (true, "5705f4d5a10af6628e1d3593bd44460a1b25a0ea583071f670fd967c9a86b2d3"), looks := true }, kinds := [], alts := [], laidByText := true, laidKinds := [.data, .data, .data, .data, .sentinel, .sentinel, .pinned], laidTests := true, laidLooks := .later }
def FnHousesGuessedCardSaid : Prop := Claim7.holds Tryz.pinned (.plain (OpenSpec.ofChange fnHousesGuessedSpec)) fnHousesGuessedCard

/-- THE SECOND FORM's CARD OF 'laws.FnHousesGuessed'. -/
def fnHousesGuessedUptoCard : Claim7 := { stood := { row := fnHousesGuessedUptoRow, standIns := [], harness := (true, "5705f4d5a10af6628e1d3593bd44460a1b25a0ea583071f670fd967c9a86b2d3"), looks := true }, kinds := [], alts := [], laidByText := true, laidKinds := [.data, .data, .data, .data, .sentinel, .sentinel, .pinned], laidTests := true, laidLooks := .later }
def FnHousesGuessedUptoCardSaid : Prop := Claim7.holds Tryz.pinned (.plain (OpenSpec.upto fnHousesGuessedSpec)) fnHousesGuessedUptoCard
end Rows
end Go.Proofs.YtijcdpnnjiamjaaGreatDoor
