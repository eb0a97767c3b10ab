/-
  DERIVED. GIVEN WITH THE SEED: THE CARDS: each row of YtgdhbkoggfaioaaGreatDoorRows.lean that lists a variable, with what it lists TIED to the program's text (the seventh form; the later family's looks); each row that meets fmt, with fmt's text TOLD by the authors' own Lean function (tested against real Go, not proved from fmt's source: count such statements apart). THE CARD IS WHAT COUNTS. Prove the row's statement (the work); the ties are given (YtgdhbkoggfaioaaGreatDoorTie.lean); close each card by the builder's one call (the guide's Derived/Test/ToyasCard.lean, 'card_holds'). Laid BY PROGRAM, IN A SANDBOX (cutbox-door.mjs). By AI agents, Wed Nov 11 2026. No macro, syntax, notation, axiom, sorry.
-/
import Derived.Test.YtgdhbkoggfaioaaGreatDoorRows
import GoSem.ClaimSeven
namespace Go.Proofs.YtgdhbkoggfaioaaGreatDoor
namespace Rows

/-- THE TIED CARD OF 'laws.FnBagsLetters'. -/
def fnBagsLettersCard : Claim7 := { stood := { row := fnBagsLettersRow, standIns := [], harness := (true, "50e316b1eeef27c3b5bead46e32a35e25b46b64734d7137d83e225f9895b2695"), looks := true }, kinds := [], alts := [], laidByText := true, laidKinds := [.data, .data, .data, .data, .sentinel, .sentinel, .pinned], laidTests := true, laidLooks := .later }
def FnBagsLettersCardSaid : Prop := Claim7.holds Tryz.pinned (.plain (OpenSpec.ofChange fnBagsLettersSpec)) fnBagsLettersCard

/-- THE SECOND FORM's CARD OF 'laws.FnBagsLetters'. -/
def fnBagsLettersUptoCard : Claim7 := { stood := { row := fnBagsLettersUptoRow, standIns := [], harness := (true, "50e316b1eeef27c3b5bead46e32a35e25b46b64734d7137d83e225f9895b2695"), looks := true }, kinds := [], alts := [], laidByText := true, laidKinds := [.data, .data, .data, .data, .sentinel, .sentinel, .pinned], laidTests := true, laidLooks := .later }
def FnBagsLettersUptoCardSaid : Prop := Claim7.holds Tryz.pinned (.plain (OpenSpec.upto fnBagsLettersSpec)) fnBagsLettersUptoCard
end Rows
end Go.Proofs.YtgdhbkoggfaioaaGreatDoor
