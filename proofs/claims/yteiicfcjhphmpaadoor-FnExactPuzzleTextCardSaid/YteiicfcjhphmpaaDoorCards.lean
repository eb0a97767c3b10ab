/-
  DERIVED. GIVEN WITH THE SEED: THE CARDS: each row of YteiicfcjhphmpaaDoorRows.lean that lists a variable, with what it lists TIED to the program's text (the seventh form; the later family's looks); each row that meets fmt, with fmt's text TOLD by the authors' own Lean function (tested against real Go, not proved from fmt's source: count such statements apart). THE CARD IS WHAT COUNTS. Prove the row's statement (the work); the ties are given (YteiicfcjhphmpaaDoorTie.lean); close each card by the builder's one call (the guide's Derived/Test/ToyasCard.lean, 'card_holds'). Laid BY PROGRAM, IN A SANDBOX (cutbox-door.mjs). By AI agents, Wed Nov 11 2026. No macro, syntax, notation, axiom, sorry.
-/
import Derived.Test.YteiicfcjhphmpaaDoorRows
import GoSem.ClaimSeven
namespace Go.Proofs.YteiicfcjhphmpaaDoor
namespace Rows

/-- THE TIED CARD OF 'laws.FnExactParcelsText'. -/
def fnExactParcelsTextCard : Claim7 := { stood := { row := fnExactParcelsTextRow, standIns := [], harness := (true, "f901e37806db68e780f12fd0f4dbf1cef2aa3ebbbdd59b744227c3889c46255c"), looks := false }, kinds := [], alts := [], laidByText := true, laidKinds := [.data, .data, .data], laidTests := true, laidLooks := .later }
def FnExactParcelsTextCardSaid : Prop := Claim7.holds Tryd.pinned (.plain (OpenSpec.ofChange fnExactParcelsTextSpec)) fnExactParcelsTextCard

/-- THE TIED CARD OF 'laws.FnExactPuzzleText'. -/
def fnExactPuzzleTextCard : Claim7 := { stood := { row := fnExactPuzzleTextRow, standIns := [], harness := (true, "f901e37806db68e780f12fd0f4dbf1cef2aa3ebbbdd59b744227c3889c46255c"), looks := false }, kinds := [], alts := [], laidByText := true, laidKinds := [.data, .data, .data], laidTests := true, laidLooks := .later }
def FnExactPuzzleTextCardSaid : Prop := Claim7.holds Tryd.pinned (.plain (OpenSpec.ofChange fnExactPuzzleTextSpec)) fnExactPuzzleTextCard

/-- THE SECOND FORM's CARD OF 'laws.FnExactParcelsText'. -/
def fnExactParcelsTextUptoCard : Claim7 := { stood := { row := fnExactParcelsTextUptoRow, standIns := [], harness := (true, "f901e37806db68e780f12fd0f4dbf1cef2aa3ebbbdd59b744227c3889c46255c"), looks := false }, kinds := [], alts := [], laidByText := true, laidKinds := [.data, .data, .data], laidTests := true, laidLooks := .later }
def FnExactParcelsTextUptoCardSaid : Prop := Claim7.holds Tryd.pinned (.plain (OpenSpec.upto fnExactParcelsTextSpec)) fnExactParcelsTextUptoCard

/-- THE SECOND FORM's CARD OF 'laws.FnExactPuzzleText'. -/
def fnExactPuzzleTextUptoCard : Claim7 := { stood := { row := fnExactPuzzleTextUptoRow, standIns := [], harness := (true, "f901e37806db68e780f12fd0f4dbf1cef2aa3ebbbdd59b744227c3889c46255c"), looks := false }, kinds := [], alts := [], laidByText := true, laidKinds := [.data, .data, .data], laidTests := true, laidLooks := .later }
def FnExactPuzzleTextUptoCardSaid : Prop := Claim7.holds Tryd.pinned (.plain (OpenSpec.upto fnExactPuzzleTextSpec)) fnExactPuzzleTextUptoCard
end Rows
end Go.Proofs.YteiicfcjhphmpaaDoor
