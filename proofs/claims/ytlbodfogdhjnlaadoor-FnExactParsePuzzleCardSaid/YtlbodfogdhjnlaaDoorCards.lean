/-
  DERIVED. GIVEN WITH THE SEED: THE CARDS: each row of YtlbodfogdhjnlaaDoorRows.lean that lists a variable, with what it lists TIED to the program's text (the seventh form; the later family's looks); each row that meets fmt, with fmt's text TOLD by the authors' own Lean function (tested against real Go, not proved from fmt's source: count such statements apart). THE CARD IS WHAT COUNTS. Prove the row's statement (the work); the ties are given (YtlbodfogdhjnlaaDoorTie.lean); close each card by the builder's one call (the guide's Derived/Test/ToyasCard.lean, 'card_holds'). Laid BY PROGRAM, IN A SANDBOX (cutbox-door.mjs). By AI agents, Wed Nov 11 2026. No macro, syntax, notation, axiom, sorry.
-/
import Derived.Test.YtlbodfogdhjnlaaDoorRows
import GoSem.ClaimSeven
namespace Go.Proofs.YtlbodfogdhjnlaaDoor
namespace Rows

/-- THE TIED CARD OF 'laws.FnExactParseParcels'. -/
def fnExactParseParcelsCard : Claim7 := { stood := { row := fnExactParseParcelsRow, standIns := [], harness := (true, "392531e14f8d0d0c8c077637b2e88c39126d0c5ba7752e50970b6ffd7b6c8fd2"), looks := true }, kinds := [], alts := [], laidByText := true, laidKinds := [.data, .data, .data, .data, .sentinel, .sentinel, .pinned], laidTests := true, laidLooks := .later }
def FnExactParseParcelsCardSaid : Prop := Claim7.holds Tryd.pinned (.plain (OpenSpec.ofChange fnExactParseParcelsSpec)) fnExactParseParcelsCard

/-- THE TIED CARD OF 'laws.FnExactParsePuzzle'. -/
def fnExactParsePuzzleCard : Claim7 := { stood := { row := fnExactParsePuzzleRow, standIns := [], harness := (true, "392531e14f8d0d0c8c077637b2e88c39126d0c5ba7752e50970b6ffd7b6c8fd2"), looks := true }, kinds := [], alts := [], laidByText := true, laidKinds := [.data, .data, .data, .data, .sentinel, .sentinel, .pinned], laidTests := true, laidLooks := .later }
def FnExactParsePuzzleCardSaid : Prop := Claim7.holds Tryd.pinned (.plain (OpenSpec.ofChange fnExactParsePuzzleSpec)) fnExactParsePuzzleCard

/-- THE SECOND FORM's CARD OF 'laws.FnExactParseParcels'. -/
def fnExactParseParcelsUptoCard : Claim7 := { stood := { row := fnExactParseParcelsUptoRow, standIns := [], harness := (true, "392531e14f8d0d0c8c077637b2e88c39126d0c5ba7752e50970b6ffd7b6c8fd2"), looks := true }, kinds := [], alts := [], laidByText := true, laidKinds := [.data, .data, .data, .data, .sentinel, .sentinel, .pinned], laidTests := true, laidLooks := .later }
def FnExactParseParcelsUptoCardSaid : Prop := Claim7.holds Tryd.pinned (.plain (OpenSpec.upto fnExactParseParcelsSpec)) fnExactParseParcelsUptoCard

/-- THE SECOND FORM's CARD OF 'laws.FnExactParsePuzzle'. -/
def fnExactParsePuzzleUptoCard : Claim7 := { stood := { row := fnExactParsePuzzleUptoRow, standIns := [], harness := (true, "392531e14f8d0d0c8c077637b2e88c39126d0c5ba7752e50970b6ffd7b6c8fd2"), looks := true }, kinds := [], alts := [], laidByText := true, laidKinds := [.data, .data, .data, .data, .sentinel, .sentinel, .pinned], laidTests := true, laidLooks := .later }
def FnExactParsePuzzleUptoCardSaid : Prop := Claim7.holds Tryd.pinned (.plain (OpenSpec.upto fnExactParsePuzzleSpec)) fnExactParsePuzzleUptoCard
end Rows
end Go.Proofs.YtlbodfogdhjnlaaDoor
