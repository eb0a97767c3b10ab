/- Texts of this seat's proofs: contracts of its functions and plain laws about them, with no condition beyond those that each theorem states. -/
import Derived.Test.YteiicfcjhphmpaaDoorQff0ee5d4
import Derived.Test.YteiicfcjhphmpaaDoorQ1ce5f63a
set_option linter.unusedSimpArgs false
namespace Go.Proofs.YteiicfcjhphmpaaDoor.Pure
open Go.RowKit Go.Proofs.YteiicfcjhphmpaaDoor.G Go.Proofs.YteiicfcjhphmpaaDoorW.PrintWords Go.Proofs.YteiicfcjhphmpaaDoor.Pz Go.Proofs.YteiicfcjhphmpaaDoor.Tx
theorem FnExactPuzzleText : laws_FnExactPuzzleText.Pure := by
  intro a b l _ _ hl _
  by_cases hs : l.length ≤ 1048576
  · obtain ⟨K1, h1⟩ := toPuzzle_ev a b l hs
    have h1 : ∀ k, K1 ≤ k → laws_toPuzzle.f k a b l = some (a, b, l.map conv) := h1
    obtain ⟨K4, h4⟩ := eqPuzzle_ev a b (l.map conv) (by simp; omega)
    have h4 : ∀ k, K4 ≤ k → laws_eqPuzzle.f k a b (l.map conv) a b (l.map conv) = some true := h4
    have hsz := sz_small a b l hs
    have hlt : ¬ (1048576 - (l.length : Int) < 0) := by omega
    obtain ⟨v, ⟨K2, h2⟩, ⟨K3, h3⟩⟩ := PuzzleText_both a b (l.map conv)
    have h2 : ∀ k, K2 ≤ k → spec_PuzzleText.f k a b (l.map conv) = some v := h2
    have h3 : ∀ k, K3 ≤ k → impl_PuzzleText.f k a b (l.map conv) = some v := h3
    refine ⟨K2 + K1 + K3 + K4 + 9, ?_⟩
    simp (disch := omega) only [laws_FnExactPuzzleText.f, h2, h3, h1, h4, hsz, hlt, Option.bind_some, if_true, if_false, bne_self_eq_false, Bool.false_eq_true]
    simp (disch := omega) only [laws_FnExactPuzzleText.j0, h2, h3, h1, h4, hsz, hlt, Option.bind_some, if_true, if_false, bne_self_eq_false, Bool.false_eq_true]
  · exact ⟨0, by simp only [laws_FnExactPuzzleText.f, sz_big a b l hl (by omega), Option.bind_some]; rfl⟩
end Go.Proofs.YteiicfcjhphmpaaDoor.Pure
