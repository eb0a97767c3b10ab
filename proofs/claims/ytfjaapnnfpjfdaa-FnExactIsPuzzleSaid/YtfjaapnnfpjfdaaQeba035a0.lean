/- Texts of this seat's proofs: contracts of its functions and plain laws about them, with no condition beyond those that each theorem states. -/
import Derived.Test.YtfjaapnnfpjfdaaQ240ee5fb
import Derived.Test.YtfjaapnnfpjfdaaQee3a49ab
namespace Go.Proofs.Ytfjaapnnfpjfdaa.Pure
open Go.RowKit Go.Proofs.Ytfjaapnnfpjfdaa.G Go.Proofs.YtfjaapnnfpjfdaaW.PrintWords Go.Proofs.Ytfjaapnnfpjfdaa.Pz
theorem FnExactIsPuzzle : laws_FnExactIsPuzzle.Pure := by
  intro a b l _ _ hl _
  by_cases hs : l.length ≤ 1048576
  · obtain ⟨K1, h1⟩ := toPuzzle_ev a b l hs
    have h1 : ∀ k, K1 ≤ k → laws_toPuzzle.f k a b l = some (a, b, l.map conv) := h1
    obtain ⟨K4, h4⟩ := eqPuzzle_ev a b (l.map conv) (by simp; omega)
    have h4 : ∀ k, K4 ≤ k → laws_eqPuzzle.f k a b (l.map conv) a b (l.map conv) = some true := h4
    have hsz := sz_small a b l hs
    have hlt : ¬ (1048576 - (l.length : Int) < 0) := by omega
    have h3 := isPuzzle_val a b (l.map conv)
    obtain ⟨K2, h2⟩ := pzGood_ev a b (l.map conv)
    have h2 : ∀ k, K2 ≤ k → spec_pzGood.f k a b (l.map conv) = some (good a b (l.map conv)) := h2
    refine ⟨K1 + K2 + K4 + 9, ?_⟩
    simp (disch := omega) only [laws_FnExactIsPuzzle.f, spec_IsPuzzle.f, hsz, hlt, h1, h2, h3, h4, Option.bind_some, if_true, if_false, bne_self_eq_false, Bool.false_eq_true]
  · exact ⟨0, by simp only [laws_FnExactIsPuzzle.f, sz_big a b l hl (by omega), Option.bind_some]; rfl⟩
end Go.Proofs.Ytfjaapnnfpjfdaa.Pure
