/- Texts of this seat's proofs: contracts of its functions and plain laws about them, with no condition beyond those that each theorem states. -/
import Derived.Test.YtagbpiofphgjlaaQd21b9cf7
import Derived.Test.YtagbpiofphgjlaaQdc88a125
set_option linter.unusedSimpArgs false
set_option linter.unusedVariables false
namespace Go.Proofs.Ytagbpiofphgjlaa.Pure
open Go.RowKit Go.Proofs.Ytagbpiofphgjlaa.G Go.Proofs.YtagbpiofphgjlaaW.PrintWords Go.Proofs.Ytagbpiofphgjlaa.Bg
theorem FnExactLengthWithoutBack : laws_FnExactLengthWithoutBack.Pure := by
  intro l b p hl _ _ _ _
  by_cases hp : p.length ≤ 1048576
  · by_cases hs : l.length ≤ 1048576
    · obtain ⟨K1, h1⟩ := toParcelS_ev l hs
      have h1 : ∀ k, K1 ≤ k → laws_toParcelS.f k l = some (l.map conv) := h1
      obtain ⟨K4, h4⟩ := eqParcelS_ev (l.map conv) (by simp; omega)
      have h4 : ∀ k, K4 ≤ k → laws_eqParcelS.f k (l.map conv) (l.map conv) = some true := h4
      have hsz := sz_small l hs
      have hlt : ¬ (1048576 - (l.length : Int) < 0) := by omega
      have hgt : ¬ ((p.length : Int) > 1048576) := by omega
      obtain ⟨K9, h9⟩ := toIntS_ev p (by omega)
      have h9 : ∀ k, K9 ≤ k → laws_toIntS.f k p = some p := h9
      obtain ⟨K10, h10⟩ := eqIntS_ev p (by omega)
      have h10 : ∀ k, K10 ≤ k → laws_eqIntS.f k p p = some true := h10
      obtain ⟨v, ⟨K2, h2⟩, ⟨K3, h3⟩⟩ := LengthWithoutBack_both (l.map conv) b p
      have h2 : ∀ k, K2 ≤ k → spec_LengthWithoutBack.f k (l.map conv) b p = some v := h2
      have h3 : ∀ k, K3 ≤ k → impl_LengthWithoutBack.f k (l.map conv) b p = some v := h3
      refine ⟨K2 + K3 + K1 + K4 + K9 + K10 + 9, ?_⟩
      simp (disch := omega) only [laws_FnExactLengthWithoutBack.f, h2, h3, h1, h4, hsz, hlt, hgt, h9, h10, Option.bind_some, if_true, if_false, bne_self_eq_false, Bool.false_eq_true]
      simp (disch := omega) only [laws_FnExactLengthWithoutBack.j0, h2, h3, h1, h4, hsz, hlt, hgt, h9, h10, Option.bind_some, if_true, if_false, bne_self_eq_false, Bool.false_eq_true]
    · exact ⟨0, by simp only [laws_FnExactLengthWithoutBack.f, sz_big l hl (by omega), Option.bind_some]; rw [if_neg (by omega)]; rfl⟩
  · exact ⟨0, by unfold laws_FnExactLengthWithoutBack.f; rw [if_pos (by omega)]⟩
end Go.Proofs.Ytagbpiofphgjlaa.Pure
