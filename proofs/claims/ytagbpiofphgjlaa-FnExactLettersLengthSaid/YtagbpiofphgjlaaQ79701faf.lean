/- Texts of this seat's proofs: contracts of its functions and plain laws about them, with no condition beyond those that each theorem states. -/
import Derived.Test.YtagbpiofphgjlaaQf1c9742a
import Derived.Test.YtagbpiofphgjlaaQ173fb3d1
set_option linter.unusedSimpArgs false
set_option linter.unusedVariables false
namespace Go.Proofs.Ytagbpiofphgjlaa.Pure
open Go.RowKit Go.Proofs.Ytagbpiofphgjlaa.G Go.Proofs.YtagbpiofphgjlaaW.PrintWords Go.Proofs.Ytagbpiofphgjlaa.Bg
theorem FnExactLettersLength : laws_FnExactLettersLength.Pure := by
  intro p b hl _ _
  by_cases hp : p.length ≤ 1048576
  · have hgt : ¬ ((p.length : Int) > 1048576) := by omega
    obtain ⟨K9, h9⟩ := toIntS_ev p (by omega)
    have h9 : ∀ k, K9 ≤ k → laws_toIntS.f k p = some p := h9
    obtain ⟨K10, h10⟩ := eqIntS_ev p (by omega)
    have h10 : ∀ k, K10 ≤ k → laws_eqIntS.f k p p = some true := h10
    obtain ⟨v, ⟨K2, h2⟩, ⟨K3, h3⟩⟩ := LettersLength_both p b
    have h2 : ∀ k, K2 ≤ k → spec_LettersLength.f k p b = some v := h2
    have h3 : ∀ k, K3 ≤ k → impl_LettersLength.f k p b = some v := h3
    refine ⟨K2 + K3 + K9 + K10 + 9, ?_⟩
    simp (disch := omega) only [laws_FnExactLettersLength.f, h2, h3, hgt, h9, h10, Option.bind_some, if_true, if_false, bne_self_eq_false, Bool.false_eq_true]
    simp (disch := omega) only [laws_FnExactLettersLength.j0, h2, h3, hgt, h9, h10, Option.bind_some, if_true, if_false, bne_self_eq_false, Bool.false_eq_true]
  · exact ⟨0, by unfold laws_FnExactLettersLength.f; rw [if_pos (by omega)]⟩
end Go.Proofs.Ytagbpiofphgjlaa.Pure
