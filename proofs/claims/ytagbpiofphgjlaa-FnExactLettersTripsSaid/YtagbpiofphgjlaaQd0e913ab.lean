/- Texts of this seat's proofs: contracts of its functions and plain laws about them, with no condition beyond those that each theorem states. -/
import Derived.Test.YtagbpiofphgjlaaQ4b0e7b04
import Derived.Test.YtagbpiofphgjlaaQ37a12d33
set_option linter.unusedSimpArgs false
set_option linter.unusedVariables false
namespace Go.Proofs.Ytagbpiofphgjlaa.Pure
open Go.RowKit Go.Proofs.Ytagbpiofphgjlaa.G Go.Proofs.YtagbpiofphgjlaaW.PrintWords Go.Proofs.Ytagbpiofphgjlaa.Bg
theorem FnExactLettersTrips : laws_FnExactLettersTrips.Pure := by
  intro p b hl _ _
  by_cases hp : p.length ≤ 1048576
  · have hgt : ¬ ((p.length : Int) > 1048576) := by omega
    obtain ⟨K9, h9⟩ := toIntS_ev p (by omega)
    have h9 : ∀ k, K9 ≤ k → laws_toIntS.f k p = some p := h9
    obtain ⟨K10, h10⟩ := eqIntS_ev p (by omega)
    have h10 : ∀ k, K10 ≤ k → laws_eqIntS.f k p p = some true := h10
    obtain ⟨v, ⟨K2, h2⟩, ⟨K3, h3⟩, hv⟩ := LettersTrips_both p b
    have h2 : ∀ k, K2 ≤ k → spec_LettersTrips.f k p b = some v := h2
    have h3 : ∀ k, K3 ≤ k → impl_LettersTrips.f k p b = some v := h3
    obtain ⟨K5, h5⟩ := eqIntS_ev v.1 (by omega)
    have h5 : ∀ k, K5 ≤ k → laws_eqIntS.f k v.1 v.1 = some true := h5
    obtain ⟨K6, h6⟩ := markIntS_ev v.1 1 (by omega) (by omega)
    have h6 : ∀ k, K6 ≤ k → laws_markIntS.f k v.1 1 = some (((1 + v.1.length : Nat) : Int), line 1 v.1.length) := h6
    obtain ⟨K7, h7⟩ := heldIntS_ev v.1.length (by omega)
    have h7 : ∀ k, K7 ≤ k → laws_heldIntS.f k (line 1 v.1.length) 1 = some ((1 + v.1.length : Nat) : Int) := h7
    have hm : ¬ (((1 + v.1.length : Nat) : Int) < 0) := by omega
    obtain ⟨K11, h11⟩ := markIntS_ev p 1 (by omega) (by omega)
    have h11 : ∀ k, K11 ≤ k → laws_markIntS.f k p 1 = some (((1 + p.length : Nat) : Int), line 1 p.length) := h11
    have hn2 : ¬ (((1 + p.length : Nat) : Int) < 0) := by omega
    refine ⟨K2 + K3 + K9 + K10 + K5 + K6 + K7 + K11 + 9, ?_⟩
    simp (disch := omega) only [laws_FnExactLettersTrips.f, h2, h3, hgt, h9, h10, h5, h6, h7, hm, h11, hn2, Option.bind_some, if_true, if_false, bne_self_eq_false, Bool.false_eq_true]
    simp (disch := omega) only [laws_FnExactLettersTrips.j0, h2, h3, hgt, h9, h10, h5, h6, h7, hm, h11, hn2, Option.bind_some, if_true, if_false, bne_self_eq_false, Bool.false_eq_true]
    simp (disch := omega) only [laws_FnExactLettersTrips.j1, h2, h3, hgt, h9, h10, h5, h6, h7, hm, h11, hn2, Option.bind_some, if_true, if_false, bne_self_eq_false, Bool.false_eq_true]
    simp (disch := omega) only [laws_FnExactLettersTrips.j2, h2, h3, hgt, h9, h10, h5, h6, h7, hm, h11, hn2, Option.bind_some, if_true, if_false, bne_self_eq_false, Bool.false_eq_true]
  · exact ⟨0, by unfold laws_FnExactLettersTrips.f; rw [if_pos (by omega)]⟩
end Go.Proofs.Ytagbpiofphgjlaa.Pure
