/- Texts of this seat's proofs: contracts of its functions and plain laws about them, with no condition beyond those that each theorem states. -/
import Derived.Test.YtagbpiofphgjlaaQ25bfb882
import Derived.Test.YtagbpiofphgjlaaQcd35d6cf
set_option linter.unusedSimpArgs false
set_option linter.unusedVariables false
namespace Go.Proofs.Ytagbpiofphgjlaa.Pure
open Go.RowKit Go.Proofs.Ytagbpiofphgjlaa.G Go.Proofs.YtagbpiofphgjlaaW.PrintWords Go.Proofs.Ytagbpiofphgjlaa.Bg
theorem FnExactPackFarthestFirst : laws_FnExactPackFarthestFirst.Pure := by
  intro l b hl _ _
  by_cases hs : l.length ≤ 1048576
  · obtain ⟨K1, h1⟩ := toParcelS_ev l hs
    have h1 : ∀ k, K1 ≤ k → laws_toParcelS.f k l = some (l.map conv) := h1
    obtain ⟨K4, h4⟩ := eqParcelS_ev (l.map conv) (by simp; omega)
    have h4 : ∀ k, K4 ≤ k → laws_eqParcelS.f k (l.map conv) (l.map conv) = some true := h4
    have hsz := sz_small l hs
    have hlt : ¬ (1048576 - (l.length : Int) < 0) := by omega
    obtain ⟨v, ⟨K2, h2⟩, ⟨K3, h3⟩, hv⟩ := PackFarthestFirst_both (l.map conv) b
    have h2 : ∀ k, K2 ≤ k → spec_PackFarthestFirst.f k (l.map conv) b = some v := h2
    have h3 : ∀ k, K3 ≤ k → impl_PackFarthestFirst.f k (l.map conv) b = some v := h3
    obtain ⟨K5, h5⟩ := eqIntS_ev v.1 (by omega)
    have h5 : ∀ k, K5 ≤ k → laws_eqIntS.f k v.1 v.1 = some true := h5
    obtain ⟨K6, h6⟩ := markIntS_ev v.1 1 (by omega) (by omega)
    have h6 : ∀ k, K6 ≤ k → laws_markIntS.f k v.1 1 = some (((1 + v.1.length : Nat) : Int), line 1 v.1.length) := h6
    obtain ⟨K7, h7⟩ := heldIntS_ev v.1.length (by omega)
    have h7 : ∀ k, K7 ≤ k → laws_heldIntS.f k (line 1 v.1.length) 1 = some ((1 + v.1.length : Nat) : Int) := h7
    have hm : ¬ (((1 + v.1.length : Nat) : Int) < 0) := by omega
    obtain ⟨y8, K8, h8⟩ := markParcelS_ev (l.map conv) (by simp; omega)
    have h8 : ∀ k, K8 ≤ k → laws_markParcelS.f k (l.map conv) 1 = some (((1 + 2 * (l.map conv).length : Nat) : Int), y8) := h8
    have hn : ¬ (((1 + 2 * (l.map conv).length : Nat) : Int) < 0) := by omega
    refine ⟨K2 + K3 + K1 + K4 + K5 + K6 + K7 + K8 + 9, ?_⟩
    simp (disch := omega) only [laws_FnExactPackFarthestFirst.f, h2, h3, h1, h4, hsz, hlt, h5, h6, h7, hm, h8, hn, Option.bind_some, if_true, if_false, bne_self_eq_false, Bool.false_eq_true]
    simp (disch := omega) only [laws_FnExactPackFarthestFirst.j0, h2, h3, h1, h4, hsz, hlt, h5, h6, h7, hm, h8, hn, Option.bind_some, if_true, if_false, bne_self_eq_false, Bool.false_eq_true]
    simp (disch := omega) only [laws_FnExactPackFarthestFirst.j1, h2, h3, h1, h4, hsz, hlt, h5, h6, h7, hm, h8, hn, Option.bind_some, if_true, if_false, bne_self_eq_false, Bool.false_eq_true]
    simp (disch := omega) only [laws_FnExactPackFarthestFirst.j2, h2, h3, h1, h4, hsz, hlt, h5, h6, h7, hm, h8, hn, Option.bind_some, if_true, if_false, bne_self_eq_false, Bool.false_eq_true]
  · exact ⟨0, by simp only [laws_FnExactPackFarthestFirst.f, sz_big l hl (by omega), Option.bind_some]; rfl⟩
end Go.Proofs.Ytagbpiofphgjlaa.Pure
