/- Texts of this seat's proofs: contracts of its functions and plain laws about them, with no condition beyond those that each theorem states. -/
import Derived.Test.YtagbpiofphgjlaaQ9e08f08a
import Derived.Test.YtagbpiofphgjlaaQa0a7a248
set_option linter.unusedSimpArgs false
set_option linter.unusedVariables false
namespace Go.Proofs.Ytagbpiofphgjlaa.Pure
open Go.RowKit Go.Proofs.Ytagbpiofphgjlaa.G Go.Proofs.YtagbpiofphgjlaaW.PrintWords Go.Proofs.Ytagbpiofphgjlaa.Bg
theorem FnExactTripsOfPlan : laws_FnExactTripsOfPlan.Pure := by
  intro l b p hl _ _ _ _
  by_cases hp : p.length ≤ 1048576
  · refine .inr ?_
    by_cases hs : l.length ≤ 1048576
    · refine ⟨_, sz_small l hs, .inr ⟨by omega, ?_⟩⟩
      obtain ⟨K1, h1⟩ := toParcelS_ev l hs
      have h1 : ∀ k, K1 ≤ k → laws_toParcelS.f k l = some (l.map conv) := h1
      obtain ⟨K4, h4⟩ := eqParcelS_ev (l.map conv) (by simp; omega)
      have h4 : ∀ k, K4 ≤ k → laws_eqParcelS.f k (l.map conv) (l.map conv) = some true := h4
      obtain ⟨K9, h9⟩ := toIntS_ev p (by omega)
      have h9 : ∀ k, K9 ≤ k → laws_toIntS.f k p = some p := h9
      obtain ⟨K10, h10⟩ := eqIntS_ev p (by omega)
      have h10 : ∀ k, K10 ≤ k → laws_eqIntS.f k p p = some true := h10
      obtain ⟨⟨t, ok⟩, ⟨K2, h2⟩, ⟨K3, h3⟩, ht, hr⟩ := TripsOfPlan_both (l.map conv) b p
      have h2 : ∀ k, K2 ≤ k → spec_TripsOfPlan.f k (l.map conv) b p = some (t, ok) := h2
      have h3 : ∀ k, K3 ≤ k → impl_TripsOfPlan.f k (l.map conv) b p = some (t, ok) := h3
      obtain ⟨y8, K8, h8⟩ := markParcelS_ev (l.map conv) (by simp; omega)
      have h8 : ∀ k, K8 ≤ k → laws_markParcelS.f k (l.map conv) 1 = some (((1 + 2 * (l.map conv).length : Nat) : Int), y8) := h8
      obtain ⟨K11, h11⟩ := markIntS_ev p (1 + 2 * (l.map conv).length) (by omega) (by first | omega | (simp; omega))
      have h11 : ∀ k, K11 ≤ k → laws_markIntS.f k p ((1 + 2 * (l.map conv).length : Nat) : Int) = some (((1 + 2 * (l.map conv).length + p.length : Nat) : Int), line (1 + 2 * (l.map conv).length) p.length) := h11
      simp only at ht hr
      refine ⟨K1 + K4 + K9 + K10 + K2 + K3 + K8 + K11 + 100, l.map conv, t, ok, y8, y8, ((1 + 2 * (l.map conv).length : Nat) : Int), ((1 + 2 * (l.map conv).length + p.length : Nat) : Int), ((1 + total t : Nat) : Int), line (1 + 2 * (l.map conv).length) p.length, lines 1 t, ?_⟩
      have hm := mkss_val (K1 + K4 + K9 + K10 + K2 + K3 + K8 + K11 + 100) (by omega) t [] 1 hr (by omega)
      have hh := heldSS_l0 t [] 1 (K1 + K4 + K9 + K10 + K2 + K3 + K8 + K11 + 100) hr (by omega) (by simp; omega) (by omega)
      exact ⟨h1 _ (by omega), h9 _ (by omega), h2 _ (by omega), h3 _ (by omega), eqIntSS_k t ht hr _ (by omega), h4 _ (by omega), h10 _ (by omega), h8 _ (by omega), h11 _ (by omega), by omega, hm, hh, by omega⟩
    · exact ⟨-1, sz_big l hl (by omega), .inl (by decide)⟩
  · exact .inl (by omega)
end Go.Proofs.Ytagbpiofphgjlaa.Pure
