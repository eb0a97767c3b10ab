/- Texts of this seat's proofs: contracts of its functions and plain laws about them, with no condition beyond those that each theorem states. -/
import Derived.Test.YteiicfcjhphmpaaDoorQ1793086b
import Derived.Test.YteiicfcjhphmpaaDoorQ229bd55a
set_option linter.unusedSimpArgs false
namespace Go.Proofs.YteiicfcjhphmpaaDoor.Pure
open Go.RowKit Go.Proofs.YteiicfcjhphmpaaDoor.G Go.Proofs.YteiicfcjhphmpaaDoorW.PrintWords Go.Proofs.YteiicfcjhphmpaaDoor.Bg Go.Proofs.YteiicfcjhphmpaaDoor.Tx
theorem FnExactParcelsText : laws_FnExactParcelsText.Pure := by
  intro l hl _
  by_cases hs : l.length ≤ 1048576
  · obtain ⟨K1, h1⟩ := toParcelS_ev l hs
    have h1 : ∀ k, K1 ≤ k → laws_toParcelS.f k l = some (l.map conv) := h1
    obtain ⟨K4, h4⟩ := eqParcelS_ev (l.map conv) (by simp; omega)
    have h4 : ∀ k, K4 ≤ k → laws_eqParcelS.f k (l.map conv) (l.map conv) = some true := h4
    have hsz := sz_small l hs
    have hlt : ¬ (1048576 - (l.length : Int) < 0) := by omega
    obtain ⟨v, ⟨K2, h2⟩, ⟨K3, h3⟩⟩ := ParcelsText_both (l.map conv)
    have h2 : ∀ k, K2 ≤ k → spec_ParcelsText.f k (l.map conv) = some v := h2
    have h3 : ∀ k, K3 ≤ k → impl_ParcelsText.f k (l.map conv) = some v := h3
    refine ⟨K2 + K1 + K3 + K4 + 9, ?_⟩
    simp (disch := omega) only [laws_FnExactParcelsText.f, h2, h3, h1, h4, hsz, hlt, Option.bind_some, if_true, if_false, bne_self_eq_false, Bool.false_eq_true]
    simp (disch := omega) only [laws_FnExactParcelsText.j0, h2, h3, h1, h4, hsz, hlt, Option.bind_some, if_true, if_false, bne_self_eq_false, Bool.false_eq_true]
  · exact ⟨0, by simp only [laws_FnExactParcelsText.f, sz_big l hl (by omega), Option.bind_some]; rfl⟩
end Go.Proofs.YteiicfcjhphmpaaDoor.Pure
