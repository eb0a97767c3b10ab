/- Texts of this seat's proofs: contracts of its functions and plain laws about them, with no condition beyond those that each theorem states. -/
import Derived.Test.YtcloklakffgbmaaQ99bbf9ae
import Derived.Test.YtcloklakffgbmaaQd9b1778e
import Derived.Test.YtcloklakffgbmaaQ3b9a0302
import Derived.Test.YtcloklakffgbmaaQ48c55ee1
namespace Go.Proofs.Ytcloklakffgbmaa.Pure
open Go.RowKit Go.Proofs.Ytcloklakffgbmaa.G Go.Proofs.YtcloklakffgbmaaW.PrintWords Go.Proofs.Ytcloklakffgbmaa.Pz
theorem FnExactMakePuzzle : laws_FnExactMakePuzzle.Pure := by
  intro a b h c s _ _ _ _ _
  obtain ⟨v, ⟨K1, h1⟩, ⟨K2, h2⟩, hv⟩ := MakePuzzle_both a b h c s
  have h1 : ∀ k, K1 ≤ k → spec_MakePuzzle.f k a b h c s = some v := h1
  have h2 : ∀ k, K2 ≤ k → impl_MakePuzzle.f k a b h c s = some v := h2
  obtain ⟨K5, h5⟩ := eqPuzzle_ev v.1 v.2.1 v.2.2.1 (by omega)
  have h5 : ∀ k, K5 ≤ k → laws_eqPuzzle.f k v.1 v.2.1 v.2.2.1 v.1 v.2.1 v.2.2.1 = some true := h5
  obtain ⟨K6, h6⟩ := markPuzzle_ev v.1 v.2.1 v.2.2.1 (by omega)
  have h6 : ∀ k, K6 ≤ k → laws_markPuzzle.f k v.1 v.2.1 v.2.2.1 1 = some (((1 + 3 * v.2.2.1.length : Nat) : Int), cline 1 v.2.2.1.length) := h6
  obtain ⟨K7, h7⟩ := heldPuzzle_ev v.1 v.2.1 v.2.2.1.length (by omega)
  have h7 : ∀ k, K7 ≤ k → laws_heldPuzzle.f k v.1 v.2.1 (cline 1 v.2.2.1.length) 1 = some ((1 + 3 * v.2.2.1.length : Nat) : Int) := h7
  have hm : ¬ (((1 + 3 * v.2.2.1.length : Nat) : Int) < 0) := by omega
  refine ⟨K1 + K2 + K5 + K6 + K7 + 9, ?_⟩
  simp (disch := omega) only [laws_FnExactMakePuzzle.f, laws_toStreet.f, h1, h2, h5, Option.bind_some, if_true, if_false, bne_self_eq_false]
  simp (disch := omega) only [laws_FnExactMakePuzzle.j0, laws_toStreet.f, h1, h2, h5, h6, h7, hm, Option.bind_some, if_true, if_false, bne_self_eq_false, Bool.false_eq_true]
  simp (disch := omega) only [laws_FnExactMakePuzzle.j1, h7, hm, Option.bind_some, if_true, if_false, Bool.false_eq_true]
end Go.Proofs.Ytcloklakffgbmaa.Pure
