/- Texts of this seat's proofs: contracts of its functions and plain laws about them, with no condition beyond those that each theorem states. -/
import Derived.Test.YtcloklakffgbmaaQ1a80c102
import Derived.Test.YtcloklakffgbmaaQ02618d5f
namespace Go.Proofs.Ytcloklakffgbmaa.Pure
open Go.RowKit Go.Proofs.Ytcloklakffgbmaa.G Go.Proofs.YtcloklakffgbmaaW.PrintWords Go.Proofs.Ytcloklakffgbmaa.Pz
theorem FnExactAddClue : laws_FnExactAddClue.Pure := by
 intro a b l x y z _ _ hl _ _ _ _
 by_cases hs : l.length ≤ 1048576
 ·obtain ⟨K1, h1⟩ := toPuzzle_ev a b l hs
  have h1 : ∀ k, K1 ≤ k → laws_toPuzzle.f k a b l = some (a, b, l.map conv) := h1
  obtain ⟨K4, h4⟩ := eqPuzzle_ev a b (l.map conv) (by simp; omega)
  have h4 : ∀ k, K4 ≤ k → laws_eqPuzzle.f k a b (l.map conv) a b (l.map conv) = some true := h4
  have hsz := sz_small a b l hs
  have hlt : ¬ (1048576 - (l.length : Int) < 0) := by omega
  obtain ⟨v, ⟨K2, h2⟩, h3, hv⟩ := AddClue_both a b (l.map conv) (by simp; omega) x y z
  have h2 : ∀ k, K2 ≤ k → spec_AddClue.f k a b (l.map conv) x y z = some v := h2
  have K3 : Nat := 0
  obtain ⟨K5, h5⟩ := eqPuzzle_ev v.1 v.2.1 v.2.2.1 (by omega)
  have h5 : ∀ k, K5 ≤ k → laws_eqPuzzle.f k v.1 v.2.1 v.2.2.1 v.1 v.2.1 v.2.2.1 = some true := h5
  obtain ⟨K6, h6⟩ := markPuzzle_ev v.1 v.2.1 v.2.2.1 (by omega)
  have h6 : ∀ k, K6 ≤ k → laws_markPuzzle.f k v.1 v.2.1 v.2.2.1 1 = some (((1 + 3 * v.2.2.1.length : Nat) : Int), cline 1 v.2.2.1.length) := h6
  obtain ⟨K7, h7⟩ := heldPuzzle_ev v.1 v.2.1 v.2.2.1.length (by omega)
  have h7 : ∀ k, K7 ≤ k → laws_heldPuzzle.f k v.1 v.2.1 (cline 1 v.2.2.1.length) 1 = some ((1 + 3 * v.2.2.1.length : Nat) : Int) := h7
  have hm : ¬ (((1 + 3 * v.2.2.1.length : Nat) : Int) < 0) := by omega
  obtain ⟨K8, h8⟩ := markPuzzle_ev a b (l.map conv) (by simp; omega)
  have h8 : ∀ k, K8 ≤ k → laws_markPuzzle.f k a b (l.map conv) 1 = some (((1 + 3 * (l.map conv).length : Nat) : Int), cline 1 (l.map conv).length) := h8
  have hn : ¬ (((1 + 3 * (l.map conv).length : Nat) : Int) < 0) := by omega
  refine ⟨K1 + K2 + K3 + K4 + K5 + K6 + K7 + K8 + 9, ?_⟩
  simp (disch := omega) only [laws_FnExactAddClue.f, laws_toClue.f, hsz, hlt, h1, h2, h3, h5, Option.bind_some, if_true, if_false, bne_self_eq_false]
  simp (disch := omega) only [laws_FnExactAddClue.j0, h1, h4, h5, h8, hn, Option.bind_some, if_true, if_false, bne_self_eq_false, Bool.false_eq_true]
  simp (disch := omega) only [laws_FnExactAddClue.j1, laws_toClue.f, h1, h3, h5, h6, h7, hm, Option.bind_some, if_true, if_false, bne_self_eq_false, Bool.false_eq_true]
  simp (disch := omega) only [laws_FnExactAddClue.j2, h7, hm, Option.bind_some, if_true, if_false, Bool.false_eq_true]
 ·exact ⟨0, by simp only [laws_FnExactAddClue.f, sz_big a b l hl (by omega), Option.bind_some]; rfl⟩
end Go.Proofs.Ytcloklakffgbmaa.Pure
