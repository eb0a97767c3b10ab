/- Texts of this seat's proofs: contracts of its functions and plain laws about them, with no condition beyond those that each theorem states. -/
import Derived.Test.YtlbodfogdhjnlaaDoorQ8698e965
import Derived.Test.YtlbodfogdhjnlaaDoorQd1da706f
set_option linter.unusedSimpArgs false
namespace Go.Proofs.YtlbodfogdhjnlaaDoor.Pure
open Go.RowKit Go.Proofs.YtlbodfogdhjnlaaDoor.G Go.Proofs.YtlbodfogdhjnlaaDoorW.PrintWords Go.Proofs.YtlbodfogdhjnlaaDoor.Pz Go.Proofs.YtlbodfogdhjnlaaDoor.Tx
theorem FnExactParsePuzzle : laws_FnExactParsePuzzle.Pure := by
  intro s _
  rw [bs_data s]
  generalize s.data.toList = l
  by_cases hs : l.length ≤ 1048576
  · obtain ⟨v, ⟨K1, h1⟩, ⟨K2, h2⟩, hv⟩ := ParsePuzzle_both l (by omega)
    have h1 : ∀ k, K1 ≤ k → spec_ParsePuzzle.f k (bs l) = some v := h1
    have h2 : ∀ k, K2 ≤ k → impl_ParsePuzzle.f k (bs l) = some v := h2
    obtain ⟨K5, h5⟩ := eqPuzzle_ev v.1 v.2.1 v.2.2.1 (by omega)
    have h5 : ∀ k, K5 ≤ k → laws_eqPuzzle.f k v.1 v.2.1 v.2.2.1 v.1 v.2.1 v.2.2.1 = some true := h5
    obtain ⟨K6, h6⟩ := markPuzzle_ev v.1 v.2.1 v.2.2.1 (by omega)
    have h6 : ∀ k, K6 ≤ k → laws_markPuzzle.f k v.1 v.2.1 v.2.2.1 1 = some (((1 + 3 * v.2.2.1.length : Nat) : Int), cline 1 v.2.2.1.length) := h6
    obtain ⟨K7, h7⟩ := heldPuzzle_ev v.1 v.2.1 v.2.2.1.length (by omega)
    have h7 : ∀ k, K7 ≤ k → laws_heldPuzzle.f k v.1 v.2.1 (cline 1 v.2.2.1.length) 1 = some ((1 + 3 * v.2.2.1.length : Nat) : Int) := h7
    have hm : ¬ (((1 + 3 * v.2.2.1.length : Nat) : Int) < 0) := by omega
    have hsz : ¬ (((bs l).size : Int) > 1048576) := by rw [bs_size]; omega
    refine ⟨K1 + K2 + K5 + K6 + K7 + 9, ?_⟩
    simp (disch := omega) only [laws_FnExactParsePuzzle.f, hsz, h1, h2, h5, Option.bind_some, if_true, if_false, bne_self_eq_false]
    simp (disch := omega) only [laws_FnExactParsePuzzle.j0, h1, h2, h5, h6, h7, hm, Option.bind_some, if_true, if_false, bne_self_eq_false, Bool.false_eq_true]
    simp (disch := omega) only [laws_FnExactParsePuzzle.j1, h7, hm, Option.bind_some, if_true, if_false, Bool.false_eq_true]
  · refine ⟨0, ?_⟩
    unfold laws_FnExactParsePuzzle.f
    rw [if_pos (by rw [bs_size]; omega)]
end Go.Proofs.YtlbodfogdhjnlaaDoor.Pure
