/- IsClue: the program's and the reference's test of a clue are the same function, and answer for all arguments. -/
import Derived.Test.YtfjaapnnfpjfdaaGx8
import Derived.Test.YtfjaapnnfpjfdaaPzA
namespace Go.Proofs.Ytfjaapnnfpjfdaa.Pure
open Go.RowKit Go.Proofs.Ytfjaapnnfpjfdaa.G Go.Proofs.YtfjaapnnfpjfdaaW.PrintWords Go.Proofs.Ytfjaapnnfpjfdaa.Pz
theorem FnExactIsClue : laws_FnExactIsClue.Pure := by
  intro a0_0 a0_1 a1_0 a1_1 a1_2 _ _ _ _ _
  have e : spec_IsClue.f a0_0 a0_1 a1_0 a1_1 a1_2 = impl_IsClue.f a0_0 a0_1 a1_0 a1_1 a1_2 := rfl
  have h : impl_IsClue.f a0_0 a0_1 a1_0 a1_1 a1_2 = some (hid a0_0 a0_1 && clueB a1_0 a1_1 a1_2) := by
    unfold impl_IsClue.f
    rw [hidden_val, isClue_val]
    cases hid a0_0 a0_1 <;> rfl
  simp [laws_FnExactIsClue.f, laws_toStreet.f, laws_toClue.f, e, h]
end Go.Proofs.Ytfjaapnnfpjfdaa.Pure
