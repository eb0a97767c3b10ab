/- Texts of this seat's proofs: contracts of its functions and plain laws about them, with no condition beyond those that each theorem states. -/
import Derived.Test.YtfjaapnnfpjfdaaQ08561e85
import Derived.Test.YtfjaapnnfpjfdaaQa0128d56
import Derived.Test.YtfjaapnnfpjfdaaQ09a1f7b6
import Derived.Test.YtfjaapnnfpjfdaaQfd837965
import Derived.Test.YtfjaapnnfpjfdaaQ4c90a698
import Derived.Test.YtfjaapnnfpjfdaaQe38a75b5
import Derived.Test.YtfjaapnnfpjfdaaQ24dc9caf
import Derived.Test.YtfjaapnnfpjfdaaQ0192d217
namespace Go.Proofs.Ytfjaapnnfpjfdaa.Pz
open Go.RowKit Go.Proofs.Ytfjaapnnfpjfdaa.G Go.Proofs.YtfjaapnnfpjfdaaW.PrintWords Go.Proofs.YtfjaapnnfpjfdaaW.PrintLast Go.Proofs.YtfjaapnnfpjfdaaW.PrintMore
theorem both {ρ : Type} (a b : Int) (l : List S29) (f : List Int → Option ρ) (no : ρ) (hf : good a b l = true → ∃ r, f (sols a b l) = some r) :
    ∃ v, Ev (fun k => (spec_pzGood.f k a b l).bind fun t => if t = true then ((spec_pzAll.f k a b l).bind f) else some no) v ∧ ((impl_IsPuzzle.f a b l).bind fun t => if t = true then ((impl_solutions.f a b l).bind f) else some no) = some v := by
  obtain ⟨K1, h1⟩ := pzGood_ev a b l
  have h1 : ∀ k, K1 ≤ k → spec_pzGood.f k a b l = some (good a b l) := h1
  rw [isPuzzle_val]
  cases hg : good a b l with
  | false => exact ⟨no, ⟨K1, fun k hk => by simp only [h1 k hk, hg, Option.bind_some]; rfl⟩, rfl⟩
  | true =>
    obtain ⟨g1, g2, g3⟩ := good_facts hg
    obtain ⟨K2, h2⟩ := pzAll_ev g1 g3 (l := l) (by omega)
    have h2 : ∀ k, K2 ≤ k → spec_pzAll.f k a b l = some (sols a b l) := h2
    obtain ⟨r, hr⟩ := hf hg
    refine ⟨r, ⟨K1 + K2, fun k hk => ?_⟩, ?_⟩
    · simp only [h1 k (by omega), hg, Option.bind_some, if_true, h2 k (by omega), hr]
    · simp only [solutions_val g1 g3, Option.bind_some, if_true, hr]
theorem Solutions_both (a b : Int) (l : List S29) : ∃ v, Ev (fun k => spec_Solutions.f k a b l) v ∧ impl_Solutions.f a b l = some v ∧ v.1.length ≤ 40 := by
  obtain ⟨v, h1, h2⟩ := both a b l (fun t => some (t, true)) (([] : List Int), false) (fun _ => ⟨_, rfl⟩)
  refine ⟨v, h1, h2, ?_⟩
  rw [isPuzzle_val, Option.bind_some] at h2
  cases hg : good a b l with
  | false => rw [hg, if_neg (by decide)] at h2; rw [← Option.some.inj h2]; simp
  | true =>
    obtain ⟨g1, g2, g3⟩ := good_facts hg
    rw [hg, if_pos rfl, solutions_val g1 g3, Option.bind_some] at h2
    rw [← Option.some.inj h2]
    exact sols_len l g1
end Go.Proofs.Ytfjaapnnfpjfdaa.Pz
