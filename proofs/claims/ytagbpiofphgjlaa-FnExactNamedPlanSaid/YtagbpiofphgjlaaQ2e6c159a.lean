/- Texts of this seat's proofs: contracts of its functions and plain laws about them, with no condition beyond those that each theorem states. -/
import Derived.Test.YtagbpiofphgjlaaQ0704b931
import Derived.Test.YtagbpiofphgjlaaQ60d6998b
import Derived.Test.YtagbpiofphgjlaaQ19d86bf8
import Derived.Test.YtagbpiofphgjlaaQ4e034362
namespace Go.Proofs.Ytagbpiofphgjlaa.Bg
open Go.RowKit Go.Proofs.Ytagbpiofphgjlaa.G Go.Proofs.YtagbpiofphgjlaaW.PrintWords Go.Proofs.YtagbpiofphgjlaaW.PrintLast Go.Proofs.YtagbpiofphgjlaaW.PrintMore
theorem NamedPlan_both (p : List Int) : ∃ v : List Int × Bool, Ev (fun k => spec_NamedPlan.f k p) v ∧ Ev (fun k => impl_NamedPlan.f k p) v ∧ v.1.length ≤ 1000 := by
  have e1 : impl_within.f (p.length : Int) 1 8 = some (decide ((p.length : Int) ≥ 1) && decide ((p.length : Int) ≤ 8)) := within_is' _ _ _
  have e2 : spec_l1In.f (p.length : Int) 1 8 = some (decide ((p.length : Int) ≥ 1) && decide ((p.length : Int) ≤ 8)) := within_is' _ _ _
  cases h : (decide ((p.length : Int) ≥ 1) && decide ((p.length : Int) ≤ 8)) with
  | false => exact ⟨([], false), ⟨0, fun k _ => by simp [spec_NamedPlan.f, e2, h]⟩, ⟨0, fun k _ => by simp [impl_NamedPlan.f, e1, h]⟩, by simp⟩
  | true =>
    have hl : p.length ≤ 8 := by simp at h; omega
    obtain ⟨K1, h1⟩ := bgNamed_ev p (by omega)
    have h1 : ∀ k, K1 ≤ k → spec_bgNamed.f k p = some (nm p) := h1
    obtain ⟨K2, h2⟩ := named_ev p (by omega)
    have h2 : ∀ k, K2 ≤ k → impl_named.f k p = some (nm p) := h2
    exact ⟨(nm p, true), ⟨K1, fun k hk => by simp [spec_NamedPlan.f, e2, h, h1 k hk]⟩, ⟨K2, fun k hk => by simp [impl_NamedPlan.f, e1, h, h2 k hk]⟩, by simp [nm_len]; omega⟩
end Go.Proofs.Ytagbpiofphgjlaa.Bg
