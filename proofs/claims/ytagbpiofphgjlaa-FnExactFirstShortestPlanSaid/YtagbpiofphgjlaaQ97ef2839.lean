/- Texts of this seat's proofs: contracts of its functions and plain laws about them, with no condition beyond those that each theorem states. -/
import Derived.Test.YtagbpiofphgjlaaQe9280fc4
import Derived.Test.YtagbpiofphgjlaaQ51d42090
import Derived.Test.YtagbpiofphgjlaaQ2e310109
import Derived.Test.YtagbpiofphgjlaaQ60d98e59
import Derived.Test.YtagbpiofphgjlaaQfd01c6cb
import Derived.Test.YtagbpiofphgjlaaQ09a676f3
import Derived.Test.YtagbpiofphgjlaaQ6b5d919a
import Derived.Test.YtagbpiofphgjlaaQ7eae4345
import Derived.Test.YtagbpiofphgjlaaQ7787cf75
import Derived.Test.YtagbpiofphgjlaaQa63aec36
import Derived.Test.YtagbpiofphgjlaaQ65372d46
import Derived.Test.YtagbpiofphgjlaaQ347bb220
namespace Go.Proofs.Ytagbpiofphgjlaa.Bg
open Go.RowKit Go.Proofs.Ytagbpiofphgjlaa.G Go.Proofs.YtagbpiofphgjlaaW.PrintWords Go.Proofs.YtagbpiofphgjlaaW.PrintLast Go.Proofs.YtagbpiofphgjlaaW.PrintMore
theorem FirstShortestPlan_both (l : List S61) (b : Int) : ∃ v : List Int × Bool, Ev (fun k => spec_FirstShortestPlan.f k l b) v ∧ Ev (fun k => impl_FirstShortestPlan.f k l b) v ∧ v.1.length ≤ 1000 := by
  obtain ⟨K, h⟩ := bgAsked_ev l b
  have h : ∀ k, K ≤ k → spec_bgAsked.f k l b = some (fits l b) := h
  cases hf : fits l b with
  | false => exact ⟨([], false), ⟨K, fun k hk => by simp [spec_FirstShortestPlan.f, h k hk, hf]⟩, ⟨0, fun k _ => by simp [impl_FirstShortestPlan.f, fitBag_val, hf]⟩, by simp⟩
  | true =>
    obtain ⟨s, f1, f2, f3⟩ := short_both (fits_room hf)
    have f4 := (fits_room hf).max
    exact ⟨(s.best, true), ⟨K + 101, fun k hk => by simp [spec_FirstShortestPlan.f, h k (by omega), hf, f2 k (by omega)]⟩, ⟨101, fun k hk => by simp [impl_FirstShortestPlan.f, fitBag_val, hf, (fits_room hf).max, f1 k (by omega)]⟩, by simp; omega⟩
end Go.Proofs.Ytagbpiofphgjlaa.Bg
