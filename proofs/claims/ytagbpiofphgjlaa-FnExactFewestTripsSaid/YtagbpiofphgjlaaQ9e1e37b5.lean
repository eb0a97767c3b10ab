/- Texts of this seat's proofs: contracts of its functions and plain laws about them, with no condition beyond those that each theorem states. -/
import Derived.Test.YtagbpiofphgjlaaQ0aa59d9b
import Derived.Test.YtagbpiofphgjlaaQ3ef7806c
import Derived.Test.YtagbpiofphgjlaaQ38531438
import Derived.Test.YtagbpiofphgjlaaQd4c393a8
import Derived.Test.YtagbpiofphgjlaaQ0d2cb087
import Derived.Test.YtagbpiofphgjlaaQ9527384e
import Derived.Test.YtagbpiofphgjlaaQ7dc63116
import Derived.Test.YtagbpiofphgjlaaQ571786a0
import Derived.Test.YtagbpiofphgjlaaQc07f6833
import Derived.Test.YtagbpiofphgjlaaQb7bdb3b9
import Derived.Test.YtagbpiofphgjlaaQab127a3f
import Derived.Test.YtagbpiofphgjlaaQ5e39f781
namespace Go.Proofs.Ytagbpiofphgjlaa.Bg
open Go.RowKit Go.Proofs.Ytagbpiofphgjlaa.G Go.Proofs.YtagbpiofphgjlaaW.PrintWords Go.Proofs.YtagbpiofphgjlaaW.PrintLast Go.Proofs.YtagbpiofphgjlaaW.PrintMore
theorem FewestTrips_both (l : List S61) (b : Int) : ∃ v : Int × Bool, Ev (fun k => spec_FewestTrips.f k l b) v ∧ impl_FewestTrips.f l b = some v := by
  obtain ⟨K, h⟩ := bgAsked_ev l b
  have h : ∀ k, K ≤ k → spec_bgAsked.f k l b = some (fits l b) := h
  cases hf : fits l b with
  | false => exact ⟨(0, false), ⟨K, fun k hk => by simp [spec_FewestTrips.f, h k hk, hf]⟩, by simp [impl_FewestTrips.f, fitBag_val, hf]⟩
  | true =>
    obtain ⟨s, f1, f2, f3⟩ := few_both (fits_room hf)
    have f4 := (fits_room hf).max
    exact ⟨(s.least, true), ⟨K + 101, fun k hk => by simp [spec_FewestTrips.f, h k (by omega), hf, f2 k (by omega)]⟩, by simp [impl_FewestTrips.f, fitBag_val, hf, (fits_room hf).max, f1]⟩
end Go.Proofs.Ytagbpiofphgjlaa.Bg
