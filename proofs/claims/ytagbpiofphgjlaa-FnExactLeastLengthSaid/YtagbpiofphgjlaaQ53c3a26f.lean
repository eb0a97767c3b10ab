/- Texts of this seat's proofs: contracts of its functions and plain laws about them, with no condition beyond those that each theorem states. -/
import Derived.Test.YtagbpiofphgjlaaQe9280fc4
import Derived.Test.YtagbpiofphgjlaaQ51d42090
import Derived.Test.YtagbpiofphgjlaaQ2e310109
import Derived.Test.YtagbpiofphgjlaaQ09a676f3
import Derived.Test.YtagbpiofphgjlaaQ6b5d919a
import Derived.Test.YtagbpiofphgjlaaQ7eae4345
import Derived.Test.YtagbpiofphgjlaaQ7787cf75
import Derived.Test.YtagbpiofphgjlaaQa63aec36
import Derived.Test.YtagbpiofphgjlaaQ26cbce20
import Derived.Test.YtagbpiofphgjlaaQ65372d46
import Derived.Test.YtagbpiofphgjlaaQc5baf8bd
import Derived.Test.YtagbpiofphgjlaaQ5145241d
namespace Go.Proofs.Ytagbpiofphgjlaa.Bg
open Go.RowKit Go.Proofs.Ytagbpiofphgjlaa.G Go.Proofs.YtagbpiofphgjlaaW.PrintWords Go.Proofs.YtagbpiofphgjlaaW.PrintLast Go.Proofs.YtagbpiofphgjlaaW.PrintMore
theorem LeastLength_both (l : List S61) (b : Int) : ∃ v : Int × Bool, Ev (fun k => spec_LeastLength.f k l b) v ∧ Ev (fun k => impl_LeastLength.f k l b) v := by
  obtain ⟨K, h⟩ := bgAsked_ev l b
  have h : ∀ k, K ≤ k → spec_bgAsked.f k l b = some (fits l b) := h
  cases hf : fits l b with
  | false => exact ⟨(0, false), ⟨K, fun k hk => by simp [spec_LeastLength.f, h k hk, hf]⟩, ⟨0, fun k _ => by simp [impl_LeastLength.f, fitBag_val, hf]⟩⟩
  | true =>
    obtain ⟨s, f1, f2, f3⟩ := short_both (fits_room hf)
    have f4 := (fits_room hf).max
    exact ⟨(s.least, true), ⟨K + 101, fun k hk => by simp [spec_LeastLength.f, h k (by omega), hf, f2 k (by omega)]⟩, ⟨101, fun k hk => by simp [impl_LeastLength.f, fitBag_val, hf, (fits_room hf).max, f1 k (by omega)]⟩⟩
end Go.Proofs.Ytagbpiofphgjlaa.Bg
