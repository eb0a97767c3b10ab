/- Texts of this seat's proofs: contracts of its functions and plain laws about them, with no condition beyond those that each theorem states. -/
import Derived.Test.YtagbpiofphgjlaaQ8c83f8b6
import Derived.Test.YtagbpiofphgjlaaQc832bdfb
import Derived.Test.YtagbpiofphgjlaaQ207f3df9
import Derived.Test.YtagbpiofphgjlaaQ168de972
import Derived.Test.YtagbpiofphgjlaaQ3126b38b
import Derived.Test.YtagbpiofphgjlaaQb3ccfd3d
import Derived.Test.YtagbpiofphgjlaaQ37caf049
import Derived.Test.YtagbpiofphgjlaaQ2f012bad
import Derived.Test.YtagbpiofphgjlaaQc1b99c9a
namespace Go.Proofs.Ytagbpiofphgjlaa.Pure
open Go.RowKit Go.Proofs.Ytagbpiofphgjlaa.G Go.Proofs.YtagbpiofphgjlaaW.PrintWords Go.Proofs.Ytagbpiofphgjlaa.Bg
theorem FnExactAreParcels : laws_FnExactAreParcels.Pure := by
  intro l hl _
  by_cases hs : l.length ≤ 1048576
  · obtain ⟨K1, h1⟩ := toParcelS_ev l hs
    have h1 : ∀ k, K1 ≤ k → laws_toParcelS.f k l = some (l.map conv) := h1
    obtain ⟨K4, h4⟩ := eqParcelS_ev (l.map conv) (by simp; omega)
    have h4 : ∀ k, K4 ≤ k → laws_eqParcelS.f k (l.map conv) (l.map conv) = some true := h4
    have hsz := sz_small l hs
    have hlt : ¬ (1048576 - (l.length : Int) < 0) := by omega
    obtain ⟨K2, h2⟩ := bgGood_ev (l.map conv)
    have h2 : ∀ k, K2 ≤ k → spec_bgGood.f k (l.map conv) = some (okP (l.map conv)) := h2
    have h3 := areParcels_val (l.map conv)
    refine ⟨K2 + K1 + K4 + 9, ?_⟩
    simp (disch := omega) only [laws_FnExactAreParcels.f, spec_AreParcels.f, h2, h3, h1, h4, hsz, hlt, Option.bind_some, if_true, if_false, bne_self_eq_false, Bool.false_eq_true]
  · exact ⟨0, by simp only [laws_FnExactAreParcels.f, sz_big l hl (by omega), Option.bind_some]; rfl⟩
end Go.Proofs.Ytagbpiofphgjlaa.Pure
