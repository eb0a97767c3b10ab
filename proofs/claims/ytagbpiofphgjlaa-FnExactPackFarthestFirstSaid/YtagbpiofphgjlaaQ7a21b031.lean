/- Texts of this seat's proofs: contracts of its functions and plain laws about them, with no condition beyond those that each theorem states. -/
import Derived.Test.YtagbpiofphgjlaaQ742fc60f
import Derived.Test.YtagbpiofphgjlaaQaa4ae480
import Derived.Test.YtagbpiofphgjlaaQ7ccb4470
import Derived.Test.YtagbpiofphgjlaaQ28586bec
import Derived.Test.YtagbpiofphgjlaaQ29ef0e3f
import Derived.Test.YtagbpiofphgjlaaQ9de27c14
import Derived.Test.YtagbpiofphgjlaaQ6e434dd1
import Derived.Test.YtagbpiofphgjlaaQe96fa5cb
import Derived.Test.YtagbpiofphgjlaaQd1389eba
namespace Go.Proofs.Ytagbpiofphgjlaa.Bg
open Go.RowKit Go.Proofs.Ytagbpiofphgjlaa.G Go.Proofs.YtagbpiofphgjlaaW.PrintWords Go.Proofs.YtagbpiofphgjlaaW.PrintLast Go.Proofs.YtagbpiofphgjlaaW.PrintMore
theorem rd_get {l : List Int} {i : Nat} (h : i < l.length) : rd l (i : Int) = l[i] := by simp [rd, List.getD, List.getElem?_eq_getElem h]
theorem rd_left {a b : List Int} {n : Int} (h0 : 0 ≤ n) (h : n < (a.length : Int)) : rd (a ++ b) n = rd a n := by
  obtain ⟨m, rfl⟩ : ∃ m : Nat, n = m := ⟨n.toNat, by omega⟩
  simp [rd, List.getD, List.getElem?_append_left (show m < a.length by omega)]
theorem rd_mem {a : List Int} {n : Int} (h0 : 0 ≤ n) (h : n < (a.length : Int)) : rd a n ∈ a := by
  obtain ⟨m, rfl⟩ : ∃ m : Nat, n = m := ⟨n.toNat, by omega⟩
  rw [rd_get (by omega)]
  exact List.getElem_mem _
end Go.Proofs.Ytagbpiofphgjlaa.Bg
