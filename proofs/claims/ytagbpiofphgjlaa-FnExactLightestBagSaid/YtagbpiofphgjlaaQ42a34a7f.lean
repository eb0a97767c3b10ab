/- Texts of this seat's proofs: contracts of its functions and plain laws about them, with no condition beyond those that each theorem states. -/
import Derived.Test.YtagbpiofphgjlaaQe9280fc4
import Derived.Test.YtagbpiofphgjlaaQ65372d46
import Derived.Test.YtagbpiofphgjlaaQ54974e0c
import Derived.Test.YtagbpiofphgjlaaQa9d1dfdc
import Derived.Test.YtagbpiofphgjlaaQf1ef9cd2
import Derived.Test.YtagbpiofphgjlaaQ6b303e28
import Derived.Test.YtagbpiofphgjlaaQa0f42ed0
import Derived.Test.YtagbpiofphgjlaaQc5782d52
import Derived.Test.YtagbpiofphgjlaaQf653b09a
import Derived.Test.YtagbpiofphgjlaaQ8e329c78
import Derived.Test.YtagbpiofphgjlaaQ9f2bfce2
namespace Go.Proofs.Ytagbpiofphgjlaa.Bg
open Go.RowKit Go.Proofs.Ytagbpiofphgjlaa.G Go.Proofs.YtagbpiofphgjlaaW.PrintWords Go.Proofs.YtagbpiofphgjlaaW.PrintLast Go.Proofs.YtagbpiofphgjlaaW.PrintMore
theorem most_val (a b : Int) : spec_l1Most.f a b = some (mx a b) := by
  unfold spec_l1Most.f mx
  by_cases h : a > b
  · rw [if_pos h, if_neg (by omega)]
  · rw [if_neg h]
    by_cases h2 : a < b
    · rw [if_pos h2]
    · rw [if_neg h2, show b = a by omega]
theorem mx_le {a b c : Int} : mx a b ≤ c ↔ a ≤ c ∧ b ≤ c := by
  unfold mx
  split <;> omega
theorem rdL_get {T : List (List Int)} {j : Nat} (h : j < T.length) : rd_L4 T (j : Int) = T[j] := by simp [rd_L4, List.getD, List.getElem?_eq_getElem h]
end Go.Proofs.Ytagbpiofphgjlaa.Bg
