/- Texts of this seat's proofs: contracts of its functions and plain laws about them, with no condition beyond those that each theorem states. -/
import Derived.Test.YtagbpiofphgjlaaQ8bdf0aaa
import Derived.Test.YtagbpiofphgjlaaQ375386e9
import Derived.Test.YtagbpiofphgjlaaQcae372f3
import Derived.Test.YtagbpiofphgjlaaQ7c2b8257
import Derived.Test.YtagbpiofphgjlaaQ040c304a
import Derived.Test.YtagbpiofphgjlaaQ856e6c0c
namespace Go.Proofs.Ytagbpiofphgjlaa.Bg
open Go.RowKit Go.Proofs.Ytagbpiofphgjlaa.G Go.Proofs.YtagbpiofphgjlaaW.PrintWords Go.Proofs.YtagbpiofphgjlaaW.PrintLast Go.Proofs.YtagbpiofphgjlaaW.PrintMore
theorem rdL_get {T : List (List Int)} {j : Nat} (h : j < T.length) : rd_L4 T (j : Int) = T[j] := by simp [rd_L4, List.getD, List.getElem?_eq_getElem h]
end Go.Proofs.Ytagbpiofphgjlaa.Bg
