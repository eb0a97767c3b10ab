/- Texts of this seat's proofs: contracts of its functions and plain laws about them, with no condition beyond those that each theorem states. -/
import Derived.Test.YtfjaapnnfpjfdaaQ6be4b13a
import Derived.Test.YtfjaapnnfpjfdaaQ77847cef
import Derived.Test.YtfjaapnnfpjfdaaQ643cb97d
namespace Go.Proofs.Ytfjaapnnfpjfdaa.Pz
open Go.RowKit Go.Proofs.Ytfjaapnnfpjfdaa.G Go.Proofs.YtfjaapnnfpjfdaaW.PrintWords Go.Proofs.YtfjaapnnfpjfdaaW.PrintLast Go.Proofs.YtfjaapnnfpjfdaaW.PrintMore
theorem w64 {x : Int} (h0 : -9223372036854775808 ≤ x) (h1 : x ≤ 9223372036854775807) : wrap64 x = x := by unfold wrap64; omega
end Go.Proofs.Ytfjaapnnfpjfdaa.Pz
