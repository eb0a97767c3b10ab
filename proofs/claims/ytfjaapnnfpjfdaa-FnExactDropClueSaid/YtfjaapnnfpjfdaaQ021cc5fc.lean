/- Texts of this seat's proofs: contracts of its functions and plain laws about them, with no condition beyond those that each theorem states. -/
import Derived.Test.YtfjaapnnfpjfdaaQ763efff4
import Derived.Test.YtfjaapnnfpjfdaaQddea47a3
namespace Go.Proofs.Ytfjaapnnfpjfdaa.G
open Go.RowKit Go.Proofs.YtfjaapnnfpjfdaaW.PrintWords Go.Proofs.YtfjaapnnfpjfdaaW.PrintLast Go.Proofs.YtfjaapnnfpjfdaaW.PrintMore
attribute [local go_sem] max2_int min2_int max_two min_two max_three min_three max_four min_four
set_option linter.unusedVariables false
set_option linter.unusedSimpArgs false
def impl_toldBy.f (a0_0 : Int) (a0_1 : Int) (a1_0 : Int) (a1_1 : Int) (a1_2 : Int) (a2 : Int) : Option (Int) := (impl_plotOf.f a0_0 a0_1 a2).bind fun bt103 => (if a1_0 = 0 then (some bt103.1) else (if a1_0 = 1 then (some bt103.2) else (if a1_0 = 2 then (if a1_1 = 0 then (none) else ((impl_oneIf.f ((Int.tmod a2 a1_1) == 0)).bind fun t105 => (some t105))) else (if a1_0 = 3 then (some (wrap64 ((wrap64 (Int.tdiv a2 10)) + (Int.tmod a2 10)))) else (if a1_0 = 4 then ((impl_oneIf.f (decide (a2 > a1_1))).bind fun t106 => (some t106)) else (if a0_0 = 0 then (some 0) else ((impl_numberAt.f a0_0 a0_1 (wrap64 (1 - bt103.1)) bt103.2).bind fun t107 => (some t107))))))))
end Go.Proofs.Ytfjaapnnfpjfdaa.G
