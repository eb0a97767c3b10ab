/- Texts of this seat's proofs: contracts of its functions and plain laws about them, with no condition beyond those that each theorem states. -/
import Derived.Test.YtagbpiofphgjlaaQ375386e9
import Derived.Test.YtagbpiofphgjlaaQ8d0fff19
namespace Go.Proofs.Ytagbpiofphgjlaa.G
open Go.RowKit Go.Proofs.YtagbpiofphgjlaaW.PrintWords Go.Proofs.YtagbpiofphgjlaaW.PrintLast Go.Proofs.YtagbpiofphgjlaaW.PrintMore
attribute [local go_sem] max2_int min2_int max_two min_two max_three min_three max_four min_four
set_option linter.unusedVariables false
set_option linter.unusedSimpArgs false
set_option maxHeartbeats 2000000 in
set_option maxRecDepth 100000 in
theorem parc_heavy (gb : Nat) (b : Int) (W : World) (x : S61) (h0 : W.cell? ⟨gb, 0, none⟩ = some (.int .i64 b)) (l0 : gb < W.heap.size) :
    Calls Try.prog 124 (#[parcV x] ++ #[.pointer (some ⟨gb, 0, none⟩)]) W fun e w' => e = .returned (.bool (decide (x.f1 > b))) ∧ Below W.heap.size W w' := by
  have hu := Try.underlying61
  show Calls Try.prog 124 #[.agg #[.int .i64 x.f0, .int .i64 x.f1], .pointer (some ⟨gb, 0, none⟩)] W _
  generalize x.f0 = a0
  generalize x.f1 = a1
  have e0 : gb ≠ W.heap.size := by omega
  go_enter Try.func124, Try.ntmps124
  go_wp2
  go_ret
  exact ⟨rfl, Fun.below_box (Below.refl _ _)⟩
end Go.Proofs.Ytagbpiofphgjlaa.G
