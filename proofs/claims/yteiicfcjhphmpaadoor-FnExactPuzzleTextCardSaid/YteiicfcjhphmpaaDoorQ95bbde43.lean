/- Texts of this seat's proofs: contracts of its functions and plain laws about them, with no condition beyond those that each theorem states. -/
import Derived.Test.YteiicfcjhphmpaaDoorQ5b0a2bb0
import Derived.Test.YteiicfcjhphmpaaDoorQ19829b42
import Derived.Test.YteiicfcjhphmpaaDoorQ9345d342
import Derived.Test.YteiicfcjhphmpaaDoorQ8b4d9184
namespace Go.Proofs.YteiicfcjhphmpaaDoor.G
open Go.RowKit Go.Proofs.YteiicfcjhphmpaaDoorW.PrintWords Go.Proofs.YteiicfcjhphmpaaDoorW.PrintLast Go.Proofs.YteiicfcjhphmpaaDoorW.PrintMore
attribute [local go_sem] max2_int min2_int max_two min_two max_three min_three max_four min_four
set_option linter.unusedVariables false
set_option linter.unusedSimpArgs false
def clueOk (x : S78) : Bool := (impl_isClue.f x.f0 x.f1 x.f2).getD false
theorem isClue_some (x : S78) : impl_isClue.f x.f0 x.f1 x.f2 = some (clueOk x) := by
  unfold clueOk impl_isClue.f impl_within.f
  repeat' first
    | rfl
    | (simp only [Option.bind_some]; done)
    | (simp only [Option.bind_some])
    | split
set_option maxHeartbeats 2000000 in
set_option maxRecDepth 100000 in
theorem clue_bad (W : World) (x : S78) : Calls Tryd.prog 46 (#[clueV x] ++ #[]) W fun e w' => e = .returned (.bool (!clueOk x)) ∧ Below W.heap.size W w' := by
  have hu := Tryd.underlying78
  have key := fun W1 => impl_isClue.calls x.f0 x.f1 x.f2 (clueOk x) W1 (isClue_some x)
  show Calls Tryd.prog 46 #[.agg #[.int .i64 x.f0, .int .i64 x.f1, .int .i64 x.f2]] W _
  generalize x.f0 = a0 at key ⊢
  generalize x.f1 = a1 at key ⊢
  generalize x.f2 = a2 at key ⊢
  generalize clueOk x = b at key ⊢
  go_enter Tryd.func46, Tryd.ntmps46
  go_wp2_with (go_at_call 47; refine (key _).mono ?_; rintro e w' ⟨rfl, hb'⟩)
  go_ret
  exact ⟨rfl, Fun.below_box hb'⟩
end Go.Proofs.YteiicfcjhphmpaaDoor.G
