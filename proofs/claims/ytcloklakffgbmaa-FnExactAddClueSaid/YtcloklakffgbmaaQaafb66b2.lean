/- Texts of this seat's proofs: contracts of its functions and plain laws about them, with no condition beyond those that each theorem states. -/
import Derived.Test.YtcloklakffgbmaaQ1bfdbd4f
import Derived.Test.YtcloklakffgbmaaQb00e85b7
import Derived.Test.YtcloklakffgbmaaQ616b858d
import Derived.Test.YtcloklakffgbmaaQ371f63f0
namespace Go.Proofs.Ytcloklakffgbmaa.G
open Go.RowKit Go.Proofs.YtcloklakffgbmaaW.PrintWords Go.Proofs.YtcloklakffgbmaaW.PrintLast Go.Proofs.YtcloklakffgbmaaW.PrintMore
attribute [local go_sem] max2_int min2_int max_two min_two max_three min_three max_four min_four
set_option linter.unusedVariables false
set_option linter.unusedSimpArgs false
def clueOk (x : S37) : Bool := (impl_isClue.f x.f0 x.f1 x.f2).getD false
theorem isClue_some (x : S37) : impl_isClue.f x.f0 x.f1 x.f2 = some (clueOk x) := by
 unfold clueOk impl_isClue.f impl_within.f
 repeat' first
  | rfl
  | (simp only [Option.bind_some]; done)
  | (simp only [Option.bind_some])
  | split
set_option maxHeartbeats 2000000 in
set_option maxRecDepth 100000 in
theorem clue_bad (W : World) (x : S37) : Calls Try.prog 67 (#[clueV x] ++ #[]) W fun e w' => e = .returned (.bool (!clueOk x)) ∧ Below W.heap.size W w' := by
 have hu := Try.underlying37
 have key := fun W1 => impl_isClue.calls x.f0 x.f1 x.f2 (clueOk x) W1 (isClue_some x)
 show Calls Try.prog 67 #[.agg #[.int .i64 x.f0, .int .i64 x.f1, .int .i64 x.f2]] W _
 generalize x.f0 = a0 at key ⊢
 generalize x.f1 = a1 at key ⊢
 generalize x.f2 = a2 at key ⊢
 generalize clueOk x = b at key ⊢
 go_enter Try.func67, Try.ntmps67
 go_wp2_with (go_at_call 63; refine (key _).mono ?_; rintro e w' ⟨rfl, hb'⟩)
 go_ret
 exact ⟨rfl, Fun.below_box hb'⟩
end Go.Proofs.Ytcloklakffgbmaa.G
