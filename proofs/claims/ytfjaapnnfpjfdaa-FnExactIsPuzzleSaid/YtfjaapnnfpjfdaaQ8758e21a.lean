/- Texts of this seat's proofs: contracts of its functions and plain laws about them, with no condition beyond those that each theorem states. -/
import Derived.Test.YtfjaapnnfpjfdaaQ763efff4
import Derived.Test.YtfjaapnnfpjfdaaQ0b3c1c86
import Derived.Test.YtfjaapnnfpjfdaaQfd535d0d
import Derived.Test.YtfjaapnnfpjfdaaQe202cd8e
namespace Go.Proofs.Ytfjaapnnfpjfdaa.G
open Go.RowKit Go.Proofs.YtfjaapnnfpjfdaaW.PrintWords Go.Proofs.YtfjaapnnfpjfdaaW.PrintLast Go.Proofs.YtfjaapnnfpjfdaaW.PrintMore
attribute [local go_sem] max2_int min2_int max_two min_two max_three min_three max_four min_four
set_option linter.unusedVariables false
set_option linter.unusedSimpArgs false
def clueOk (x : S29) : Bool := (impl_isClue.f x.f0 x.f1 x.f2).getD false
theorem isClue_some (x : S29) : impl_isClue.f x.f0 x.f1 x.f2 = some (clueOk x) := by
  unfold clueOk impl_isClue.f impl_within.f
  repeat' first
    | rfl
    | (simp only [Option.bind_some]; done)
    | (simp only [Option.bind_some])
    | split
set_option maxHeartbeats 2000000 in
set_option maxRecDepth 100000 in
theorem clue_bad (W : World) (x : S29) : Calls Try.prog 78 (#[clueV x] ++ #[]) W fun e w' => e = .returned (.bool (!clueOk x)) ∧ Below W.heap.size W w' := by
  have hu := Try.underlying29
  have key := fun W1 => impl_isClue.calls x.f0 x.f1 x.f2 (clueOk x) W1 (isClue_some x)
  show Calls Try.prog 78 #[.agg #[.int .i64 x.f0, .int .i64 x.f1, .int .i64 x.f2]] W _
  generalize x.f0 = a0 at key ⊢
  generalize x.f1 = a1 at key ⊢
  generalize x.f2 = a2 at key ⊢
  generalize clueOk x = b at key ⊢
  go_enter Try.func78, Try.ntmps78
  go_wp2_with (go_at_call 73; refine (key _).mono ?_; rintro e w' ⟨rfl, hb'⟩)
  go_ret
  exact ⟨rfl, Fun.below_box hb'⟩
end Go.Proofs.Ytfjaapnnfpjfdaa.G
