/- Texts of this seat's proofs: contracts of its functions and plain laws about them, with no condition beyond those that each theorem states. -/
import Derived.Test.YtlbodfogdhjnlaaDoorQ08f17515
import Derived.Test.YtlbodfogdhjnlaaDoorQ5473245a
import Derived.Test.YtlbodfogdhjnlaaDoorQ0a291ec6
import Derived.Test.YtlbodfogdhjnlaaDoorQ1dac2218
namespace Go.Proofs.YtlbodfogdhjnlaaDoor.G
open Go.RowKit Go.Proofs.YtlbodfogdhjnlaaDoorW.PrintWords Go.Proofs.YtlbodfogdhjnlaaDoorW.PrintLast Go.Proofs.YtlbodfogdhjnlaaDoorW.PrintMore
attribute [local go_sem] max2_int min2_int max_two min_two max_three min_three max_four min_four
set_option linter.unusedVariables false
set_option linter.unusedSimpArgs false
def clueOk (x : S54) : Bool := (impl_isClue.f x.f0 x.f1 x.f2).getD false
theorem isClue_some (x : S54) : impl_isClue.f x.f0 x.f1 x.f2 = some (clueOk x) := by
  unfold clueOk impl_isClue.f impl_within.f
  repeat' first
    | rfl
    | (simp only [Option.bind_some]; done)
    | (simp only [Option.bind_some])
    | split
set_option maxHeartbeats 2000000 in
set_option maxRecDepth 100000 in
theorem clue_bad (W : World) (x : S54) : Calls Tryd.prog 47 (#[clueV x] ++ #[]) W fun e w' => e = .returned (.bool (!clueOk x)) ∧ Below W.heap.size W w' := by
  have hu := Tryd.underlying54
  have key := fun W1 => impl_isClue.calls x.f0 x.f1 x.f2 (clueOk x) W1 (isClue_some x)
  show Calls Tryd.prog 47 #[.agg #[.int .i64 x.f0, .int .i64 x.f1, .int .i64 x.f2]] W _
  generalize x.f0 = a0 at key ⊢
  generalize x.f1 = a1 at key ⊢
  generalize x.f2 = a2 at key ⊢
  generalize clueOk x = b at key ⊢
  go_enter Tryd.func47, Tryd.ntmps47
  go_wp2_with (go_at_call 48; refine (key _).mono ?_; rintro e w' ⟨rfl, hb'⟩)
  go_ret
  exact ⟨rfl, Fun.below_box hb'⟩
end Go.Proofs.YtlbodfogdhjnlaaDoor.G
