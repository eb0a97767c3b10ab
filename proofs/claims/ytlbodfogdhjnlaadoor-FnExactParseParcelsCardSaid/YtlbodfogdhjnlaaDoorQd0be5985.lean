/- Texts of this seat's proofs: contracts of its functions and plain laws about them, with no condition beyond those that each theorem states. -/
import Derived.Test.YtlbodfogdhjnlaaDoorQb5295d6d
import Derived.Test.YtlbodfogdhjnlaaDoorQ57ba1b19
import Derived.Test.YtlbodfogdhjnlaaDoorQ686891da
namespace Go.Proofs.YtlbodfogdhjnlaaDoor.G
open Go.RowKit Go.Proofs.YtlbodfogdhjnlaaDoorW.PrintWords Go.Proofs.YtlbodfogdhjnlaaDoorW.PrintLast Go.Proofs.YtlbodfogdhjnlaaDoorW.PrintMore
attribute [local go_sem] max2_int min2_int max_two min_two max_three min_three max_four min_four
set_option linter.unusedVariables false
set_option linter.unusedSimpArgs false
def parcOk (x : S41) : Bool := (decide (x.f0 ≥ 1) && decide (x.f0 ≤ 100)) && (decide (x.f1 ≥ 1) && decide (x.f1 ≤ 1000))
theorem within_is (a b c : Int) : impl_within.f a b c = some (decide (a ≥ b) && decide (a ≤ c)) := by
  unfold impl_within.f
  by_cases h : a ≥ b
  · rw [if_pos h, decide_eq_true h, Bool.true_and]
  · rw [if_neg h, decide_eq_false h, Bool.false_and]
set_option maxHeartbeats 2000000 in
set_option maxRecDepth 100000 in
theorem parc_bad (W : World) (x : S41) : Calls Tryd.prog 38 (#[parcV x] ++ #[]) W fun e w' => e = .returned (.bool (!parcOk x)) ∧ Below W.heap.size W w' := by
  have hu := Tryd.underlying41
  have key := fun W1 => impl_within.calls x.f0 1 100 _ W1 (within_is _ _ _)
  have key2 := fun W1 => impl_within.calls x.f1 1 1000 _ W1 (within_is _ _ _)
  show Calls Tryd.prog 38 #[.agg #[.int .i64 x.f0, .int .i64 x.f1]] W _
  unfold parcOk
  generalize x.f0 = a0 at key key2 ⊢
  generalize x.f1 = a1 at key key2 ⊢
  generalize (decide (a0 ≥ 1) && decide (a0 ≤ 100)) = b0 at key ⊢
  generalize (decide (a1 ≥ 1) && decide (a1 ≤ 1000)) = b1 at key2 ⊢
  go_enter Tryd.func38, Tryd.ntmps38
  go_wp2_with fail
  refine (key _).mono ?_
  rintro e w1 ⟨rfl, hd1⟩
  have hb1 := hd1.below
  clear hd1
  obtain ⟨hc, hf⟩ := Fun.bcell hb1
  have hb2 := Fun.below_box hb1
  have c0 := (hc W.heap.size 1 (by simp)).trans (show _ = some (.int .i64 a1) by simp)
  clear hc hf hb1
  cases b0 with
  | false =>
    go_wp2
    go_ret
    exact ⟨rfl, hb2⟩
  | true =>
    go_wp2_with fail
    refine (key2 _).mono ?_
    rintro e w2 ⟨rfl, hd3⟩
    have hb3 := hd3.below
    clear hd3
    go_wp2
    go_ret
    exact ⟨by simp, hb2.trans (hb3.mono hb2.size)⟩
end Go.Proofs.YtlbodfogdhjnlaaDoor.G
