/- Texts of this seat's proofs: contracts of its functions and plain laws about them, with no condition beyond those that each theorem states. -/
import Derived.Test.YtfjaapnnfpjfdaaQ335e349f
import Derived.Test.YtfjaapnnfpjfdaaQb25bc697
import Derived.Test.YtfjaapnnfpjfdaaQd9c0fccc
namespace Go.Proofs.Ytfjaapnnfpjfdaa.G
open Go.RowKit Go.Proofs.YtfjaapnnfpjfdaaW.PrintWords Go.Proofs.YtfjaapnnfpjfdaaW.PrintLast Go.Proofs.YtfjaapnnfpjfdaaW.PrintMore
attribute [local go_sem] max2_int min2_int max_two min_two max_three min_three max_four min_four
set_option linter.unusedVariables false
set_option linter.unusedSimpArgs false
theorem sol_bad (gs gh : Nat) (a b hh : Int) (t : Bool) (W : World) (x : S29) (hf : impl_doesFit.f a b x.f0 x.f1 x.f2 hh = some t)
    (h0 : W.cell? ⟨gs, 0, none⟩ = some (.int .i64 a)) (h1 : W.cell? ⟨gs, 1, none⟩ = some (.int .i64 b)) (h2 : W.cell? ⟨gh, 0, none⟩ = some (.int .i64 hh)) (l0 : gs < W.heap.size) (l1 : gh < W.heap.size) :
    Calls Try.prog 116 (#[clueV x] ++ #[.pointer (some ⟨gs, 0, none⟩), .pointer (some ⟨gh, 0, none⟩)]) W fun e w' => e = .returned (.bool (!t)) ∧ Below W.heap.size W w' := by
  have hu := Try.underlying29
  have hu2 := Try.underlying27
  have key := fun W1 => impl_doesFit.calls a b x.f0 x.f1 x.f2 hh t W1 hf
  clear hf
  show Calls Try.prog 116 #[.agg #[.int .i64 x.f0, .int .i64 x.f1, .int .i64 x.f2], .pointer (some ⟨gs, 0, none⟩), .pointer (some ⟨gh, 0, none⟩)] W _
  generalize x.f0 = a0 at key ⊢
  generalize x.f1 = a1 at key ⊢
  generalize x.f2 = a2 at key ⊢
  have e0 : gs ≠ W.heap.size := by omega
  have e1 : gh ≠ W.heap.size := by omega
  go_enter Try.func116, Try.ntmps116
  go_wp2_with fail
  refine (key _).mono ?_
  rintro e w' ⟨rfl, hb'⟩
  go_wp2
  go_ret
  exact ⟨rfl, Fun.below_box hb'⟩
end Go.Proofs.Ytfjaapnnfpjfdaa.G
