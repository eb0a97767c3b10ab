/- Texts of this seat's proofs: contracts of its functions and plain laws about them, with no condition beyond those that each theorem states. -/
import Derived.Test.YtfjaapnnfpjfdaaQ335e349f
import Derived.Test.YtfjaapnnfpjfdaaQbc140d44
import Derived.Test.YtfjaapnnfpjfdaaQ216c7b86
namespace Go.Proofs.Ytfjaapnnfpjfdaa.G
open Go.RowKit Go.Proofs.YtfjaapnnfpjfdaaW.PrintWords Go.Proofs.YtfjaapnnfpjfdaaW.PrintLast Go.Proofs.YtfjaapnnfpjfdaaW.PrintMore
attribute [local go_sem] max2_int min2_int max_two min_two max_three min_three max_four min_four
set_option linter.unusedVariables false
set_option linter.unusedSimpArgs false
def impl_withoutClue.f (l0 : List (S29)) (a1 : Int) : Option ((List (S29))) := if 0 ≤ a1 ∧ a1 < (l0.length : Int) ∧ l0.length < 5864062014805 then some (l0.eraseIdx a1.toNat) else none
set_option maxHeartbeats 4000000 in
set_option maxRecDepth 100000 in
theorem impl_withoutClue.calls (A0 : Option Addr) (c0 : Nat) (l0 : List (S29)) (a1 : Int) (r : List (S29)) (w : World) (hr0 : Kd.C k29 w A0 l0.length l0) (hc0 : l0.length ≤ c0) (h : impl_withoutClue.f l0 a1 = some r) :
    Calls Try.prog 91 #[.slice A0 l0.length c0, .int .i64 a1] w fun e w' => ∃ v0_ : Value, e = .returned (v0_) ∧ Kd.R k29 29 w' w.heap.size (fun _ => True) v0_ r ∧ Below w.heap.size w w' := by
  unfold impl_withoutClue.f at h
  by_cases hc : 0 ≤ a1 ∧ a1 < (l0.length : Int) ∧ l0.length < 5864062014805
  · rw [if_pos hc] at h
    obtain rfl := Option.some.inj h
    clear h
    obtain ⟨h0, h1, h2⟩ := hc
    obtain ⟨q, rfl⟩ := Int.eq_ofNat_of_zero_le h0
    have key := fun W hr => impl_Clue_85.calls A0 c0 l0 l0 W hr hc0 (by unfold impl_Clue_85.f; rw [if_pos h2])
    have KY := Aside0.mk (key w hr0)
    clear key hr0
    go_enter Try.func91, Try.ntmps91
    go_wp2_with fail
    refine KY.out.mono ?_
    rintro e w1 ⟨v, rfl, HO, hb⟩
    obtain ⟨g, c, rfl, hbg, hgl, _⟩ := Kd.R_form HO (by omega)
    go_wp2_with fail
    refine (clue_delete w.heap.size (fun _ => True) g l0.length c q l0 w w1 HO (by omega) hb hb.size (by omega)).mono ?_
    rintro e w2 ⟨rfl, HO2, hb2⟩
    go_wp2
    go_ret
    exact ⟨_, rfl, by simpa using HO2, hb2⟩
  · rw [if_neg hc] at h
    cases h
end Go.Proofs.Ytfjaapnnfpjfdaa.G
