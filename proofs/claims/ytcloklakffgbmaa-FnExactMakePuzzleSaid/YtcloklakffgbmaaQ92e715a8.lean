/- Texts of this seat's proofs: contracts of its functions and plain laws about them, with no condition beyond those that each theorem states. -/
import Derived.Test.YtcloklakffgbmaaQfdcb771a
import Derived.Test.YtcloklakffgbmaaQ593a8e78
namespace Go.Proofs.Ytcloklakffgbmaa.Pz
open Go.RowKit Go.Proofs.Ytcloklakffgbmaa.G Go.Proofs.YtcloklakffgbmaaW.PrintWords
def inB (a b c : Int) : Bool := decide (b ≤ a) && decide (a ≤ c)
theorem within_val (a b c : Int) : impl_within.f a b c = some (inB a b c) := by
  unfold impl_within.f inB
  by_cases h : a ≥ b
  · rw [if_pos h]; simp [show b ≤ a from h]
  · rw [if_neg h]; simp [show ¬ b ≤ a from h]
theorem l1In_val (a b c : Int) : spec_l1In.f a b c = some (inB a b c) := within_val a b c
def street (k p : Int) : Bool := inB k 0 2 && inB p 1 1000
def hid (k p : Int) : Bool := street k p && decide (p ≤ 20)
theorem isStreet_val (k p : Int) : impl_IsStreet.f k p = some (street k p) := by
  unfold impl_IsStreet.f street
  rw [within_val, within_val]
  cases inB k 0 2 <;> rfl
theorem hidden_val (k p : Int) : impl_isHiddenStreet.f k p = some (hid k p) := by
  unfold impl_isHiddenStreet.f hid
  rw [isStreet_val]
  cases street k p <;> rfl
theorem pzStreet_val (k p : Int) : spec_pzStreet.f k p = some (hid k p) := hidden_val k p
end Go.Proofs.Ytcloklakffgbmaa.Pz
