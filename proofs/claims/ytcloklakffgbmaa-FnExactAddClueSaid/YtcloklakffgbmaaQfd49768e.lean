/- Texts of this seat's proofs: contracts of its functions and plain laws about them, with no condition beyond those that each theorem states. -/
import Derived.Test.YtcloklakffgbmaaQ77e5eb00
import Derived.Test.YtcloklakffgbmaaQ616b858d
import Derived.Test.YtcloklakffgbmaaQb00e85b7
namespace Go.Proofs.Ytcloklakffgbmaa.Pz
open Go.RowKit Go.Proofs.Ytcloklakffgbmaa.G Go.Proofs.YtcloklakffgbmaaW.PrintWords
def inB (a b c : Int) : Bool := decide (b ≤ a) && decide (a ≤ c)
theorem within_val (a b c : Int) : impl_within.f a b c = some (inB a b c) := by
 unfold impl_within.f inB
 by_cases h : a ≥ b
 ·rw [if_pos h]; simp [show b ≤ a from h]
 ·rw [if_neg h]; simp [show ¬ b ≤ a from h]
def street (k p : Int) : Bool := inB k 0 2 && inB p 1 1000
def hid (k p : Int) : Bool := street k p && decide (p ≤ 20)
theorem isStreet_val (k p : Int) : impl_IsStreet.f k p = some (street k p) := by
 unfold impl_IsStreet.f street
 rw [within_val, within_val]
 cases inB k 0 2 <;> rfl
theorem hidden_val (k p : Int) : impl_isHiddenStreet.f k p = some (hid k p) := by
 unfold impl_isHiddenStreet.f hid
 rw [isStreet_val]
 cases street k p <;> rfl
theorem pzStreet_val (k p : Int) : spec_pzStreet.f k p = some (hid k p) := hidden_val k p
def clueB (k a b : Int) : Bool :=
 if k = 0 then decide (a = 0) && inB b 0 1 else if k = 1 then decide (a = 0) && inB b 0 20 else if k = 2 then inB a 2 9 && inB b 0 1 else
 if k = 3 then decide (a = 0) && inB b 1 13 else if k = 4 then inB a 1 40 && inB b 0 1 else if k = 5 then decide (a = 0) && inB b 0 40 else false
theorem isClue_val (k a b : Int) : impl_isClue.f k a b = some (clueB k a b) := by
 unfold impl_isClue.f clueB
 simp only [within_val, Option.bind_some]
 repeat' split
 all_goals simp_all
theorem pzClue_val (k a b : Int) : spec_pzClue.f k a b = some (clueB k a b) := isClue_val k a b
end Go.Proofs.Ytcloklakffgbmaa.Pz
