/- Texts of this seat's proofs: contracts of its functions and plain laws about them, with no condition beyond those that each theorem states. -/
import Derived.Test.YtagbpiofphgjlaaQ40edf03d
import Derived.Test.YtagbpiofphgjlaaQ375386e9
import Derived.Test.YtagbpiofphgjlaaQfe13e79c
import Derived.Test.YtagbpiofphgjlaaQ5bdd0704
import Derived.Test.YtagbpiofphgjlaaQe1097320
import Derived.Test.YtagbpiofphgjlaaQ4b5ff576
import Derived.Test.YtagbpiofphgjlaaQ2094cd06
import Derived.Test.YtagbpiofphgjlaaQ955db4c7
namespace Go.Proofs.Ytagbpiofphgjlaa.Bg
open Go.RowKit Go.Proofs.Ytagbpiofphgjlaa.G Go.Proofs.YtagbpiofphgjlaaW.PrintWords Go.Proofs.YtagbpiofphgjlaaW.PrintLast Go.Proofs.YtagbpiofphgjlaaW.PrintMore
theorem allWithin_l0 (l : List Int) (b c : Int) (hn : l.length ≤ 1000) : ∀ (d i k : Nat), i + d = l.length → d < k → impl_allWithin.l0 k b c l (l.length : Int) (i : Int) = some ((l.drop i).all fun x => decide (x ≥ b) && decide (x ≤ c)) ∧ spec_l1All.l0 k b c l (l.length : Int) (i : Int) = some ((l.drop i).all fun x => decide (x ≥ b) && decide (x ≤ c)) := by
  intro d
  induction d with
  | zero =>
    intro i k hi hk
    obtain ⟨k, rfl⟩ : ∃ m, k = m + 1 := ⟨k - 1, by omega⟩
    obtain rfl : i = l.length := by omega
    simp only [impl_allWithin.l0, spec_l1All.l0]
    rw [if_neg (by omega), if_neg (by omega)]
    simp
  | succ d ih =>
    intro i k hi hk
    obtain ⟨k, rfl⟩ : ∃ m, k = m + 1 := ⟨k - 1, by omega⟩
    simp only [impl_allWithin.l0, spec_l1All.l0]
    have hx : l[i]? = some l[i] := List.getElem?_eq_getElem (by omega)
    have hrd : rd l (i : Int) = l[i] := by simp [rd, List.getD, hx]
    have e1 : impl_within.f l[i] b c = some (decide (l[i] ≥ b) && decide (l[i] ≤ c)) := within_is' _ _ _
    have e2 : spec_l1In.f l[i] b c = some (decide (l[i] ≥ b) && decide (l[i] ≤ c)) := within_is' _ _ _
    have hd := List.drop_eq_getElem_cons (l := l) (i := i) (by omega)
    have hi1 := ih (i + 1) k (by omega) (by omega)
    rw [hrd, e1, e2, Option.bind_some, Option.bind_some, w64 (by omega) (by omega), show ((i : Int) + 1) = ((i + 1 : Nat) : Int) by omega, hi1.1, hi1.2, hd, List.all_cons]
    have c1 : (i : Int) < (l.length : Int) := by omega
    have c2 : 0 ≤ (i : Int) := by omega
    cases (decide (l[i] ≥ b) && decide (l[i] ≤ c)) <;> simp [c1, c2]
end Go.Proofs.Ytagbpiofphgjlaa.Bg
