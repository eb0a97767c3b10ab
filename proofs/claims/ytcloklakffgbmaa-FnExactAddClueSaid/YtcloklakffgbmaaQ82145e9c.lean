/- Texts of this seat's proofs: contracts of its functions and plain laws about them, with no condition beyond those that each theorem states. -/
import Derived.Test.YtcloklakffgbmaaQ1bfdbd4f
import Derived.Test.YtcloklakffgbmaaQb00e85b7
import Derived.Test.YtcloklakffgbmaaQ5fc1505e
import Derived.Test.YtcloklakffgbmaaQ6e5ac42f
import Derived.Test.YtcloklakffgbmaaQf289bbfe
import Derived.Test.YtcloklakffgbmaaQ616b858d
import Derived.Test.YtcloklakffgbmaaQ371f63f0
import Derived.Test.YtcloklakffgbmaaQ181e1574
import Derived.Test.YtcloklakffgbmaaQaafb66b2
import Derived.Test.YtcloklakffgbmaaQbeca9448
import Derived.Test.YtcloklakffgbmaaQfd49768e
import Derived.Test.YtcloklakffgbmaaQff995980
namespace Go.Proofs.Ytcloklakffgbmaa.Pz
open Go.RowKit Go.Proofs.Ytcloklakffgbmaa.G Go.Proofs.YtcloklakffgbmaaW.PrintWords Go.Proofs.YtcloklakffgbmaaW.PrintLast Go.Proofs.YtcloklakffgbmaaW.PrintMore
def okC (x : S37) : Bool := clueB x.f0 x.f1 x.f2
theorem clueOk_eq (x : S37) : clueOk x = okC x := by
 have := isClue_some x
 rw [isClue_val] at this
 exact (Option.some.inj this).symm
def good (a b : Int) (l : List S37) : Bool := hid a b && (decide (l.length ≤ 6) && l.all okC)
theorem isPuzzle_val (a b : Int) (l : List S37) : impl_IsPuzzle.f a b l = some (good a b l) := by
 unfold impl_IsPuzzle.f good
 rw [hidden_val]
 simp only [Option.bind_some]
 cases hid a b with
 | false => rfl
 | true =>
  rw [if_pos rfl]
  by_cases h : l.length ≤ 6
  ·rw [if_pos (by omega)]
   have e : (fun x => !clueOk x) = fun x : S37 => !(okC x) := by funext x; rw [clueOk_eq]
   rw [e, List.not_any_eq_all_not]
   simp [h]
  ·rw [if_neg (by omega)]
   simp [h]
theorem pzGood_l0 (l : List S37) (hn : l.length ≤ 1000) : ∀ (d i k : Nat), i + d = l.length → d < k → spec_pzGood.l0 k l (l.length : Int) (i : Int) = some ((l.drop i).all okC) := by
 intro d
 induction d with
 | zero =>
  intro i k hi hk
  obtain ⟨k, rfl⟩ : ∃ m, k = m + 1 := ⟨k - 1, by omega⟩
  obtain rfl : i = l.length := by omega
  simp only [spec_pzGood.l0]
  rw [if_neg (by omega)]
  simp
 | succ d ih =>
  intro i k hi hk
  obtain ⟨k, rfl⟩ : ∃ m, k = m + 1 := ⟨k - 1, by omega⟩
  simp only [spec_pzGood.l0]
  have hx : l[i]? = some l[i] := List.getElem?_eq_getElem (by omega)
  have hrd : rd_T37 l (i : Int) = l[i] := by simp [rd_T37, List.getD, hx]
  rw [if_pos (by omega), if_pos (by omega), if_pos (by omega), hrd, pzClue_val, w64 (by omega) (by omega), show ((i : Int) + 1) = ((i + 1 : Nat) : Int) by omega, List.drop_eq_getElem_cons (by omega), List.all_cons]
  simp only [Option.bind_some]
  have e : clueB l[i].f0 l[i].f1 l[i].f2 = okC l[i] := rfl
  rw [e]
  cases okC l[i] with
  | true => rw [if_pos rfl, ih (i + 1) k (by omega) (by omega)]; simp
  | false => rw [if_neg (by decide)]; simp
theorem pzGood_ev (a b : Int) (l : List S37) : Ev (fun k => spec_pzGood.f k a b l) (good a b l) := by
 refine Ev.of (k := 1002) (fun k => spec_pzGood.mono a b l k) ?_
 unfold spec_pzGood.f good
 rw [pzStreet_val]
 simp only [Option.bind_some]
 cases hid a b with
 | false =>
  rw [if_neg (by decide)]
  simp [spec_pzGood.j0]
 | true =>
  rw [if_pos rfl]
  by_cases h : l.length ≤ 6
  ·have h6 : decide ((l.length : Int) > 6) = false := by simp; omega
   have := pzGood_l0 l (by omega) l.length 0 1001 (by omega) (by omega)
   rw [show ((0 : Nat) : Int) = 0 from rfl] at this
   simp [h6, spec_pzGood.j0, h, this]
  ·have h6 : decide ((l.length : Int) > 6) = true := by simp; omega
   simp [h6, spec_pzGood.j0, h]
theorem good_facts {a b : Int} {l : List S37} (h : good a b l = true) : hid a b = true ∧ l.length ≤ 6 ∧ l.all okC = true := by
 unfold good at h
 simp only [Bool.and_eq_true, decide_eq_true_eq] at h
 exact h
end Go.Proofs.Ytcloklakffgbmaa.Pz
