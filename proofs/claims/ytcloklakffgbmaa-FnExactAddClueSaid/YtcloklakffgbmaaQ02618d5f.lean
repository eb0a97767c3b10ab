/- Texts of this seat's proofs: contracts of its functions and plain laws about them, with no condition beyond those that each theorem states. -/
import Derived.Test.YtcloklakffgbmaaQffec2d73
import Derived.Test.YtcloklakffgbmaaQ6e5ac42f
import Derived.Test.YtcloklakffgbmaaQ1c3caef0
import Derived.Test.YtcloklakffgbmaaQ82145e9c
namespace Go.Proofs.Ytcloklakffgbmaa.Pz
open Go.RowKit Go.Proofs.Ytcloklakffgbmaa.G Go.Proofs.YtcloklakffgbmaaW.PrintWords Go.Proofs.YtcloklakffgbmaaW.PrintLast Go.Proofs.YtcloklakffgbmaaW.PrintMore
theorem good_add (a b : Int) (l : List S37) (c : S37) : good a b (l ++ [c]) = (good a b l && (okC c && decide (¬ (l.length : Int) = 6))) := by
 unfold good
 rw [List.all_append, List.length_append]
 have e : decide (l.length + [c].length ≤ 6) = (decide (l.length ≤ 6) && decide (¬ (l.length : Int) = 6)) := by
  rw [Bool.eq_iff_iff]
  simp
  omega
 rw [e]
 simp only [List.all_cons, List.all_nil, Bool.and_true]
 cases hid a b <;> cases decide (l.length ≤ 6) <;> cases l.all okC <;> cases okC c <;> cases decide (¬ (l.length : Int) = 6) <;> rfl
theorem AddClue_both (a b : Int) (l : List S37) (hl : l.length ≤ 1048576) (x y z : Int) : ∃ v, Ev (fun k => spec_AddClue.f k a b l x y z) v ∧ impl_AddClue.f a b l x y z = some v ∧ v.2.2.1.length ≤ 40 := by
 obtain ⟨K, hg⟩ := pzGood_ev a b l
 have hg : ∀ k, K ≤ k → spec_pzGood.f k a b l = some (good a b l) := hg
 have himpl : impl_AddClue.f a b l x y z = if good a b (l ++ [⟨x, y, z⟩]) = true then some (a, b, l ++ [⟨x, y, z⟩], true) else some (0, 0, [], false) := by
  unfold impl_AddClue.f impl_Clue_44.f
  rw [if_pos (by omega), Option.bind_some, Option.bind_some, if_pos (by simp; omega), Option.bind_some, isPuzzle_val, Option.bind_some]
 rw [good_add] at himpl
 have hc : okC ⟨x, y, z⟩ = clueB x y z := rfl
 rw [hc] at himpl
 cases h1 : good a b l with
 | false =>
  rw [h1] at himpl
  exact ⟨(0, 0, [], false), ⟨K, fun k hk => by simp [spec_AddClue.f, hg k hk, h1]⟩, by simpa using himpl, by simp⟩
 | true =>
  rw [h1] at himpl
  obtain ⟨_, g2, _⟩ := good_facts h1
  cases h2 : clueB x y z with
  | false =>
   rw [h2] at himpl
   exact ⟨(0, 0, [], false), ⟨K, fun k hk => by simp [spec_AddClue.f, hg k hk, h1, pzClue_val, h2]⟩, by simpa using himpl, by simp⟩
  | true =>
   rw [h2] at himpl
   by_cases h3 : (l.length : Int) = 6
   ·refine ⟨(0, 0, [], false), ⟨K, fun k hk => ?_⟩, ?_, by simp⟩
    ·show spec_AddClue.f k a b l x y z = _
     rw [spec_AddClue.f, hg k hk, h1, Option.bind_some, if_pos rfl, pzClue_val, h2, Option.bind_some, if_pos rfl, if_pos h3]
    ·rw [himpl, if_neg (by simp [h3])]
   ·refine ⟨(a, b, l ++ [⟨x, y, z⟩], true), ⟨K, fun k hk => ?_⟩, ?_, by simp; omega⟩
    ·show spec_AddClue.f k a b l x y z = _
     rw [spec_AddClue.f, hg k hk, h1, Option.bind_some, if_pos rfl, pzClue_val, h2, Option.bind_some, if_pos rfl, if_neg h3, Option.bind_some, if_pos (by simp; omega), Option.bind_some, Option.bind_some, if_pos (by simp; omega), List.nil_append]
    ·rw [himpl, if_pos (by simp [h3])]
end Go.Proofs.Ytcloklakffgbmaa.Pz
