/- Texts of this seat's proofs: contracts of its functions and plain laws about them, with no condition beyond those that each theorem states. -/
import Derived.Test.YtfjaapnnfpjfdaaQ1fe97cfd
import Derived.Test.YtfjaapnnfpjfdaaQc0375717
import Derived.Test.YtfjaapnnfpjfdaaQ763efff4
import Derived.Test.YtfjaapnnfpjfdaaQfbe2246c
import Derived.Test.YtfjaapnnfpjfdaaQddea47a3
import Derived.Test.YtfjaapnnfpjfdaaQ0c83fe40
import Derived.Test.YtfjaapnnfpjfdaaQc7566b6b
import Derived.Test.YtfjaapnnfpjfdaaQ2d01fe8b
import Derived.Test.YtfjaapnnfpjfdaaQ7286ee63
import Derived.Test.YtfjaapnnfpjfdaaQ66abe3a3
import Derived.Test.YtfjaapnnfpjfdaaQ3e517d98
import Derived.Test.YtfjaapnnfpjfdaaQ6400ca5a
namespace Go.Proofs.Ytfjaapnnfpjfdaa.Pz
open Go.RowKit Go.Proofs.Ytfjaapnnfpjfdaa.G Go.Proofs.YtfjaapnnfpjfdaaW.PrintWords Go.Proofs.YtfjaapnnfpjfdaaW.PrintLast Go.Proofs.YtfjaapnnfpjfdaaW.PrintMore
theorem pzGood_k (a b : Int) (l : List S29) {k : Nat} (hk : 50000 ≤ k) : spec_pzGood.f k a b l = some (good a b l) := by
  obtain ⟨K, h⟩ := pzGood_ev a b l
  have h : ∀ k, K ≤ k → spec_pzGood.f k a b l = some (good a b l) := h
  have h0 : spec_pzGood.f 1002 a b l = some (good a b l) := by
    have hs : ∃ r, spec_pzGood.f 1002 a b l = some r := by
      unfold spec_pzGood.f
      rw [pzStreet_val, Option.bind_some]
      cases hid a b with
      | false => exact ⟨_, by rw [if_neg (by decide), spec_pzGood.j0, if_pos rfl]⟩
      | true =>
        rw [if_pos rfl]
        by_cases h : l.length ≤ 6
        · have h6 : decide ((l.length : Int) > 6) = false := by simp; omega
          have := pzGood_l0 l (by omega) l.length 0 1001 (by omega) (by omega)
          rw [show ((0 : Nat) : Int) = 0 from rfl] at this
          exact ⟨_, by rw [h6, spec_pzGood.j0, if_neg (by decide)]; exact this⟩
        · have h6 : decide ((l.length : Int) > 6) = true := by simp; omega
          exact ⟨_, by rw [h6, spec_pzGood.j0, if_pos rfl]⟩
    obtain ⟨r, hr⟩ := hs
    have h1 := at_rounds (fun k => spec_pzGood.mono a b l k) (Nat.le_max_left 1002 K) hr
    rw [h _ (Nat.le_max_right 1002 K)] at h1
    rw [hr, h1]
  exact at_rounds (fun k => spec_pzGood.mono a b l k) (by omega) h0
theorem one_of (l : List S29) (i : Nat) (h : i < l.length) : (l.take (i + 1)).drop i = [l[i]] := by
  rw [List.take_succ_eq_append_getElem h, List.drop_left' (by rw [List.length_take]; omega)]
def cnt (a b : Int) (l : List S29) : Int := ((sols a b l).length : Int)
theorem pzWithout_val (l : List S29) (i : Nat) (h : i < l.length) (hn : l.length ≤ 1000) : spec_pzWithout.f l (i : Int) = some (l.eraseIdx i) := by
  unfold spec_pzWithout.f
  rw [Option.bind_some, if_pos (by omega), if_pos (by omega), Option.bind_some, if_pos (by simp; omega), Option.bind_some, w64 (by omega) (by omega), if_pos (by omega), if_pos (by omega), Option.bind_some, if_pos (by simp; omega), show ((i : Int) + 1).toNat = i + 1 by omega, Int.toNat_natCast, List.eraseIdx_eq_take_drop_succ]
  rfl
theorem withoutClue_val (l : List S29) (i : Nat) (h : i < l.length) (hn : l.length ≤ 1000) : impl_withoutClue.f l (i : Int) = some (l.eraseIdx i) := by
  unfold impl_withoutClue.f
  rw [if_pos (by omega), Int.toNat_natCast]
def hg_ (a b : Int) : Nat → List S29 → Nat → List S29
  | 0, l, _ => l
  | d + 1, l, i => if cnt a b (l.eraseIdx i) = 1 then hg_ a b d (l.eraseIdx i) i else hg_ a b d l (i + 1)
theorem DropClue_both (a b : Int) (l : List S29) (q : Int) : ∃ v, Ev (fun k => spec_DropClue.f k a b l q) v ∧ impl_DropClue.f a b l q = some v ∧ v.2.2.1.length ≤ 40 := by
  cases hg : good a b l with
  | false =>
    refine ⟨(0, 0, [], false), ⟨60000, fun k hk => ?_⟩, ?_, by simp⟩
    · show spec_DropClue.f k a b l q = _
      rw [spec_DropClue.f, pzGood_k a b l (by omega), hg, Option.bind_some, if_neg (by decide)]
    · rw [impl_DropClue.f, isPuzzle_val, hg, Option.bind_some, if_neg (by decide)]
  | true =>
    obtain ⟨g1, g2, g3⟩ := good_facts hg
    cases hq : inB q 0 ((l.length : Int) - 1) with
    | false =>
      refine ⟨(0, 0, [], false), ⟨60000, fun k hk => ?_⟩, ?_, by simp⟩
      · show spec_DropClue.f k a b l q = _
        rw [spec_DropClue.f, pzGood_k a b l (by omega), hg, Option.bind_some, if_pos rfl, w64 (by omega) (by omega), l1In_val, hq, Option.bind_some, if_neg (by decide)]
      · rw [impl_DropClue.f, isPuzzle_val, hg, Option.bind_some, if_pos rfl, w64 (by omega) (by omega), within_val, hq, Option.bind_some, if_neg (by decide)]
    | true =>
      have hq' : 0 ≤ q ∧ q ≤ (l.length : Int) - 1 := by
        unfold inB at hq
        simpa using hq
      obtain ⟨i, rfl⟩ := Int.eq_ofNat_of_zero_le hq'.1
      refine ⟨(a, b, l.eraseIdx i, true), ⟨60000, fun k hk => ?_⟩, ?_, ?_⟩
      · show spec_DropClue.f k a b l (i : Int) = _
        rw [spec_DropClue.f, pzGood_k a b l (by omega), hg, Option.bind_some, if_pos rfl, w64 (by omega) (by omega), l1In_val, hq, Option.bind_some, if_pos rfl, pzWithout_val l i (by omega) (by omega), Option.bind_some]
      · rw [impl_DropClue.f, isPuzzle_val, hg, Option.bind_some, if_pos rfl, w64 (by omega) (by omega), within_val, hq, Option.bind_some, if_pos rfl, withoutClue_val l i (by omega) (by omega), Option.bind_some]
      · have : (l.eraseIdx i).length ≤ l.length := List.length_eraseIdx_le ..
        show (l.eraseIdx i).length ≤ 40
        omega
end Go.Proofs.Ytfjaapnnfpjfdaa.Pz
