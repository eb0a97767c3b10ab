/- Texts of this seat's proofs: contracts of its functions and plain laws about them, with no condition beyond those that each theorem states. -/
import Derived.Test.YtagbpiofphgjlaaQf7abb9cd
import Derived.Test.YtagbpiofphgjlaaQc5537e17
import Derived.Test.YtagbpiofphgjlaaQcca4d7fe
import Derived.Test.YtagbpiofphgjlaaQ35e25fac
namespace Go.Proofs.Ytagbpiofphgjlaa.Bg
open Go.RowKit Go.Proofs.Ytagbpiofphgjlaa.G Go.Proofs.YtagbpiofphgjlaaW.PrintWords Go.Proofs.YtagbpiofphgjlaaW.PrintLast Go.Proofs.YtagbpiofphgjlaaW.PrintMore
theorem w64 {x : Int} (h0 : -9223372036854775808 ≤ x) (h1 : x ≤ 9223372036854775807) : wrap64 x = x := by unfold wrap64; omega
theorem within_is' (a b c : Int) : impl_within.f a b c = some (decide (a ≥ b) && decide (a ≤ c)) := by
  unfold impl_within.f
  by_cases h : a ≥ b
  · rw [if_pos h, decide_eq_true h, Bool.true_and]
  · rw [if_neg h, decide_eq_false h, Bool.false_and]
theorem toIntS_l0 (x0 : List Int) (hn : x0.length ≤ 1048577) : ∀ (d i k : Nat), i + d = x0.length → d < k → laws_toIntS.l0 k x0 (x0.take i ++ List.replicate d 0) (i : Int) = some x0 := by
  intro d
  induction d with
  | zero =>
    intro i k hi hk
    obtain ⟨k, rfl⟩ : ∃ m, k = m + 1 := ⟨k - 1, by omega⟩
    simp only [laws_toIntS.l0]
    rw [if_neg (by omega), List.take_of_length_le (by omega)]
    simp
  | succ d ih =>
    intro i k hi hk
    obtain ⟨k, rfl⟩ : ∃ m, k = m + 1 := ⟨k - 1, by omega⟩
    simp only [laws_toIntS.l0]
    rw [if_pos (by omega), if_pos (by omega)]
    rw [if_pos (by simp; omega), w64 (by omega) (by omega), show ((i : Int) + 1) = ((i + 1 : Nat) : Int) by omega]
    have hx : x0[i]? = some x0[i] := List.getElem?_eq_getElem (by omega)
    have hrd : rd x0 (i : Int) = x0[i] := by simp [rd, List.getD, hx]
    rw [← ih (i + 1) k (by omega) (by omega), hrd]
    congr 1
    rw [Int.toNat_natCast, List.set_append_right _ _ (by simp; omega), List.take_succ_eq_append_getElem (by omega), List.append_assoc]
    congr 1
    rw [show i - (List.take i x0).length = 0 by simp; omega]
    rfl
theorem toIntS_ev (l : List Int) (hn : l.length ≤ 1048577) : Ev (fun k => laws_toIntS.f k l) l := by
  refine Ev.of (k := l.length + 1) (fun k => laws_toIntS.mono l k) ?_
  unfold laws_toIntS.f
  rw [if_pos (by omega), if_pos (by omega)]
  have := toIntS_l0 l hn l.length 0 (l.length + 1) (by omega) (by omega)
  simpa using this
theorem eqIntS_l0 (x0 : List Int) (hn : x0.length ≤ 1048577) : ∀ (d i k : Nat), i + d = x0.length → d < k → laws_eqIntS.l0 k x0 x0 (i : Int) = some true := by
  intro d
  induction d with
  | zero =>
    intro i k hi hk
    obtain ⟨k, rfl⟩ : ∃ m, k = m + 1 := ⟨k - 1, by omega⟩
    simp only [laws_eqIntS.l0]
    rw [if_neg (by omega)]
  | succ d ih =>
    intro i k hi hk
    obtain ⟨k, rfl⟩ : ∃ m, k = m + 1 := ⟨k - 1, by omega⟩
    simp only [laws_eqIntS.l0]
    rw [if_pos (by omega), if_pos (by omega), if_pos (by omega), if_pos trivial, w64 (by omega) (by omega), show ((i : Int) + 1) = ((i + 1 : Nat) : Int) by omega]
    exact ih (i + 1) k (by omega) (by omega)
theorem eqIntS_ev (l : List Int) (hn : l.length ≤ 1048577) : Ev (fun k => laws_eqIntS.f k l l) true := by
  refine Ev.of (k := l.length + 1) (fun k => laws_eqIntS.mono l l k) ?_
  unfold laws_eqIntS.f
  rw [if_pos rfl]
  exact eqIntS_l0 l hn l.length 0 (l.length + 1) (by omega) (by omega)
def line (s n : Nat) : List Int := (List.range n).map fun j => ((s + j : Nat) : Int)
theorem line_len (s n : Nat) : (line s n).length = n := by simp [line]
theorem line_snoc (s n : Nat) : line s (n + 1) = line s n ++ [((s + n : Nat) : Int)] := by simp [line, List.range_succ]
end Go.Proofs.Ytagbpiofphgjlaa.Bg
