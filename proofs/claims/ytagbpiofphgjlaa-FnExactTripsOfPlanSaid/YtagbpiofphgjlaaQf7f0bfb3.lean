/- Texts of this seat's proofs: contracts of its functions and plain laws about them, with no condition beyond those that each theorem states. -/
import Derived.Test.YtagbpiofphgjlaaQ4e1d6372
import Derived.Test.YtagbpiofphgjlaaQd7823013
import Derived.Test.YtagbpiofphgjlaaQe1097320
import Derived.Test.YtagbpiofphgjlaaQ1e722b57
namespace Go.Proofs.Ytagbpiofphgjlaa.Bg
open Go.RowKit Go.Proofs.Ytagbpiofphgjlaa.G Go.Proofs.YtagbpiofphgjlaaW.PrintWords Go.Proofs.YtagbpiofphgjlaaW.PrintLast Go.Proofs.YtagbpiofphgjlaaW.PrintMore
theorem w64 {x : Int} (h0 : -9223372036854775808 ≤ x) (h1 : x ≤ 9223372036854775807) : wrap64 x = x := by unfold wrap64; omega
theorem within_is' (a b c : Int) : impl_within.f a b c = some (decide (a ≥ b) && decide (a ≤ c)) := by
  unfold impl_within.f
  by_cases h : a ≥ b
  · rw [if_pos h, decide_eq_true h, Bool.true_and]
  · rw [if_neg h, decide_eq_false h, Bool.false_and]
theorem toIntS_l0 (x0 : List Int) (hn : x0.length ≤ 1048577) : ∀ (d i k : Nat), i + d = x0.length → d < k → laws_toIntS.l0 k x0 (x0.take i ++ List.replicate d 0) (i : Int) = some x0 := by
  intro d
  induction d with
  | zero =>
    intro i k hi hk
    obtain ⟨k, rfl⟩ : ∃ m, k = m + 1 := ⟨k - 1, by omega⟩
    simp only [laws_toIntS.l0]
    rw [if_neg (by omega), List.take_of_length_le (by omega)]
    simp
  | succ d ih =>
    intro i k hi hk
    obtain ⟨k, rfl⟩ : ∃ m, k = m + 1 := ⟨k - 1, by omega⟩
    simp only [laws_toIntS.l0]
    rw [if_pos (by omega), if_pos (by omega)]
    rw [if_pos (by simp; omega), w64 (by omega) (by omega), show ((i : Int) + 1) = ((i + 1 : Nat) : Int) by omega]
    have hx : x0[i]? = some x0[i] := List.getElem?_eq_getElem (by omega)
    have hrd : rd x0 (i : Int) = x0[i] := by simp [rd, List.getD, hx]
    rw [← ih (i + 1) k (by omega) (by omega), hrd]
    congr 1
    rw [Int.toNat_natCast, List.set_append_right _ _ (by simp; omega), List.take_succ_eq_append_getElem (by omega), List.append_assoc]
    congr 1
    rw [show i - (List.take i x0).length = 0 by simp; omega]
    rfl
theorem toIntS_ev (l : List Int) (hn : l.length ≤ 1048577) : Ev (fun k => laws_toIntS.f k l) l := by
  refine Ev.of (k := l.length + 1) (fun k => laws_toIntS.mono l k) ?_
  unfold laws_toIntS.f
  rw [if_pos (by omega), if_pos (by omega)]
  have := toIntS_l0 l hn l.length 0 (l.length + 1) (by omega) (by omega)
  simpa using this
theorem eqIntS_l0 (x0 : List Int) (hn : x0.length ≤ 1048577) : ∀ (d i k : Nat), i + d = x0.length → d < k → laws_eqIntS.l0 k x0 x0 (i : Int) = some true := by
  intro d
  induction d with
  | zero =>
    intro i k hi hk
    obtain ⟨k, rfl⟩ : ∃ m, k = m + 1 := ⟨k - 1, by omega⟩
    simp only [laws_eqIntS.l0]
    rw [if_neg (by omega)]
  | succ d ih =>
    intro i k hi hk
    obtain ⟨k, rfl⟩ : ∃ m, k = m + 1 := ⟨k - 1, by omega⟩
    simp only [laws_eqIntS.l0]
    rw [if_pos (by omega), if_pos (by omega), if_pos (by omega), if_pos trivial, w64 (by omega) (by omega), show ((i : Int) + 1) = ((i + 1 : Nat) : Int) by omega]
    exact ih (i + 1) k (by omega) (by omega)
theorem eqIntS_ev (l : List Int) (hn : l.length ≤ 1048577) : Ev (fun k => laws_eqIntS.f k l l) true := by
  refine Ev.of (k := l.length + 1) (fun k => laws_eqIntS.mono l l k) ?_
  unfold laws_eqIntS.f
  rw [if_pos rfl]
  exact eqIntS_l0 l hn l.length 0 (l.length + 1) (by omega) (by omega)
def line (s n : Nat) : List Int := (List.range n).map fun j => ((s + j : Nat) : Int)
theorem line_len (s n : Nat) : (line s n).length = n := by simp [line]
theorem line_get (s n i : Nat) (h : i < n) : (line s n)[i]? = some ((s + i : Nat) : Int) := by simp [line, List.getElem?_map, List.getElem?_range h]
theorem line_snoc (s n : Nat) : line s (n + 1) = line s n ++ [((s + n : Nat) : Int)] := by simp [line, List.range_succ]
theorem markIntS_l0 (l : List Int) (s : Nat) (hn : l.length ≤ 1048577) (hs : s ≤ 100000000) : ∀ (d i k : Nat), i + d = l.length → d < k → laws_markIntS.l0 k (line s i ++ l.drop i) ((s + i : Nat) : Int) (i : Int) = some (((s + l.length : Nat) : Int), line s l.length) := by
  intro d
  induction d with
  | zero =>
    intro i k hi hk
    obtain ⟨k, rfl⟩ : ∃ m, k = m + 1 := ⟨k - 1, by omega⟩
    obtain rfl : i = l.length := by omega
    simp only [laws_markIntS.l0]
    rw [if_neg (by simp [line_len])]
    simp
  | succ d ih =>
    intro i k hi hk
    obtain ⟨k, rfl⟩ : ∃ m, k = m + 1 := ⟨k - 1, by omega⟩
    simp only [laws_markIntS.l0]
    rw [if_pos (by simp [line_len]; omega), if_pos (by omega), w64 (by omega) (by omega), w64 (by omega) (by omega), show ((i : Int) + 1) = ((i + 1 : Nat) : Int) by omega, show (((s + i : Nat) : Int) + 1) = ((s + (i + 1) : Nat) : Int) by omega, ← ih (i + 1) k (by omega) (by omega)]
    congr 1
    rw [Int.toNat_natCast, List.set_append_right _ _ (by simp [line_len]), line_snoc, List.append_assoc, line_len, Nat.sub_self]
    congr 1
    rw [List.drop_eq_getElem_cons (by omega)]
    rfl
theorem markIntS_ev (l : List Int) (s : Nat) (hn : l.length ≤ 1048577) (hs : s ≤ 100000000) : Ev (fun k => laws_markIntS.f k l (s : Int)) (((s + l.length : Nat) : Int), line s l.length) := by
  refine Ev.of (k := l.length + 1) (fun k => laws_markIntS.mono l (s : Int) k) ?_
  have := markIntS_l0 l s hn hs l.length 0 (l.length + 1) (by omega) (by omega)
  simpa [laws_markIntS.f, line] using this
end Go.Proofs.Ytagbpiofphgjlaa.Bg
