/- Texts of this seat's proofs: contracts of its functions and plain laws about them, with no condition beyond those that each theorem states. -/
import Derived.Test.YtfjaapnnfpjfdaaQ763efff4
import Derived.Test.YtfjaapnnfpjfdaaQad3573ab
import Derived.Test.YtfjaapnnfpjfdaaQ56db4647
import Derived.Test.YtfjaapnnfpjfdaaQ8531c393
namespace Go.Proofs.Ytfjaapnnfpjfdaa.Pz
open Go.RowKit Go.Proofs.Ytfjaapnnfpjfdaa.G Go.Proofs.YtfjaapnnfpjfdaaW.PrintWords Go.Proofs.YtfjaapnnfpjfdaaW.PrintLast Go.Proofs.YtfjaapnnfpjfdaaW.PrintMore
theorem w64 {x : Int} (h0 : -9223372036854775808 ≤ x) (h1 : x ≤ 9223372036854775807) : wrap64 x = x := by unfold wrap64; omega
def conv (x : S25) : S29 := ⟨x.f0, x.f1, x.f2⟩
theorem toClueS_l0 (x0 : List S25) (hn : x0.length ≤ 1048576) : ∀ (d i k : Nat), i + d = x0.length → d < k → laws_toClueS.l0 k x0 ((x0.take i).map conv ++ List.replicate d z29) (i : Int) = some (x0.map conv) := by
  intro d
  induction d with
  | zero =>
    intro i k hi hk
    obtain ⟨k, rfl⟩ : ∃ m, k = m + 1 := ⟨k - 1, by omega⟩
    simp only [laws_toClueS.l0]
    rw [if_neg (by omega), List.take_of_length_le (by omega)]
    simp
  | succ d ih =>
    intro i k hi hk
    obtain ⟨k, rfl⟩ : ∃ m, k = m + 1 := ⟨k - 1, by omega⟩
    simp only [laws_toClueS.l0]
    rw [if_pos (by omega), if_pos (by omega)]
    simp only [laws_toClue.f, Option.bind_some]
    rw [if_pos (by simp; omega), w64 (by omega) (by omega), show ((i : Int) + 1) = ((i + 1 : Nat) : Int) by omega]
    have hx : x0[i]? = some x0[i] := List.getElem?_eq_getElem (by omega)
    have hrd : rd_T25 x0 (i : Int) = x0[i] := by simp [rd_T25, List.getD, hx]
    rw [← ih (i + 1) k (by omega) (by omega), hrd]
    congr 1
    rw [Int.toNat_natCast, List.set_append_right _ _ (by simp; omega), List.take_succ_eq_append_getElem (by omega), List.map_append, List.append_assoc]
    congr 1
    rw [show i - (List.map conv (List.take i x0)).length = 0 by simp; omega]
    rfl
theorem toClueS_ev (l : List S25) (hn : l.length ≤ 1048576) : Ev (fun k => laws_toClueS.f k l) (l.map conv) := by
  refine Ev.of (k := l.length + 1) (fun k => laws_toClueS.mono l k) ?_
  unfold laws_toClueS.f
  rw [if_pos (by omega), if_pos (by omega)]
  have := toClueS_l0 l hn l.length 0 (l.length + 1) (by omega) (by omega)
  simpa using this
theorem toPuzzle_ev (a b : Int) (l : List S25) (hn : l.length ≤ 1048576) : Ev (fun k => laws_toPuzzle.f k a b l) (a, b, l.map conv) := by
  obtain ⟨K, h⟩ := toClueS_ev l hn
  refine ⟨K, fun k hk => ?_⟩
  simp [laws_toPuzzle.f, laws_toStreet.f, h k hk]
theorem eqClueS_l0 (x0 : List S29) (hn : x0.length ≤ 1048577) : ∀ (d i k : Nat), i + d = x0.length → d < k → laws_eqClueS.l0 k x0 x0 (i : Int) = some true := by
  intro d
  induction d with
  | zero =>
    intro i k hi hk
    obtain ⟨k, rfl⟩ : ∃ m, k = m + 1 := ⟨k - 1, by omega⟩
    simp only [laws_eqClueS.l0]
    rw [if_neg (by omega)]
  | succ d ih =>
    intro i k hi hk
    obtain ⟨k, rfl⟩ : ∃ m, k = m + 1 := ⟨k - 1, by omega⟩
    simp only [laws_eqClueS.l0]
    rw [if_pos (by omega), if_pos (by omega), if_pos (by omega)]
    simp only [laws_eqClue.f, if_true, Option.bind_some]
    rw [w64 (by omega) (by omega), show ((i : Int) + 1) = ((i + 1 : Nat) : Int) by omega]
    exact ih (i + 1) k (by omega) (by omega)
theorem eqClueS_ev (l : List S29) (hn : l.length ≤ 1048577) : Ev (fun k => laws_eqClueS.f k l l) true := by
  refine Ev.of (k := l.length + 1) (fun k => laws_eqClueS.mono l l k) ?_
  unfold laws_eqClueS.f
  rw [if_pos rfl]
  exact eqClueS_l0 l hn l.length 0 (l.length + 1) (by omega) (by omega)
theorem eqPuzzle_ev (a b : Int) (l : List S29) (hn : l.length ≤ 1048577) : Ev (fun k => laws_eqPuzzle.f k a b l a b l) true := by
  obtain ⟨K, h⟩ := eqClueS_ev l hn
  refine ⟨K, fun k hk => ?_⟩
  simp [laws_eqPuzzle.f, laws_eqStreet.f, h k hk]
theorem sz_big (a b : Int) (l : List S25) (hm : l.length ≤ maxLen) (h : 1048576 < l.length) : laws_szPuzzle.f a b l 1048576 = some (-1) := by
  unfold maxLen at hm
  unfold laws_szPuzzle.f laws_szClueS.f
  rw [w64 (by omega) (by omega), if_pos (by omega)]
  rfl
theorem sz_small (a b : Int) (l : List S25) (h : l.length ≤ 1048576) : laws_szPuzzle.f a b l 1048576 = some (1048576 - (l.length : Int)) := by
  unfold laws_szPuzzle.f laws_szClueS.f
  rw [w64 (by omega) (by omega), if_neg (by omega)]
  simp only [Option.bind_some]
  rw [if_neg (by omega)]
end Go.Proofs.Ytfjaapnnfpjfdaa.Pz
