/- Texts of this seat's proofs: contracts of its functions and plain laws about them, with no condition beyond those that each theorem states. -/
import Derived.Test.YtcloklakffgbmaaQfd2a13a8
import Derived.Test.YtcloklakffgbmaaQ1db93f96
import Derived.Test.YtcloklakffgbmaaQb1d8b63b
namespace Go.Proofs.Ytcloklakffgbmaa.Pz
open Go.RowKit Go.Proofs.Ytcloklakffgbmaa.G Go.Proofs.YtcloklakffgbmaaW.PrintWords Go.Proofs.YtcloklakffgbmaaW.PrintLast Go.Proofs.YtcloklakffgbmaaW.PrintMore
theorem w64 {x : Int} (h0 : -9223372036854775808 ≤ x) (h1 : x ≤ 9223372036854775807) : wrap64 x = x := by unfold wrap64; omega
def conv (x : S28) : S37 := ⟨x.f0, x.f1, x.f2⟩
theorem toClueS_l0 (x0 : List S28) (hn : x0.length ≤ 1048576) : ∀ (d i k : Nat), i + d = x0.length → d < k → laws_toClueS.l0 k x0 ((x0.take i).map conv ++ List.replicate d z37) (i : Int) = some (x0.map conv) := by
 intro d
 induction d with
 | zero =>
  intro i k hi hk
  obtain ⟨k, rfl⟩ : ∃ m, k = m + 1 := ⟨k - 1, by omega⟩
  simp only [laws_toClueS.l0]
  rw [if_neg (by omega), List.take_of_length_le (by omega)]
  simp
 | succ d ih =>
  intro i k hi hk
  obtain ⟨k, rfl⟩ : ∃ m, k = m + 1 := ⟨k - 1, by omega⟩
  simp only [laws_toClueS.l0]
  rw [if_pos (by omega), if_pos (by omega)]
  simp only [laws_toClue.f, Option.bind_some]
  rw [if_pos (by simp; omega), w64 (by omega) (by omega), show ((i : Int) + 1) = ((i + 1 : Nat) : Int) by omega]
  have hx : x0[i]? = some x0[i] := List.getElem?_eq_getElem (by omega)
  have hrd : rd_T28 x0 (i : Int) = x0[i] := by simp [rd_T28, List.getD, hx]
  rw [← ih (i + 1) k (by omega) (by omega), hrd]
  congr 1
  rw [Int.toNat_natCast, List.set_append_right _ _ (by simp; omega), List.take_succ_eq_append_getElem (by omega), List.map_append, List.append_assoc]
  congr 1
  rw [show i - (List.map conv (List.take i x0)).length = 0 by simp; omega]
  rfl
theorem toClueS_ev (l : List S28) (hn : l.length ≤ 1048576) : Ev (fun k => laws_toClueS.f k l) (l.map conv) := by
 refine Ev.of (k := l.length + 1) (fun k => laws_toClueS.mono l k) ?_
 unfold laws_toClueS.f
 rw [if_pos (by omega), if_pos (by omega)]
 have := toClueS_l0 l hn l.length 0 (l.length + 1) (by omega) (by omega)
 simpa using this
theorem toPuzzle_ev (a b : Int) (l : List S28) (hn : l.length ≤ 1048576) : Ev (fun k => laws_toPuzzle.f k a b l) (a, b, l.map conv) := by
 obtain ⟨K, h⟩ := toClueS_ev l hn
 refine ⟨K, fun k hk => ?_⟩
 simp [laws_toPuzzle.f, laws_toStreet.f, h k hk]
theorem eqClueS_l0 (x0 : List S37) (hn : x0.length ≤ 1048577) : ∀ (d i k : Nat), i + d = x0.length → d < k → laws_eqClueS.l0 k x0 x0 (i : Int) = some true := by
 intro d
 induction d with
 | zero =>
  intro i k hi hk
  obtain ⟨k, rfl⟩ : ∃ m, k = m + 1 := ⟨k - 1, by omega⟩
  simp only [laws_eqClueS.l0]
  rw [if_neg (by omega)]
 | succ d ih =>
  intro i k hi hk
  obtain ⟨k, rfl⟩ : ∃ m, k = m + 1 := ⟨k - 1, by omega⟩
  simp only [laws_eqClueS.l0]
  rw [if_pos (by omega), if_pos (by omega), if_pos (by omega)]
  simp only [laws_eqClue.f, if_true, Option.bind_some]
  rw [w64 (by omega) (by omega), show ((i : Int) + 1) = ((i + 1 : Nat) : Int) by omega]
  exact ih (i + 1) k (by omega) (by omega)
theorem eqClueS_ev (l : List S37) (hn : l.length ≤ 1048577) : Ev (fun k => laws_eqClueS.f k l l) true := by
 refine Ev.of (k := l.length + 1) (fun k => laws_eqClueS.mono l l k) ?_
 unfold laws_eqClueS.f
 rw [if_pos rfl]
 exact eqClueS_l0 l hn l.length 0 (l.length + 1) (by omega) (by omega)
theorem eqPuzzle_ev (a b : Int) (l : List S37) (hn : l.length ≤ 1048577) : Ev (fun k => laws_eqPuzzle.f k a b l a b l) true := by
 obtain ⟨K, h⟩ := eqClueS_ev l hn
 refine ⟨K, fun k hk => ?_⟩
 simp [laws_eqPuzzle.f, laws_eqStreet.f, h k hk]
def cline (s n : Nat) : List S37 := (List.range n).map fun j => ⟨((s + 3 * j : Nat) : Int), ((s + 3 * j + 1 : Nat) : Int), ((s + 3 * j + 2 : Nat) : Int)⟩
theorem cline_len (s n : Nat) : (cline s n).length = n := by simp [cline]
theorem cline_get (s n i : Nat) (h : i < n) : (cline s n)[i]? = some ⟨((s + 3 * i : Nat) : Int), ((s + 3 * i + 1 : Nat) : Int), ((s + 3 * i + 2 : Nat) : Int)⟩ := by simp [cline, List.getElem?_map, List.getElem?_range h]
theorem cline_snoc (s n : Nat) : cline s (n + 1) = cline s n ++ [⟨((s + 3 * n : Nat) : Int), ((s + 3 * n + 1 : Nat) : Int), ((s + 3 * n + 2 : Nat) : Int)⟩] := by simp [cline, List.range_succ]
theorem rd_set (x : List S37) (i : Nat) (y : S37) (h : i < x.length) : rd_T37 (x.set i y) (i : Int) = y := by simp [rd_T37, List.getD, h]
theorem markClueS_l0 (l : List S37) (hn : l.length ≤ 1048577) : ∀ (d i k : Nat), i + d = l.length → d < k → laws_markClueS.l0 k (cline 1 i ++ l.drop i) ((1 + 3 * i : Nat) : Int) (i : Int) = some (((1 + 3 * l.length : Nat) : Int), cline 1 l.length) := by
 intro d
 induction d with
 | zero =>
  intro i k hi hk
  obtain ⟨k, rfl⟩ : ∃ m, k = m + 1 := ⟨k - 1, by omega⟩
  obtain rfl : i = l.length := by omega
  simp only [laws_markClueS.l0]
  rw [if_neg (by simp [cline_len])]
  simp
 | succ d ih =>
  intro i k hi hk
  obtain ⟨k, rfl⟩ : ∃ m, k = m + 1 := ⟨k - 1, by omega⟩
  simp only [laws_markClueS.l0, Option.bind_some, Int.toNat_natCast]
  have hL : i < (cline 1 i ++ l.drop i).length := by simp [cline_len]; omega
  rw [if_pos (by omega), if_pos (by omega), rd_set _ _ _ hL, rd_set _ _ _ (by simpa using hL), List.set_set, List.set_set, w64 (x := (i : Int) + 1) (by omega) (by omega), w64 (x := ((1 + 3 * i : Nat) : Int) + 1) (by omega) (by omega), w64 (by omega) (by omega), w64 (by omega) (by omega), show ((i : Int) + 1) = ((i + 1 : Nat) : Int) by omega, show (((1 + 3 * i : Nat) : Int) + 1 + 1 + 1) = ((1 + 3 * (i + 1) : Nat) : Int) by omega, ← ih (i + 1) k (by omega) (by omega)]
  congr 1
  rw [List.set_append_right _ _ (by simp [cline_len]), cline_snoc, List.append_assoc, cline_len, Nat.sub_self]
  congr 1
  rw [List.drop_eq_getElem_cons (by omega)]
  rfl
theorem markClueS_ev (l : List S37) (hn : l.length ≤ 1048577) : Ev (fun k => laws_markClueS.f k l 1) (((1 + 3 * l.length : Nat) : Int), cline 1 l.length) := by
 refine Ev.of (k := l.length + 1) (fun k => laws_markClueS.mono l 1 k) ?_
 have := markClueS_l0 l hn l.length 0 (l.length + 1) (by omega) (by omega)
 simpa [laws_markClueS.f, cline] using this
theorem heldClueS_l0 (n : Nat) (hn : n ≤ 1048577) : ∀ (d i k : Nat), i + d = n → d < k → laws_heldClueS.l0 k (cline 1 n) ((1 + 3 * i : Nat) : Int) (i : Int) = some ((1 + 3 * n : Nat) : Int) := by
 intro d
 induction d with
 | zero =>
  intro i k hi hk
  obtain ⟨k, rfl⟩ : ∃ m, k = m + 1 := ⟨k - 1, by omega⟩
  obtain rfl : i = n := by omega
  simp only [laws_heldClueS.l0]
  rw [if_neg (by simp [cline_len])]
 | succ d ih =>
  intro i k hi hk
  obtain ⟨k, rfl⟩ : ∃ m, k = m + 1 := ⟨k - 1, by omega⟩
  simp only [laws_heldClueS.l0]
  have hr : rd_T37 (cline 1 n) (i : Int) = ⟨((1 + 3 * i : Nat) : Int), ((1 + 3 * i + 1 : Nat) : Int), ((1 + 3 * i + 2 : Nat) : Int)⟩ := by simp [rd_T37, List.getD, cline_get 1 n i (by omega)]
  rw [if_pos (by simp [cline_len]; omega), if_pos (by omega), hr, w64 (x := (i : Int) + 1) (by omega) (by omega), w64 (x := ((1 + 3 * i : Nat) : Int) + 1) (by omega) (by omega), w64 (by omega) (by omega), w64 (by omega) (by omega), if_pos rfl, if_pos (by show ((1 + 3 * i + 1 : Nat) : Int) = _; omega), if_pos (by show ((1 + 3 * i + 2 : Nat) : Int) = _; omega), show ((i : Int) + 1) = ((i + 1 : Nat) : Int) by omega, show (((1 + 3 * i : Nat) : Int) + 1 + 1 + 1) = ((1 + 3 * (i + 1) : Nat) : Int) by omega]
  exact ih (i + 1) k (by omega) (by omega)
theorem heldClueS_ev (n : Nat) (hn : n ≤ 1048577) : Ev (fun k => laws_heldClueS.f k (cline 1 n) 1) ((1 + 3 * n : Nat) : Int) := by
 refine Ev.of (k := n + 1) (fun k => laws_heldClueS.mono (cline 1 n) 1 k) ?_
 have := heldClueS_l0 n hn n 0 (n + 1) (by omega) (by omega)
 simpa [laws_heldClueS.f] using this
theorem markPuzzle_ev (a b : Int) (l : List S37) (hn : l.length ≤ 1048577) : Ev (fun k => laws_markPuzzle.f k a b l 1) (((1 + 3 * l.length : Nat) : Int), cline 1 l.length) := by
 obtain ⟨K, h⟩ := markClueS_ev l hn
 refine ⟨K, fun k hk => ?_⟩
 simp [laws_markPuzzle.f, h k hk]
theorem heldPuzzle_ev (a b : Int) (n : Nat) (hn : n ≤ 1048577) : Ev (fun k => laws_heldPuzzle.f k a b (cline 1 n) 1) ((1 + 3 * n : Nat) : Int) := by
 obtain ⟨K, h⟩ := heldClueS_ev n hn
 refine ⟨K, fun k hk => ?_⟩
 simp only [laws_heldPuzzle.f, h k hk, Option.bind_some]
 rw [if_neg (by omega)]
theorem sz_big (a b : Int) (l : List S28) (hm : l.length ≤ maxLen) (h : 1048576 < l.length) : laws_szPuzzle.f a b l 1048576 = some (-1) := by
 unfold maxLen at hm
 unfold laws_szPuzzle.f laws_szClueS.f
 rw [w64 (by omega) (by omega), if_pos (by omega)]
 rfl
theorem sz_small (a b : Int) (l : List S28) (h : l.length ≤ 1048576) : laws_szPuzzle.f a b l 1048576 = some (1048576 - (l.length : Int)) := by
 unfold laws_szPuzzle.f laws_szClueS.f
 rw [w64 (by omega) (by omega), if_neg (by omega)]
 simp only [Option.bind_some]
 rw [if_neg (by omega)]
end Go.Proofs.Ytcloklakffgbmaa.Pz
