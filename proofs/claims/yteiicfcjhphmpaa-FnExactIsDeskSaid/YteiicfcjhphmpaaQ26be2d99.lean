/- Texts of this seat's proofs: contracts of its functions and plain laws about them, with no condition beyond those that each theorem states. -/
import Derived.Test.YteiicfcjhphmpaaQec0ff597
import Derived.Test.YteiicfcjhphmpaaQcb16c1e2
import Derived.Test.YteiicfcjhphmpaaQefa147da
import Derived.Test.YteiicfcjhphmpaaQ099ce3cb
import Derived.Test.YteiicfcjhphmpaaQ1c734a83
set_option linter.unusedSimpArgs false
set_option linter.unusedVariables false
namespace Go.Proofs.Yteiicfcjhphmpaa.Pure
open Go.RowKit Go.Proofs.Yteiicfcjhphmpaa.G Go.Proofs.YteiicfcjhphmpaaW.PrintWords Go.Proofs.Yteiicfcjhphmpaa.Dk
theorem toIntS_l0 (x0 : List Int) (hn : x0.length ≤ 1048577) : ∀ (d i k : Nat), i + d = x0.length → d < k → laws_toIntS.l0 k x0 (x0.take i ++ List.replicate d 0) (i : Int) = some x0 := by
  intro d
  induction d with
  | zero =>
    intro i k hi hk
    obtain ⟨k, rfl⟩ : ∃ m, k = m + 1 := ⟨k - 1, by omega⟩
    simp only [laws_toIntS.l0]
    rw [if_neg (by omega), List.take_of_length_le (by omega)]
    simp
  | succ d ih =>
    intro i k hi hk
    obtain ⟨k, rfl⟩ : ∃ m, k = m + 1 := ⟨k - 1, by omega⟩
    simp only [laws_toIntS.l0]
    rw [if_pos (by omega), if_pos (by omega)]
    rw [if_pos (by simp; omega), w64 (by omega) (by omega), show ((i : Int) + 1) = ((i + 1 : Nat) : Int) by omega]
    have hx : x0[i]? = some x0[i] := List.getElem?_eq_getElem (by omega)
    have hrd : rd x0 (i : Int) = x0[i] := by simp [rd, List.getD, hx]
    rw [← ih (i + 1) k (by omega) (by omega), hrd]
    congr 1
    rw [Int.toNat_natCast, List.set_append_right _ _ (by simp; omega), List.take_succ_eq_append_getElem (by omega), List.append_assoc]
    congr 1
    rw [show i - (List.take i x0).length = 0 by simp; omega]
    rfl
theorem toIntS_ev (l : List Int) (hn : l.length ≤ 1048577) : Ev (fun k => laws_toIntS.f k l) l := by
  refine Ev.of (k := l.length + 1) (fun k => laws_toIntS.mono l k) ?_
  unfold laws_toIntS.f
  rw [if_pos (by omega), if_pos (by omega)]
  have := toIntS_l0 l hn l.length 0 (l.length + 1) (by omega) (by omega)
  simpa using this
theorem eqIntS_l0 (x0 : List Int) (hn : x0.length ≤ 1048577) : ∀ (d i k : Nat), i + d = x0.length → d < k → laws_eqIntS.l0 k x0 x0 (i : Int) = some true := by
  intro d
  induction d with
  | zero =>
    intro i k hi hk
    obtain ⟨k, rfl⟩ : ∃ m, k = m + 1 := ⟨k - 1, by omega⟩
    simp only [laws_eqIntS.l0]
    rw [if_neg (by omega)]
  | succ d ih =>
    intro i k hi hk
    obtain ⟨k, rfl⟩ : ∃ m, k = m + 1 := ⟨k - 1, by omega⟩
    simp only [laws_eqIntS.l0]
    rw [if_pos (by omega), if_pos (by omega), if_pos (by omega), if_pos trivial, w64 (by omega) (by omega), show ((i : Int) + 1) = ((i + 1 : Nat) : Int) by omega]
    exact ih (i + 1) k (by omega) (by omega)
theorem eqIntS_ev (l : List Int) (hn : l.length ≤ 1048577) : Ev (fun k => laws_eqIntS.f k l l) true := by
  refine Ev.of (k := l.length + 1) (fun k => laws_eqIntS.mono l l k) ?_
  unfold laws_eqIntS.f
  rw [if_pos rfl]
  exact eqIntS_l0 l hn l.length 0 (l.length + 1) (by omega) (by omega)
theorem toDesk_ev (a b : Int) (s : ByteArray) (l : List Int) (hn : l.length ≤ 1048577) : Ev (fun k => laws_toDesk.f k a b s l) (a, b, s, l) := by
  obtain ⟨K, h⟩ := toIntS_ev l hn
  refine ⟨K, fun k hk => ?_⟩
  have h : laws_toIntS.f k l = some l := h k hk
  show laws_toDesk.f k a b s l = _
  unfold laws_toDesk.f laws_toStreet.f
  simp only [Option.bind_some, h]
theorem eqDesk_ev (a b : Int) (s : ByteArray) (l : List Int) (hn : l.length ≤ 1048577) : Ev (fun k => laws_eqDesk.f k a b s l a b s l) true := by
  obtain ⟨K, h⟩ := eqIntS_ev l hn
  refine ⟨K, fun k hk => ?_⟩
  have h : laws_eqIntS.f k l l = some true := h k hk
  show laws_eqDesk.f k a b s l a b s l = _
  unfold laws_eqDesk.f laws_eqStreet.f
  simp only [Option.bind_some, h, if_true]
theorem FnExactIsDesk : laws_FnExactIsDesk.Pure := by
  intro a b s l _ _ hs0 hl _
  have hm : maxLen = 9223372036854775807 := rfl
  by_cases hs : s.size ≤ 1048576
  · by_cases hl2 : s.size + l.length ≤ 1048576
    · obtain ⟨K1, h1⟩ := toDesk_ev a b s l (by omega)
      have h1 : ∀ k, K1 ≤ k → laws_toDesk.f k a b s l = some (a, b, s, l) := h1
      obtain ⟨K2, h2⟩ := spec_isDesk_ev a b s l (by omega) (by omega)
      have h2 : ∀ k, K2 ≤ k → spec_IsDesk.f k a b s l = some (deskB a b s l) := h2
      obtain ⟨K3, h3⟩ := impl_isDesk_ev a b s l (by omega) (by omega)
      have h3 : ∀ k, K3 ≤ k → impl_IsDesk.f k a b s l = some (deskB a b s l) := h3
      obtain ⟨K4, h4⟩ := eqDesk_ev a b s l (by omega)
      have h4 : ∀ k, K4 ≤ k → laws_eqDesk.f k a b s l a b s l = some true := h4
      have hsz : laws_szDesk.f a b s l 1048576 = some (1048576 - (s.size : Int) - (l.length : Int)) := by
        unfold laws_szDesk.f laws_szIntS.f
        rw [w64 (x := 1048576 - (s.size : Int)) (by omega) (by omega), if_neg (by omega), w64 (x := 1048576 - (s.size : Int) - (l.length : Int)) (by omega) (by omega), if_neg (by omega), Option.bind_some, if_neg (by omega)]
      refine ⟨K1 + K2 + K3 + K4, ?_⟩
      unfold laws_FnExactIsDesk.f
      have hlt : ¬ (1048576 - (s.size : Int) - (l.length : Int) < 0) := by omega
      simp (disch := omega) only [hsz, hlt, h1, h2, h3, h4, Option.bind_some, if_true, if_false, bne_self_eq_false, Bool.false_eq_true]
    · refine ⟨0, ?_⟩
      have hsz : laws_szDesk.f a b s l 1048576 = some (-1) := by
        unfold laws_szDesk.f laws_szIntS.f
        rw [w64 (x := 1048576 - (s.size : Int)) (by omega) (by omega), if_neg (by omega), w64 (x := 1048576 - (s.size : Int) - (l.length : Int)) (by omega) (by omega), if_pos (by omega), Option.bind_some, if_pos (by omega)]
      unfold laws_FnExactIsDesk.f
      rw [hsz]
      rfl
  · refine ⟨0, ?_⟩
    have hsz : laws_szDesk.f a b s l 1048576 = some (-1) := by
      unfold laws_szDesk.f
      rw [w64 (x := 1048576 - (s.size : Int)) (by omega) (by omega), if_pos (by omega)]
    unfold laws_FnExactIsDesk.f
    rw [hsz]
    rfl
end Go.Proofs.Yteiicfcjhphmpaa.Pure
