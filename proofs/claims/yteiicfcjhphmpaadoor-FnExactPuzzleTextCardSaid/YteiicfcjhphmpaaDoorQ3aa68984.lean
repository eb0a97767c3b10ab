/- Texts of this seat's proofs: contracts of its functions and plain laws about them, with no condition beyond those that each theorem states. -/
import Derived.Test.YteiicfcjhphmpaaDoorQacd356ee
import Derived.Test.YteiicfcjhphmpaaDoorQ60198f11
import Derived.Test.YteiicfcjhphmpaaDoorQa0e99619
import Derived.Test.YteiicfcjhphmpaaDoorQ10e7f8c1
import Derived.Test.YteiicfcjhphmpaaDoorQ95bbde43
import Derived.Test.YteiicfcjhphmpaaDoorQ28455619
import Derived.Test.YteiicfcjhphmpaaDoorQ00bf110b
set_option linter.unusedSimpArgs false
namespace Go.Proofs.YteiicfcjhphmpaaDoor.Pz
open Go.RowKit Go.Proofs.YteiicfcjhphmpaaDoor.G Go.Proofs.YteiicfcjhphmpaaDoorW.PrintWords Go.Proofs.YteiicfcjhphmpaaDoorW.PrintLast Go.Proofs.YteiicfcjhphmpaaDoorW.PrintMore
theorem w64 {x : Int} (h0 : -9223372036854775808 ≤ x) (h1 : x ≤ 9223372036854775807) : wrap64 x = x := by unfold wrap64; omega
def conv (x : S82) : S78 := ⟨x.f0, x.f1, x.f2⟩
theorem toClueS_l0 (x0 : List S82) (hn : x0.length ≤ 1048576) : ∀ (d i k : Nat), i + d = x0.length → d < k → laws_toClueS.l0 k x0 ((x0.take i).map conv ++ List.replicate d z78) (i : Int) = some (x0.map conv) := by
  intro d
  induction d with
  | zero =>
    intro i k hi hk
    obtain ⟨k, rfl⟩ : ∃ m, k = m + 1 := ⟨k - 1, by omega⟩
    simp only [laws_toClueS.l0]
    rw [if_neg (by omega), List.take_of_length_le (by omega)]
    simp
  | succ d ih =>
    intro i k hi hk
    obtain ⟨k, rfl⟩ : ∃ m, k = m + 1 := ⟨k - 1, by omega⟩
    simp only [laws_toClueS.l0]
    rw [if_pos (by omega), if_pos (by omega)]
    simp only [laws_toClue.f, Option.bind_some]
    rw [if_pos (by simp; omega), w64 (by omega) (by omega), show ((i : Int) + 1) = ((i + 1 : Nat) : Int) by omega]
    have hx : x0[i]? = some x0[i] := List.getElem?_eq_getElem (by omega)
    have hrd : rd_T82 x0 (i : Int) = x0[i] := by simp [rd_T82, List.getD, hx]
    rw [← ih (i + 1) k (by omega) (by omega), hrd]
    congr 1
    rw [Int.toNat_natCast, List.set_append_right _ _ (by simp; omega), List.take_succ_eq_append_getElem (by omega), List.map_append, List.append_assoc]
    congr 1
    rw [show i - (List.map conv (List.take i x0)).length = 0 by simp; omega]
    rfl
theorem toClueS_ev (l : List S82) (hn : l.length ≤ 1048576) : Ev (fun k => laws_toClueS.f k l) (l.map conv) := by
  refine Ev.of (k := l.length + 1) (fun k => laws_toClueS.mono l k) ?_
  unfold laws_toClueS.f
  rw [if_pos (by omega), if_pos (by omega)]
  have := toClueS_l0 l hn l.length 0 (l.length + 1) (by omega) (by omega)
  simpa using this
theorem toPuzzle_ev (a b : Int) (l : List S82) (hn : l.length ≤ 1048576) : Ev (fun k => laws_toPuzzle.f k a b l) (a, b, l.map conv) := by
  obtain ⟨K, h⟩ := toClueS_ev l hn
  refine ⟨K, fun k hk => ?_⟩
  simp [laws_toPuzzle.f, laws_toStreet.f, h k hk]
theorem eqClueS_l0 (x0 : List S78) (hn : x0.length ≤ 1048577) : ∀ (d i k : Nat), i + d = x0.length → d < k → laws_eqClueS.l0 k x0 x0 (i : Int) = some true := by
  intro d
  induction d with
  | zero =>
    intro i k hi hk
    obtain ⟨k, rfl⟩ : ∃ m, k = m + 1 := ⟨k - 1, by omega⟩
    simp only [laws_eqClueS.l0]
    rw [if_neg (by omega)]
  | succ d ih =>
    intro i k hi hk
    obtain ⟨k, rfl⟩ : ∃ m, k = m + 1 := ⟨k - 1, by omega⟩
    simp only [laws_eqClueS.l0]
    rw [if_pos (by omega), if_pos (by omega), if_pos (by omega)]
    simp only [laws_eqClue.f, if_true, Option.bind_some]
    rw [w64 (by omega) (by omega), show ((i : Int) + 1) = ((i + 1 : Nat) : Int) by omega]
    exact ih (i + 1) k (by omega) (by omega)
theorem eqClueS_ev (l : List S78) (hn : l.length ≤ 1048577) : Ev (fun k => laws_eqClueS.f k l l) true := by
  refine Ev.of (k := l.length + 1) (fun k => laws_eqClueS.mono l l k) ?_
  unfold laws_eqClueS.f
  rw [if_pos rfl]
  exact eqClueS_l0 l hn l.length 0 (l.length + 1) (by omega) (by omega)
theorem eqPuzzle_ev (a b : Int) (l : List S78) (hn : l.length ≤ 1048577) : Ev (fun k => laws_eqPuzzle.f k a b l a b l) true := by
  obtain ⟨K, h⟩ := eqClueS_ev l hn
  refine ⟨K, fun k hk => ?_⟩
  simp [laws_eqPuzzle.f, laws_eqStreet.f, h k hk]
theorem sz_big (a b : Int) (l : List S82) (hm : l.length ≤ maxLen) (h : 1048576 < l.length) : laws_szPuzzle.f a b l 1048576 = some (-1) := by
  unfold maxLen at hm
  unfold laws_szPuzzle.f laws_szClueS.f
  rw [w64 (by omega) (by omega), if_pos (by omega)]
  rfl
theorem sz_small (a b : Int) (l : List S82) (h : l.length ≤ 1048576) : laws_szPuzzle.f a b l 1048576 = some (1048576 - (l.length : Int)) := by
  unfold laws_szPuzzle.f laws_szClueS.f
  rw [w64 (by omega) (by omega), if_neg (by omega)]
  simp only [Option.bind_some]
  rw [if_neg (by omega)]
theorem hid_facts {a b : Int} (h : hid a b = true) : (a = 0 ∨ a = 1 ∨ a = 2) ∧ 1 ≤ b ∧ b ≤ 20 := by
  unfold hid street inB at h
  simp at h
  omega
def okC (x : S78) : Bool := clueB x.f0 x.f1 x.f2
theorem clueOk_eq (x : S78) : clueOk x = okC x := by
  have := isClue_some x
  rw [isClue_val] at this
  exact (Option.some.inj this).symm
def good (a b : Int) (l : List S78) : Bool := hid a b && (decide (l.length ≤ 6) && l.all okC)
theorem isPuzzle_val (a b : Int) (l : List S78) : impl_IsPuzzle.f a b l = some (good a b l) := by
  unfold impl_IsPuzzle.f good
  rw [hidden_val]
  simp only [Option.bind_some]
  cases hid a b with
  | false => rfl
  | true =>
    rw [if_pos rfl]
    by_cases h : l.length ≤ 6
    · rw [if_pos (by omega)]
      have e : (fun x => !clueOk x) = fun x : S78 => !(okC x) := by funext x; rw [clueOk_eq]
      rw [e, List.not_any_eq_all_not]
      simp [h]
    · rw [if_neg (by omega)]
      simp [h]
theorem pzGood_l0 (l : List S78) (hn : l.length ≤ 1000) : ∀ (d i k : Nat), i + d = l.length → d < k → spec_pzGood.l0 k l (l.length : Int) (i : Int) = some ((l.drop i).all okC) := by
  intro d
  induction d with
  | zero =>
    intro i k hi hk
    obtain ⟨k, rfl⟩ : ∃ m, k = m + 1 := ⟨k - 1, by omega⟩
    obtain rfl : i = l.length := by omega
    simp only [spec_pzGood.l0]
    rw [if_neg (by omega)]
    simp
  | succ d ih =>
    intro i k hi hk
    obtain ⟨k, rfl⟩ : ∃ m, k = m + 1 := ⟨k - 1, by omega⟩
    simp only [spec_pzGood.l0]
    have hx : l[i]? = some l[i] := List.getElem?_eq_getElem (by omega)
    have hrd : rd_T78 l (i : Int) = l[i] := by simp [rd_T78, List.getD, hx]
    rw [if_pos (by omega), if_pos (by omega), if_pos (by omega), hrd, pzClue_val, w64 (by omega) (by omega), show ((i : Int) + 1) = ((i + 1 : Nat) : Int) by omega, List.drop_eq_getElem_cons (by omega), List.all_cons]
    simp only [Option.bind_some]
    have e : clueB l[i].f0 l[i].f1 l[i].f2 = okC l[i] := rfl
    rw [e]
    cases okC l[i] with
    | true => rw [if_pos rfl, ih (i + 1) k (by omega) (by omega)]; simp
    | false => rw [if_neg (by decide)]; simp
theorem pzGood_ev (a b : Int) (l : List S78) : Ev (fun k => spec_pzGood.f k a b l) (good a b l) := by
  refine Ev.of (k := 1002) (fun k => spec_pzGood.mono a b l k) ?_
  unfold spec_pzGood.f good
  rw [pzStreet_val]
  simp only [Option.bind_some]
  cases hid a b with
  | false =>
    rw [if_neg (by decide)]
    simp [spec_pzGood.j0]
  | true =>
    rw [if_pos rfl]
    by_cases h : l.length ≤ 6
    · have h6 : decide ((l.length : Int) > 6) = false := by simp; omega
      have := pzGood_l0 l (by omega) l.length 0 1001 (by omega) (by omega)
      rw [show ((0 : Nat) : Int) = 0 from rfl] at this
      simp [h6, spec_pzGood.j0, h, this]
    · have h6 : decide ((l.length : Int) > 6) = true := by simp; omega
      simp [h6, spec_pzGood.j0, h]
theorem good_facts {a b : Int} {l : List S78} (h : good a b l = true) : hid a b = true ∧ l.length ≤ 6 ∧ l.all okC = true := by
  unfold good at h
  simp only [Bool.and_eq_true, decide_eq_true_eq] at h
  exact h
end Go.Proofs.YteiicfcjhphmpaaDoor.Pz
