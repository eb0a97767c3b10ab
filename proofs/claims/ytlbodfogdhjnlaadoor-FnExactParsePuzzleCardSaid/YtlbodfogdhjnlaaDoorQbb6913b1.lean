/- Texts of this seat's proofs: contracts of its functions and plain laws about them, with no condition beyond those that each theorem states. -/
import Derived.Test.YtlbodfogdhjnlaaDoorQc937ef7a
import Derived.Test.YtlbodfogdhjnlaaDoorQ749a3bca
import Derived.Test.YtlbodfogdhjnlaaDoorQd06a600e
import Derived.Test.YtlbodfogdhjnlaaDoorQ1bdd78ee
import Derived.Test.YtlbodfogdhjnlaaDoorQa2a96123
import Derived.Test.YtlbodfogdhjnlaaDoorQ120eaf85
set_option linter.unusedSimpArgs false
namespace Go.Proofs.YtlbodfogdhjnlaaDoor.Pz
open Go.RowKit Go.Proofs.YtlbodfogdhjnlaaDoor.G Go.Proofs.YtlbodfogdhjnlaaDoorW.PrintWords Go.Proofs.YtlbodfogdhjnlaaDoorW.PrintLast Go.Proofs.YtlbodfogdhjnlaaDoorW.PrintMore
theorem w64 {x : Int} (h0 : -9223372036854775808 ≤ x) (h1 : x ≤ 9223372036854775807) : wrap64 x = x := by unfold wrap64; omega
theorem eqClueS_l0 (x0 : List S54) (hn : x0.length ≤ 1048577) : ∀ (d i k : Nat), i + d = x0.length → d < k → laws_eqClueS.l0 k x0 x0 (i : Int) = some true := by
  intro d
  induction d with
  | zero =>
    intro i k hi hk
    obtain ⟨k, rfl⟩ : ∃ m, k = m + 1 := ⟨k - 1, by omega⟩
    simp only [laws_eqClueS.l0]
    rw [if_neg (by omega)]
  | succ d ih =>
    intro i k hi hk
    obtain ⟨k, rfl⟩ : ∃ m, k = m + 1 := ⟨k - 1, by omega⟩
    simp only [laws_eqClueS.l0]
    rw [if_pos (by omega), if_pos (by omega), if_pos (by omega)]
    simp only [laws_eqClue.f, if_true, Option.bind_some]
    rw [w64 (by omega) (by omega), show ((i : Int) + 1) = ((i + 1 : Nat) : Int) by omega]
    exact ih (i + 1) k (by omega) (by omega)
theorem eqClueS_ev (l : List S54) (hn : l.length ≤ 1048577) : Ev (fun k => laws_eqClueS.f k l l) true := by
  refine Ev.of (k := l.length + 1) (fun k => laws_eqClueS.mono l l k) ?_
  unfold laws_eqClueS.f
  rw [if_pos rfl]
  exact eqClueS_l0 l hn l.length 0 (l.length + 1) (by omega) (by omega)
theorem eqPuzzle_ev (a b : Int) (l : List S54) (hn : l.length ≤ 1048577) : Ev (fun k => laws_eqPuzzle.f k a b l a b l) true := by
  obtain ⟨K, h⟩ := eqClueS_ev l hn
  refine ⟨K, fun k hk => ?_⟩
  simp [laws_eqPuzzle.f, laws_eqStreet.f, h k hk]
def cline (s n : Nat) : List S54 := (List.range n).map fun j => ⟨((s + 3 * j : Nat) : Int), ((s + 3 * j + 1 : Nat) : Int), ((s + 3 * j + 2 : Nat) : Int)⟩
theorem cline_len (s n : Nat) : (cline s n).length = n := by simp [cline]
theorem cline_get (s n i : Nat) (h : i < n) : (cline s n)[i]? = some ⟨((s + 3 * i : Nat) : Int), ((s + 3 * i + 1 : Nat) : Int), ((s + 3 * i + 2 : Nat) : Int)⟩ := by simp [cline, List.getElem?_map, List.getElem?_range h]
theorem cline_snoc (s n : Nat) : cline s (n + 1) = cline s n ++ [⟨((s + 3 * n : Nat) : Int), ((s + 3 * n + 1 : Nat) : Int), ((s + 3 * n + 2 : Nat) : Int)⟩] := by simp [cline, List.range_succ]
theorem rd_set (x : List S54) (i : Nat) (y : S54) (h : i < x.length) : rd_T54 (x.set i y) (i : Int) = y := by simp [rd_T54, List.getD, h]
theorem markClueS_l0 (l : List S54) (hn : l.length ≤ 1048577) : ∀ (d i k : Nat), i + d = l.length → d < k → laws_markClueS.l0 k (cline 1 i ++ l.drop i) ((1 + 3 * i : Nat) : Int) (i : Int) = some (((1 + 3 * l.length : Nat) : Int), cline 1 l.length) := by
  intro d
  induction d with
  | zero =>
    intro i k hi hk
    obtain ⟨k, rfl⟩ : ∃ m, k = m + 1 := ⟨k - 1, by omega⟩
    obtain rfl : i = l.length := by omega
    simp only [laws_markClueS.l0]
    rw [if_neg (by simp [cline_len])]
    simp
  | succ d ih =>
    intro i k hi hk
    obtain ⟨k, rfl⟩ : ∃ m, k = m + 1 := ⟨k - 1, by omega⟩
    simp only [laws_markClueS.l0, Option.bind_some, Int.toNat_natCast]
    have hL : i < (cline 1 i ++ l.drop i).length := by simp [cline_len]; omega
    rw [if_pos (by omega), if_pos (by omega), rd_set _ _ _ hL, rd_set _ _ _ (by simpa using hL), List.set_set, List.set_set, w64 (x := (i : Int) + 1) (by omega) (by omega), w64 (x := ((1 + 3 * i : Nat) : Int) + 1) (by omega) (by omega), w64 (by omega) (by omega), w64 (by omega) (by omega), show ((i : Int) + 1) = ((i + 1 : Nat) : Int) by omega, show (((1 + 3 * i : Nat) : Int) + 1 + 1 + 1) = ((1 + 3 * (i + 1) : Nat) : Int) by omega, ← ih (i + 1) k (by omega) (by omega)]
    congr 1
    rw [List.set_append_right _ _ (by simp [cline_len]), cline_snoc, List.append_assoc, cline_len, Nat.sub_self]
    congr 1
    rw [List.drop_eq_getElem_cons (by omega)]
    rfl
theorem markClueS_ev (l : List S54) (hn : l.length ≤ 1048577) : Ev (fun k => laws_markClueS.f k l 1) (((1 + 3 * l.length : Nat) : Int), cline 1 l.length) := by
  refine Ev.of (k := l.length + 1) (fun k => laws_markClueS.mono l 1 k) ?_
  have := markClueS_l0 l hn l.length 0 (l.length + 1) (by omega) (by omega)
  simpa [laws_markClueS.f, cline] using this
theorem heldClueS_l0 (n : Nat) (hn : n ≤ 1048577) : ∀ (d i k : Nat), i + d = n → d < k → laws_heldClueS.l0 k (cline 1 n) ((1 + 3 * i : Nat) : Int) (i : Int) = some ((1 + 3 * n : Nat) : Int) := by
  intro d
  induction d with
  | zero =>
    intro i k hi hk
    obtain ⟨k, rfl⟩ : ∃ m, k = m + 1 := ⟨k - 1, by omega⟩
    obtain rfl : i = n := by omega
    simp only [laws_heldClueS.l0]
    rw [if_neg (by simp [cline_len])]
  | succ d ih =>
    intro i k hi hk
    obtain ⟨k, rfl⟩ : ∃ m, k = m + 1 := ⟨k - 1, by omega⟩
    simp only [laws_heldClueS.l0]
    have hr : rd_T54 (cline 1 n) (i : Int) = ⟨((1 + 3 * i : Nat) : Int), ((1 + 3 * i + 1 : Nat) : Int), ((1 + 3 * i + 2 : Nat) : Int)⟩ := by simp [rd_T54, List.getD, cline_get 1 n i (by omega)]
    rw [if_pos (by simp [cline_len]; omega), if_pos (by omega), hr, w64 (x := (i : Int) + 1) (by omega) (by omega), w64 (x := ((1 + 3 * i : Nat) : Int) + 1) (by omega) (by omega), w64 (by omega) (by omega), w64 (by omega) (by omega), if_pos rfl, if_pos (by show ((1 + 3 * i + 1 : Nat) : Int) = _; omega), if_pos (by show ((1 + 3 * i + 2 : Nat) : Int) = _; omega), show ((i : Int) + 1) = ((i + 1 : Nat) : Int) by omega, show (((1 + 3 * i : Nat) : Int) + 1 + 1 + 1) = ((1 + 3 * (i + 1) : Nat) : Int) by omega]
    exact ih (i + 1) k (by omega) (by omega)
theorem heldClueS_ev (n : Nat) (hn : n ≤ 1048577) : Ev (fun k => laws_heldClueS.f k (cline 1 n) 1) ((1 + 3 * n : Nat) : Int) := by
  refine Ev.of (k := n + 1) (fun k => laws_heldClueS.mono (cline 1 n) 1 k) ?_
  have := heldClueS_l0 n hn n 0 (n + 1) (by omega) (by omega)
  simpa [laws_heldClueS.f] using this
theorem markPuzzle_ev (a b : Int) (l : List S54) (hn : l.length ≤ 1048577) : Ev (fun k => laws_markPuzzle.f k a b l 1) (((1 + 3 * l.length : Nat) : Int), cline 1 l.length) := by
  obtain ⟨K, h⟩ := markClueS_ev l hn
  refine ⟨K, fun k hk => ?_⟩
  simp [laws_markPuzzle.f, h k hk]
theorem heldPuzzle_ev (a b : Int) (n : Nat) (hn : n ≤ 1048577) : Ev (fun k => laws_heldPuzzle.f k a b (cline 1 n) 1) ((1 + 3 * n : Nat) : Int) := by
  obtain ⟨K, h⟩ := heldClueS_ev n hn
  refine ⟨K, fun k hk => ?_⟩
  simp only [laws_heldPuzzle.f, h k hk, Option.bind_some]
  rw [if_neg (by omega)]
theorem hid_facts {a b : Int} (h : hid a b = true) : (a = 0 ∨ a = 1 ∨ a = 2) ∧ 1 ≤ b ∧ b ≤ 20 := by
  unfold hid street inB at h
  simp at h
  omega
def okC (x : S54) : Bool := clueB x.f0 x.f1 x.f2
theorem clueOk_eq (x : S54) : clueOk x = okC x := by
  have := isClue_some x
  rw [isClue_val] at this
  exact (Option.some.inj this).symm
def good (a b : Int) (l : List S54) : Bool := hid a b && (decide (l.length ≤ 6) && l.all okC)
theorem isPuzzle_val (a b : Int) (l : List S54) : impl_IsPuzzle.f a b l = some (good a b l) := by
  unfold impl_IsPuzzle.f good
  rw [hidden_val]
  simp only [Option.bind_some]
  cases hid a b with
  | false => rfl
  | true =>
    rw [if_pos rfl]
    by_cases h : l.length ≤ 6
    · rw [if_pos (by omega)]
      have e : (fun x => !clueOk x) = fun x : S54 => !(okC x) := by funext x; rw [clueOk_eq]
      rw [e, List.not_any_eq_all_not]
      simp [h]
    · rw [if_neg (by omega)]
      simp [h]
theorem pzGood_l0 (l : List S54) (hn : l.length ≤ 1000) : ∀ (d i k : Nat), i + d = l.length → d < k → spec_pzGood.l0 k l (l.length : Int) (i : Int) = some ((l.drop i).all okC) := by
  intro d
  induction d with
  | zero =>
    intro i k hi hk
    obtain ⟨k, rfl⟩ : ∃ m, k = m + 1 := ⟨k - 1, by omega⟩
    obtain rfl : i = l.length := by omega
    simp only [spec_pzGood.l0]
    rw [if_neg (by omega)]
    simp
  | succ d ih =>
    intro i k hi hk
    obtain ⟨k, rfl⟩ : ∃ m, k = m + 1 := ⟨k - 1, by omega⟩
    simp only [spec_pzGood.l0]
    have hx : l[i]? = some l[i] := List.getElem?_eq_getElem (by omega)
    have hrd : rd_T54 l (i : Int) = l[i] := by simp [rd_T54, List.getD, hx]
    rw [if_pos (by omega), if_pos (by omega), if_pos (by omega), hrd, pzClue_val, w64 (by omega) (by omega), show ((i : Int) + 1) = ((i + 1 : Nat) : Int) by omega, List.drop_eq_getElem_cons (by omega), List.all_cons]
    simp only [Option.bind_some]
    have e : clueB l[i].f0 l[i].f1 l[i].f2 = okC l[i] := rfl
    rw [e]
    cases okC l[i] with
    | true => rw [if_pos rfl, ih (i + 1) k (by omega) (by omega)]; simp
    | false => rw [if_neg (by decide)]; simp
theorem pzGood_ev (a b : Int) (l : List S54) : Ev (fun k => spec_pzGood.f k a b l) (good a b l) := by
  refine Ev.of (k := 1002) (fun k => spec_pzGood.mono a b l k) ?_
  unfold spec_pzGood.f good
  rw [pzStreet_val]
  simp only [Option.bind_some]
  cases hid a b with
  | false =>
    rw [if_neg (by decide)]
    simp [spec_pzGood.j0]
  | true =>
    rw [if_pos rfl]
    by_cases h : l.length ≤ 6
    · have h6 : decide ((l.length : Int) > 6) = false := by simp; omega
      have := pzGood_l0 l (by omega) l.length 0 1001 (by omega) (by omega)
      rw [show ((0 : Nat) : Int) = 0 from rfl] at this
      simp [h6, spec_pzGood.j0, h, this]
    · have h6 : decide ((l.length : Int) > 6) = true := by simp; omega
      simp [h6, spec_pzGood.j0, h]
theorem good_facts {a b : Int} {l : List S54} (h : good a b l = true) : hid a b = true ∧ l.length ≤ 6 ∧ l.all okC = true := by
  unfold good at h
  simp only [Bool.and_eq_true, decide_eq_true_eq] at h
  exact h
theorem pzGood_k (a b : Int) (l : List S54) {k : Nat} (hk : 50000 ≤ k) : spec_pzGood.f k a b l = some (good a b l) := by
  obtain ⟨K, h⟩ := pzGood_ev a b l
  have h : ∀ k, K ≤ k → spec_pzGood.f k a b l = some (good a b l) := h
  have h0 : spec_pzGood.f 1002 a b l = some (good a b l) := by
    have hs : ∃ r, spec_pzGood.f 1002 a b l = some r := by
      unfold spec_pzGood.f
      rw [pzStreet_val, Option.bind_some]
      cases hid a b with
      | false => exact ⟨_, by rw [if_neg (by decide), spec_pzGood.j0, if_pos rfl]⟩
      | true =>
        rw [if_pos rfl]
        by_cases h : l.length ≤ 6
        · have h6 : decide ((l.length : Int) > 6) = false := by simp; omega
          have := pzGood_l0 l (by omega) l.length 0 1001 (by omega) (by omega)
          rw [show ((0 : Nat) : Int) = 0 from rfl] at this
          exact ⟨_, by rw [h6, spec_pzGood.j0, if_neg (by decide)]; exact this⟩
        · have h6 : decide ((l.length : Int) > 6) = true := by simp; omega
          exact ⟨_, by rw [h6, spec_pzGood.j0, if_pos rfl]⟩
    obtain ⟨r, hr⟩ := hs
    have h1 := at_rounds (fun k => spec_pzGood.mono a b l k) (Nat.le_max_left 1002 K) hr
    rw [h _ (Nat.le_max_right 1002 K)] at h1
    rw [hr, h1]
  exact at_rounds (fun k => spec_pzGood.mono a b l k) (by omega) h0
end Go.Proofs.YtlbodfogdhjnlaaDoor.Pz
