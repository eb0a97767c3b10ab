/- Texts of this seat's proofs: contracts of its functions and plain laws about them, with no condition beyond those that each theorem states. -/
import Derived.Test.YtlbodfogdhjnlaaDoorQa7a6c664
import Derived.Test.YtlbodfogdhjnlaaDoorQ5b6b0fde
import Derived.Test.YtlbodfogdhjnlaaDoorQ57ba1b19
import Derived.Test.YtlbodfogdhjnlaaDoorQ5cdd3c19
import Derived.Test.YtlbodfogdhjnlaaDoorQ29f5a95d
set_option linter.unusedSimpArgs false
namespace Go.Proofs.YtlbodfogdhjnlaaDoor.Bg
open Go.RowKit Go.Proofs.YtlbodfogdhjnlaaDoor.G Go.Proofs.YtlbodfogdhjnlaaDoorW.PrintWords Go.Proofs.YtlbodfogdhjnlaaDoorW.PrintLast Go.Proofs.YtlbodfogdhjnlaaDoorW.PrintMore
theorem w64 {x : Int} (h0 : -9223372036854775808 ≤ x) (h1 : x ≤ 9223372036854775807) : wrap64 x = x := by unfold wrap64; omega
theorem eqParcelS_l0 (x0 : List S41) (hn : x0.length ≤ 1048577) : ∀ (d i k : Nat), i + d = x0.length → d < k → laws_eqParcelS.l0 k x0 x0 (i : Int) = some true := by
  intro d
  induction d with
  | zero =>
    intro i k hi hk
    obtain ⟨k, rfl⟩ : ∃ m, k = m + 1 := ⟨k - 1, by omega⟩
    simp only [laws_eqParcelS.l0]
    rw [if_neg (by omega)]
  | succ d ih =>
    intro i k hi hk
    obtain ⟨k, rfl⟩ : ∃ m, k = m + 1 := ⟨k - 1, by omega⟩
    simp only [laws_eqParcelS.l0]
    rw [if_pos (by omega), if_pos (by omega), if_pos (by omega)]
    simp only [laws_eqParcel.f, if_true, Option.bind_some]
    rw [w64 (by omega) (by omega), show ((i : Int) + 1) = ((i + 1 : Nat) : Int) by omega]
    exact ih (i + 1) k (by omega) (by omega)
theorem eqParcelS_ev (l : List S41) (hn : l.length ≤ 1048577) : Ev (fun k => laws_eqParcelS.f k l l) true := by
  refine Ev.of (k := l.length + 1) (fun k => laws_eqParcelS.mono l l k) ?_
  unfold laws_eqParcelS.f
  rw [if_pos rfl]
  exact eqParcelS_l0 l hn l.length 0 (l.length + 1) (by omega) (by omega)
def okP (l : List S41) : Bool := (decide ((l.length : Int) ≥ 1) && decide ((l.length : Int) ≤ 8)) && l.all parcOk
theorem areParcels_val (l : List S41) : impl_AreParcels.f l = some (okP l) := by
  unfold impl_AreParcels.f okP
  rw [List.not_any_eq_all_not]
  cases (decide ((l.length : Int) ≥ 1) && decide ((l.length : Int) ≤ 8)) with
  | true => simp
  | false => simp
theorem l1In_is (a b c : Int) : spec_l1In.f a b c = some (decide (a ≥ b) && decide (a ≤ c)) := within_is a b c
theorem bgGood_l0 (l : List S41) (hn : l.length ≤ 1000) : ∀ (d i k : Nat), i + d = l.length → d < k → spec_bgGood.l0 k l (l.length : Int) (i : Int) = some ((l.drop i).all parcOk) := by
  intro d
  induction d with
  | zero =>
    intro i k hi hk
    obtain ⟨k, rfl⟩ : ∃ m, k = m + 1 := ⟨k - 1, by omega⟩
    obtain rfl : i = l.length := by omega
    simp only [spec_bgGood.l0]
    rw [if_neg (by omega)]
    simp
  | succ d ih =>
    intro i k hi hk
    obtain ⟨k, rfl⟩ : ∃ m, k = m + 1 := ⟨k - 1, by omega⟩
    simp only [spec_bgGood.l0]
    have hx : l[i]? = some l[i] := List.getElem?_eq_getElem (by omega)
    have hrd : rd_T41 l (i : Int) = l[i] := by simp [rd_T41, List.getD, hx]
    rw [if_pos (by omega), if_pos (by omega), if_pos (by omega), hrd, l1In_is, l1In_is, w64 (by omega) (by omega), show ((i : Int) + 1) = ((i + 1 : Nat) : Int) by omega, List.drop_eq_getElem_cons (by omega), List.all_cons, Option.bind_some, Option.bind_some]
    have e : parcOk l[i] = ((decide (l[i].f0 ≥ 1) && decide (l[i].f0 ≤ 100)) && (decide (l[i].f1 ≥ 1) && decide (l[i].f1 ≤ 1000))) := rfl
    rw [e]
    cases (decide (l[i].f0 ≥ 1) && decide (l[i].f0 ≤ 100)) with
    | false => rw [if_neg (by decide)]; simp
    | true =>
      rw [if_pos rfl]
      cases (decide (l[i].f1 ≥ 1) && decide (l[i].f1 ≤ 1000)) with
      | false => rw [if_neg (by decide)]; simp
      | true => rw [if_pos rfl, ih (i + 1) k (by omega) (by omega)]; simp
theorem okP_len {l : List S41} (h : okP l = true) : 1 ≤ l.length ∧ l.length ≤ 8 := by
  unfold okP at h
  simp at h
  omega
def pline (s n : Nat) : List S41 := (List.range n).map fun j => ⟨((s + 2 * j : Nat) : Int), ((s + 2 * j + 1 : Nat) : Int)⟩
theorem pline_len (s n : Nat) : (pline s n).length = n := by simp [pline]
theorem pline_get (s n i : Nat) (h : i < n) : (pline s n)[i]? = some ⟨((s + 2 * i : Nat) : Int), ((s + 2 * i + 1 : Nat) : Int)⟩ := by simp [pline, List.getElem?_map, List.getElem?_range h]
theorem pline_snoc (s n : Nat) : pline s (n + 1) = pline s n ++ [⟨((s + 2 * n : Nat) : Int), ((s + 2 * n + 1 : Nat) : Int)⟩] := by simp [pline, List.range_succ]
theorem rd_setP (x : List S41) (i : Nat) (y : S41) (h : i < x.length) : rd_T41 (x.set i y) (i : Int) = y := by simp [rd_T41, List.getD, h]
theorem markParcelS_l0 (l : List S41) (hn : l.length ≤ 1048577) : ∀ (d i k : Nat), i + d = l.length → d < k → laws_markParcelS.l0 k (pline 1 i ++ l.drop i) ((1 + 2 * i : Nat) : Int) (i : Int) = some (((1 + 2 * l.length : Nat) : Int), pline 1 l.length) := by
  intro d
  induction d with
  | zero =>
    intro i k hi hk
    obtain ⟨k, rfl⟩ : ∃ m, k = m + 1 := ⟨k - 1, by omega⟩
    obtain rfl : i = l.length := by omega
    simp only [laws_markParcelS.l0]
    rw [if_neg (by simp [pline_len])]
    simp
  | succ d ih =>
    intro i k hi hk
    obtain ⟨k, rfl⟩ : ∃ m, k = m + 1 := ⟨k - 1, by omega⟩
    simp only [laws_markParcelS.l0]
    rw [if_pos (by simp [pline_len]; omega), if_pos (by omega), Option.bind_some, Int.toNat_natCast, rd_setP _ i _ (by simp [pline_len]; omega)]
    rw [w64 (x := ((1 + 2 * i : Nat) : Int) + 1) (by omega) (by omega), w64 (by omega) (by omega), w64 (by omega) (by omega), show ((i : Int) + 1) = ((i + 1 : Nat) : Int) by omega, show (((1 + 2 * i : Nat) : Int) + 1 + 1) = ((1 + 2 * (i + 1) : Nat) : Int) by omega, ← ih (i + 1) k (by omega) (by omega)]
    congr 1
    rw [List.set_set, List.set_append_right _ _ (by simp [pline_len]), pline_snoc, List.append_assoc, pline_len, Nat.sub_self]
    congr 1
    rw [List.drop_eq_getElem_cons (by omega)]
    rfl
theorem markParcelS_ev (l : List S41) (hn : l.length ≤ 1048577) : Ev (fun k => laws_markParcelS.f k l 1) (((1 + 2 * l.length : Nat) : Int), pline 1 l.length) := by
  refine Ev.of (k := l.length + 1) (fun k => laws_markParcelS.mono l 1 k) ?_
  have := markParcelS_l0 l hn l.length 0 (l.length + 1) (by omega) (by omega)
  simpa [laws_markParcelS.f, pline] using this
theorem heldParcelS_l0 (n : Nat) (hn : n ≤ 1048577) : ∀ (d i k : Nat), i + d = n → d < k → laws_heldParcelS.l0 k (pline 1 n) ((1 + 2 * i : Nat) : Int) (i : Int) = some ((1 + 2 * n : Nat) : Int) := by
  intro d
  induction d with
  | zero =>
    intro i k hi hk
    obtain ⟨k, rfl⟩ : ∃ m, k = m + 1 := ⟨k - 1, by omega⟩
    obtain rfl : i = n := by omega
    simp only [laws_heldParcelS.l0]
    rw [if_neg (by simp [pline_len])]
  | succ d ih =>
    intro i k hi hk
    obtain ⟨k, rfl⟩ : ∃ m, k = m + 1 := ⟨k - 1, by omega⟩
    simp only [laws_heldParcelS.l0]
    have hr : rd_T41 (pline 1 n) (i : Int) = ⟨((1 + 2 * i : Nat) : Int), ((1 + 2 * i + 1 : Nat) : Int)⟩ := by simp [rd_T41, List.getD, pline_get 1 n i (by omega)]
    rw [if_pos (by simp [pline_len]; omega), if_pos (by omega), hr]
    simp only
    rw [if_pos trivial, w64 (x := ((1 + 2 * i : Nat) : Int) + 1) (by omega) (by omega), if_pos (by omega), w64 (by omega) (by omega), w64 (by omega) (by omega), show ((i : Int) + 1) = ((i + 1 : Nat) : Int) by omega, show (((1 + 2 * i : Nat) : Int) + 1 + 1) = ((1 + 2 * (i + 1) : Nat) : Int) by omega]
    exact ih (i + 1) k (by omega) (by omega)
theorem heldParcelS_ev (n : Nat) (hn : n ≤ 1048577) : Ev (fun k => laws_heldParcelS.f k (pline 1 n) 1) ((1 + 2 * n : Nat) : Int) := by
  refine Ev.of (k := n + 1) (fun k => laws_heldParcelS.mono (pline 1 n) 1 k) ?_
  have := heldParcelS_l0 n hn n 0 (n + 1) (by omega) (by omega)
  simpa [laws_heldParcelS.f] using this
end Go.Proofs.YtlbodfogdhjnlaaDoor.Bg
