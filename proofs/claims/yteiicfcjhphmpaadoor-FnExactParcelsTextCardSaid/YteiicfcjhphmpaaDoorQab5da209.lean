/- Texts of this seat's proofs: contracts of its functions and plain laws about them, with no condition beyond those that each theorem states. -/
import Derived.Test.YteiicfcjhphmpaaDoorQ93d29a1a
import Derived.Test.YteiicfcjhphmpaaDoorQd6e42e64
import Derived.Test.YteiicfcjhphmpaaDoorQ1c005160
import Derived.Test.YteiicfcjhphmpaaDoorQ30f2c64a
import Derived.Test.YteiicfcjhphmpaaDoorQ43025997
namespace Go.Proofs.YteiicfcjhphmpaaDoor.Bg
open Go.RowKit Go.Proofs.YteiicfcjhphmpaaDoor.G Go.Proofs.YteiicfcjhphmpaaDoorW.PrintWords Go.Proofs.YteiicfcjhphmpaaDoorW.PrintLast Go.Proofs.YteiicfcjhphmpaaDoorW.PrintMore
theorem w64 {x : Int} (h0 : -9223372036854775808 ≤ x) (h1 : x ≤ 9223372036854775807) : wrap64 x = x := by unfold wrap64; omega
def conv (x : S49) : S47 := ⟨x.f0, x.f1⟩
theorem toParcelS_l0 (x0 : List S49) (hn : x0.length ≤ 1048576) : ∀ (d i k : Nat), i + d = x0.length → d < k → laws_toParcelS.l0 k x0 ((x0.take i).map conv ++ List.replicate d z47) (i : Int) = some (x0.map conv) := by
  intro d
  induction d with
  | zero =>
    intro i k hi hk
    obtain ⟨k, rfl⟩ : ∃ m, k = m + 1 := ⟨k - 1, by omega⟩
    simp only [laws_toParcelS.l0]
    rw [if_neg (by omega), List.take_of_length_le (by omega)]
    simp
  | succ d ih =>
    intro i k hi hk
    obtain ⟨k, rfl⟩ : ∃ m, k = m + 1 := ⟨k - 1, by omega⟩
    simp only [laws_toParcelS.l0]
    rw [if_pos (by omega), if_pos (by omega)]
    simp only [laws_toParcel.f, Option.bind_some]
    rw [if_pos (by simp; omega), w64 (by omega) (by omega), show ((i : Int) + 1) = ((i + 1 : Nat) : Int) by omega]
    have hx : x0[i]? = some x0[i] := List.getElem?_eq_getElem (by omega)
    have hrd : rd_T49 x0 (i : Int) = x0[i] := by simp [rd_T49, List.getD, hx]
    rw [← ih (i + 1) k (by omega) (by omega), hrd]
    congr 1
    rw [Int.toNat_natCast, List.set_append_right _ _ (by simp; omega), List.take_succ_eq_append_getElem (by omega), List.map_append, List.append_assoc]
    congr 1
    rw [show i - (List.map conv (List.take i x0)).length = 0 by simp; omega]
    rfl
theorem toParcelS_ev (l : List S49) (hn : l.length ≤ 1048576) : Ev (fun k => laws_toParcelS.f k l) (l.map conv) := by
  refine Ev.of (k := l.length + 1) (fun k => laws_toParcelS.mono l k) ?_
  unfold laws_toParcelS.f
  rw [if_pos (by omega), if_pos (by omega)]
  have := toParcelS_l0 l hn l.length 0 (l.length + 1) (by omega) (by omega)
  simpa using this
theorem eqParcelS_l0 (x0 : List S47) (hn : x0.length ≤ 1048577) : ∀ (d i k : Nat), i + d = x0.length → d < k → laws_eqParcelS.l0 k x0 x0 (i : Int) = some true := by
  intro d
  induction d with
  | zero =>
    intro i k hi hk
    obtain ⟨k, rfl⟩ : ∃ m, k = m + 1 := ⟨k - 1, by omega⟩
    simp only [laws_eqParcelS.l0]
    rw [if_neg (by omega)]
  | succ d ih =>
    intro i k hi hk
    obtain ⟨k, rfl⟩ : ∃ m, k = m + 1 := ⟨k - 1, by omega⟩
    simp only [laws_eqParcelS.l0]
    rw [if_pos (by omega), if_pos (by omega), if_pos (by omega)]
    simp only [laws_eqParcel.f, if_true, Option.bind_some]
    rw [w64 (by omega) (by omega), show ((i : Int) + 1) = ((i + 1 : Nat) : Int) by omega]
    exact ih (i + 1) k (by omega) (by omega)
theorem eqParcelS_ev (l : List S47) (hn : l.length ≤ 1048577) : Ev (fun k => laws_eqParcelS.f k l l) true := by
  refine Ev.of (k := l.length + 1) (fun k => laws_eqParcelS.mono l l k) ?_
  unfold laws_eqParcelS.f
  rw [if_pos rfl]
  exact eqParcelS_l0 l hn l.length 0 (l.length + 1) (by omega) (by omega)
theorem sz_big (l : List S49) (hm : l.length ≤ maxLen) (h : 1048576 < l.length) : laws_szParcelS.f l 1048576 = some (-1) := by
  unfold maxLen at hm
  unfold laws_szParcelS.f
  rw [w64 (by omega) (by omega), if_pos (by omega)]
theorem sz_small (l : List S49) (h : l.length ≤ 1048576) : laws_szParcelS.f l 1048576 = some (1048576 - (l.length : Int)) := by
  unfold laws_szParcelS.f
  rw [w64 (by omega) (by omega), if_neg (by omega)]
def okP (l : List S47) : Bool := (decide ((l.length : Int) ≥ 1) && decide ((l.length : Int) ≤ 8)) && l.all parcOk
theorem areParcels_val (l : List S47) : impl_AreParcels.f l = some (okP l) := by
  unfold impl_AreParcels.f okP
  rw [List.not_any_eq_all_not]
  cases (decide ((l.length : Int) ≥ 1) && decide ((l.length : Int) ≤ 8)) with
  | true => simp
  | false => simp
theorem l1In_is (a b c : Int) : spec_l1In.f a b c = some (decide (a ≥ b) && decide (a ≤ c)) := within_is a b c
theorem bgGood_l0 (l : List S47) (hn : l.length ≤ 1000) : ∀ (d i k : Nat), i + d = l.length → d < k → spec_bgGood.l0 k l (l.length : Int) (i : Int) = some ((l.drop i).all parcOk) := by
  intro d
  induction d with
  | zero =>
    intro i k hi hk
    obtain ⟨k, rfl⟩ : ∃ m, k = m + 1 := ⟨k - 1, by omega⟩
    obtain rfl : i = l.length := by omega
    simp only [spec_bgGood.l0]
    rw [if_neg (by omega)]
    simp
  | succ d ih =>
    intro i k hi hk
    obtain ⟨k, rfl⟩ : ∃ m, k = m + 1 := ⟨k - 1, by omega⟩
    simp only [spec_bgGood.l0]
    have hx : l[i]? = some l[i] := List.getElem?_eq_getElem (by omega)
    have hrd : rd_T47 l (i : Int) = l[i] := by simp [rd_T47, List.getD, hx]
    rw [if_pos (by omega), if_pos (by omega), if_pos (by omega), hrd, l1In_is, l1In_is, w64 (by omega) (by omega), show ((i : Int) + 1) = ((i + 1 : Nat) : Int) by omega, List.drop_eq_getElem_cons (by omega), List.all_cons, Option.bind_some, Option.bind_some]
    have e : parcOk l[i] = ((decide (l[i].f0 ≥ 1) && decide (l[i].f0 ≤ 100)) && (decide (l[i].f1 ≥ 1) && decide (l[i].f1 ≤ 1000))) := rfl
    rw [e]
    cases (decide (l[i].f0 ≥ 1) && decide (l[i].f0 ≤ 100)) with
    | false => rw [if_neg (by decide)]; simp
    | true =>
      rw [if_pos rfl]
      cases (decide (l[i].f1 ≥ 1) && decide (l[i].f1 ≤ 1000)) with
      | false => rw [if_neg (by decide)]; simp
      | true => rw [if_pos rfl, ih (i + 1) k (by omega) (by omega)]; simp
theorem okP_len {l : List S47} (h : okP l = true) : 1 ≤ l.length ∧ l.length ≤ 8 := by
  unfold okP at h
  simp at h
  omega
theorem bgGood_ev (l : List S47) : Ev (fun k => spec_bgGood.f k l) (okP l) := by
  refine Ev.of (k := 1002) (fun k => spec_bgGood.mono l k) ?_
  unfold spec_bgGood.f okP
  rw [l1In_is, Option.bind_some]
  by_cases h : (decide ((l.length : Int) ≥ 1) && decide ((l.length : Int) ≤ 8)) = true
  · rw [if_pos h, h, Bool.true_and]
    have h2 : l.length ≤ 8 := by simp at h; omega
    have := bgGood_l0 l (by omega) l.length 0 1002 (by omega) (by omega)
    simpa using this
  · rw [if_neg h, (by simpa using h : (decide ((l.length : Int) ≥ 1) && decide ((l.length : Int) ≤ 8)) = false), Bool.false_and]
end Go.Proofs.YteiicfcjhphmpaaDoor.Bg
