/- Texts of this seat's proofs: contracts of its functions and plain laws about them, with no condition beyond those that each theorem states. -/
import Derived.Test.YtagbpiofphgjlaaQe9280fc4
import Derived.Test.YtagbpiofphgjlaaQ6b303e28
import Derived.Test.YtagbpiofphgjlaaQ8e329c78
import Derived.Test.YtagbpiofphgjlaaQa9d1dfdc
import Derived.Test.YtagbpiofphgjlaaQf1ef9cd2
import Derived.Test.YtagbpiofphgjlaaQa0f42ed0
import Derived.Test.YtagbpiofphgjlaaQf653b09a
import Derived.Test.YtagbpiofphgjlaaQ65372d46
import Derived.Test.YtagbpiofphgjlaaQc5782d52
import Derived.Test.YtagbpiofphgjlaaQ3844345b
import Derived.Test.YtagbpiofphgjlaaQ6fe4017f
import Derived.Test.YtagbpiofphgjlaaQb00e581a
namespace Go.Proofs.Ytagbpiofphgjlaa.Bg
open Go.RowKit Go.Proofs.Ytagbpiofphgjlaa.G Go.Proofs.YtagbpiofphgjlaaW.PrintWords Go.Proofs.YtagbpiofphgjlaaW.PrintLast Go.Proofs.YtagbpiofphgjlaaW.PrintMore
theorem rd_get {l : List Int} {i : Nat} (h : i < l.length) : rd l (i : Int) = l[i] := by simp [rd, List.getD, List.getElem?_eq_getElem h]
def cI (p : List Int) : Nat → Nat
  | 0 => 0
  | i + 1 => if rd p (i : Int) = (cI p i : Int) then cI p i + 1 else cI p i
theorem cI_step (p : List Int) (i : Nat) : cI p i ≤ cI p (i + 1) ∧ cI p (i + 1) ≤ cI p i + 1 := by
  simp only [cI]
  split <;> omega
theorem cI_mono (p : List Int) (i : Nat) : ∀ d, cI p i ≤ cI p (i + d)
  | 0 => Nat.le_refl _
  | d + 1 => Nat.le_trans (cI_mono p i d) (cI_step p (i + d)).1
theorem cI_le (p : List Int) : ∀ i, cI p i ≤ i
  | 0 => Nat.le_refl _
  | i + 1 => by have := cI_le p i; have := (cI_step p i).2; omega
def Plan (p : List Int) : Prop := ∀ i, i < p.length → 0 ≤ rd p (i : Int) ∧ rd p (i : Int) ≤ (cI p i : Int)
theorem plan_max {p : List Int} (h : Plan p) : ∀ i, i < p.length → (maxTo p i : Int) = (cI p (i + 1) : Int) - 1
  | 0, hi => by
    have := h 0 hi
    have e : cI p 0 = 0 := rfl
    have e2 : rd p ((0 : Nat) : Int) = rd p 0 := rfl
    rw [e, e2] at this
    have e3 : rd p 0 = 0 := by omega
    simp [maxTo, cI, e3]
  | i + 1, hi => by
    have ih := plan_max h i (by omega)
    have hp := h (i + 1) hi
    have hc : cI p (i + 1 + 1) = if rd p ((i + 1 : Nat) : Int) = (cI p (i + 1) : Int) then cI p (i + 1) + 1 else cI p (i + 1) := rfl
    simp only [maxTo]
    split
    · rw [hc, if_pos (by omega)]
      omega
    · rw [hc, if_neg (by omega)]
      omega
theorem plan_pos {p : List Int} (h : Plan p) (hp : 1 ≤ p.length) : 1 ≤ cI p p.length := by
  have := h 0 (by omega)
  have e : cI p 0 = 0 := rfl
  have e2 : rd p ((0 : Nat) : Int) = rd p 0 := rfl
  rw [e, e2] at this
  have e1 : cI p 1 = 1 := by
    have e3 : rd p 0 = 0 := by omega
    simp [cI, e3]
  have := cI_mono p 1 (p.length - 1)
  rw [show 1 + (p.length - 1) = p.length by omega] at this
  omega
theorem rd_left {a b : List Int} {n : Int} (h0 : 0 ≤ n) (h : n < (a.length : Int)) : rd (a ++ b) n = rd a n := by
  obtain ⟨m, rfl⟩ : ∃ m : Nat, n = m := ⟨n.toNat, by omega⟩
  simp [rd, List.getD, List.getElem?_append_left (show m < a.length by omega)]
theorem rd_mem {a : List Int} {n : Int} (h0 : 0 ≤ n) (h : n < (a.length : Int)) : rd a n ∈ a := by
  obtain ⟨m, rfl⟩ : ∃ m : Nat, n = m := ⟨n.toNat, by omega⟩
  rw [rd_get (by omega)]
  exact List.getElem_mem _
theorem parc_get {l : List S61} (hl : l.all parcOk = true) {i : Nat} (h : i < l.length) : 1 ≤ (rd_T61 l (i : Int)).f1 ∧ (rd_T61 l (i : Int)).f1 ≤ 1000 ∧ 1 ≤ (rd_T61 l (i : Int)).f0 ∧ (rd_T61 l (i : Int)).f0 ≤ 100 := by
  have hx : l[i]? = some l[i] := List.getElem?_eq_getElem h
  have hrd : rd_T61 l (i : Int) = l[i] := by simp [rd_T61, List.getD, hx]
  rw [hrd]
  have := List.all_eq_true.1 hl l[i] (List.getElem_mem h)
  unfold parcOk at this
  simp at this
  omega
theorem impl_w_step {l : List S61} {p out : List Int} {i : Nat} {n wt o : Int} (k : Nat) (hpn : rd p (i : Int) = n) (hw : (rd_T61 l (i : Int)).f1 = wt) (hi : i < p.length) (hil : i < l.length) (hn : 0 ≤ n) (hno : n < (out.length : Int)) (ho : rd out n = o) (hi2 : i ≤ 1000) (hb : -1000000 ≤ o + wt ∧ o + wt ≤ 1000000) :
    impl_weightsOf.l0 (k + 1) l out p (p.length : Int) (i : Int) = impl_weightsOf.l0 k l (out.set n.toNat (o + wt)) p (p.length : Int) ((i + 1 : Nat) : Int) := by
  rw [impl_weightsOf.l0, hpn, hw, ho, if_pos (by omega), if_pos (by omega), if_pos (by omega), if_pos hn, if_pos hno, if_pos (by omega), w64 (x := o + wt) (by omega) (by omega), w64 (by omega) (by omega)]
  rfl
theorem spec_w_new {l : List S61} {p out : List Int} {i : Nat} {wt : Int} (k : Nat) (hpn : rd p (i : Int) = (out.length : Int)) (hw : (rd_T61 l (i : Int)).f1 = wt) (hi : i < p.length) (hil : i < l.length) (hi2 : i ≤ 1000) (ho : out.length ≤ 1000) (hb : -1000000 ≤ wt ∧ wt ≤ 1000000) :
    spec_bgWeights.l0 (k + 1) l out p (p.length : Int) (i : Int) = spec_bgWeights.l0 k l (out ++ [wt]) p (p.length : Int) ((i + 1 : Nat) : Int) := by
  have e : rd (out ++ [0]) (out.length : Int) = 0 := by simp [rd, List.getD]
  have e2 : (out ++ [0]).set out.length wt = out ++ [wt] := by
    rw [List.set_append_right _ _ (Nat.le_refl _), Nat.sub_self]
    rfl
  rw [spec_bgWeights.l0, hpn, hw, if_pos (by omega), if_pos (by omega), if_pos (by omega), if_pos rfl, if_pos (by omega), Option.bind_some, if_pos (by omega), if_pos (by simp; omega), if_pos (by omega), e, Int.zero_add, w64 (x := wt) (by omega) (by omega), w64 (by omega) (by omega), Int.toNat_natCast, e2]
  rfl
theorem spec_w_old {l : List S61} {p out : List Int} {i : Nat} {n wt o : Int} (k : Nat) (hpn : rd p (i : Int) = n) (hw : (rd_T61 l (i : Int)).f1 = wt) (hi : i < p.length) (hil : i < l.length) (hn : 0 ≤ n) (hno : n < (out.length : Int)) (ho : rd out n = o) (hi2 : i ≤ 1000) (hb : -1000000 ≤ o + wt ∧ o + wt ≤ 1000000) :
    spec_bgWeights.l0 (k + 1) l out p (p.length : Int) (i : Int) = spec_bgWeights.l0 k l (out.set n.toNat (o + wt)) p (p.length : Int) ((i + 1 : Nat) : Int) := by
  rw [spec_bgWeights.l0, hpn, hw, ho, if_pos (by omega), if_pos (by omega), if_pos (by omega), if_neg (by omega), if_pos hn, if_pos hno, if_pos (by omega), w64 (x := o + wt) (by omega) (by omega), w64 (by omega) (by omega)]
  rfl
theorem weights_l0 (l : List S61) (p : List Int) (hl : l.all parcOk = true) (hpl : p.length = l.length) (hn : l.length ≤ 8) (h : Plan p) : ∀ (d i z : Nat) (out : List Int), i + d = p.length → out.length = cI p i → cI p i + z = cI p p.length → (∀ x ∈ out, 1 ≤ x ∧ x ≤ 1000 * (i : Int)) →
    ∃ v : List Int, v.length = cI p p.length ∧ (∀ x ∈ v, 1 ≤ x ∧ x ≤ 8000) ∧ (∀ k, d < k → impl_weightsOf.l0 k l (out ++ List.replicate z 0) p (p.length : Int) (i : Int) = some v) ∧ ∀ k, d < k → spec_bgWeights.l0 k l out p (p.length : Int) (i : Int) = some v := by
  intro d
  induction d with
  | zero =>
    intro i z out hi ho hz hb
    obtain rfl : i = p.length := by omega
    obtain rfl : z = 0 := by omega
    refine ⟨out, ho, fun x hx => by have := hb x hx; omega, fun k hk => ?_, fun k hk => ?_⟩
    · obtain ⟨k, rfl⟩ : ∃ m, k = m + 1 := ⟨k - 1, by omega⟩
      rw [impl_weightsOf.l0, if_neg (by omega)]
      simp
    · obtain ⟨k, rfl⟩ : ∃ m, k = m + 1 := ⟨k - 1, by omega⟩
      rw [spec_bgWeights.l0, if_neg (by omega)]
  | succ d ih =>
    intro i z out hi ho hz hb
    have hp := h i (by omega)
    have hx := parc_get hl (i := i) (by omega)
    have hm := cI_mono p (i + 1) d
    rw [show i + 1 + d = p.length by omega] at hm
    have hci := cI_le p i
    by_cases hnew : rd p (i : Int) = (cI p i : Int)
    · have hc : cI p (i + 1) = cI p i + 1 := by
        simp only [cI]
        rw [if_pos hnew]
      obtain ⟨z, rfl⟩ : ∃ m, z = m + 1 := ⟨z - 1, by omega⟩
      have hb' : ∀ x ∈ out ++ [(rd_T61 l (i : Int)).f1], 1 ≤ x ∧ x ≤ 1000 * ((i + 1 : Nat) : Int) := by
        intro x hx'
        rcases List.mem_append.1 hx' with hx' | hx'
        · have := hb x hx'
          omega
        · have := List.mem_singleton.1 hx'
          omega
      obtain ⟨v, hv, hvb, k1, k2⟩ := ih (i + 1) z (out ++ [(rd_T61 l (i : Int)).f1]) (by omega) (by simp; omega) (by omega) hb'
      refine ⟨v, hv, hvb, fun k hk => ?_, fun k hk => ?_⟩
      · obtain ⟨k, rfl⟩ : ∃ m, k = m + 1 := ⟨k - 1, by omega⟩
        have ho0 : rd (out ++ List.replicate (z + 1) 0) (out.length : Int) = 0 := by simp [rd, List.getD]
        rw [impl_w_step k (hnew.trans (by rw [ho])) rfl (by omega) (by omega) (by omega) (by simp; omega) ho0 (by omega) (by omega), Int.zero_add, Int.toNat_natCast, List.set_append_right _ _ (Nat.le_refl _), Nat.sub_self, ← k1 k (by omega), List.append_assoc]
        rfl
      · obtain ⟨k, rfl⟩ : ∃ m, k = m + 1 := ⟨k - 1, by omega⟩
        rw [spec_w_new k (hnew.trans (by rw [ho])) rfl (by omega) (by omega) (by omega) (by omega) (by omega)]
        exact k2 k (by omega)
    · have hc : cI p (i + 1) = cI p i := by
        simp only [cI]
        rw [if_neg hnew]
      have hlt : rd p (i : Int) < (out.length : Int) := by omega
      have hmem := hb _ (rd_mem hp.1 hlt)
      have hb' : ∀ x ∈ out.set (rd p (i : Int)).toNat (rd out (rd p (i : Int)) + (rd_T61 l (i : Int)).f1), 1 ≤ x ∧ x ≤ 1000 * ((i + 1 : Nat) : Int) := by
        intro x hx'
        rcases List.mem_or_eq_of_mem_set hx' with hx' | hx'
        · have := hb x hx'
          omega
        · omega
      obtain ⟨v, hv, hvb, k1, k2⟩ := ih (i + 1) z _ (by omega) (by rw [List.length_set]; omega) (by omega) hb'
      refine ⟨v, hv, hvb, fun k hk => ?_, fun k hk => ?_⟩
      · obtain ⟨k, rfl⟩ : ∃ m, k = m + 1 := ⟨k - 1, by omega⟩
        rw [impl_w_step k rfl rfl (by omega) (by omega) hp.1 (by simp; omega) (rd_left hp.1 hlt) (by omega) (by omega), List.set_append_left _ _ (by omega)]
        exact k1 k (by omega)
      · obtain ⟨k, rfl⟩ : ∃ m, k = m + 1 := ⟨k - 1, by omega⟩
        rw [spec_w_old k rfl rfl (by omega) (by omega) hp.1 hlt rfl (by omega) (by omega)]
        exact k2 k (by omega)
theorem weights_both {l : List S61} {p : List Int} (hl : l.all parcOk = true) (hpl : p.length = l.length) (h1 : 1 ≤ l.length) (hn : l.length ≤ 8) (h : Plan p) :
    ∃ v : List Int, v.length = cI p p.length ∧ (∀ x ∈ v, 1 ≤ x ∧ x ≤ 8000) ∧ (∀ k, 8 < k → impl_weightsOf.f k l p = some v) ∧ ∀ k, 8 < k → spec_bgWeights.f k l p = some v := by
  obtain ⟨v, hv, hvb, k1, k2⟩ := weights_l0 l p hl hpl hn h p.length 0 (cI p p.length) [] (by omega) rfl (by show 0 + _ = _; omega) (fun x hx => by cases hx)
  refine ⟨v, hv, hvb, fun k hk => ?_, fun k hk => k2 k (by omega)⟩
  have hm := plan_max h (p.length - 1) (by omega)
  rw [show p.length - 1 + 1 = p.length by omega] at hm
  have hle := cI_le p p.length
  have hpos := plan_pos h (by omega)
  unfold impl_weightsOf.f slices_Max_int_int.f
  rw [if_pos (by omega), Option.bind_some, hm, w64 (by omega) (by omega), if_pos (by omega), if_pos (by omega), show ((cI p p.length : Int) - 1 + 1).toNat = cI p p.length by omega]
  exact k1 k (by omega)
theorem maxTo_le (v : List Int) (b : Int) : ∀ i, i < v.length → (maxTo v i ≤ b ↔ ∀ j, j ≤ i → rd v (j : Int) ≤ b)
  | 0, _ => ⟨fun h j hj => by rw [show j = 0 by omega]; exact h, fun h => h 0 (Nat.le_refl _)⟩
  | i + 1, hi => by
    have ih := maxTo_le v b i (by omega)
    simp only [maxTo]
    constructor
    · intro h j hj
      by_cases e : j = i + 1
      · subst e
        split at h <;> omega
      · refine ih.1 ?_ j (by omega)
        split at h <;> omega
    · intro h
      have h1 := ih.2 fun j hj => h j (by omega)
      have h2 := h (i + 1) (Nat.le_refl _)
      split
      · exact h2
      · exact h1
end Go.Proofs.Ytagbpiofphgjlaa.Bg
