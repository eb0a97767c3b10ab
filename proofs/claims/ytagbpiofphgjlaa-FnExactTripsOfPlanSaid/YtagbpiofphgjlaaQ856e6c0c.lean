/- Texts of this seat's proofs: contracts of its functions and plain laws about them, with no condition beyond those that each theorem states. -/
import Derived.Test.YtagbpiofphgjlaaQ40edf03d
import Derived.Test.YtagbpiofphgjlaaQ375386e9
import Derived.Test.YtagbpiofphgjlaaQ89e219ce
import Derived.Test.YtagbpiofphgjlaaQcae372f3
import Derived.Test.YtagbpiofphgjlaaQb3932e7d
import Derived.Test.YtagbpiofphgjlaaQ7c2b8257
import Derived.Test.YtagbpiofphgjlaaQ57082d08
import Derived.Test.YtagbpiofphgjlaaQ807fd43b
import Derived.Test.YtagbpiofphgjlaaQf3f7cfa3
import Derived.Test.YtagbpiofphgjlaaQ040c304a
import Derived.Test.YtagbpiofphgjlaaQ2a520276
import Derived.Test.YtagbpiofphgjlaaQ5c6a6c2d
namespace Go.Proofs.Ytagbpiofphgjlaa.Bg
open Go.RowKit Go.Proofs.Ytagbpiofphgjlaa.G Go.Proofs.YtagbpiofphgjlaaW.PrintWords Go.Proofs.YtagbpiofphgjlaaW.PrintLast Go.Proofs.YtagbpiofphgjlaaW.PrintMore
theorem rd_get {l : List Int} {i : Nat} (h : i < l.length) : rd l (i : Int) = l[i] := by simp [rd, List.getD, List.getElem?_eq_getElem h]
theorem equal_l0 (a b : List Int) (hn : a.length ≤ 1000000) (hab : a.length = b.length) : ∀ (d i k : Nat), i + d = a.length → d < k → slices_Equal_int_int.l0 k a b (a.length : Int) (i : Int) = some (decide (a.drop i = b.drop i)) ∧ spec_l1Same.l0 k a b (a.length : Int) (i : Int) = some (decide (a.drop i = b.drop i)) := by
  intro d
  induction d with
  | zero =>
    intro i k hi hk
    obtain ⟨k, rfl⟩ : ∃ m, k = m + 1 := ⟨k - 1, by omega⟩
    simp only [slices_Equal_int_int.l0, spec_l1Same.l0]
    rw [if_neg (by omega), if_neg (by omega), List.drop_eq_nil_of_le (by omega), List.drop_eq_nil_of_le (by omega)]
    simp
  | succ d ih =>
    intro i k hi hk
    obtain ⟨k, rfl⟩ : ∃ m, k = m + 1 := ⟨k - 1, by omega⟩
    simp only [slices_Equal_int_int.l0, spec_l1Same.l0]
    have hi1 := ih (i + 1) k (by omega) (by omega)
    have ha := rd_get (l := a) (i := i) (by omega)
    have hb := rd_get (l := b) (i := i) (by omega)
    have c1 : (i : Int) < (a.length : Int) := by omega
    have c2 : 0 ≤ (i : Int) := by omega
    have c3 : (i : Int) < (b.length : Int) := by omega
    rw [ha, hb, w64 (by omega) (by omega), show ((i : Int) + 1) = ((i + 1 : Nat) : Int) by omega, hi1.1, hi1.2, if_pos c1, if_pos c2, if_pos c1, if_pos c3, List.drop_eq_getElem_cons (l := a) (i := i) (by omega), List.drop_eq_getElem_cons (l := b) (i := i) (by omega)]
    by_cases h : a[i] = b[i]
    · rw [if_pos h, h]
      simp only [List.cons.injEq, true_and, and_self]
    · rw [if_neg h]
      simp only [List.cons.injEq, h, false_and, decide_false, and_self]
theorem equal_k (a b : List Int) (hn : a.length ≤ 1000000) (k : Nat) (hk : a.length < k) : slices_Equal_int_int.f k a b = some (decide (a = b)) ∧ spec_l1Same.f k a b = some (decide (a = b)) := by
  unfold slices_Equal_int_int.f spec_l1Same.f
  by_cases h : a.length = b.length
  · rw [if_pos (by omega), if_pos (by omega)]
    simpa using equal_l0 a b hn h a.length 0 k (by omega) hk
  · rw [if_neg (by omega), if_neg (by omega)]
    have : a ≠ b := fun e => h (by rw [e])
    simp [this]
def cI (p : List Int) : Nat → Nat
  | 0 => 0
  | i + 1 => if rd p (i : Int) = (cI p i : Int) then cI p i + 1 else cI p i
theorem cI_step (p : List Int) (i : Nat) : cI p i ≤ cI p (i + 1) ∧ cI p (i + 1) ≤ cI p i + 1 := by
  simp only [cI]
  split <;> omega
theorem cI_mono (p : List Int) (i : Nat) : ∀ d, cI p i ≤ cI p (i + d)
  | 0 => Nat.le_refl _
  | d + 1 => Nat.le_trans (cI_mono p i d) (cI_step p (i + d)).1
theorem cI_le (p : List Int) : ∀ i, cI p i ≤ i
  | 0 => Nat.le_refl _
  | i + 1 => by have := cI_le p i; have := (cI_step p i).2; omega
def Plan (p : List Int) : Prop := ∀ i, i < p.length → 0 ≤ rd p (i : Int) ∧ rd p (i : Int) ≤ (cI p i : Int)
theorem nmGo_pre : ∀ (t seen acc : List Int), nmGo seen acc t = acc ++ nmGo seen [] t
  | [], _, _ => by simp [nmGo]
  | n :: t, seen, acc => by
    simp only [nmGo]
    split
    · rw [nmGo_pre t _ (acc ++ _), nmGo_pre t _ ([] ++ _)]
      simp
    · rw [nmGo_pre t _ (acc ++ _), nmGo_pre t _ ([] ++ _)]
      simp
theorem nm_plan_go {p : List Int} (h : nm p = p) : ∀ i, i ≤ p.length → nmGo (line 0 (cI p i)) (p.take i) (p.drop i) = p ∧ ∀ j, j < i → 0 ≤ rd p (j : Int) ∧ rd p (j : Int) ≤ (cI p j : Int) := by
  intro i
  induction i with
  | zero => exact fun _ => ⟨by simpa [nm, cI, line] using h, fun j hj => absurd hj (Nat.not_lt_zero _)⟩
  | succ i ih =>
    intro hi
    obtain ⟨h1, h2⟩ := ih (by omega)
    rw [List.drop_eq_getElem_cons (by omega)] at h1
    have hix := ix_le (line 0 (cI p i)) p[i]
    rw [line_len] at hix
    have hrd := rd_get (l := p) (i := i) (by omega)
    simp only [nmGo, line_len] at h1
    have key : p[i] = (ix (line 0 (cI p i)) p[i] : Int) := by
      have e : ∀ (s : List Int), nmGo s (p.take i ++ [(ix (line 0 (cI p i)) p[i] : Int)]) (p.drop (i + 1)) = p → p[i] = (ix (line 0 (cI p i)) p[i] : Int) := by
        intro s hs
        rw [nmGo_pre] at hs
        have h3 : p[i]? = some (ix (line 0 (cI p i)) p[i] : Int) := by
          conv => lhs; rw [← hs]
          rw [List.append_assoc, List.getElem?_append_right (by simp; omega)]
          simp [show i - min i p.length = 0 by omega]
        rw [List.getElem?_eq_getElem (by omega)] at h3
        exact Option.some.inj h3
      split at h1
      · exact e _ h1
      · exact e _ h1
    refine ⟨?_, fun j hj => ?_⟩
    · rw [List.take_succ_eq_append_getElem (by omega)]
      by_cases hm : ix (line 0 (cI p i)) p[i] = cI p i
      · rw [if_pos hm] at h1
        have hc : cI p (i + 1) = cI p i + 1 := by
          simp only [cI]
          rw [hrd, if_pos (by omega)]
        rw [hc, line_snoc]
        rw [← key] at h1
        rw [show ((0 + cI p i : Nat) : Int) = p[i] by omega]
        exact h1
      · rw [if_neg hm] at h1
        have hc : cI p (i + 1) = cI p i := by
          simp only [cI]
          rw [hrd, if_neg (by omega)]
        rw [hc]
        rw [← key] at h1
        exact h1
    · by_cases e : j = i
      · subst e
        rw [hrd]
        omega
      · exact h2 j (by omega)
theorem nm_plan {p : List Int} (h : nm p = p) : Plan p := fun i hi => (nm_plan_go h p.length (Nat.le_refl _)).2 i hi
theorem plan_max {p : List Int} (h : Plan p) : ∀ i, i < p.length → (maxTo p i : Int) = (cI p (i + 1) : Int) - 1
  | 0, hi => by
    have := h 0 hi
    have e : cI p 0 = 0 := rfl
    have e2 : rd p ((0 : Nat) : Int) = rd p 0 := rfl
    rw [e, e2] at this
    have e3 : rd p 0 = 0 := by omega
    simp [maxTo, cI, e3]
  | i + 1, hi => by
    have ih := plan_max h i (by omega)
    have hp := h (i + 1) hi
    have hc : cI p (i + 1 + 1) = if rd p ((i + 1 : Nat) : Int) = (cI p (i + 1) : Int) then cI p (i + 1) + 1 else cI p (i + 1) := rfl
    simp only [maxTo]
    split
    · rw [hc, if_pos (by omega)]
      omega
    · rw [hc, if_neg (by omega)]
      omega
theorem plan_pos {p : List Int} (h : Plan p) (hp : 1 ≤ p.length) : 1 ≤ cI p p.length := by
  have := h 0 (by omega)
  have e : cI p 0 = 0 := rfl
  have e2 : rd p ((0 : Nat) : Int) = rd p 0 := rfl
  rw [e, e2] at this
  have e1 : cI p 1 = 1 := by
    have e3 : rd p 0 = 0 := by omega
    simp [cI, e3]
  have := cI_mono p 1 (p.length - 1)
  rw [show 1 + (p.length - 1) = p.length by omega] at this
  omega
theorem rd_left {a b : List Int} {n : Int} (h0 : 0 ≤ n) (h : n < (a.length : Int)) : rd (a ++ b) n = rd a n := by
  obtain ⟨m, rfl⟩ : ∃ m : Nat, n = m := ⟨n.toNat, by omega⟩
  simp [rd, List.getD, List.getElem?_append_left (show m < a.length by omega)]
theorem rd_mem {a : List Int} {n : Int} (h0 : 0 ≤ n) (h : n < (a.length : Int)) : rd a n ∈ a := by
  obtain ⟨m, rfl⟩ : ∃ m : Nat, n = m := ⟨n.toNat, by omega⟩
  rw [rd_get (by omega)]
  exact List.getElem_mem _
theorem parc_get {l : List S61} (hl : l.all parcOk = true) {i : Nat} (h : i < l.length) : 1 ≤ (rd_T61 l (i : Int)).f1 ∧ (rd_T61 l (i : Int)).f1 ≤ 1000 ∧ 1 ≤ (rd_T61 l (i : Int)).f0 ∧ (rd_T61 l (i : Int)).f0 ≤ 100 := by
  have hx : l[i]? = some l[i] := List.getElem?_eq_getElem h
  have hrd : rd_T61 l (i : Int) = l[i] := by simp [rd_T61, List.getD, hx]
  rw [hrd]
  have := List.all_eq_true.1 hl l[i] (List.getElem_mem h)
  unfold parcOk at this
  simp at this
  omega
theorem impl_w_step {l : List S61} {p out : List Int} {i : Nat} {n wt o : Int} (k : Nat) (hpn : rd p (i : Int) = n) (hw : (rd_T61 l (i : Int)).f1 = wt) (hi : i < p.length) (hil : i < l.length) (hn : 0 ≤ n) (hno : n < (out.length : Int)) (ho : rd out n = o) (hi2 : i ≤ 1000) (hb : -1000000 ≤ o + wt ∧ o + wt ≤ 1000000) :
    impl_weightsOf.l0 (k + 1) l out p (p.length : Int) (i : Int) = impl_weightsOf.l0 k l (out.set n.toNat (o + wt)) p (p.length : Int) ((i + 1 : Nat) : Int) := by
  rw [impl_weightsOf.l0, hpn, hw, ho, if_pos (by omega), if_pos (by omega), if_pos (by omega), if_pos hn, if_pos hno, if_pos (by omega), w64 (x := o + wt) (by omega) (by omega), w64 (by omega) (by omega)]
  rfl
theorem spec_w_new {l : List S61} {p out : List Int} {i : Nat} {wt : Int} (k : Nat) (hpn : rd p (i : Int) = (out.length : Int)) (hw : (rd_T61 l (i : Int)).f1 = wt) (hi : i < p.length) (hil : i < l.length) (hi2 : i ≤ 1000) (ho : out.length ≤ 1000) (hb : -1000000 ≤ wt ∧ wt ≤ 1000000) :
    spec_bgWeights.l0 (k + 1) l out p (p.length : Int) (i : Int) = spec_bgWeights.l0 k l (out ++ [wt]) p (p.length : Int) ((i + 1 : Nat) : Int) := by
  have e : rd (out ++ [0]) (out.length : Int) = 0 := by simp [rd, List.getD]
  have e2 : (out ++ [0]).set out.length wt = out ++ [wt] := by
    rw [List.set_append_right _ _ (Nat.le_refl _), Nat.sub_self]
    rfl
  rw [spec_bgWeights.l0, hpn, hw, if_pos (by omega), if_pos (by omega), if_pos (by omega), if_pos rfl, if_pos (by omega), Option.bind_some, if_pos (by omega), if_pos (by simp; omega), if_pos (by omega), e, Int.zero_add, w64 (x := wt) (by omega) (by omega), w64 (by omega) (by omega), Int.toNat_natCast, e2]
  rfl
theorem spec_w_old {l : List S61} {p out : List Int} {i : Nat} {n wt o : Int} (k : Nat) (hpn : rd p (i : Int) = n) (hw : (rd_T61 l (i : Int)).f1 = wt) (hi : i < p.length) (hil : i < l.length) (hn : 0 ≤ n) (hno : n < (out.length : Int)) (ho : rd out n = o) (hi2 : i ≤ 1000) (hb : -1000000 ≤ o + wt ∧ o + wt ≤ 1000000) :
    spec_bgWeights.l0 (k + 1) l out p (p.length : Int) (i : Int) = spec_bgWeights.l0 k l (out.set n.toNat (o + wt)) p (p.length : Int) ((i + 1 : Nat) : Int) := by
  rw [spec_bgWeights.l0, hpn, hw, ho, if_pos (by omega), if_pos (by omega), if_pos (by omega), if_neg (by omega), if_pos hn, if_pos hno, if_pos (by omega), w64 (x := o + wt) (by omega) (by omega), w64 (by omega) (by omega)]
  rfl
theorem weights_l0 (l : List S61) (p : List Int) (hl : l.all parcOk = true) (hpl : p.length = l.length) (hn : l.length ≤ 8) (h : Plan p) : ∀ (d i z : Nat) (out : List Int), i + d = p.length → out.length = cI p i → cI p i + z = cI p p.length → (∀ x ∈ out, 1 ≤ x ∧ x ≤ 1000 * (i : Int)) →
    ∃ v : List Int, v.length = cI p p.length ∧ (∀ x ∈ v, 1 ≤ x ∧ x ≤ 8000) ∧ (∀ k, d < k → impl_weightsOf.l0 k l (out ++ List.replicate z 0) p (p.length : Int) (i : Int) = some v) ∧ ∀ k, d < k → spec_bgWeights.l0 k l out p (p.length : Int) (i : Int) = some v := by
  intro d
  induction d with
  | zero =>
    intro i z out hi ho hz hb
    obtain rfl : i = p.length := by omega
    obtain rfl : z = 0 := by omega
    refine ⟨out, ho, fun x hx => by have := hb x hx; omega, fun k hk => ?_, fun k hk => ?_⟩
    · obtain ⟨k, rfl⟩ : ∃ m, k = m + 1 := ⟨k - 1, by omega⟩
      rw [impl_weightsOf.l0, if_neg (by omega)]
      simp
    · obtain ⟨k, rfl⟩ : ∃ m, k = m + 1 := ⟨k - 1, by omega⟩
      rw [spec_bgWeights.l0, if_neg (by omega)]
  | succ d ih =>
    intro i z out hi ho hz hb
    have hp := h i (by omega)
    have hx := parc_get hl (i := i) (by omega)
    have hm := cI_mono p (i + 1) d
    rw [show i + 1 + d = p.length by omega] at hm
    have hci := cI_le p i
    by_cases hnew : rd p (i : Int) = (cI p i : Int)
    · have hc : cI p (i + 1) = cI p i + 1 := by
        simp only [cI]
        rw [if_pos hnew]
      obtain ⟨z, rfl⟩ : ∃ m, z = m + 1 := ⟨z - 1, by omega⟩
      have hb' : ∀ x ∈ out ++ [(rd_T61 l (i : Int)).f1], 1 ≤ x ∧ x ≤ 1000 * ((i + 1 : Nat) : Int) := by
        intro x hx'
        rcases List.mem_append.1 hx' with hx' | hx'
        · have := hb x hx'
          omega
        · have := List.mem_singleton.1 hx'
          omega
      obtain ⟨v, hv, hvb, k1, k2⟩ := ih (i + 1) z (out ++ [(rd_T61 l (i : Int)).f1]) (by omega) (by simp; omega) (by omega) hb'
      refine ⟨v, hv, hvb, fun k hk => ?_, fun k hk => ?_⟩
      · obtain ⟨k, rfl⟩ : ∃ m, k = m + 1 := ⟨k - 1, by omega⟩
        have ho0 : rd (out ++ List.replicate (z + 1) 0) (out.length : Int) = 0 := by simp [rd, List.getD]
        rw [impl_w_step k (hnew.trans (by rw [ho])) rfl (by omega) (by omega) (by omega) (by simp; omega) ho0 (by omega) (by omega), Int.zero_add, Int.toNat_natCast, List.set_append_right _ _ (Nat.le_refl _), Nat.sub_self, ← k1 k (by omega), List.append_assoc]
        rfl
      · obtain ⟨k, rfl⟩ : ∃ m, k = m + 1 := ⟨k - 1, by omega⟩
        rw [spec_w_new k (hnew.trans (by rw [ho])) rfl (by omega) (by omega) (by omega) (by omega) (by omega)]
        exact k2 k (by omega)
    · have hc : cI p (i + 1) = cI p i := by
        simp only [cI]
        rw [if_neg hnew]
      have hlt : rd p (i : Int) < (out.length : Int) := by omega
      have hmem := hb _ (rd_mem hp.1 hlt)
      have hb' : ∀ x ∈ out.set (rd p (i : Int)).toNat (rd out (rd p (i : Int)) + (rd_T61 l (i : Int)).f1), 1 ≤ x ∧ x ≤ 1000 * ((i + 1 : Nat) : Int) := by
        intro x hx'
        rcases List.mem_or_eq_of_mem_set hx' with hx' | hx'
        · have := hb x hx'
          omega
        · omega
      obtain ⟨v, hv, hvb, k1, k2⟩ := ih (i + 1) z _ (by omega) (by rw [List.length_set]; omega) (by omega) hb'
      refine ⟨v, hv, hvb, fun k hk => ?_, fun k hk => ?_⟩
      · obtain ⟨k, rfl⟩ : ∃ m, k = m + 1 := ⟨k - 1, by omega⟩
        rw [impl_w_step k rfl rfl (by omega) (by omega) hp.1 (by simp; omega) (rd_left hp.1 hlt) (by omega) (by omega), List.set_append_left _ _ (by omega)]
        exact k1 k (by omega)
      · obtain ⟨k, rfl⟩ : ∃ m, k = m + 1 := ⟨k - 1, by omega⟩
        rw [spec_w_old k rfl rfl (by omega) (by omega) hp.1 hlt rfl (by omega) (by omega)]
        exact k2 k (by omega)
theorem weights_both {l : List S61} {p : List Int} (hl : l.all parcOk = true) (hpl : p.length = l.length) (h1 : 1 ≤ l.length) (hn : l.length ≤ 8) (h : Plan p) :
    ∃ v : List Int, v.length = cI p p.length ∧ (∀ x ∈ v, 1 ≤ x ∧ x ≤ 8000) ∧ (∀ k, 8 < k → impl_weightsOf.f k l p = some v) ∧ ∀ k, 8 < k → spec_bgWeights.f k l p = some v := by
  obtain ⟨v, hv, hvb, k1, k2⟩ := weights_l0 l p hl hpl hn h p.length 0 (cI p p.length) [] (by omega) rfl (by show 0 + _ = _; omega) (fun x hx => by cases hx)
  refine ⟨v, hv, hvb, fun k hk => ?_, fun k hk => k2 k (by omega)⟩
  have hm := plan_max h (p.length - 1) (by omega)
  rw [show p.length - 1 + 1 = p.length by omega] at hm
  have hle := cI_le p p.length
  have hpos := plan_pos h (by omega)
  unfold impl_weightsOf.f slices_Max_int_int.f
  rw [if_pos (by omega), Option.bind_some, hm, w64 (by omega) (by omega), if_pos (by omega), if_pos (by omega), show ((cI p p.length : Int) - 1 + 1).toNat = cI p p.length by omega]
  exact k1 k (by omega)
theorem maxTo_le (v : List Int) (b : Int) : ∀ i, i < v.length → (maxTo v i ≤ b ↔ ∀ j, j ≤ i → rd v (j : Int) ≤ b)
  | 0, _ => ⟨fun h j hj => by rw [show j = 0 by omega]; exact h, fun h => h 0 (Nat.le_refl _)⟩
  | i + 1, hi => by
    have ih := maxTo_le v b i (by omega)
    simp only [maxTo]
    constructor
    · intro h j hj
      by_cases e : j = i + 1
      · subst e
        split at h <;> omega
      · refine ih.1 ?_ j (by omega)
        split at h <;> omega
    · intro h
      have h1 := ih.2 fun j hj => h j (by omega)
      have h2 := h (i + 1) (Nat.le_refl _)
      split
      · exact h2
      · exact h1
theorem plan_both (l : List S61) (b : Int) (p : List Int) (hf : fits l b = true) : ∃ t : Bool, Ev (fun k => spec_bgPlan.f k l b p) t ∧ Ev (fun k => impl_isBagPlan.f k l b p) t ∧ (t = true → p.length = l.length ∧ Plan p) := by
  obtain ⟨hl1, hl8, hb1, hb2, hall⟩ := fits_facts hf
  by_cases hlen : p.length = l.length
  · obtain ⟨K1, h1⟩ := bgNamed_ev p (by omega)
    have h1 : ∀ k, K1 ≤ k → spec_bgNamed.f k p = some (nm p) := h1
    obtain ⟨K2, h2⟩ := named_ev p (by omega)
    have h2 : ∀ k, K2 ≤ k → impl_named.f k p = some (nm p) := h2
    have hnl := nm_len p
    by_cases hnm : nm p = p
    · have hpl := nm_plan hnm
      obtain ⟨v, hv, hvb, w1, w2⟩ := weights_both hall hlen hl1 hl8 hpl
      have hpos := plan_pos hpl (by omega)
      have hcle := cI_le p p.length
      have hall2 : (v.all fun x => decide (x ≥ 1) && decide (x ≤ b)) = decide (maxTo v (v.length - 1) ≤ b) := by
        rw [Bool.eq_iff_iff, List.all_eq_true, decide_eq_true_eq, maxTo_le v b _ (by omega)]
        constructor
        · intro hx j hj
          have := hx _ (rd_mem (a := v) (n := (j : Int)) (by omega) (by omega))
          simp at this
          exact this.2
        · intro hx x hxm
          obtain ⟨j, hj, rfl⟩ := List.getElem_of_mem hxm
          have h3 := hx j (by omega)
          rw [rd_get hj] at h3
          have h4 := hvb _ hxm
          simp
          omega
      refine ⟨decide (maxTo v (v.length - 1) ≤ b), ⟨K1 + 20, fun k hk => ?_⟩, ⟨K2 + 20, fun k hk => ?_⟩, fun _ => ⟨hlen, hpl⟩⟩
      · show spec_bgPlan.f k l b p = _
        obtain ⟨k, rfl⟩ : ∃ m, k = m + 1 := ⟨k - 1, by omega⟩
        unfold spec_bgPlan.f
        have h5 : spec_l1All.f k v 1 b = some (v.all fun x => decide (x ≥ 1) && decide (x ≤ b)) := by
          have := (allWithin_l0 v 1 b (by omega) v.length 0 k (by omega) (by omega)).2
          unfold spec_l1All.f
          simpa using this
        rw [if_pos (by omega), h1 (k + 1) (by omega), Option.bind_some, (equal_k (nm p) p (by omega) (k + 1) (by omega)).2, hnm, Option.bind_some, spec_bgPlan.j0, if_neg (by simp), w2 k (by omega), Option.bind_some, h5, Option.bind_some, hall2]
      · show impl_isBagPlan.f k l b p = _
        unfold impl_isBagPlan.f
        rw [if_pos (by omega), h2 k (by omega), Option.bind_some, (equal_k (nm p) p (by omega) k (by omega)).1, hnm, Option.bind_some, if_pos (by simp), w1 k (by omega), Option.bind_some]
        unfold slices_Max_int_int.f
        rw [if_pos (by omega), Option.bind_some]
    · refine ⟨false, ⟨K1 + 20, fun k hk => ?_⟩, ⟨K2 + 20, fun k hk => ?_⟩, fun h => by cases h⟩
      · show spec_bgPlan.f k l b p = _
        obtain ⟨k, rfl⟩ : ∃ m, k = m + 1 := ⟨k - 1, by omega⟩
        unfold spec_bgPlan.f
        rw [if_pos (by omega), h1 (k + 1) (by omega), Option.bind_some, (equal_k (nm p) p (by omega) (k + 1) (by omega)).2, Option.bind_some, spec_bgPlan.j0, if_pos (by simp [hnm])]
      · show impl_isBagPlan.f k l b p = _
        unfold impl_isBagPlan.f
        rw [if_pos (by omega), h2 k (by omega), Option.bind_some, (equal_k (nm p) p (by omega) k (by omega)).1, Option.bind_some, if_neg (by simp [hnm])]
  · refine ⟨false, ⟨1, fun k hk => ?_⟩, ⟨0, fun k _ => ?_⟩, fun h => by cases h⟩
    · show spec_bgPlan.f k l b p = _
      obtain ⟨k, rfl⟩ : ∃ m, k = m + 1 := ⟨k - 1, by omega⟩
      unfold spec_bgPlan.f
      rw [if_neg (by omega), spec_bgPlan.j0, if_pos rfl]
    · show impl_isBagPlan.f k l b p = _
      unfold impl_isBagPlan.f
      rw [if_neg (by omega)]
theorem asked_both (l : List S61) (b : Int) (p : List Int) : ∃ t : Bool, Ev (fun k => spec_bgBoth.f k l b p) t ∧ (t = true → fits l b = true ∧ Ev (fun k => impl_isBagPlan.f k l b p) true ∧ p.length = l.length ∧ Plan p) ∧ (t = false → fits l b = false ∨ (fits l b = true ∧ Ev (fun k => impl_isBagPlan.f k l b p) false)) := by
  obtain ⟨K, h⟩ := bgAsked_ev l b
  have h : ∀ k, K ≤ k → spec_bgAsked.f k l b = some (fits l b) := h
  cases hf : fits l b with
  | false => exact ⟨false, ⟨K, fun k hk => by simp [spec_bgBoth.f, h k hk, hf]⟩, fun e => (by cases e), fun _ => Or.inl rfl⟩
  | true =>
    obtain ⟨t, ⟨K1, h1⟩, h2, h3⟩ := plan_both l b p hf
    have h1 : ∀ k, K1 ≤ k → spec_bgPlan.f k l b p = some t := h1
    refine ⟨t, ⟨K + K1, fun k hk => by simp [spec_bgBoth.f, h k (by omega), hf, h1 k (by omega)]⟩, fun e => ?_, fun e => Or.inr ⟨rfl, ?_⟩⟩
    · subst e
      exact ⟨rfl, h2, h3 rfl⟩
    · subst e
      exact h2
end Go.Proofs.Ytagbpiofphgjlaa.Bg
