/- Texts of this seat's proofs: contracts of its functions and plain laws about them, with no condition beyond those that each theorem states. -/
import Derived.Test.YtagbpiofphgjlaaQ3844345b
import Derived.Test.YtagbpiofphgjlaaQa78498bd
import Derived.Test.YtagbpiofphgjlaaQdb849210
import Derived.Test.YtagbpiofphgjlaaQ8e329c78
import Derived.Test.YtagbpiofphgjlaaQe61c5e00
import Derived.Test.YtagbpiofphgjlaaQ693f8453
namespace Go.Proofs.Ytagbpiofphgjlaa.Bg
open Go.RowKit Go.Proofs.Ytagbpiofphgjlaa.G Go.Proofs.YtagbpiofphgjlaaW.PrintWords Go.Proofs.YtagbpiofphgjlaaW.PrintLast Go.Proofs.YtagbpiofphgjlaaW.PrintMore
def sumTo (l : List S61) : Nat → Int
  | 0 => 0
  | i + 1 => sumTo l i + wt l i
theorem wt_range {l : List S61} (hl : l.all parcOk = true) {i : Nat} (hi : i < l.length) : 1 ≤ wt l i ∧ wt l i ≤ 1000 := by
  have := parc_get hl hi
  exact ⟨this.1, this.2.1⟩
theorem sumTo_range {l : List S61} (hl : l.all parcOk = true) : ∀ i, i ≤ l.length → 0 ≤ sumTo l i ∧ sumTo l i ≤ 1000 * (i : Int)
  | 0, _ => by simp [sumTo]
  | i + 1, h => by
    have := sumTo_range hl i (by omega)
    have := wt_range hl (i := i) (by omega)
    simp only [sumTo]
    omega
theorem sumTo_mono {l : List S61} (hl : l.all parcOk = true) (i : Nat) : ∀ d, i + d ≤ l.length → sumTo l i ≤ sumTo l (i + d)
  | 0, _ => by simp
  | d + 1, h => by
    have := sumTo_mono hl i d (by omega)
    have := wt_range hl (i := i + d) (by omega)
    show sumTo l i ≤ sumTo l (i + d) + wt l (i + d)
    omega
theorem sum_val {l : List S61} (hl : l.all parcOk = true) (hn : l.length ≤ 8) : ∀ (d i k : Nat), i + d = l.length → d < k → impl_weightOf.l0 k (sumTo l i) l (l.length : Int) (i : Int) = some (sumTo l l.length) ∧ spec_bgSum.l0 k (sumTo l i) l (l.length : Int) (i : Int) = some (sumTo l l.length) := by
  intro d
  induction d with
  | zero =>
    intro i k hi hk
    obtain ⟨k, rfl⟩ : ∃ m, k = m + 1 := ⟨k - 1, by omega⟩
    rw [impl_weightOf.l0, spec_bgSum.l0, if_neg (by omega), if_neg (by omega), show i = l.length by omega]
    exact ⟨rfl, rfl⟩
  | succ d ih =>
    intro i k hi hk
    obtain ⟨k, rfl⟩ : ∃ m, k = m + 1 := ⟨k - 1, by omega⟩
    have h1 := sumTo_range hl i (by omega)
    have h2 := wt_range hl (i := i) (by omega)
    have e : wrap64 (sumTo l i + (rd_T61 l (i : Int)).f1) = sumTo l (i + 1) := by
      show wrap64 (sumTo l i + wt l i) = _
      rw [w64 (by omega) (by omega)]
      rfl
    have e2 : wrap64 ((i : Int) + 1) = ((i + 1 : Nat) : Int) := by rw [w64 (by omega) (by omega)]; rfl
    rw [impl_weightOf.l0, spec_bgSum.l0, if_pos (by omega), if_pos (by omega), if_pos (by omega), if_pos (by omega), if_pos (by omega), if_pos (by omega), e, e2]
    exact ih (i + 1) k (by omega) (by omega)
theorem okP_fit {l : List S61} (h : okP l = true) : Fit l (sumTo l l.length) := by
  have h1 := okP_len h
  have hl : l.all parcOk = true := by
    unfold okP at h
    exact (Bool.and_eq_true_iff.1 h).2
  refine ⟨hl, h1.1, h1.2, fun i hi => ?_⟩
  have h2 := sumTo_mono hl (i + 1) (l.length - (i + 1)) (by omega)
  rw [show i + 1 + (l.length - (i + 1)) = l.length by omega] at h2
  have h3 := (sumTo_range hl i (by omega)).1
  have h4 : sumTo l (i + 1) = sumTo l i + wt l i := rfl
  omega
theorem plGo_first {l : List S61} (h : Fit l (sumTo l l.length)) : ∀ (d : Nat) (p ws : List Int), Pre l p ws → (ws = [] ∧ p = [] ∨ ws = [sumTo l p.length]) → p.length + d = l.length → 1 ≤ p.length + d → ∃ q Q, plGo l (sumTo l l.length) d p ws = q :: Q ∧ q.length = l.length ∧ Pre l q [sumTo l l.length]
  | 0, p, ws, hp, hw, hd, h1 => by
    rcases hw with ⟨_, rfl⟩ | rfl
    · exact absurd h1 (by simp)
    · refine ⟨p, [], rfl, by omega, ?_⟩
      rw [show l.length = p.length by omega]
      exact hp
  | d + 1, p, ws, hp, hw, hd, h1 => by
    have hx := wt_range h.all (i := p.length) (by omega)
    have hs := sumTo_range h.all p.length (by omega)
    have h8 := h.max
    have hm := sumTo_mono h.all (p.length + 1) (l.length - (p.length + 1)) (by omega)
    rw [show p.length + 1 + (l.length - (p.length + 1)) = l.length by omega] at hm
    have h4 : sumTo l (p.length + 1) = sumTo l p.length + wt l p.length := rfl
    have hle := hp.le
    have hn : bpNext ws 0 (wt l p.length) = [sumTo l (p.length + 1)] := by
      rcases hw with ⟨rfl, rfl⟩ | rfl
      · unfold bpNext
        have hx0 : 1 ≤ wt l 0 ∧ wt l 0 ≤ 1000 := hx
        have e : wrap64 (rd ([] ++ [0]) ((0 : Nat) : Int) + wt l 0) = sumTo l (0 + 1) := by
          show wrap64 (0 + wt l 0) = 0 + wt l 0
          exact w64 (by omega) (by omega)
        simp only [List.length_nil, Nat.lt_irrefl, if_false]
        rw [e]
        rfl
      · unfold bpNext
        have e : wrap64 (rd [sumTo l p.length] ((0 : Nat) : Int) + wt l p.length) = sumTo l (p.length + 1) := by
          show wrap64 (sumTo l p.length + wt l p.length) = _
          rw [w64 (by omega) (by omega), h4]
        simp only [List.length_singleton, Nat.lt_one_iff, if_true]
        rw [e]
        rfl
    have hsn := hp.snoc h.all h.max (by omega) (t := 0) (Nat.zero_le _)
    rw [hn] at hsn
    obtain ⟨q, Q, hq, hq1, hq2⟩ := plGo_first h d (p ++ [((0 : Nat) : Int)]) [sumTo l (p.length + 1)] hsn (.inr (by simp)) (by simp; omega) (by simp; omega)
    refine ⟨q, Q ++ plLoop (plGo l (sumTo l l.length) d) (sumTo l l.length) (wt l p.length) p ws ws.length 1, ?_, hq1, hq2⟩
    simp only [plGo, plLoop]
    rw [hn, if_pos (by show sumTo l (p.length + 1) ≤ _; omega), hq]
    rfl
def hw (v : List Int) : Int := maxTo v (v.length - 1)
theorem fmx_le (c : Int) : ∀ (v : List Int) (m : Int), v.foldl mx m ≤ c ↔ m ≤ c ∧ ∀ x ∈ v, x ≤ c
  | [], m => by simp
  | y :: v, m => by
    rw [List.foldl_cons, fmx_le c v, mx_le]
    simp only [List.mem_cons, forall_eq_or_imp]
    rw [and_assoc]
theorem hw_fold {v : List Int} (h1 : 1 ≤ v.length) (hp : ∀ x ∈ v, 1 ≤ x ∧ x ≤ 8000) : v.foldl mx 0 = hw v := by
  have ha : ∀ x ∈ v, x ≤ hw v := fun x hx => by
    obtain ⟨j, hj, rfl⟩ := List.getElem_of_mem hx
    have := (maxTo_le v (hw v) (v.length - 1) (by omega)).1 (Int.le_refl _) j (by omega)
    rwa [rd_get hj] at this
  have hb : v.foldl mx 0 ≤ hw v := (fmx_le _ v 0).2 ⟨by have h2 := ha v[0] (List.getElem_mem _); have h3 := (hp v[0] (List.getElem_mem _)).1; omega, ha⟩
  have hc : hw v ≤ v.foldl mx 0 := (maxTo_le v _ (v.length - 1) (by omega)).2 fun j hj => by
    rw [rd_get (by omega)]
    exact ((fmx_le _ v 0).1 (Int.le_refl _)).2 _ (List.getElem_mem _)
  omega
theorem hw_range {v : List Int} (h1 : 1 ≤ v.length) (hp : ∀ x ∈ v, 1 ≤ x ∧ x ≤ 8000) : 1 ≤ hw v ∧ hw v ≤ 8000 := by
  have ha := (maxTo_le v (hw v) (v.length - 1) (by omega)).1 (Int.le_refl _) 0 (by omega)
  have h0 := rd_get (l := v) (i := 0) (by omega)
  have hq := hp v[0] (List.getElem_mem _)
  refine ⟨by omega, (maxTo_le v 8000 (v.length - 1) (by omega)).2 fun j hj => ?_⟩
  rw [rd_get (by omega)]
  exact (hp _ (List.getElem_mem _)).2
def wv (l : List S61) (p : List Int) : List Int := (spec_bgWeights.f 9 l p).getD []
theorem wv_both {l : List S61} {p : List Int} (hl : l.all parcOk = true) (hpl : p.length = l.length) (h1 : 1 ≤ l.length) (hn : l.length ≤ 8) (h : Plan p) :
    (wv l p).length = cI p p.length ∧ (∀ x ∈ wv l p, 1 ≤ x ∧ x ≤ 8000) ∧ (∀ k, 8 < k → impl_weightsOf.f k l p = some (wv l p)) ∧ ∀ k, 8 < k → spec_bgWeights.f k l p = some (wv l p) := by
  obtain ⟨v, h1, h2, h3, h4⟩ := weights_both hl hpl h1 hn h
  have e : wv l p = v := by
    unfold wv
    rw [h4 9 (by omega)]
    rfl
  rw [e]
  exact ⟨h1, h2, h3, h4⟩
def lightGo (l : List S61) (trips : Int) : List (List Int) → Int → Int
  | [], b => b
  | p :: ps, b => if ((wv l p).length : Int) > trips then lightGo l trips ps b else lightGo l trips ps (if b < hw (wv l p) then b else hw (wv l p))
theorem lbNum_val {l : List S61} {p : List Int} (hl : l.all parcOk = true) (hpl : p.length = l.length) (h1 : 1 ≤ l.length) (hn : l.length ≤ 8) (h : Plan p) (trips : Int) (k : Nat) (hk : 8 < k) : lbNum k l trips p = some (if ((wv l p).length : Int) > trips then 1000000 else hw (wv l p)) := by
  obtain ⟨a1, a2, a3, a4⟩ := wv_both hl hpl h1 hn h
  have hpos := plan_pos h (by omega)
  unfold lbNum
  rw [countTrips_val l h (by omega) (by omega), Option.bind_some, a3 k hk, Option.bind_some, a1]
  split
  · rfl
  · unfold slices_Max_int_int.f
    rw [if_pos (by omega)]
    rfl
theorem light_rel {l : List S61} (hl : l.all parcOk = true) (h1 : 1 ≤ l.length) (h8 : l.length ≤ 8) (trips : Int) : ∀ (P : List (List Int)) (s : BpSt), (∀ p ∈ P, p.length = l.length ∧ Plan p) → 1 ≤ s.count → s.count + (P.length : Int) ≤ 1000000000 → s.least ≤ 8000 →
    ∃ s', (∀ k, 8 < k → foldB (lbNum k l trips) s P = some s') ∧ s'.least = lightGo l trips P s.least
  | [], s, _, _, _, _ => ⟨s, fun k _ => rfl, rfl⟩
  | p :: P, s, hP, hc, hn, hs => by
    obtain ⟨hp1, hp2⟩ := hP p (List.mem_cons_self ..)
    have hv := fun k hk => lbNum_val hl hp1 h1 h8 hp2 trips k hk
    obtain ⟨a1, a2, _, _⟩ := wv_both hl hp1 h1 h8 hp2
    have hr := hw_range (v := wv l p) (by have := plan_pos hp2 (by omega); omega) a2
    have hrest := fun q hq => hP q (List.mem_cons_of_mem _ hq)
    rw [List.length_cons] at hn
    by_cases hgt : ((wv l p).length : Int) > trips
    · obtain ⟨s', f1, f2⟩ := light_rel hl h1 h8 trips P s hrest hc (by omega) hs
      refine ⟨s', fun k hk => ?_, ?_⟩
      · simp only [foldB, bpLeaf]
        rw [hv k hk, if_pos hgt, Option.bind_some, if_neg (by omega), if_neg (by omega), Option.bind_some]
        exact f1 k hk
      · simp only [lightGo]
        rw [if_pos hgt]
        exact f2
    · by_cases hlt : hw (wv l p) < s.least
      · obtain ⟨s', f1, f2⟩ := light_rel hl h1 h8 trips P ⟨hw (wv l p), 1, p⟩ hrest (by simp) (by simp; omega) hr.2
        refine ⟨s', fun k hk => ?_, ?_⟩
        · simp only [foldB, bpLeaf]
          rw [hv k hk, if_neg hgt, Option.bind_some, if_pos (.inr hlt), Option.bind_some]
          exact f1 k hk
        · simp only [lightGo]
          rw [if_neg hgt, if_neg (by omega)]
          exact f2
      · by_cases he : hw (wv l p) = s.least
        · have e : wrap64 (s.count + 1) = s.count + 1 := w64 (by omega) (by omega)
          obtain ⟨s', f1, f2⟩ := light_rel hl h1 h8 trips P ⟨s.least, s.count + 1, s.best⟩ hrest (by simp; omega) (by simp; omega) hs
          refine ⟨s', fun k hk => ?_, ?_⟩
          · simp only [foldB, bpLeaf]
            rw [hv k hk, if_neg hgt, Option.bind_some, if_neg (by omega), if_pos he, Option.bind_some, e]
            exact f1 k hk
          · simp only [lightGo]
            rw [if_neg hgt, if_neg (by omega), he]
            exact f2
        · obtain ⟨s', f1, f2⟩ := light_rel hl h1 h8 trips P s hrest hc (by omega) hs
          refine ⟨s', fun k hk => ?_, ?_⟩
          · simp only [foldB, bpLeaf]
            rw [hv k hk, if_neg hgt, Option.bind_some, if_neg (by omega), if_neg he, Option.bind_some]
            exact f1 k hk
          · simp only [lightGo]
            rw [if_neg hgt, if_pos (by omega)]
            exact f2
theorem least_val (a b : Int) : spec_l1Least.f a b = some (if a < b then a else b) := by
  unfold spec_l1Least.f
  by_cases h : a < b
  · rw [if_pos h, if_pos h]
  · rw [if_neg h, if_neg h]
theorem light_l1 (l : List S61) (trips best : Int) (A : List (List Int)) (i : Nat) (v : List Int) (hv : v.length ≤ 8) (hi : (i : Int) ≤ 1000000000) : ∀ (e j : Nat) (m : Int) (k : Nat), j + e = v.length →
    spec_LightestBag.l1 (k + e + 1) l trips best m A (A.length : Int) (i : Int) v (v.length : Int) (j : Int) = spec_LightestBag.l0 k l trips (if best < (v.drop j).foldl mx m then best else (v.drop j).foldl mx m) A (A.length : Int) ((i + 1 : Nat) : Int) := by
  intro e
  induction e with
  | zero =>
    intro j m k hj
    have e2 : wrap64 ((i : Int) + 1) = ((i + 1 : Nat) : Int) := by rw [w64 (by omega) (by omega)]; rfl
    rw [spec_LightestBag.l1, if_neg (by omega), least_val, Option.bind_some, e2, List.drop_eq_nil_of_le (by omega)]
    rfl
  | succ e ih =>
    intro j m k hj
    have e2 : wrap64 ((j : Int) + 1) = ((j + 1 : Nat) : Int) := by rw [w64 (by omega) (by omega)]; rfl
    rw [show k + (e + 1) + 1 = (k + e + 1) + 1 by omega, spec_LightestBag.l1, if_pos (by omega), if_pos (by omega), if_pos (by omega), most_val, Option.bind_some, e2, ih (j + 1) _ k (by omega), List.drop_eq_getElem_cons (l := v) (i := j) (by omega), List.foldl_cons, rd_get (by omega)]
theorem light_l0 {l : List S61} (hl : l.all parcOk = true) (h1 : 1 ≤ l.length) (h8 : l.length ≤ 8) (trips : Int) (A : List (List Int)) (hA : A.length ≤ 1000000000) (hP : ∀ p ∈ A, p.length = l.length ∧ Plan p) : ∀ (d i k : Nat) (best : Int), i + d = A.length → d * 10 + 10 < k →
    spec_LightestBag.l0 k l trips best A (A.length : Int) (i : Int) = some (lightGo l trips (A.drop i) best, true) := by
  intro d
  induction d with
  | zero =>
    intro i k best hi hk
    obtain ⟨k, rfl⟩ : ∃ m, k = m + 1 := ⟨k - 1, by omega⟩
    rw [spec_LightestBag.l0, if_neg (by omega), List.drop_eq_nil_of_le (by omega)]
    rfl
  | succ d ih =>
    intro i k best hi hk
    have hiA : i < A.length := Nat.lt_of_lt_of_le (Nat.lt_add_of_pos_right (Nat.succ_pos d)) (Nat.le_of_eq hi)
    obtain ⟨k, rfl⟩ : ∃ m, k = m + 1 := ⟨k - 1, by omega⟩
    obtain ⟨hp1, hp2⟩ := hP A[i] (List.getElem_mem hiA)
    obtain ⟨a1, a2, _, a4⟩ := wv_both hl hp1 h1 h8 hp2
    have hpos := plan_pos hp2 (by omega)
    have hle := cI_le A[i] A[i].length
    have hrow := rdL_get (T := A) (j := i) hiA
    rw [spec_LightestBag.l0, if_pos (by omega), if_pos (by omega), if_pos (by omega), hrow, a4 k (by omega), Option.bind_some, List.drop_eq_getElem_cons (l := A) (i := i) hiA]
    simp only [lightGo]
    by_cases hgt : ((wv l A[i]).length : Int) > trips
    · rw [if_pos hgt, if_pos hgt, w64 (by omega) (by omega)]
      exact ih (i + 1) k best (by omega) (by omega)
    · rw [if_neg hgt, if_neg hgt]
      obtain ⟨k2, rfl⟩ : ∃ m, k = m + (wv l A[i]).length + 1 := ⟨k - (wv l A[i]).length - 1, by omega⟩
      have := light_l1 l trips best A i (wv l A[i]) (by omega) (by omega) (wv l A[i]).length 0 0 k2 (by omega)
      rw [List.drop_zero, hw_fold (by omega) a2] at this
      rw [show ((0 : Nat) : Int) = 0 from rfl] at this
      rw [this]
      exact ih (i + 1) k2 _ (by omega) (by omega)
theorem LightestBag_both (l : List S61) (b : Int) : ∃ v : Int × Bool, Ev (fun k => spec_LightestBag.f k l b) v ∧ Ev (fun k => impl_LightestBag.f k l b) v := by
  obtain ⟨K, h⟩ := bgGood_ev l
  have h : ∀ k, K ≤ k → spec_bgGood.f k l = some (okP l) := h
  cases hok : okP l with
  | false =>
    refine ⟨(0, false), ⟨K + 1, fun k hk => ?_⟩, ⟨0, fun k _ => ?_⟩⟩
    · obtain ⟨k, rfl⟩ : ∃ m, k = m + 1 := ⟨k - 1, by omega⟩
      show spec_LightestBag.f (k + 1) l b = _
      unfold spec_LightestBag.f
      rw [h (k + 1) (by omega), hok, Option.bind_some, if_neg (by decide), spec_LightestBag.j0, if_pos rfl]
    · show impl_LightestBag.f k l b = _
      unfold impl_LightestBag.f
      rw [areParcels_val, hok, Option.bind_some, if_neg (by decide)]
  | true =>
    cases hb : (decide (b ≥ 1) && decide (b ≤ 8)) with
    | false =>
      refine ⟨(0, false), ⟨K + 1, fun k hk => ?_⟩, ⟨0, fun k _ => ?_⟩⟩
      · obtain ⟨k, rfl⟩ : ∃ m, k = m + 1 := ⟨k - 1, by omega⟩
        show spec_LightestBag.f (k + 1) l b = _
        unfold spec_LightestBag.f
        rw [h (k + 1) (by omega), hok, Option.bind_some, if_pos rfl, l1In_is, hb, Option.bind_some, spec_LightestBag.j0, if_pos (show (!false) = true from rfl)]
      · show impl_LightestBag.f k l b = _
        unfold impl_LightestBag.f
        rw [areParcels_val, hok, Option.bind_some, if_pos rfl, within_is', hb, Option.bind_some, if_neg (by decide)]
    | true =>
      have hF := okP_fit hok
      have hb1 : 1 ≤ b := by simp at hb; omega
      have h8 := hF.max
      obtain ⟨q, Q, hq, hq1, hq2⟩ := plGo_first hF l.length [] [] (Pre.nil l) (.inl ⟨rfl, rfl⟩) (Nat.zero_add _) (by have := hF.one; simp; omega)
      have hq : allP l (sumTo l l.length) = q :: Q := hq
      have hmem : ∀ p ∈ q :: Q, p.length = l.length ∧ Plan p := fun p hp => allP_mem hF (by rw [hq]; exact hp)
      have hlen := allP_len hF
      have hS := sumTo_range hF.all l.length (Nat.le_refl _)
      have hwq : wv l q = [sumTo l l.length] := by
        unfold wv
        rw [hq2.wts 9 (by omega)]
        rfl
      have hhw : hw (wv l q) = sumTo l l.length := by rw [hwq]; rfl
      rw [hq, List.length_cons] at hlen
      obtain ⟨s, f1, f2⟩ := light_rel hF.all hF.one h8 b Q ⟨sumTo l l.length, 1, q⟩ (fun p hp => hmem p (List.mem_cons_of_mem _ hp)) (by simp) (by simp; omega) (by simp; omega)
      have hnum := fun k hk => lbNum_val hF.all hq1 hF.one h8 (hmem q (List.mem_cons_self ..)).2 b k hk
      rw [hhw, hwq] at hnum
      have hno : ¬ ((([sumTo l l.length] : List Int).length : Int) > b) := by simp; omega
      refine ⟨(s.least, true), ⟨K + Q.length * 10 + 40, fun k hk => ?_⟩, ⟨9, fun k hk => ?_⟩⟩
      · obtain ⟨k, rfl⟩ : ∃ m, k = m + 1 := ⟨k - 1, by omega⟩
        show spec_LightestBag.f (k + 1) l b = _
        unfold spec_LightestBag.f
        have hsum : spec_bgSum.f k l = some (sumTo l l.length) := (sum_val hF.all h8 l.length 0 k (by omega) (by omega)).2
        have hrun := light_l0 hF.all hF.one h8 b (allP l (sumTo l l.length)) (by rw [hq, List.length_cons]; omega) (by rw [hq]; exact hmem) (Q.length + 1) 0 k (sumTo l l.length) (by rw [hq, List.length_cons]; omega) (by omega)
        rw [h (k + 1) (by omega), hok, Option.bind_some, if_pos rfl, l1In_is, hb, Option.bind_some, spec_LightestBag.j0, if_neg (by decide), hsum, Option.bind_some, bgAll_val hF k (by omega), Option.bind_some]
        rw [show ((0 : Nat) : Int) = 0 from rfl] at hrun
        rw [hrun, List.drop_zero, hq]
        simp only [lightGo]
        rw [hwq, if_neg hno, f2]
        have e : hw [sumTo l l.length] = sumTo l l.length := rfl
        rw [e, if_neg (by omega)]
      · show impl_LightestBag.f k l b = _
        unfold impl_LightestBag.f
        have hsum : impl_weightOf.f k l = some (sumTo l l.length) := (sum_val hF.all h8 l.length 0 k (by omega) (by omega)).1
        rw [areParcels_val, hok, Option.bind_some, if_pos rfl, within_is', hb, Option.bind_some, if_pos rfl, hsum, Option.bind_some, if_pos h8, bpGo_fold]
        show (foldB _ _ (allP l (sumTo l l.length))).bind _ = _
        rw [hq]
        simp only [foldB, bpLeaf]
        rw [hnum k hk, if_neg hno, Option.bind_some, if_pos (by simp), Option.bind_some, f1 k hk, Option.bind_some]
end Go.Proofs.Ytagbpiofphgjlaa.Bg
