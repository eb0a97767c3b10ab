/- Texts of this seat's proofs: contracts of its functions and plain laws about them, with no condition beyond those that each theorem states. -/
import Derived.Test.YtagbpiofphgjlaaQ8bdf0aaa
import Derived.Test.YtagbpiofphgjlaaQ1c3b7df9
import Derived.Test.YtagbpiofphgjlaaQd7823013
import Derived.Test.YtagbpiofphgjlaaQe56df2ce
import Derived.Test.YtagbpiofphgjlaaQac6d627b
import Derived.Test.YtagbpiofphgjlaaQ09a66f32
namespace Go.Proofs.Ytagbpiofphgjlaa.Bg
open Go.RowKit Go.Proofs.Ytagbpiofphgjlaa.G Go.Proofs.YtagbpiofphgjlaaW.PrintWords Go.Proofs.YtagbpiofphgjlaaW.PrintLast Go.Proofs.YtagbpiofphgjlaaW.PrintMore
def tr (p : List Int) (m j : Nat) : List Int := ((List.range m).filter fun i : Nat => decide (rd p (i : Int) = (j : Int))).map fun i : Nat => (i : Int)
theorem tr_succ (p : List Int) (m j : Nat) : tr p (m + 1) j = if rd p (m : Int) = (j : Int) then tr p m j ++ [(m : Int)] else tr p m j := by
  unfold tr
  rw [List.range_succ, List.filter_append, List.map_append]
  by_cases h : rd p (m : Int) = (j : Int)
  · rw [if_pos h]
    simp [h]
  · rw [if_neg h]
    simp [h]
theorem tr_len (p : List Int) (j : Nat) : ∀ m, (tr p m j).length ≤ m
  | 0 => by simp [tr]
  | m + 1 => by
    rw [tr_succ]
    have := tr_len p j m
    split
    · simp; omega
    · omega
def trs (p : List Int) (m n : Nat) : List (List Int) := (List.range n).map (tr p m)
theorem trs_len (p : List Int) (m n : Nat) : (trs p m n).length = n := by simp [trs]
theorem trs_get {p : List Int} {m n j : Nat} (h : j < n) : rd_L4 (trs p m n) (j : Int) = tr p m j := by simp [rd_L4, trs, List.getD, h]
theorem trs_set {p : List Int} {m n j : Nat} (_h : j < n) (hj : rd p (m : Int) = (j : Int)) : (trs p m n).set j (tr p m j ++ [(m : Int)]) = trs p (m + 1) n := by
  apply List.ext_getElem
  · simp [trs]
  · intro i h1 h2
    have hi : i < n := by simpa [trs] using h2
    rw [List.getElem_set]
    by_cases e : j = i
    · subst e
      rw [if_pos rfl]
      simp [trs, tr_succ, hj]
    · rw [if_neg e]
      have : ¬ rd p (m : Int) = (i : Int) := by omega
      simp [trs, tr_succ, this]
theorem impl_trips (p : List Int) (n : Nat) (hp : p.length ≤ 8) (hr : ∀ i, i < p.length → 0 ≤ rd p (i : Int) ∧ rd p (i : Int) < (n : Int)) : ∀ (d i k : Nat), i + d = p.length → d < k → impl_tripsOf.l0 k (trs p i n) p (p.length : Int) (i : Int) = some (trs p p.length n) := by
  intro d
  induction d with
  | zero =>
    intro i k hi hk
    obtain ⟨k, rfl⟩ : ∃ m, k = m + 1 := ⟨k - 1, by omega⟩
    rw [impl_tripsOf.l0, if_neg (by omega), show i = p.length by omega]
  | succ d ih =>
    intro i k hi hk
    obtain ⟨k, rfl⟩ : ∃ m, k = m + 1 := ⟨k - 1, by omega⟩
    have h := hr i (by omega)
    obtain ⟨j, hj⟩ := Int.eq_ofNat_of_zero_le h.1
    have hjn : j < n := by omega
    have hl := tr_len p j i
    have e : wrap64 ((i : Int) + 1) = ((i + 1 : Nat) : Int) := by
      have := w64 (x := (i : Int) + 1) (by omega) (by omega)
      omega
    rw [impl_tripsOf.l0, if_pos (by omega), if_pos (by omega), if_pos (by omega), if_pos h.1, if_pos (by rw [trs_len]; omega), hj, trs_get hjn, if_pos (by omega), e, Int.toNat_natCast, trs_set hjn hj]
    exact ih (i + 1) k (by omega) (by omega)
theorem spec_l1 (p : List Int) (hp : p.length ≤ 8) (out : List (List Int)) (ho : out.length ≤ 8) (j : Nat) (n : Int) (x22 : Int) : ∀ (d i k : Nat), i + d = p.length →
    spec_TripsOfPlan.l1 (k + d + 1) p out (j : Int) (tr p i j) n x22 p (p.length : Int) (i : Int) = spec_TripsOfPlan.l0 k p (out ++ [tr p p.length j]) n (wrap64 (x22 + 1)) := by
  intro d
  induction d with
  | zero =>
    intro i k hi
    rw [spec_TripsOfPlan.l1, if_neg (by omega), if_pos (by omega), show i = p.length by omega]
  | succ d ih =>
    intro i k hi
    have hl := tr_len p j i
    have e : wrap64 ((i : Int) + 1) = ((i + 1 : Nat) : Int) := by
      have := w64 (x := (i : Int) + 1) (by omega) (by omega)
      omega
    have h2 := ih (i + 1) k (by omega)
    rw [tr_succ] at h2
    rw [show k + (d + 1) + 1 = (k + d + 1) + 1 by omega, spec_TripsOfPlan.l1, if_pos (by omega), if_pos (by omega), if_pos (by omega), e]
    by_cases h : rd p (i : Int) = (j : Int)
    · rw [if_pos h] at h2 ⊢
      rw [if_pos (by omega)]
      exact h2
    · rw [if_neg h] at h2 ⊢
      exact h2
theorem trs_snoc (p : List Int) (m n : Nat) : trs p m (n + 1) = trs p m n ++ [tr p m n] := by simp [trs, List.range_succ]
theorem spec_l0 (p : List Int) (hp : p.length ≤ 8) (n : Nat) (hn : n ≤ 8) : ∀ (d j k : Nat), j + d = n → d * 12 < k → spec_TripsOfPlan.l0 k p (trs p p.length j) (n : Int) (j : Int) = some (trs p p.length n, true) := by
  intro d
  induction d with
  | zero =>
    intro j k hj hk
    obtain ⟨k, rfl⟩ : ∃ m, k = m + 1 := ⟨k - 1, by omega⟩
    rw [spec_TripsOfPlan.l0, if_neg (by omega), show j = n by omega]
  | succ d ih =>
    intro j k hj hk
    obtain ⟨k, rfl⟩ : ∃ m, k = (m + p.length + 1) + 1 := ⟨k - p.length - 2, by omega⟩
    have e : wrap64 ((j : Int) + 1) = ((j + 1 : Nat) : Int) := by
      have := w64 (x := (j : Int) + 1) (by omega) (by omega)
      omega
    have h1 := spec_l1 p hp (trs p p.length j) (by rw [trs_len]; omega) j (n : Int) (j : Int) p.length 0 k (by omega)
    rw [show tr p 0 j = [] from rfl, show ((0 : Nat) : Int) = 0 from rfl] at h1
    rw [spec_TripsOfPlan.l0, if_pos (by omega), h1, e, ← trs_snoc]
    exact ih (j + 1) k (by omega) (by omega)
theorem TripsOfPlan_both (l : List S61) (b : Int) (p : List Int) : ∃ v : List (List Int) × Bool, Ev (fun k => spec_TripsOfPlan.f k l b p) v ∧ Ev (fun k => impl_TripsOfPlan.f k l b p) v ∧ v.1.length ≤ 8 ∧ ∀ r ∈ v.1, r.length ≤ 8 := by
  obtain ⟨t, ⟨K, h⟩, ht, hf⟩ := asked_both l b p
  have h : ∀ k, K ≤ k → spec_bgBoth.f k l b p = some t := h
  cases t with
  | false =>
    refine ⟨([], false), ⟨K, fun k hk => by simp [spec_TripsOfPlan.f, h k hk]⟩, ?_, by simp, fun r hr => by cases hr⟩
    rcases hf rfl with e | ⟨e, K2, h2⟩
    · exact ⟨0, fun k _ => by simp [impl_TripsOfPlan.f, fitBag_val, e]⟩
    · have h2 : ∀ k, K2 ≤ k → impl_isBagPlan.f k l b p = some false := h2
      exact ⟨K2, fun k hk => by simp [impl_TripsOfPlan.f, fitBag_val, e, h2 k hk]⟩
  | true =>
    obtain ⟨e, ⟨K2, h2⟩, hlen, hpl⟩ := ht rfl
    have h2 : ∀ k, K2 ≤ k → impl_isBagPlan.f k l b p = some true := h2
    obtain ⟨hl1, hl8, hb1, hb2, hall⟩ := fits_facts e
    obtain ⟨v, hv, hvb, w1, w2⟩ := weights_both hall hlen hl1 hl8 hpl
    have hm := plan_max hpl (p.length - 1) (by omega)
    rw [show p.length - 1 + 1 = p.length by omega] at hm
    have hle := cI_le p p.length
    have hpos := plan_pos hpl (by omega)
    have hr : ∀ i, i < p.length → 0 ≤ rd p (i : Int) ∧ rd p (i : Int) < (cI p p.length : Int) := fun i hi => by
      have h5 := hpl i hi
      have h6 := cI_mono p (i + 1) (p.length - (i + 1))
      rw [show i + 1 + (p.length - (i + 1)) = p.length by omega] at h6
      have h7 : cI p (i + 1) = if rd p (i : Int) = (cI p i : Int) then cI p i + 1 else cI p i := rfl
      split at h7 <;> omega
    have hz : trs p 0 (cI p p.length) = List.replicate (cI p p.length) [] := by
      apply List.ext_getElem
      · simp [trs]
      · intro i h1 h2
        simp [trs, tr]
    refine ⟨(trs p p.length (cI p p.length), true), ⟨K + 120, fun k hk => ?_⟩, ⟨K2 + 20, fun k hk => ?_⟩, by simp [trs_len]; omega, fun r hr => ?_⟩
    · show spec_TripsOfPlan.f k l b p = _
      unfold spec_TripsOfPlan.f
      have h8 := spec_l0 p (by omega) (cI p p.length) (by omega) (cI p p.length) 0 k (by omega) (by omega)
      rw [h k (by omega), Option.bind_some, if_pos rfl, w2 k (by omega), Option.bind_some, hv]
      exact h8
    · show impl_TripsOfPlan.f k l b p = _
      unfold impl_TripsOfPlan.f impl_tripsOf.f slices_Max_int_int.f
      have h8 := impl_trips p (cI p p.length) (by omega) hr p.length 0 k (by omega) (by omega)
      rw [hz] at h8
      rw [fitBag_val, e, Option.bind_some, if_pos rfl, h2 k (by omega), Option.bind_some, if_pos rfl, if_pos (by omega), Option.bind_some, hm, w64 (by omega) (by omega), if_pos (by omega), if_pos (by omega), show ((cI p p.length : Int) - 1 + 1).toNat = cI p p.length by omega]
      rw [show ((0 : Nat) : Int) = 0 from rfl] at h8
      rw [h8, Option.bind_some]
    · simp only [trs, List.mem_map] at hr
      obtain ⟨j, _, rfl⟩ := hr
      have := tr_len p j p.length
      omega
theorem eqIntS_k (r : List Int) (h : r.length ≤ 8) (k : Nat) (hk : 8 < k) : laws_eqIntS.f k r r = some true := by
  unfold laws_eqIntS.f
  rw [if_pos rfl]
  exact eqIntS_l0 r (by omega) r.length 0 k (by omega) (by omega)
theorem eqIntSS_l0 (t : List (List Int)) (ht : t.length ≤ 8) (hr : ∀ r ∈ t, r.length ≤ 8) : ∀ (d i k : Nat), i + d = t.length → d + 9 < k → laws_eqIntSS.l0 k t t (i : Int) = some true := by
  intro d
  induction d with
  | zero =>
    intro i k hi hk
    obtain ⟨k, rfl⟩ : ∃ m, k = m + 1 := ⟨k - 1, by omega⟩
    rw [laws_eqIntSS.l0, if_neg (by omega)]
  | succ d ih =>
    intro i k hi hk
    have hlt : i < t.length := by omega
    obtain ⟨k, rfl⟩ : ∃ m, k = m + 1 := ⟨k - 1, by omega⟩
    have e : wrap64 ((i : Int) + 1) = ((i + 1 : Nat) : Int) := by
      have := w64 (x := (i : Int) + 1) (by omega) (by omega)
      omega
    rw [laws_eqIntSS.l0, if_pos (by omega), if_pos (by omega), if_pos (by omega), rdL_get hlt, eqIntS_k _ (hr _ (List.getElem_mem hlt)) k (by omega), Option.bind_some, if_pos rfl, e]
    exact ih (i + 1) k (by omega) (by omega)
theorem eqIntSS_k (t : List (List Int)) (ht : t.length ≤ 8) (hr : ∀ r ∈ t, r.length ≤ 8) (k : Nat) (hk : 30 < k) : laws_eqIntSS.f k t t = some true := by
  unfold laws_eqIntSS.f
  rw [if_pos rfl]
  exact eqIntSS_l0 t ht hr t.length 0 k (by omega) (by omega)
def lines (s : Nat) : List (List Int) → List (List Int)
  | [] => []
  | r :: rs => line s r.length :: lines (s + r.length) rs
def total : List (List Int) → Nat
  | [] => 0
  | r :: rs => r.length + total rs
theorem markIntS_k (r : List Int) (s : Nat) (h : r.length ≤ 8) (hs : s ≤ 1000) (k : Nat) (hk : 8 < k) : laws_markIntS.f k r (s : Int) = some (((s + r.length : Nat) : Int), line s r.length) := by
  unfold laws_markIntS.f
  have := markIntS_l0 r s (by omega) (by omega) r.length 0 k (by omega) (by omega)
  simpa [line] using this
theorem mkss_val (k : Nat) (hk : 8 < k) : ∀ (rest done : List (List Int)) (s : Nat), (∀ r ∈ rest, r.length ≤ 8) → s + 8 * rest.length ≤ 1000 → mkss k rest.length done.length (done ++ rest) (s : Int) = some (((s + total rest : Nat) : Int), done ++ lines s rest)
  | [], done, s, _, _ => by simp [mkss, total, lines]
  | r :: rest, done, s, hr, hs => by
    have h1 := hr r (List.mem_cons_self ..)
    rw [List.length_cons] at hs
    have hg : (done ++ r :: rest).getD done.length [] = r := by simp [List.getD]
    have hset : (done ++ r :: rest).set done.length (line s r.length) = done ++ [line s r.length] ++ rest := by
      rw [List.set_append_right _ _ (Nat.le_refl _), Nat.sub_self]
      simp
    have ih := mkss_val k hk rest (done ++ [line s r.length]) (s + r.length) (fun q hq => hr q (List.mem_cons_of_mem _ hq)) (by omega)
    simp only [List.length_cons, mkss]
    rw [hg, markIntS_k r s h1 (by omega) k hk, Option.bind_some]
    simp only
    rw [hset]
    rw [List.length_append, List.length_singleton] at ih
    rw [ih]
    simp [lines, total, Nat.add_assoc]
theorem held_l0 (s n : Nat) (hn : n ≤ 1000) (hs : s ≤ 100000) : ∀ (d i k : Nat), i + d = n → d < k → laws_heldIntS.l0 k (line s n) ((s + i : Nat) : Int) (i : Int) = some ((s + n : Nat) : Int) := by
  intro d
  induction d with
  | zero =>
    intro i k hi hk
    obtain ⟨k, rfl⟩ : ∃ m, k = m + 1 := ⟨k - 1, by omega⟩
    rw [laws_heldIntS.l0, if_neg (by rw [line_len]; omega), show i = n by omega]
  | succ d ih =>
    intro i k hi hk
    obtain ⟨k, rfl⟩ : ∃ m, k = m + 1 := ⟨k - 1, by omega⟩
    have hin : i < (line s n).length := by rw [line_len]; omega
    have hg : rd (line s n) (i : Int) = ((s + i : Nat) : Int) := by
      rw [rd_get hin]
      have := line_get s n i (by omega)
      rw [List.getElem?_eq_getElem hin] at this
      exact Option.some.inj this
    have e1 : wrap64 (((s + i : Nat) : Int) + 1) = ((s + (i + 1) : Nat) : Int) := by
      have := w64 (x := ((s + i : Nat) : Int) + 1) (by omega) (by omega)
      omega
    have e2 : wrap64 ((i : Int) + 1) = ((i + 1 : Nat) : Int) := by
      have := w64 (x := (i : Int) + 1) (by omega) (by omega)
      omega
    rw [laws_heldIntS.l0, if_pos (by rw [line_len]; omega), if_pos (by omega), hg, if_pos rfl, e1, e2]
    exact ih (i + 1) k (by omega) (by omega)
theorem heldSS_l0 : ∀ (rest done : List (List Int)) (s k : Nat), (∀ r ∈ rest, r.length ≤ 8) → s + 8 * rest.length ≤ 1000 → done.length + rest.length ≤ 1000 → rest.length + 20 < k → laws_heldIntSS.l0 k (done ++ lines s rest) (s : Int) (done.length : Int) = some ((s + total rest : Nat) : Int)
  | [], done, s, k, _, _, _, hk => by
    obtain ⟨k, rfl⟩ : ∃ m, k = m + 1 := ⟨k - 1, by omega⟩
    rw [laws_heldIntSS.l0, if_neg (by simp [lines])]
    simp [total]
  | r :: rest, done, s, k, hr, hs, hd, hk => by
    have h1 := hr r (List.mem_cons_self ..)
    rw [List.length_cons] at hs hd hk
    obtain ⟨k, rfl⟩ : ∃ m, k = m + 1 := ⟨k - 1, by omega⟩
    have hlen : done.length < (done ++ lines s (r :: rest)).length := by simp [lines]
    have hg : rd_L4 (done ++ lines s (r :: rest)) (done.length : Int) = line s r.length := by
      rw [rdL_get hlen]
      simp [lines]
    have hh : laws_heldIntS.f k (line s r.length) (s : Int) = some ((s + r.length : Nat) : Int) := held_l0 s r.length (by omega) (by omega) r.length 0 k (by omega) (by omega)
    have e2 : wrap64 ((done.length : Int) + 1) = ((done.length + 1 : Nat) : Int) := by
      have := w64 (x := (done.length : Int) + 1) (by omega) (by omega)
      omega
    have ih := heldSS_l0 rest (done ++ [line s r.length]) (s + r.length) k (fun q hq => hr q (List.mem_cons_of_mem _ hq)) (by omega) (by rw [List.length_append, List.length_singleton]; omega) (by omega)
    rw [laws_heldIntSS.l0, if_pos (by omega), if_pos (by omega), hg, hh, Option.bind_some, if_neg (by omega), e2]
    rw [List.length_append, List.length_singleton] at ih
    simp only [lines, total]
    rw [show done ++ line s r.length :: lines (s + r.length) rest = done ++ [line s r.length] ++ lines (s + r.length) rest by simp, ih, Nat.add_assoc]
end Go.Proofs.Ytagbpiofphgjlaa.Bg
