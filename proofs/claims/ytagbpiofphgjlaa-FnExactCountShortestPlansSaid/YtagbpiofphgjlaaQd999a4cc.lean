/- Texts of this seat's proofs: contracts of its functions and plain laws about them, with no condition beyond those that each theorem states. -/
import Derived.Test.YtagbpiofphgjlaaQebc192c9
import Derived.Test.YtagbpiofphgjlaaQf963fdca
import Derived.Test.YtagbpiofphgjlaaQa63aec36
import Derived.Test.YtagbpiofphgjlaaQe9280fc4
import Derived.Test.YtagbpiofphgjlaaQ6b5d919a
import Derived.Test.YtagbpiofphgjlaaQ65372d46
import Derived.Test.YtagbpiofphgjlaaQf653b09a
import Derived.Test.YtagbpiofphgjlaaQ6b303e28
import Derived.Test.YtagbpiofphgjlaaQ51d42090
import Derived.Test.YtagbpiofphgjlaaQ54974e0c
import Derived.Test.YtagbpiofphgjlaaQ9e1e76ef
namespace Go.Proofs.Ytagbpiofphgjlaa.Bg
open Go.RowKit Go.Proofs.Ytagbpiofphgjlaa.G Go.Proofs.YtagbpiofphgjlaaW.PrintWords Go.Proofs.YtagbpiofphgjlaaW.PrintLast Go.Proofs.YtagbpiofphgjlaaW.PrintMore
def house (l : List S61) (i : Int) : Int := (rd_T61 l i).f0
def farOf (l : List S61) (t : List Int) : Int := t.foldl (fun a i => mx a (house l i)) 0
theorem farOf_snoc (l : List S61) (t : List Int) (i : Int) : farOf l (t ++ [i]) = mx (farOf l t) (house l i) := by simp [farOf]
theorem most_val (a b : Int) : spec_l1Most.f a b = some (mx a b) := by
  unfold spec_l1Most.f mx
  by_cases h : a > b
  · rw [if_pos h, if_neg (by omega)]
  · rw [if_neg h]
    by_cases h2 : a < b
    · rw [if_pos h2]
    · rw [if_neg h2, show b = a by omega]
theorem mx_le {a b c : Int} : mx a b ≤ c ↔ a ≤ c ∧ b ≤ c := by
  unfold mx
  split <;> omega
theorem rdL_get {T : List (List Int)} {j : Nat} (h : j < T.length) : rd_L4 T (j : Int) = T[j] := by simp [rd_L4, List.getD, List.getElem?_eq_getElem h]
theorem impl_t_step {p : List Int} {T : List (List Int)} {i : Nat} (k : Nat) (hi : i < p.length) (hn : 0 ≤ rd p (i : Int)) (hno : rd p (i : Int) < (T.length : Int)) (hl : (rd_L4 T (rd p (i : Int))).length ≤ 1000) (hi2 : i ≤ 1000) :
    impl_tripsOf.l0 (k + 1) T p (p.length : Int) (i : Int) = impl_tripsOf.l0 k (T.set (rd p (i : Int)).toNat (rd_L4 T (rd p (i : Int)) ++ [(i : Int)])) p (p.length : Int) ((i + 1 : Nat) : Int) := by
  rw [impl_tripsOf.l0, if_pos (by omega), if_pos (by omega), if_pos (by omega), if_pos hn, if_pos hno, if_pos (by omega), w64 (by omega) (by omega)]
  rfl
theorem spec_f_new {l : List S61} {p out : List Int} {i : Nat} (k : Nat) (hpn : rd p (i : Int) = (out.length : Int)) (hi : i < p.length) (hil : i < l.length) (hi2 : i ≤ 1000) (ho : out.length ≤ 1000) :
    spec_bgFar.l0 (k + 1) l out p (p.length : Int) (i : Int) = spec_bgFar.l0 k l (out ++ [mx 0 (house l (i : Int))]) p (p.length : Int) ((i + 1 : Nat) : Int) := by
  have e : rd (out ++ [0]) (out.length : Int) = 0 := by simp [rd, List.getD]
  have e2 : (out ++ [0]).set out.length (mx 0 (house l (i : Int))) = out ++ [mx 0 (house l (i : Int))] := by
    rw [List.set_append_right _ _ (Nat.le_refl _), Nat.sub_self]
    rfl
  rw [spec_bgFar.l0, hpn, if_pos (by omega), if_pos (by omega), if_pos (by omega), if_pos rfl, if_pos (by omega), Option.bind_some, if_pos (by omega), if_pos (by simp; omega), if_pos (by omega), e, most_val, Option.bind_some, w64 (by omega) (by omega), Int.toNat_natCast, show (rd_T61 l (i : Int)).f0 = house l (i : Int) from rfl, e2]
  rfl
theorem spec_f_old {l : List S61} {p out : List Int} {i : Nat} (k : Nat) (hi : i < p.length) (hil : i < l.length) (hn : 0 ≤ rd p (i : Int)) (hno : rd p (i : Int) < (out.length : Int)) (hi2 : i ≤ 1000) :
    spec_bgFar.l0 (k + 1) l out p (p.length : Int) (i : Int) = spec_bgFar.l0 k l (out.set (rd p (i : Int)).toNat (mx (rd out (rd p (i : Int))) (house l (i : Int)))) p (p.length : Int) ((i + 1 : Nat) : Int) := by
  rw [spec_bgFar.l0, if_pos (by omega), if_pos (by omega), if_pos (by omega), if_neg (by omega), if_pos hn, if_pos hno, if_pos (by omega), most_val, Option.bind_some, w64 (by omega) (by omega), show (rd_T61 l (i : Int)).f0 = house l (i : Int) from rfl]
  rfl
structure Far (l : List S61) (i : Nat) (T : List (List Int)) (F : List Int) : Prop where
  len : F = T.map (farOf l)
  inds : ∀ t ∈ T, t.length ≤ i ∧ ∀ x ∈ t, 0 ≤ x ∧ x < (l.length : Int)
  all : ∀ c : Int, (∀ x ∈ F, x ≤ c) ↔ ∀ j, j < i → house l (j : Int) ≤ c
theorem Far.new {l : List S61} {i : Nat} {T : List (List Int)} {F : List Int} (h : Far l i T F) (hi : i < l.length) (hh : 0 ≤ house l (i : Int)) : Far l (i + 1) (T ++ [[(i : Int)]]) (F ++ [mx 0 (house l (i : Int))]) where
  len := by rw [h.len, List.map_append]; rfl
  inds := fun t ht => by
    rcases List.mem_append.1 ht with ht | ht
    · exact ⟨by have := (h.inds t ht).1; omega, (h.inds t ht).2⟩
    · rw [List.mem_singleton.1 ht]
      exact ⟨by simp, fun x hx => by rw [List.mem_singleton.1 hx]; omega⟩
  all := fun c => by
    have e : mx 0 (house l (i : Int)) = house l (i : Int) := by
      unfold mx
      split <;> omega
    rw [e]
    constructor
    · intro hx j hj
      by_cases ej : j = i
      · subst ej
        exact hx _ (List.mem_append_right _ (List.mem_singleton.2 rfl))
      · exact (h.all c).1 (fun x hxm => hx x (List.mem_append_left _ hxm)) j (by omega)
    · intro hx x hxm
      rcases List.mem_append.1 hxm with hxm | hxm
      · exact (h.all c).2 (fun j hj => hx j (by omega)) x hxm
      · rw [List.mem_singleton.1 hxm]
        exact hx i (by omega)
theorem Far.old {l : List S61} {i n : Nat} {T : List (List Int)} {F : List Int} (h : Far l i T F) (hi : i < l.length) (hn : n < T.length) : Far l (i + 1) (T.set n (T[n] ++ [(i : Int)])) (F.set n (mx (F.getD n 0) (house l (i : Int)))) where
  len := by
    rw [List.map_set, farOf_snoc, h.len]
    congr 2
    simp [List.getD, List.getElem?_eq_getElem hn]
  inds := fun t ht => by
    rcases List.mem_or_eq_of_mem_set ht with ht | ht
    · exact ⟨by have := (h.inds t ht).1; omega, (h.inds t ht).2⟩
    · rw [ht]
      have := h.inds _ (List.getElem_mem hn)
      refine ⟨by simp; omega, fun x hx => ?_⟩
      rcases List.mem_append.1 hx with hx | hx
      · exact this.2 x hx
      · rw [List.mem_singleton.1 hx]
        omega
  all := fun c => by
    have hF : n < F.length := by rw [h.len]; simpa using hn
    have e : F.getD n 0 = F[n] := by simp [List.getD, List.getElem?_eq_getElem hF]
    rw [e]
    constructor
    · intro hx j hj
      have hnew := mx_le.1 (hx _ (List.mem_set hF _))
      by_cases ej : j = i
      · subst ej
        exact hnew.2
      · refine (h.all c).1 (fun x hxm => ?_) j (by omega)
        obtain ⟨m, hm, rfl⟩ := List.getElem_of_mem hxm
        by_cases em : m = n
        · subst em
          exact hnew.1
        · refine hx _ ?_
          have : (F.set n (mx F[n] (house l (i : Int))))[m]? = some F[m] := by
            rw [List.getElem?_set_ne (by omega), List.getElem?_eq_getElem hm]
          exact List.mem_of_getElem? this
    · intro hx x hxm
      have hold := (h.all c).2 fun j hj => hx j (by omega)
      rcases List.mem_or_eq_of_mem_set hxm with hxm | hxm
      · exact hold x hxm
      · rw [hxm, mx_le]
        exact ⟨hold _ (List.getElem_mem hF), hx i (by omega)⟩
theorem trips_l0 (l : List S61) (p : List Int) (hl : l.all parcOk = true) (hpl : p.length = l.length) (hn : l.length ≤ 8) (h : Plan p) : ∀ (d i z : Nat) (T : List (List Int)) (F : List Int), i + d = p.length → T.length = cI p i → cI p i + z = cI p p.length → Far l i T F →
    ∃ (V : List (List Int)) (G : List Int), V.length = cI p p.length ∧ Far l p.length V G ∧ (∀ k, d < k → impl_tripsOf.l0 k (T ++ List.replicate z []) p (p.length : Int) (i : Int) = some V) ∧ ∀ k, d < k → spec_bgFar.l0 k l F p (p.length : Int) (i : Int) = some G := by
  intro d
  induction d with
  | zero =>
    intro i z T F hi ho hz hF
    obtain rfl : i = p.length := by omega
    obtain rfl : z = 0 := by omega
    refine ⟨T, F, ho, hF, fun k hk => ?_, fun k hk => ?_⟩
    · obtain ⟨k, rfl⟩ : ∃ m, k = m + 1 := ⟨k - 1, by omega⟩
      rw [impl_tripsOf.l0, if_neg (by omega)]
      simp
    · obtain ⟨k, rfl⟩ : ∃ m, k = m + 1 := ⟨k - 1, by omega⟩
      rw [spec_bgFar.l0, if_neg (by omega)]
  | succ d ih =>
    intro i z T F hi ho hz hF
    have hp := h i (by omega)
    have hx := parc_get hl (i := i) (by omega)
    have hm := cI_mono p (i + 1) d
    rw [show i + 1 + d = p.length by omega] at hm
    have hci := cI_le p i
    have hFl : F.length = T.length := by rw [hF.len]; simp
    by_cases hnew : rd p (i : Int) = (cI p i : Int)
    · have hc : cI p (i + 1) = cI p i + 1 := by
        simp only [cI]
        rw [if_pos hnew]
      obtain ⟨z, rfl⟩ : ∃ m, z = m + 1 := ⟨z - 1, by omega⟩
      obtain ⟨V, G, hV, hG, k1, k2⟩ := ih (i + 1) z (T ++ [[(i : Int)]]) _ (by omega) (by simp; omega) (by omega) (hF.new (by omega) (by unfold house; omega))
      refine ⟨V, G, hV, hG, fun k hk => ?_, fun k hk => ?_⟩
      · obtain ⟨k, rfl⟩ : ∃ m, k = m + 1 := ⟨k - 1, by omega⟩
        have e0 : rd p (i : Int) = (T.length : Int) := by omega
        have ho0 : rd_L4 (T ++ List.replicate (z + 1) []) (rd p (i : Int)) = [] := by
          rw [e0]
          simp [rd_L4, List.getD]
        rw [impl_t_step k (by omega) hp.1 (by simp; omega) (by rw [ho0]; simp) (by omega), ho0, e0, Int.toNat_natCast, List.set_append_right _ _ (Nat.le_refl _), Nat.sub_self, ← k1 k (by omega), List.append_assoc]
        rfl
      · obtain ⟨k, rfl⟩ : ∃ m, k = m + 1 := ⟨k - 1, by omega⟩
        rw [spec_f_new k (by omega) (by omega) (by omega) (by omega) (by omega)]
        exact k2 k (by omega)
    · have hc : cI p (i + 1) = cI p i := by
        simp only [cI]
        rw [if_neg hnew]
      obtain ⟨n, hn'⟩ : ∃ n : Nat, rd p (i : Int) = (n : Int) := ⟨(rd p (i : Int)).toNat, by omega⟩
      have hlt : n < T.length := by omega
      have hTn := hF.inds _ (List.getElem_mem hlt)
      have hfar := hF.old (by omega : i < l.length) hlt
      obtain ⟨V, G, hV, hG, k1, k2⟩ := ih (i + 1) z _ _ (by omega) (by rw [List.length_set]; omega) (by omega) hfar
      refine ⟨V, G, hV, hG, fun k hk => ?_, fun k hk => ?_⟩
      · obtain ⟨k, rfl⟩ : ∃ m, k = m + 1 := ⟨k - 1, by omega⟩
        have ho0 : rd_L4 (T ++ List.replicate z []) (rd p (i : Int)) = T[n] := by
          rw [hn']
          simp [rd_L4, List.getD, List.getElem?_append_left hlt, List.getElem?_eq_getElem hlt]
        rw [impl_t_step k (by omega) hp.1 (by simp; omega) (by rw [ho0]; omega) (by omega), ho0, hn', Int.toNat_natCast, List.set_append_left _ _ hlt]
        exact k1 k (by omega)
      · obtain ⟨k, rfl⟩ : ∃ m, k = m + 1 := ⟨k - 1, by omega⟩
        rw [spec_f_old k (by omega) (by omega) hp.1 (by omega) (by omega), hn', Int.toNat_natCast]
        exact k2 k (by omega)
theorem trips_both {l : List S61} {p : List Int} (hl : l.all parcOk = true) (hpl : p.length = l.length) (h1 : 1 ≤ l.length) (hn : l.length ≤ 8) (h : Plan p) :
    ∃ (V : List (List Int)) (G : List Int), V.length = cI p p.length ∧ Far l p.length V G ∧ (∀ k, 8 < k → impl_tripsOf.f k p = some V) ∧ ∀ k, 8 < k → spec_bgFar.f k l p = some G := by
  obtain ⟨V, G, hV, hG, k1, k2⟩ := trips_l0 l p hl hpl hn h p.length 0 (cI p p.length) [] [] (by omega) rfl (by show 0 + _ = _; omega) ⟨rfl, fun t ht => (by cases ht), fun c => ⟨fun _ j hj => absurd hj (Nat.not_lt_zero _), fun _ x hx => (by cases hx)⟩⟩
  refine ⟨V, G, hV, hG, fun k hk => ?_, fun k hk => k2 k (by omega)⟩
  have hm := plan_max h (p.length - 1) (by omega)
  rw [show p.length - 1 + 1 = p.length by omega] at hm
  have hle := cI_le p p.length
  have hpos := plan_pos h (by omega)
  unfold impl_tripsOf.f slices_Max_int_int.f
  rw [if_pos (by omega), Option.bind_some, hm, w64 (by omega) (by omega), if_pos (by omega), if_pos (by omega), show ((cI p p.length : Int) - 1 + 1).toNat = cI p p.length by omega]
  exact k1 k (by omega)
theorem length_l0 (l : List S61) (V : List (List Int)) (G : List Int) (hF : Far l l.length V G) (hn : l.length ≤ 8) (hV : V.length ≤ 8) : ∀ (d j : Nat) (s m : Int), j + d = V.length →
    ∃ s' : Int, (∀ k, d * 11 < k → impl_lengthOf.l0 k l s V (V.length : Int) (j : Int) = some s') ∧ ∃ m' : Int, (∀ k, d < k → spec_bgLength.l0 k s m G (G.length : Int) (j : Int) = some (s', m')) ∧ ∀ c, m' ≤ c ↔ m ≤ c ∧ ∀ x ∈ G.drop j, x ≤ c := by
  have hGl : G.length = V.length := by rw [hF.len]; simp
  intro d
  induction d with
  | zero =>
    intro j s m hj
    refine ⟨s, fun k hk => ?_, m, fun k hk => ?_, fun c => ?_⟩
    · obtain ⟨k, rfl⟩ : ∃ m, k = m + 1 := ⟨k - 1, by omega⟩
      rw [impl_lengthOf.l0, if_neg (by omega)]
    · obtain ⟨k, rfl⟩ : ∃ m, k = m + 1 := ⟨k - 1, by omega⟩
      rw [spec_bgLength.l0, if_neg (by omega)]
    · rw [List.drop_eq_nil_of_le (by omega)]
      simp
  | succ d ih =>
    intro j s m hj
    have hjV : j < V.length := by omega
    have hrV := rdL_get hjV
    have hrG : rd G (j : Int) = farOf l V[j] := by
      rw [rd_get (by omega)]
      simp [hF.len]
    obtain ⟨s', k1, m', k2, hm'⟩ := ih (j + 1) (wrap64 (s + wrap64 (2 * farOf l V[j]))) (mx m (farOf l V[j])) (by omega)
    have hin := hF.inds _ (List.getElem_mem hjV)
    have inner : ∀ (e i k : Nat), i + e = V[j].length → e + 1 + d * 11 < k → impl_lengthOf.l1 k l s (farOf l (V[j].take i)) V (V.length : Int) (j : Int) V[j] (V[j].length : Int) (i : Int) = some s' := by
      intro e
      induction e with
      | zero =>
        intro i k hi hk
        obtain ⟨k, rfl⟩ : ∃ m, k = m + 1 := ⟨k - 1, by omega⟩
        rw [impl_lengthOf.l1, if_neg (by omega), List.take_of_length_le (by omega), w64 (x := (j : Int) + 1) (by omega) (by omega)]
        exact k1 k (by omega)
      | succ e ihe =>
        intro i k hi hk
        obtain ⟨k, rfl⟩ : ∃ m, k = m + 1 := ⟨k - 1, by omega⟩
        have hr := rd_get (l := V[j]) (i := i) (by omega)
        have hb := hin.2 V[j][i] (List.getElem_mem (by omega))
        rw [impl_lengthOf.l1, hr, if_pos (by omega), if_pos (by omega), if_pos (by omega), if_pos hb.1, if_pos hb.2, w64 (x := (i : Int) + 1) (by omega) (by omega), show (rd_T61 l V[j][i]).f0 = house l V[j][i] from rfl, ← farOf_snoc, ← List.take_succ_eq_append_getElem (by omega)]
        exact ihe (i + 1) k (by omega) (by omega)
    refine ⟨s', fun k hk => ?_, m', fun k hk => ?_, fun c => ?_⟩
    · obtain ⟨k, rfl⟩ : ∃ m, k = m + 1 := ⟨k - 1, by omega⟩
      rw [impl_lengthOf.l0, if_pos (by omega), if_pos (by omega), if_pos (by omega), hrV]
      exact inner V[j].length 0 k (by omega) (by omega)
    · obtain ⟨k, rfl⟩ : ∃ m, k = m + 1 := ⟨k - 1, by omega⟩
      rw [spec_bgLength.l0, if_pos (by omega), if_pos (by omega), if_pos (by omega), hrG, most_val, Option.bind_some, w64 (x := (j : Int) + 1) (by omega) (by omega)]
      exact k2 k (by omega)
    · have e : G[j]'(by omega) = farOf l V[j] := by
        rw [← hrG, rd_get]
      rw [hm' c, mx_le, List.drop_eq_getElem_cons (l := G) (i := j) (by omega), e]
      simp only [List.mem_cons, forall_eq_or_imp]
      rw [and_assoc]
theorem lengths_both {l : List S61} {p : List Int} (hl : l.all parcOk = true) (hpl : p.length = l.length) (h1 : 1 ≤ l.length) (hn : l.length ≤ 8) (h : Plan p) :
    ∃ s m : Int, (∀ k, 100 < k → impl_lengthOf.f k l p = some s) ∧ (∀ k, 100 < k → spec_bgLength.f k l p = some (s, m)) ∧ ∀ c, m ≤ c ↔ 0 ≤ c ∧ ∀ j, j < l.length → house l (j : Int) ≤ c := by
  obtain ⟨V, G, hV, hF, t1, t2⟩ := trips_both hl hpl h1 hn h
  rw [hpl] at hF
  have hle := cI_le p p.length
  have hGl : G.length = V.length := by rw [hF.len]; simp
  obtain ⟨s, k1, m, k2, hm⟩ := length_l0 l V G hF hn (by omega) V.length 0 0 0 (by omega)
  refine ⟨s, m, fun k hk => ?_, fun k hk => ?_, fun c => ?_⟩
  · unfold impl_lengthOf.f
    rw [t1 k (by omega), Option.bind_some]
    exact k1 k (by omega)
  · unfold spec_bgLength.f
    rw [t2 k (by omega), Option.bind_some]
    exact k2 k (by omega)
  · rw [hm c, List.drop_zero, hF.all c]
end Go.Proofs.Ytagbpiofphgjlaa.Bg
