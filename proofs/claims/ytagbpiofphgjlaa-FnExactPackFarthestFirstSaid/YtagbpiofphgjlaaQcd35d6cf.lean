/- Texts of this seat's proofs: contracts of its functions and plain laws about them, with no condition beyond those that each theorem states. -/
import Derived.Test.YtagbpiofphgjlaaQ89e1dc6d
import Derived.Test.YtagbpiofphgjlaaQ9de27c14
import Derived.Test.YtagbpiofphgjlaaQ8cb3c335
import Derived.Test.YtagbpiofphgjlaaQee1cfa5c
import Derived.Test.YtagbpiofphgjlaaQea798f35
import Derived.Test.YtagbpiofphgjlaaQ4dc9cf24
import Derived.Test.YtagbpiofphgjlaaQc1da366f
namespace Go.Proofs.Ytagbpiofphgjlaa.Bg
open Go.RowKit Go.Proofs.Ytagbpiofphgjlaa.G Go.Proofs.YtagbpiofphgjlaaW.PrintWords Go.Proofs.YtagbpiofphgjlaaW.PrintLast Go.Proofs.YtagbpiofphgjlaaW.PrintMore
def hs (l : List S61) (i : Int) : Int := (rd_T61 l i).f0
theorem cfH_neg (l : List S61) (x y : Int) : cfH l x y < 0 ↔ hs l y < hs l x := by
  unfold cfH cmpv hs
  split
  · simp; omega
  · split <;> omega
def cutN (l : List S61) (x : Int) (A : List Int) : Nat → Nat
  | 0 => 0
  | k + 1 => if hs l (rd A (k : Int)) < hs l x then cutN l x A k else k + 1
theorem cutN_le (l : List S61) (x : Int) (A : List Int) : ∀ k, cutN l x A k ≤ k
  | 0 => Nat.le_refl _
  | k + 1 => by
    simp only [cutN]
    split
    · have := cutN_le l x A k
      omega
    · exact Nat.le_refl _
theorem cutN_app (l : List S61) (x : Int) (A B : List Int) : ∀ k, k ≤ A.length → cutN l x (A ++ B) k = cutN l x A k
  | 0, _ => rfl
  | k + 1, h => by
    simp only [cutN]
    rw [cutN_app l x A B k (by omega), rd_left (by omega) (by omega)]
def put (l : List S61) (x : Int) (A : List Int) : List Int := A.take (cutN l x A A.length) ++ [x] ++ A.drop (cutN l x A A.length)
theorem put_len (l : List S61) (x : Int) (A : List Int) : (put l x A).length = A.length + 1 := by
  have := cutN_le l x A A.length
  unfold put
  simp
  omega
theorem put_mem {l : List S61} {x y : Int} {A : List Int} (h : y ∈ put l x A) : y = x ∨ y ∈ A := by
  unfold put at h
  simp only [List.mem_append, List.mem_singleton] at h
  rcases h with (h | h) | h
  · exact .inr (List.mem_of_mem_take h)
  · exact .inl h
  · exact .inr (List.mem_of_mem_drop h)
theorem insJ_put (l : List S61) (x : Int) : ∀ (j : Nat) (A R : List Int), A.length = j → insJ (cfH l) j (A ++ x :: R) = put l x A ++ R
  | 0, A, R, h => by
    obtain rfl := List.length_eq_zero_iff.1 h
    simp [insJ, put, cutN]
  | j + 1, A, R, h => by
    obtain ⟨B, a, rfl⟩ : ∃ B a, A = B ++ [a] := ⟨A.dropLast, A.getLast (by intro e; rw [e] at h; simp at h), (List.dropLast_concat_getLast _).symm⟩
    have hB : B.length = j := by simpa using h
    have r1 : rd (B ++ [a] ++ x :: R) ((j + 1 : Nat) : Int) = x := by
      subst hB
      simp [rd, List.getD]
    have r0 : rd (B ++ [a] ++ x :: R) (j : Int) = a := by
      subst hB
      simp [rd, List.getD]
    have hc : cutN l x (B ++ [a]) (B ++ [a]).length = if hs l a < hs l x then cutN l x B B.length else j + 1 := by
      rw [h]
      simp only [cutN]
      have e : rd (B ++ [a]) (j : Int) = a := by
        subst hB
        simp [rd, List.getD]
      rw [e, cutN_app l x B [a] j (by omega), hB]
    have hle := cutN_le l x B B.length
    simp only [insJ]
    rw [r1, r0]
    by_cases hcf : hs l a < hs l x
    · rw [if_pos ((cfH_neg l x a).2 hcf)]
      have e : ((B ++ [a] ++ x :: R).set (j + 1) a).set j x = B ++ x :: (a :: R) := by
        subst hB
        simp
      rw [e, insJ_put l x j B (a :: R) hB]
      unfold put
      rw [hc, if_pos hcf, List.take_append_of_le_length (by omega), List.drop_append_of_le_length (by omega)]
      simp
    · rw [if_neg (fun h2 => hcf ((cfH_neg l x a).1 h2))]
      unfold put
      rw [hc, if_neg hcf, List.take_of_length_le (by omega), List.drop_eq_nil_of_le (by omega)]
      simp
theorem order_l1 (l : List S61) (hl : l.length ≤ 8) (i : Nat) (hi : i < l.length) (O : List Int) (hOl : O.length ≤ 8) (hO : ∀ x ∈ O, 0 ≤ x ∧ x < (l.length : Int)) (K : Nat) (r : List Int) (wx : Int) : ∀ t, t ≤ O.length → (∀ k, K ≤ k → spec_bgOrder.l0 k l true (O.take (cutN l (i : Int) O t) ++ [(i : Int)] ++ O.drop (cutN l (i : Int) O t)) l (l.length : Int) ((i + 1 : Nat) : Int) = some r) →
    ∀ k, K + t + 1 ≤ k → spec_bgOrder.l1 k l true O (i : Int) (t : Int) l (l.length : Int) (i : Int) (hs l (i : Int)) wx = some r := by
  have e : wrap64 ((i : Int) + 1) = ((i + 1 : Nat) : Int) := next_val i (by omega)
  intro t
  induction t with
  | zero =>
    intro _ h k hk
    obtain ⟨k, rfl⟩ : ∃ m, k = m + 1 := ⟨k - 1, by omega⟩
    have h2 := h k (by omega)
    simp only [cutN, List.take_zero, List.drop_zero] at h2
    rw [spec_bgOrder.l1, if_pos rfl, if_neg (by omega), if_pos (by omega), if_pos (by omega), Int.toNat_natCast, List.take_zero, own_val [] (by simp), Option.bind_some, if_pos (by simp), Option.bind_some, List.drop_zero, Option.bind_some, if_pos (by simp; omega), e]
    exact h2
  | succ t ih =>
    intro ht h k hk
    obtain ⟨k, rfl⟩ : ∃ m, k = m + 1 := ⟨k - 1, by omega⟩
    have e2 : wrap64 (((t + 1 : Nat) : Int) - 1) = (t : Int) := by
      have := w64 (x := ((t + 1 : Nat) : Int) - 1) (by omega) (by omega)
      omega
    have hm := hO _ (rd_mem (a := O) (n := (t : Int)) (by omega) (by omega))
    rw [spec_bgOrder.l1, if_pos rfl, if_pos (by omega), e2, if_pos (by omega), if_pos (by omega), if_pos hm.1, if_pos hm.2]
    by_cases hlt : hs l (rd O (t : Int)) < hs l (i : Int)
    · rw [if_pos (show (rd_T61 l (rd O (t : Int))).f0 < hs l (i : Int) from hlt)]
      refine ih (by omega) (fun k' hk' => ?_) k (by omega)
      have := h k' hk'
      simp only [cutN] at this
      rw [if_pos hlt] at this
      exact this
    · rw [if_neg (show ¬ (rd_T61 l (rd O (t : Int))).f0 < hs l (i : Int) from hlt)]
      have h2 := h k (by omega)
      simp only [cutN] at h2
      rw [if_neg hlt] at h2
      rw [if_pos (by omega), if_pos (by omega), Int.toNat_natCast, own_val _ (by simp; omega), Option.bind_some, if_pos (by simp; omega), Option.bind_some, Option.bind_some, if_pos (by simp; omega), e]
      exact h2
theorem line_cons (n i : Nat) (h : i < n) : (line 0 n).drop i = (i : Int) :: (line 0 n).drop (i + 1) := by
  have hin : i < (line 0 n).length := by rw [line_len]; omega
  have hg : (line 0 n)[i] = (i : Int) := by
    have := line_get 0 n i h
    rw [List.getElem?_eq_getElem hin] at this
    have := Option.some.inj this
    omega
  rw [List.drop_eq_getElem_cons hin, hg]
theorem order_both (l : List S61) (hl : l.length ≤ 8) : ∀ (d i : Nat) (O : List Int), i + d = l.length → O.length = i → (∀ x ∈ O, 0 ≤ x ∧ x < (l.length : Int)) → ∃ r : List Int, insI (cfH l) d i (O ++ (line 0 l.length).drop i) = r ∧ (r.length = l.length ∧ ∀ x ∈ r, 0 ≤ x ∧ x < (l.length : Int)) ∧ ∃ K, ∀ k, K ≤ k → spec_bgOrder.l0 k l true O l (l.length : Int) (i : Int) = some r := by
  intro d
  induction d with
  | zero =>
    intro i O hi hOl hO
    refine ⟨O, ?_, ⟨by omega, hO⟩, 1, fun k hk => ?_⟩
    · rw [List.drop_eq_nil_of_le (by rw [line_len]; omega), List.append_nil]
      rfl
    · obtain ⟨k, rfl⟩ : ∃ m, k = m + 1 := ⟨k - 1, by omega⟩
      rw [spec_bgOrder.l0, if_neg (by omega)]
  | succ d ih =>
    intro i O hi hOl hO
    obtain ⟨r, h1, h2, K, h3⟩ := ih (i + 1) (put l (i : Int) O) (by omega) (by rw [put_len]; omega) (fun x hx => by
      rcases put_mem hx with rfl | hx
      · omega
      · exact hO x hx)
    refine ⟨r, ?_, h2, K + O.length + 2, fun k hk => ?_⟩
    · rw [line_cons l.length i (by omega)]
      simp only [insI]
      rw [insJ_put l (i : Int) i O _ hOl]
      exact h1
    · obtain ⟨k, rfl⟩ : ∃ m, k = m + 1 := ⟨k - 1, by omega⟩
      rw [spec_bgOrder.l0, if_pos (by omega), if_pos (by omega), if_pos (by omega)]
      exact order_l1 l hl i (by omega) O (by omega) hO K r _ O.length (Nat.le_refl _) h3 k (by omega)
theorem upTo_line (n : Nat) : upTo n = line 0 n := by
  unfold upTo line
  simp
theorem PackFarthestFirst_both (l : List S61) (b : Int) : ∃ v : List Int × Bool, Ev (fun k => spec_PackFarthestFirst.f k l b) v ∧ Ev (fun k => impl_PackFarthestFirst.f k l b) v ∧ v.1.length ≤ 1000 := by
  obtain ⟨K, h⟩ := bgAsked_ev l b
  have h : ∀ k, K ≤ k → spec_bgAsked.f k l b = some (fits l b) := h
  cases hf : fits l b with
  | false => exact ⟨([], false), ⟨K, fun k hk => by simp [spec_PackFarthestFirst.f, h k hk, hf]⟩, ⟨0, fun k _ => by simp [impl_PackFarthestFirst.f, fitBag_val, hf]⟩, by simp⟩
  | true =>
    obtain ⟨h1, h8, _, _, _⟩ := fits_facts hf
    have hz : insI (cfH l) l.length 0 (line 0 l.length) = insI (cfH l) (l.length - 1) 1 (line 0 l.length) := by
      obtain ⟨m, hm⟩ : ∃ m, l.length = m + 1 := ⟨l.length - 1, by omega⟩
      rw [hm]
      rfl
    obtain ⟨r, o1, ⟨o2, o3⟩, K1, o4⟩ := order_both l h8 l.length 0 [] (Nat.zero_add _) rfl (fun x hx => by cases hx)
    rw [List.nil_append, List.drop_zero, hz] at o1
    obtain ⟨e1, K2, e2⟩ := packed_val l b r h1 h8 o3 (by omega)
    have e2 : ∀ k, K2 ≤ k → spec_bgPack.f k l b r = some _ := e2
    have hlen : (pk2 l b r [] (List.replicate l.length 0)).length = l.length := by rw [pk2_len]; simp
    obtain ⟨K3, e3⟩ := named_ev (pk2 l b r [] (List.replicate l.length 0)) (by omega)
    have e3 : ∀ k, K3 ≤ k → impl_named.f k (pk2 l b r [] (List.replicate l.length 0)) = some _ := e3
    have hnl := nm_len (pk2 l b r [] (List.replicate l.length 0))
    refine ⟨(nm (pk2 l b r [] (List.replicate l.length 0)), true), ⟨K + K1 + K2, fun k hk => ?_⟩, ⟨K3, fun k hk => ?_⟩, by simp; omega⟩
    · show spec_PackFarthestFirst.f k l b = _
      unfold spec_PackFarthestFirst.f
      have ho : spec_bgOrder.f k l true = some r := o4 k (by omega)
      rw [h k (by omega), hf, Option.bind_some, if_pos rfl, ho, Option.bind_some, e2 k (by omega), Option.bind_some]
    · show impl_PackFarthestFirst.f k l b = _
      unfold impl_PackFarthestFirst.f
      rw [fitBag_val, hf, Option.bind_some, if_pos rfl, if_pos ⟨h1, by omega⟩, upTo_line, o1, e1, Option.bind_some, e3 k hk, Option.bind_some]
end Go.Proofs.Ytagbpiofphgjlaa.Bg
