/- Texts of this seat's proofs: contracts of its functions and plain laws about them, with no condition beyond those that each theorem states. -/
import Derived.Test.YtagbpiofphgjlaaQ2094cd06
import Derived.Test.YtagbpiofphgjlaaQ4b5ff576
import Derived.Test.YtagbpiofphgjlaaQf7f0bfb3
namespace Go.Proofs.Ytagbpiofphgjlaa.Bg
open Go.RowKit Go.Proofs.Ytagbpiofphgjlaa.G Go.Proofs.YtagbpiofphgjlaaW.PrintWords Go.Proofs.YtagbpiofphgjlaaW.PrintLast Go.Proofs.YtagbpiofphgjlaaW.PrintMore
def ix (l : List Int) (n : Int) : Nat := l.findIdx fun y => decide (n = y)
theorem ix_hit {l : List Int} {n : Int} {j : Nat} (hj : j < l.length) (h : n = l[j]) (hm : ∀ (m : Nat) (h : m < l.length), m < j → n ≠ l[m]) : ix l n = j := by
  unfold ix
  rw [List.findIdx_eq hj]
  refine ⟨by simpa using h, fun m hmj => ?_⟩
  simpa using hm m (by omega) hmj
theorem ix_miss {l : List Int} {n : Int} (hm : ∀ (m : Nat) (h : m < l.length), n ≠ l[m]) : ix l n = l.length := by
  unfold ix
  rw [List.findIdx_eq_length]
  intro x hx
  obtain ⟨m, h, rfl⟩ := List.getElem_of_mem hx
  simpa using hm m h
theorem ix_le (l : List Int) (n : Int) : ix l n ≤ l.length := List.findIdx_le_length
theorem index_l0 (l : List Int) (n : Int) (hn : l.length ≤ 1000000) : ∀ (d i k : Nat), i + d = l.length → d < k → (∀ (m : Nat) (h : m < l.length), m < i → n ≠ l[m]) → slices_Index_int_int.l0 k l n (l.length : Int) (i : Int) = some (if ix l n = l.length then -1 else (ix l n : Int)) := by
  intro d
  induction d with
  | zero =>
    intro i k hi hk hm
    obtain ⟨k, rfl⟩ : ∃ m, k = m + 1 := ⟨k - 1, by omega⟩
    simp only [slices_Index_int_int.l0]
    rw [if_neg (by omega), if_pos (ix_miss fun m h => hm m h (by omega))]
  | succ d ih =>
    intro i k hi hk hm
    obtain ⟨k, rfl⟩ : ∃ m, k = m + 1 := ⟨k - 1, by omega⟩
    simp only [slices_Index_int_int.l0]
    have hx : l[i]? = some l[i] := List.getElem?_eq_getElem (by omega)
    have hrd : rd l (i : Int) = l[i] := by simp [rd, List.getD, hx]
    rw [if_pos (by omega), if_pos (by omega), if_pos (by omega), hrd, w64 (by omega) (by omega), show ((i : Int) + 1) = ((i + 1 : Nat) : Int) by omega]
    by_cases h : n = l[i]
    · have := ix_hit (by omega) h hm
      rw [if_pos h, this, if_neg (by omega)]
    · rw [if_neg h]
      refine ih (i + 1) k (by omega) (by omega) fun m hl hmi => ?_
      by_cases e : m = i
      · subst e
        exact h
      · exact hm m hl (by omega)
theorem index_k (l : List Int) (n : Int) (hn : l.length ≤ 1000000) (k : Nat) (hk : l.length < k) : slices_Index_int_int.f k l n = some (if ix l n = l.length then -1 else (ix l n : Int)) := by
  unfold slices_Index_int_int.f
  exact index_l0 l n hn l.length 0 k (by omega) hk (fun m h hm => by omega)
def nmGo (seen acc : List Int) : List Int → List Int
  | [] => acc
  | n :: t => if ix seen n = seen.length then nmGo (seen ++ [n]) (acc ++ [(ix seen n : Int)]) t else nmGo seen (acc ++ [(ix seen n : Int)]) t
theorem nmGo_len : ∀ (t seen acc : List Int), (nmGo seen acc t).length = acc.length + t.length
  | [], _, _ => rfl
  | n :: t, seen, acc => by
    unfold nmGo
    split
    · rw [nmGo_len t]
      simp
      omega
    · rw [nmGo_len t]
      simp
      omega
def nm (p : List Int) : List Int := nmGo [] [] p
theorem nm_len (p : List Int) : (nm p).length = p.length := by simp [nm, nmGo_len]
theorem set_at (acc : List Int) (i d : Nat) (v : Int) (h : acc.length = i) : (acc ++ List.replicate (d + 1) 0).set i v = acc ++ [v] ++ List.replicate d 0 := by
  subst h
  rw [List.set_append_right _ _ (Nat.le_refl _), Nat.sub_self, List.append_assoc]
  rfl
theorem named_l0 (p : List Int) (hp : p.length ≤ 100000) : ∀ (d i k : Nat) (seen acc : List Int), i + d = p.length → acc.length = i → seen.length ≤ i → d + p.length < k → impl_named.l0 k seen (acc ++ List.replicate d 0) p (p.length : Int) (i : Int) = some (nmGo seen acc (p.drop i)) := by
  intro d
  induction d with
  | zero =>
    intro i k seen acc hi ha hs hk
    obtain ⟨k, rfl⟩ : ∃ m, k = m + 1 := ⟨k - 1, by omega⟩
    simp only [impl_named.l0]
    rw [if_neg (by omega), List.drop_eq_nil_of_le (by omega)]
    simp [nmGo]
  | succ d ih =>
    intro i k seen acc hi ha hs hk
    obtain ⟨k, rfl⟩ : ∃ m, k = m + 1 := ⟨k - 1, by omega⟩
    simp only [impl_named.l0]
    have hx : p[i]? = some p[i] := List.getElem?_eq_getElem (by omega)
    have hrd : rd p (i : Int) = p[i] := by simp [rd, List.getD, hx]
    rw [if_pos (by omega), if_pos (by omega), if_pos (by omega), hrd, index_k seen p[i] (by omega) k (by omega), Option.bind_some, w64 (by omega) (by omega), show ((i : Int) + 1) = ((i + 1 : Nat) : Int) by omega, List.drop_eq_getElem_cons (by omega)]
    have hl : (i : Int) < ((acc ++ List.replicate (d + 1) (0 : Int)).length : Int) := by simp; omega
    by_cases h : ix seen p[i] = seen.length
    · rw [if_pos h, if_pos (by omega), if_pos (by omega), if_pos hl, Int.toNat_natCast, set_at acc i d _ ha]
      have := ih (i + 1) k (seen ++ [p[i]]) (acc ++ [(seen.length : Int)]) (by omega) (by simp [ha]) (by simp; omega) (by omega)
      rw [this]
      simp only [nmGo]
      rw [if_pos h, h]
    · rw [if_neg h, if_neg (by omega), if_pos hl, Int.toNat_natCast, set_at acc i d _ ha]
      have := ih (i + 1) k seen (acc ++ [(ix seen p[i] : Int)]) (by omega) (by simp [ha]) (by omega) (by omega)
      rw [this]
      simp only [nmGo]
      rw [if_neg h]
theorem named_ev (p : List Int) (hp : p.length ≤ 100000) : Ev (fun k => impl_named.f k p) (nm p) := by
  refine Ev.of (k := 2 * p.length + 1) (fun k => impl_named.mono p k) ?_
  unfold impl_named.f
  rw [if_pos (by omega), if_pos (by omega)]
  have := named_l0 p hp p.length 0 (2 * p.length + 1) [] [] (by omega) rfl (Nat.le_refl _) (by omega)
  simpa [nm] using this
theorem bgNamed_l0 (p : List Int) (hp : p.length ≤ 100000) : ∀ (d i k : Nat) (seen acc : List Int), i + d = p.length → acc.length = i → seen.length ≤ i → d * (p.length + 2) < k → spec_bgNamed.l0 k seen acc p (p.length : Int) (i : Int) = some (nmGo seen acc (p.drop i)) := by
  intro d
  induction d with
  | zero =>
    intro i k seen acc hi ha hs hk
    obtain ⟨k, rfl⟩ : ∃ m, k = m + 1 := ⟨k - 1, by omega⟩
    rw [spec_bgNamed.l0]
    rw [if_neg (by omega), List.drop_eq_nil_of_le (by omega)]
    simp [nmGo]
  | succ d ih =>
    intro i k seen acc hi ha hs hk
    rw [Nat.succ_mul] at hk
    obtain ⟨k, rfl⟩ : ∃ m, k = m + 1 := ⟨k - 1, by omega⟩
    rw [spec_bgNamed.l0]
    have hx : p[i]? = some p[i] := List.getElem?_eq_getElem (by omega)
    have hrd : rd p (i : Int) = p[i] := by simp [rd, List.getD, hx]
    rw [if_pos (by omega), if_pos (by omega), if_pos (by omega), hrd, List.drop_eq_getElem_cons (by omega)]
    have inner : ∀ (e j k : Nat), j + e = seen.length → (∀ (m : Nat) (h : m < seen.length), m < j → p[i] ≠ seen[m]) → e + 1 + d * (p.length + 2) < k → spec_bgNamed.l1 k seen acc p[i] (j : Int) p (p.length : Int) (i : Int) = some (nmGo seen acc (p[i] :: p.drop (i + 1))) := by
      intro e
      induction e with
      | zero =>
        intro j k hj hm hk
        obtain ⟨k, rfl⟩ : ∃ m, k = m + 1 := ⟨k - 1, by omega⟩
        rw [spec_bgNamed.l1]
        have h := ix_miss (l := seen) (n := p[i]) fun m h => hm m h (by omega)
        rw [if_neg (by omega), if_pos (by omega), if_pos (by omega), if_pos (by omega), w64 (by omega) (by omega), show ((i : Int) + 1) = ((i + 1 : Nat) : Int) by omega, ih (i + 1) k (seen ++ [p[i]]) (acc ++ [(j : Int)]) (by omega) (by simp [ha]) (by simp; omega) (by omega)]
        simp only [nmGo]
        rw [if_pos h, h, show j = seen.length by omega]
      | succ e ihe =>
        intro j k hj hm hk
        obtain ⟨k, rfl⟩ : ∃ m, k = m + 1 := ⟨k - 1, by omega⟩
        rw [spec_bgNamed.l1]
        have hy : seen[j]? = some seen[j] := List.getElem?_eq_getElem (by omega)
        have hrj : rd seen (j : Int) = seen[j] := by simp [rd, List.getD, hy]
        rw [if_pos (by omega), if_pos (by omega), hrj]
        by_cases h : seen[j] = p[i]
        · have hix := ix_hit (by omega) h.symm hm
          rw [if_pos h, if_neg (by omega), if_pos (by omega), w64 (by omega) (by omega), show ((i : Int) + 1) = ((i + 1 : Nat) : Int) by omega, ih (i + 1) k seen (acc ++ [(j : Int)]) (by omega) (by simp [ha]) (by omega) (by omega)]
          simp only [nmGo]
          rw [hix, if_neg (by omega)]
        · rw [if_neg h, w64 (by omega) (by omega), show ((j : Int) + 1) = ((j + 1 : Nat) : Int) by omega]
          refine ihe (j + 1) k (by omega) (fun m hl hmi => ?_) (by omega)
          by_cases e : m = j
          · subst e
            exact fun h' => h h'.symm
          · exact hm m hl (by omega)
    exact inner seen.length 0 k (by omega) (fun m h hm => by omega) (by omega)
theorem bgNamed_ev (p : List Int) (hp : p.length ≤ 100000) : Ev (fun k => spec_bgNamed.f k p) (nm p) := by
  refine Ev.of (k := p.length * (p.length + 2) + 1) (fun k => spec_bgNamed.mono p k) ?_
  unfold spec_bgNamed.f
  have := bgNamed_l0 p hp p.length 0 (p.length * (p.length + 2) + 1) [] [] (by omega) rfl (Nat.le_refl _) (by omega)
  simpa [nm] using this
end Go.Proofs.Ytagbpiofphgjlaa.Bg
