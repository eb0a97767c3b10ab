/- Texts of this seat's proofs: contracts of its functions and plain laws about them, with no condition beyond those that each theorem states. -/
import Derived.Test.YtagbpiofphgjlaaQ88a9c5cc
import Derived.Test.YtagbpiofphgjlaaQb7d7b360
import Derived.Test.YtagbpiofphgjlaaQ0704b931
import Derived.Test.YtagbpiofphgjlaaQec46ea87
import Derived.Test.YtagbpiofphgjlaaQa6531af5
import Derived.Test.YtagbpiofphgjlaaQ60d6998b
import Derived.Test.YtagbpiofphgjlaaQbb143989
import Derived.Test.YtagbpiofphgjlaaQb91e00d7
namespace Go.Proofs.Ytagbpiofphgjlaa.Bg
open Go.RowKit Go.Proofs.Ytagbpiofphgjlaa.G Go.Proofs.YtagbpiofphgjlaaW.PrintWords Go.Proofs.YtagbpiofphgjlaaW.PrintLast Go.Proofs.YtagbpiofphgjlaaW.PrintMore
theorem allWithin_l0 (l : List Int) (b c : Int) (hn : l.length ≤ 1000) : ∀ (d i k : Nat), i + d = l.length → d < k → impl_allWithin.l0 k b c l (l.length : Int) (i : Int) = some ((l.drop i).all fun x => decide (x ≥ b) && decide (x ≤ c)) ∧ spec_l1All.l0 k b c l (l.length : Int) (i : Int) = some ((l.drop i).all fun x => decide (x ≥ b) && decide (x ≤ c)) := by
  intro d
  induction d with
  | zero =>
    intro i k hi hk
    obtain ⟨k, rfl⟩ : ∃ m, k = m + 1 := ⟨k - 1, by omega⟩
    obtain rfl : i = l.length := by omega
    simp only [impl_allWithin.l0, spec_l1All.l0]
    rw [if_neg (by omega), if_neg (by omega)]
    simp
  | succ d ih =>
    intro i k hi hk
    obtain ⟨k, rfl⟩ : ∃ m, k = m + 1 := ⟨k - 1, by omega⟩
    simp only [impl_allWithin.l0, spec_l1All.l0]
    have hx : l[i]? = some l[i] := List.getElem?_eq_getElem (by omega)
    have hrd : rd l (i : Int) = l[i] := by simp [rd, List.getD, hx]
    have e1 : impl_within.f l[i] b c = some (decide (l[i] ≥ b) && decide (l[i] ≤ c)) := within_is' _ _ _
    have e2 : spec_l1In.f l[i] b c = some (decide (l[i] ≥ b) && decide (l[i] ≤ c)) := within_is' _ _ _
    have hd := List.drop_eq_getElem_cons (l := l) (i := i) (by omega)
    have hi1 := ih (i + 1) k (by omega) (by omega)
    rw [hrd, e1, e2, Option.bind_some, Option.bind_some, w64 (by omega) (by omega), show ((i : Int) + 1) = ((i + 1 : Nat) : Int) by omega, hi1.1, hi1.2, hd, List.all_cons]
    have c1 : (i : Int) < (l.length : Int) := by omega
    have c2 : 0 ≤ (i : Int) := by omega
    cases (decide (l[i] ≥ b) && decide (l[i] ≤ c)) <;> simp [c1, c2]
def okL (l : List Int) (b : Int) : Bool := (decide ((l.length : Int) ≥ 1) && decide ((l.length : Int) ≤ 100)) && ((l.all fun x => decide (x ≥ 0) && decide (x ≤ 1000)) && (decide (b ≥ 1) && decide (b ≤ 10000)))
theorem okL_len {l : List Int} {b : Int} (h : okL l b = true) : l.length ≤ 100 ∧ (∀ x ∈ l, 0 ≤ x ∧ x ≤ 1000) ∧ 1 ≤ b ∧ b ≤ 10000 := by
  unfold okL at h
  simp at h
  obtain ⟨⟨_, h2⟩, h3, h4, h5⟩ := h
  exact ⟨by omega, h3, h4, h5⟩
theorem bgPost_val (l : List Int) (b : Int) (k : Nat) (hk : 1001 < k) : spec_bgPost.f k l b = some (okL l b) := by
  unfold spec_bgPost.f okL
  have e2 : spec_l1In.f (l.length : Int) 1 100 = some (decide ((l.length : Int) ≥ 1) && decide ((l.length : Int) ≤ 100)) := within_is' _ _ _
  have e3 : spec_l1In.f b 1 10000 = some (decide (b ≥ 1) && decide (b ≤ 10000)) := within_is' _ _ _
  rw [e2, Option.bind_some]
  cases h : (decide ((l.length : Int) ≥ 1) && decide ((l.length : Int) ≤ 100)) with
  | false => simp
  | true =>
    have hl : l.length ≤ 100 := by simp at h; omega
    have := (allWithin_l0 l 0 1000 (by omega) l.length 0 k (by omega) (by omega)).2
    have h4 : spec_l1All.f k l 0 1000 = some (l.all fun x => decide (x ≥ 0) && decide (x ≤ 1000)) := by
      unfold spec_l1All.f
      simpa using this
    rw [if_pos rfl, h4, Option.bind_some, e3, Bool.true_and]
    cases (l.all fun x => decide (x ≥ 0) && decide (x ≤ 1000)) <;> simp
theorem areLetters_val (l : List Int) (k : Nat) (hk : 1001 < k) : impl_areLetters.f k l = some ((decide ((l.length : Int) ≥ 1) && decide ((l.length : Int) ≤ 100)) && (l.all fun x => decide (x ≥ 0) && decide (x ≤ 1000))) := by
  unfold impl_areLetters.f
  have e2 : impl_within.f (l.length : Int) 1 100 = some (decide ((l.length : Int) ≥ 1) && decide ((l.length : Int) ≤ 100)) := within_is' _ _ _
  rw [e2, Option.bind_some]
  cases h : (decide ((l.length : Int) ≥ 1) && decide ((l.length : Int) ≤ 100)) with
  | false => simp
  | true =>
    have hl : l.length ≤ 100 := by simp at h; omega
    have := (allWithin_l0 l 0 1000 (by omega) l.length 0 k (by omega) (by omega)).1
    have h4 : impl_allWithin.f k l 0 1000 = some (l.all fun x => decide (x ≥ 0) && decide (x ≤ 1000)) := by
      unfold impl_allWithin.f
      simpa using this
    rw [if_pos rfl, h4, Option.bind_some, Bool.true_and]
theorem letters_both (l : List Int) (b : Int) (hn : l.length ≤ 100) (hb : 1 ≤ b ∧ b ≤ 10000) (hl : ∀ x ∈ l, 0 ≤ x ∧ x ≤ 1000) : ∀ (h : Nat) (acc : List Int) (room : Int), h ≤ l.length → acc.length ≤ (l.length - h) * 1001 → 0 ≤ room → room ≤ 10000 → ∃ v : List Int, v.length ≤ l.length * 1001 ∧ (∀ k, h * 1003 < k → impl_lettersTrips.l0 k l b acc room (h : Int) = some v) ∧ ∀ k, h * 1003 < k → spec_bgLetters.l0 k l b acc room ((h : Int) - 1) = some v := by
  intro h
  induction h with
  | zero =>
    intro acc room _ ha _ _
    refine ⟨acc, by omega, fun k hk => ?_, fun k hk => ?_⟩
    · obtain ⟨k, rfl⟩ : ∃ m, k = m + 1 := ⟨k - 1, by omega⟩
      rw [impl_lettersTrips.l0, if_neg (by omega)]
    · obtain ⟨k, rfl⟩ : ∃ m, k = m + 1 := ⟨k - 1, by omega⟩
      rw [spec_bgLetters.l0, if_neg (by omega)]
  | succ h ih =>
    intro acc room hh ha hr0 hr1
    have hx : l[h]? = some l[h] := List.getElem?_eq_getElem (by omega)
    have hrd : rd l (h : Int) = l[h] := by simp [rd, List.getD, hx]
    have hxl := hl l[h] (List.getElem_mem (by omega))
    have inner : ∀ (m : Nat) (acc : List Int) (room left : Int), left.toNat ≤ m → 0 ≤ left → left ≤ 1000 → 0 ≤ room → room ≤ 10000 → (room ≥ 1 ∨ left.toNat + 1 ≤ m) → acc.length + m ≤ (l.length - h) * 1001 → ∃ v : List Int, v.length ≤ l.length * 1001 ∧ (∀ k, m + 1 + h * 1003 < k → impl_lettersTrips.l1 k l b acc room ((h + 1 : Nat) : Int) left = some v) ∧ ∀ k, m + 1 + h * 1003 < k → spec_bgLetters.l1 k l b acc room (h : Int) left = some v := by
      intro m
      induction m with
      | zero =>
        intro acc room left hm h0 h1 r0 r1 hor hlen
        obtain ⟨v, hv, e1, e2⟩ := ih acc (room - left) (by omega) (by omega) (by omega) (by omega)
        refine ⟨v, hv, fun k hk => ?_, fun k hk => ?_⟩
        · obtain ⟨k, rfl⟩ : ∃ m, k = m + 1 := ⟨k - 1, by omega⟩
          rw [impl_lettersTrips.l1, if_neg (by omega), w64 (by omega) (by omega), w64 (by omega) (by omega), show ((h + 1 : Nat) : Int) - 1 = (h : Int) by omega]
          exact e1 k (by omega)
        · obtain ⟨k, rfl⟩ : ∃ m, k = m + 1 := ⟨k - 1, by omega⟩
          rw [spec_bgLetters.l1, if_neg (by omega), w64 (by omega) (by omega), w64 (by omega) (by omega)]
          exact e2 k (by omega)
      | succ m ihm =>
        intro acc room left hm h0 h1 r0 r1 hor hlen
        by_cases hgt : left > room
        · obtain ⟨v, hv, e1, e2⟩ := ihm (acc ++ [((h + 1 : Nat) : Int)]) b (left - room) (by omega) (by omega) (by omega) (by omega) (by omega) (by omega) (by simp; omega)
          refine ⟨v, hv, fun k hk => ?_, fun k hk => ?_⟩
          · obtain ⟨k, rfl⟩ : ∃ m, k = m + 1 := ⟨k - 1, by omega⟩
            rw [impl_lettersTrips.l1, if_pos hgt, if_pos (by have : (l.length - h) * 1001 ≤ 100 * 1001 := Nat.mul_le_mul_right _ (by omega); omega), w64 (by omega) (by omega)]
            exact e1 k (by omega)
          · obtain ⟨k, rfl⟩ : ∃ m, k = m + 1 := ⟨k - 1, by omega⟩
            rw [spec_bgLetters.l1, if_pos hgt, if_pos (by have : (l.length - h) * 1001 ≤ 100 * 1001 := Nat.mul_le_mul_right _ (by omega); omega), w64 (by omega) (by omega), w64 (by omega) (by omega), show ((h : Int) + 1) = ((h + 1 : Nat) : Int) by omega]
            exact e2 k (by omega)
        · obtain ⟨v, hv, e1, e2⟩ := ih acc (room - left) (by omega) (by omega) (by omega) (by omega)
          refine ⟨v, hv, fun k hk => ?_, fun k hk => ?_⟩
          · obtain ⟨k, rfl⟩ : ∃ m, k = m + 1 := ⟨k - 1, by omega⟩
            rw [impl_lettersTrips.l1, if_neg hgt, w64 (by omega) (by omega), w64 (by omega) (by omega), show ((h + 1 : Nat) : Int) - 1 = (h : Int) by omega]
            exact e1 k (by omega)
          · obtain ⟨k, rfl⟩ : ∃ m, k = m + 1 := ⟨k - 1, by omega⟩
            rw [spec_bgLetters.l1, if_neg hgt, w64 (by omega) (by omega), w64 (by omega) (by omega)]
            exact e2 k (by omega)
    have e3 : (l.length - h) * 1001 = (l.length - (h + 1)) * 1001 + 1001 := by
      rw [← Nat.succ_mul]
      congr 1
      omega
    obtain ⟨v, hv, e1, e2⟩ := inner 1001 acc room l[h] (by omega) hxl.1 hxl.2 hr0 hr1 (by omega) (by omega)
    refine ⟨v, hv, fun k hk => ?_, fun k hk => ?_⟩
    · obtain ⟨k, rfl⟩ : ∃ m, k = m + 1 := ⟨k - 1, by omega⟩
      rw [impl_lettersTrips.l0, w64 (by omega) (by omega), show ((h + 1 : Nat) : Int) - 1 = (h : Int) by omega, hrd, if_pos (by omega), if_pos (by omega), if_pos (by omega)]
      exact e1 k (by omega)
    · obtain ⟨k, rfl⟩ : ∃ m, k = m + 1 := ⟨k - 1, by omega⟩
      rw [spec_bgLetters.l0, show ((h + 1 : Nat) : Int) - 1 = (h : Int) by omega, hrd, if_pos (by omega), if_pos (by omega), if_pos (by omega)]
      exact e2 k (by omega)
theorem lettersTrips_both (l : List Int) (b : Int) (h : okL l b = true) : ∃ v : List Int, v.length ≤ 200000 ∧ Ev (fun k => impl_lettersTrips.f k l b) v ∧ Ev (fun k => spec_bgLetters.f k l b) v := by
  obtain ⟨hn, hl, hb⟩ := okL_len h
  obtain ⟨v, hv, e1, e2⟩ := letters_both l b hn hb hl l.length [] 0 (Nat.le_refl _) (by simp) (by omega) (by omega)
  refine ⟨v, by have : l.length * 1001 ≤ 100 * 1001 := Nat.mul_le_mul_right _ hn; omega, ⟨l.length * 1003 + 1, fun k hk => ?_⟩, ⟨l.length * 1003 + 1, fun k hk => ?_⟩⟩
  · exact e1 k (by omega)
  · show spec_bgLetters.f k l b = some v
    unfold spec_bgLetters.f
    rw [w64 (by omega) (by omega)]
    exact e2 k (by omega)
theorem LettersTrips_both (p : List Int) (b : Int) : ∃ v : List Int × Bool, Ev (fun k => spec_LettersTrips.f k p b) v ∧ Ev (fun k => impl_LettersTrips.f k p b) v ∧ v.1.length ≤ 1000000 := by
  have e3 : impl_within.f b 1 10000 = some (decide (b ≥ 1) && decide (b ≤ 10000)) := within_is' _ _ _
  cases h : okL p b with
  | false =>
    refine ⟨([], false), ⟨1002, fun k hk => by simp [spec_LettersTrips.f, bgPost_val p b k (by omega), h]⟩, ⟨1002, fun k hk => ?_⟩, by simp⟩
    show impl_LettersTrips.f k p b = some _
    unfold impl_LettersTrips.f impl_isBag.f
    rw [areLetters_val p k (by omega), Option.bind_some, e3]
    unfold okL at h
    revert h
    cases (decide ((p.length : Int) ≥ 1) && decide ((p.length : Int) ≤ 100)) <;> cases (p.all fun x => decide (x ≥ 0) && decide (x ≤ 1000)) <;> cases (decide (b ≥ 1) && decide (b ≤ 10000)) <;> simp
  | true =>
    obtain ⟨v, hv, ⟨K1, h1⟩, ⟨K2, h2⟩⟩ := lettersTrips_both p b h
    have h1 : ∀ k, K1 ≤ k → impl_lettersTrips.f k p b = some v := h1
    have h2 : ∀ k, K2 ≤ k → spec_bgLetters.f k p b = some v := h2
    refine ⟨(v, true), ⟨K2 + 1002, fun k hk => by simp [spec_LettersTrips.f, bgPost_val p b k (by omega), h, h2 k (by omega)]⟩, ⟨K1 + 1002, fun k hk => ?_⟩, by simp; omega⟩
    show impl_LettersTrips.f k p b = some _
    unfold impl_LettersTrips.f impl_isBag.f
    rw [areLetters_val p k (by omega), Option.bind_some, e3, h1 k (by omega)]
    unfold okL at h
    simp only [Bool.and_eq_true] at h
    simp only [Bool.and_eq_true, h, and_self, if_true, Option.bind_some]
end Go.Proofs.Ytagbpiofphgjlaa.Bg
