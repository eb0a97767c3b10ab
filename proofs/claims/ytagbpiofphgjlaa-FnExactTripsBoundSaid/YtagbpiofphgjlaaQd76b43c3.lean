/- Texts of this seat's proofs: contracts of its functions and plain laws about them, with no condition beyond those that each theorem states. -/
import Derived.Test.YtagbpiofphgjlaaQ21cc0bb6
import Derived.Test.YtagbpiofphgjlaaQc832bdfb
import Derived.Test.YtagbpiofphgjlaaQ3126b38b
import Derived.Test.YtagbpiofphgjlaaQ88fa4f5d
import Derived.Test.YtagbpiofphgjlaaQ09a74c72
namespace Go.Proofs.Ytagbpiofphgjlaa.Bg
open Go.RowKit Go.Proofs.Ytagbpiofphgjlaa.G Go.Proofs.YtagbpiofphgjlaaW.PrintWords Go.Proofs.YtagbpiofphgjlaaW.PrintLast Go.Proofs.YtagbpiofphgjlaaW.PrintMore
theorem sum_l0 (l : List S61) (hn : l.length ≤ 1000) : ∀ (d i : Nat) (s : Int), i + d = l.length → ∃ v, (∀ k, d < k → impl_weightOf.l0 k s l (l.length : Int) (i : Int) = some v) ∧ ∀ k, d < k → spec_bgSum.l0 k s l (l.length : Int) (i : Int) = some v := by
  intro d
  induction d with
  | zero =>
    intro i s hi
    refine ⟨s, fun k hk => ?_, fun k hk => ?_⟩
    · obtain ⟨k, rfl⟩ : ∃ m, k = m + 1 := ⟨k - 1, by omega⟩
      simp only [impl_weightOf.l0]
      rw [if_neg (by omega)]
    · obtain ⟨k, rfl⟩ : ∃ m, k = m + 1 := ⟨k - 1, by omega⟩
      simp only [spec_bgSum.l0]
      rw [if_neg (by omega)]
  | succ d ih =>
    intro i s hi
    obtain ⟨v, h1, h2⟩ := ih (i + 1) (wrap64 (s + ((rd_T61 l (i : Int)).f1))) (by omega)
    refine ⟨v, fun k hk => ?_, fun k hk => ?_⟩
    · obtain ⟨k, rfl⟩ : ∃ m, k = m + 1 := ⟨k - 1, by omega⟩
      simp only [impl_weightOf.l0]
      rw [if_pos (by omega), if_pos (by omega), if_pos (by omega), w64 (x := (i : Int) + 1) (by omega) (by omega), show ((i : Int) + 1) = ((i + 1 : Nat) : Int) by omega]
      exact h1 k (by omega)
    · obtain ⟨k, rfl⟩ : ∃ m, k = m + 1 := ⟨k - 1, by omega⟩
      simp only [spec_bgSum.l0]
      rw [if_pos (by omega), if_pos (by omega), if_pos (by omega), w64 (x := (i : Int) + 1) (by omega) (by omega), show ((i : Int) + 1) = ((i + 1 : Nat) : Int) by omega]
      exact h2 k (by omega)
theorem sum_both (l : List S61) (hn : l.length ≤ 1000) : ∃ v, Ev (fun k => impl_weightOf.f k l) v ∧ Ev (fun k => spec_bgSum.f k l) v := by
  obtain ⟨v, h1, h2⟩ := sum_l0 l hn l.length 0 0 (by omega)
  exact ⟨v, ⟨l.length + 1, fun k hk => h1 k (by omega)⟩, ⟨l.length + 1, fun k hk => h2 k (by omega)⟩⟩
theorem fits_facts {l : List S61} {b : Int} (h : fits l b = true) : 1 ≤ l.length ∧ l.length ≤ 8 ∧ 1 ≤ b ∧ b ≤ 10000 ∧ l.all parcOk = true := by
  unfold fits bagOk at h
  simp only [Bool.and_eq_true, decide_eq_true_eq] at h
  have := okP_len h.1
  have h2 := h.1
  unfold okP at h2
  exact ⟨this.1, this.2, h.2.1.1, h.2.1.2, (Bool.and_eq_true_iff.1 h2).2⟩
theorem TripsBound_both (l : List S61) (b : Int) : ∃ v, Ev (fun k => spec_TripsBound.f k l b) v ∧ Ev (fun k => impl_TripsBound.f k l b) v := by
  obtain ⟨K, h⟩ := bgAsked_ev l b
  have h : ∀ k, K ≤ k → spec_bgAsked.f k l b = some (fits l b) := h
  cases hf : fits l b with
  | false =>
    refine ⟨(0, false), ⟨K, fun k hk => ?_⟩, ⟨0, fun k _ => ?_⟩⟩
    · simp [spec_TripsBound.f, h k hk, hf]
    · simp [impl_TripsBound.f, fitBag_val, hf]
  | true =>
    have hb := fits_facts hf
    obtain ⟨v, ⟨K1, h1⟩, ⟨K2, h2⟩⟩ := sum_both l (by omega)
    have h1 : ∀ k, K1 ≤ k → impl_weightOf.f k l = some v := h1
    have h2 : ∀ k, K2 ≤ k → spec_bgSum.f k l = some v := h2
    refine ⟨(wrap64 (Int.tdiv (wrap64 ((wrap64 (v + b)) - 1)) b), true), ⟨K + K2, fun k hk => ?_⟩, ⟨K1, fun k hk => ?_⟩⟩
    · show spec_TripsBound.f k l b = some _
      unfold spec_TripsBound.f
      rw [h k (by omega), hf, Option.bind_some, if_pos rfl, h2 k (by omega), Option.bind_some, if_neg (by omega)]
    · show impl_TripsBound.f k l b = some _
      unfold impl_TripsBound.f
      rw [fitBag_val, hf, Option.bind_some, if_pos rfl, h1 k (by omega), Option.bind_some, if_neg (by omega)]
end Go.Proofs.Ytagbpiofphgjlaa.Bg
