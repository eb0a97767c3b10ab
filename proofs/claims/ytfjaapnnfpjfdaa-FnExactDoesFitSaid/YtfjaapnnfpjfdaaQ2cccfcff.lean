/- Texts of this seat's proofs: contracts of its functions and plain laws about them, with no condition beyond those that each theorem states. -/
import Derived.Test.YtfjaapnnfpjfdaaQeb2daf94
import Derived.Test.YtfjaapnnfpjfdaaQ5706afa1
import Derived.Test.YtfjaapnnfpjfdaaQ1deb9360
import Derived.Test.YtfjaapnnfpjfdaaQc143e652
namespace Go.Proofs.Ytfjaapnnfpjfdaa.Pure
open Go.RowKit Go.Proofs.Ytfjaapnnfpjfdaa.G Go.Proofs.YtfjaapnnfpjfdaaW.PrintWords Go.Proofs.Ytfjaapnnfpjfdaa.Pz
theorem both_fit (a b k n c h : Int) : ∃ v, spec_DoesFit.f a b k n c h = some v ∧ impl_DoesFit.f a b k n c h = some v := by
  by_cases hh : hid a b = true
  · have hst : street a b = true := by
      unfold hid at hh
      exact (Bool.and_eq_true_iff.1 hh).1
    by_cases hi : inB h 1 (houses a b) = true
    · by_cases hc : clueB k n c = true
      · have hb : 1 ≤ h ∧ h ≤ houses a b := by simpa [inB] using hi
        have hl := (houses_le hh).2
        have e1 := fits_eq a b k n c h hb.1 (by omega)
        have e2 : impl_doesFit.f a b k n c h = some (fitB a b ⟨k, n, c⟩ h) := doesFit_val a b ⟨k, n, c⟩ h hc
        exact ⟨(fitB a b ⟨k, n, c⟩ h, true), by simp [spec_DoesFit.f, spec_pzHidden.f, pzStreet_val, nuHouses_val hh, l1In_val, pzClue_val, hh, hc, hi, e1, e2], by simp [impl_DoesFit.f, hidden_val, isClue_val, impl_isHouse.f, isStreet_val, housesOf_val hh, within_val, hh, hst, hc, hi, e2]⟩
      · exact ⟨(false, false), by simp [spec_DoesFit.f, spec_pzHidden.f, pzStreet_val, nuHouses_val hh, l1In_val, pzClue_val, hh, hc, hi], by simp [impl_DoesFit.f, hidden_val, isClue_val, hh, hc]⟩
    · refine ⟨(false, false), by simp [spec_DoesFit.f, spec_pzHidden.f, pzStreet_val, nuHouses_val hh, l1In_val, hh, hi], ?_⟩
      by_cases hc : clueB k n c = true
      · simp [impl_DoesFit.f, hidden_val, isClue_val, impl_isHouse.f, isStreet_val, housesOf_val hh, within_val, hh, hst, hc, hi]
      · simp [impl_DoesFit.f, hidden_val, isClue_val, hh, hc]
  · exact ⟨(false, false), by simp [spec_DoesFit.f, spec_pzHidden.f, pzStreet_val, hh], by simp [impl_DoesFit.f, hidden_val, hh]⟩
theorem FnExactDoesFit : laws_FnExactDoesFit.Pure := by
  intro a b k n c h _ _ _ _ _ _
  obtain ⟨v, e1, e2⟩ := both_fit a b k n c h
  simp [laws_FnExactDoesFit.f, laws_toStreet.f, laws_toClue.f, e1, e2]
end Go.Proofs.Ytfjaapnnfpjfdaa.Pure
