/- Texts of this seat's proofs: contracts of its functions and plain laws about them, with no condition beyond those that each theorem states. -/
import Derived.Test.YtfjaapnnfpjfdaaQ6be4b13a
import Derived.Test.YtfjaapnnfpjfdaaQ9da5af39
import Derived.Test.YtfjaapnnfpjfdaaQ141a4c0a
import Derived.Test.YtfjaapnnfpjfdaaQ213c681e
import Derived.Test.YtfjaapnnfpjfdaaQ04305d25
import Derived.Test.YtfjaapnnfpjfdaaQaba6cebd
import Derived.Test.YtfjaapnnfpjfdaaQ3f8500ef
import Derived.Test.YtfjaapnnfpjfdaaQ047def70
namespace Go.Proofs.Ytfjaapnnfpjfdaa.Pz
open Go.RowKit Go.Proofs.Ytfjaapnnfpjfdaa.G Go.Proofs.YtfjaapnnfpjfdaaW.PrintWords Go.Proofs.YtfjaapnnfpjfdaaW.PrintLast Go.Proofs.YtfjaapnnfpjfdaaW.PrintMore
theorem tmod_nn {x y : Int} (h : 0 ≤ x) : Int.tmod x y = x % y := Int.tmod_eq_emod_of_nonneg h
def houses (a b : Int) : Int := if a = 0 then b else 2 * b
theorem hid_facts {a b : Int} (h : hid a b = true) : (a = 0 ∨ a = 1 ∨ a = 2) ∧ 1 ≤ b ∧ b ≤ 20 := by
  unfold hid street inB at h
  simp at h
  omega
theorem houses_le {a b : Int} (h : hid a b = true) : 1 ≤ houses a b ∧ houses a b ≤ 40 := by
  have := hid_facts h
  unfold houses
  split <;> omega
theorem housesOf_val {a b : Int} (h : hid a b = true) : impl_housesOf.f a b = some (houses a b) := by
  have := hid_facts h
  unfold impl_housesOf.f houses
  split
  · rfl
  · rw [w64 (by omega) (by omega)]
theorem nuHouses_val {a b : Int} (h : hid a b = true) : spec_nuHouses.f a b = some (houses a b) := housesOf_val h
theorem plot_eq (a b h : Int) (h1 : 1 ≤ h) (h2 : h ≤ 1000000) : spec_nuPlot.f a b h = impl_plotOf.f a b h := by
  unfold spec_nuPlot.f impl_plotOf.f
  split
  · have e : wrap64 (1 - Int.tmod h 2) = Int.tmod (wrap64 (h - 1)) 2 := by
      rw [w64 (x := h - 1) (by omega) (by omega), tmod_nn (by omega), tmod_nn (by omega), w64 (by omega) (by omega)]
      omega
    rw [e]
  · rfl
theorem value_eq (a b k n h : Int) (c : Int) (h1 : 1 ≤ h) (h2 : h ≤ 1000000) : spec_pzValue.f a b k n h = impl_toldBy.f a b k n c h := by
  unfold spec_pzValue.f impl_toldBy.f
  rw [plot_eq a b h h1 h2]
  rfl
theorem fits_eq (a b k n c h : Int) (h1 : 1 ≤ h) (h2 : h ≤ 1000000) : spec_pzFits.f a b k n c h = impl_doesFit.f a b k n c h := by
  unfold spec_pzFits.f impl_doesFit.f
  rw [value_eq a b k n h c h1 h2]
theorem plotOf_some (a b h : Int) : ∃ p, impl_plotOf.f a b h = some p := by
  unfold impl_plotOf.f
  split
  · exact ⟨_, rfl⟩
  · split <;> exact ⟨_, rfl⟩
theorem numberAt_some (a b s p : Int) : ∃ v, impl_numberAt.f a b s p = some v := by
  unfold impl_numberAt.f
  split
  · exact ⟨_, rfl⟩
  · split <;> exact ⟨_, rfl⟩
theorem oneIf_some (b : Bool) : ∃ v, impl_oneIf.f b = some v := by
  unfold impl_oneIf.f
  split <;> exact ⟨_, rfl⟩
theorem toldBy_some (a b k n c h : Int) (hn : k = 2 → n ≠ 0) : ∃ v, impl_toldBy.f a b k n c h = some v := by
  unfold impl_toldBy.f
  obtain ⟨p, hp⟩ := plotOf_some a b h
  rw [hp]
  simp only [Option.bind_some]
  split
  · exact ⟨_, rfl⟩
  split
  · exact ⟨_, rfl⟩
  split
  · rename_i h2
    rw [if_neg (hn h2)]
    obtain ⟨v, hv⟩ := oneIf_some (Int.tmod h n == 0)
    rw [hv]
    exact ⟨_, rfl⟩
  split
  · exact ⟨_, rfl⟩
  split
  · obtain ⟨v, hv⟩ := oneIf_some (decide (h > n))
    rw [hv]
    exact ⟨_, rfl⟩
  split
  · exact ⟨_, rfl⟩
  · obtain ⟨v, hv⟩ := numberAt_some a b (wrap64 (1 - p.1)) p.2
    rw [hv]
    exact ⟨_, rfl⟩
theorem clueB_two {k n c : Int} (h : clueB k n c = true) : k = 2 → n ≠ 0 := by
  rintro rfl rfl
  simp [clueB, inB] at h
def fitB (a b : Int) (x : S29) (h : Int) : Bool := (impl_doesFit.f a b x.f0 x.f1 x.f2 h).getD false
def okC (x : S29) : Bool := clueB x.f0 x.f1 x.f2
theorem doesFit_val (a b : Int) (x : S29) (h : Int) (hx : okC x = true) : impl_doesFit.f a b x.f0 x.f1 x.f2 h = some (fitB a b x h) := by
  obtain ⟨v, hv⟩ := toldBy_some a b x.f0 x.f1 x.f2 h (clueB_two hx)
  unfold fitB impl_doesFit.f
  rw [hv]
  rfl
end Go.Proofs.Ytfjaapnnfpjfdaa.Pz
