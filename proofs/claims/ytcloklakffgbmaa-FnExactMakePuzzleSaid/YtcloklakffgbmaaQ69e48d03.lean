/- Texts of this seat's proofs: contracts of its functions and plain laws about them, with no condition beyond those that each theorem states. -/
import Derived.Test.YtcloklakffgbmaaQfdcb771a
import Derived.Test.YtcloklakffgbmaaQ65a9c89a
import Derived.Test.YtcloklakffgbmaaQ593a8e78
import Derived.Test.YtcloklakffgbmaaQ069c3342
import Derived.Test.YtcloklakffgbmaaQ98da2158
import Derived.Test.YtcloklakffgbmaaQ92e715a8
import Derived.Test.YtcloklakffgbmaaQ3b9a0302
namespace Go.Proofs.Ytcloklakffgbmaa.Pz
open Go.RowKit Go.Proofs.Ytcloklakffgbmaa.G Go.Proofs.YtcloklakffgbmaaW.PrintWords Go.Proofs.YtcloklakffgbmaaW.PrintLast Go.Proofs.YtcloklakffgbmaaW.PrintMore
theorem tmod_nn {x y : Int} (h : 0 ≤ x) : Int.tmod x y = x % y := Int.tmod_eq_emod_of_nonneg h
def houses (a b : Int) : Int := if a = 0 then b else 2 * b
theorem hid_facts {a b : Int} (h : hid a b = true) : (a = 0 ∨ a = 1 ∨ a = 2) ∧ 1 ≤ b ∧ b ≤ 20 := by
  unfold hid street inB at h
  simp at h
  omega
theorem houses_le {a b : Int} (h : hid a b = true) : 1 ≤ houses a b ∧ houses a b ≤ 40 := by
  have := hid_facts h
  unfold houses
  split <;> omega
theorem housesOf_val {a b : Int} (h : hid a b = true) : impl_housesOf.f a b = some (houses a b) := by
  have := hid_facts h
  unfold impl_housesOf.f houses
  split
  · rfl
  · rw [w64 (by omega) (by omega)]
theorem nuHouses_val {a b : Int} (h : hid a b = true) : spec_nuHouses.f a b = some (houses a b) := housesOf_val h
theorem plot_eq (a b h : Int) (h1 : 1 ≤ h) (h2 : h ≤ 1000000) : spec_nuPlot.f a b h = impl_plotOf.f a b h := by
  unfold spec_nuPlot.f impl_plotOf.f
  split
  · have e : wrap64 (1 - Int.tmod h 2) = Int.tmod (wrap64 (h - 1)) 2 := by
      rw [w64 (x := h - 1) (by omega) (by omega), tmod_nn (by omega), tmod_nn (by omega), w64 (by omega) (by omega)]
      omega
    rw [e]
  · rfl
theorem value_eq (a b k n h : Int) (c : Int) (h1 : 1 ≤ h) (h2 : h ≤ 1000000) : spec_pzValue.f a b k n h = impl_toldBy.f a b k n c h := by
  unfold spec_pzValue.f impl_toldBy.f
  rw [plot_eq a b h h1 h2]
  rfl
theorem plotOf_some (a b h : Int) : ∃ p, impl_plotOf.f a b h = some p := by
  unfold impl_plotOf.f
  split
  · exact ⟨_, rfl⟩
  · split <;> exact ⟨_, rfl⟩
theorem numberAt_some (a b s p : Int) : ∃ v, impl_numberAt.f a b s p = some v := by
  unfold impl_numberAt.f
  split
  · exact ⟨_, rfl⟩
  · split <;> exact ⟨_, rfl⟩
theorem oneIf_some (b : Bool) : ∃ v, impl_oneIf.f b = some v := by
  unfold impl_oneIf.f
  split <;> exact ⟨_, rfl⟩
theorem toldBy_some (a b k n c h : Int) (hn : k = 2 → n ≠ 0) : ∃ v, impl_toldBy.f a b k n c h = some v := by
  unfold impl_toldBy.f
  obtain ⟨p, hp⟩ := plotOf_some a b h
  rw [hp]
  simp only [Option.bind_some]
  split
  · exact ⟨_, rfl⟩
  split
  · exact ⟨_, rfl⟩
  split
  · rename_i h2
    rw [if_neg (hn h2)]
    obtain ⟨v, hv⟩ := oneIf_some (Int.tmod h n == 0)
    rw [hv]
    exact ⟨_, rfl⟩
  split
  · exact ⟨_, rfl⟩
  split
  · obtain ⟨v, hv⟩ := oneIf_some (decide (h > n))
    rw [hv]
    exact ⟨_, rfl⟩
  split
  · exact ⟨_, rfl⟩
  · obtain ⟨v, hv⟩ := numberAt_some a b (wrap64 (1 - p.1)) p.2
    rw [hv]
    exact ⟨_, rfl⟩
end Go.Proofs.Ytcloklakffgbmaa.Pz
