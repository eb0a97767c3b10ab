/- Texts of this seat's proofs: contracts of its functions and plain laws about them, with no condition beyond those that each theorem states. -/
import Derived.Test.YtcloklakffgbmaaQ98da2158
import Derived.Test.YtcloklakffgbmaaQ65a9c89a
import Derived.Test.YtcloklakffgbmaaQ976ca684
import Derived.Test.YtcloklakffgbmaaQ0618d2ad
import Derived.Test.YtcloklakffgbmaaQ69e48d03
namespace Go.Proofs.Ytcloklakffgbmaa.Pz
open Go.RowKit Go.Proofs.Ytcloklakffgbmaa.G Go.Proofs.YtcloklakffgbmaaW.PrintWords Go.Proofs.YtcloklakffgbmaaW.PrintLast Go.Proofs.YtcloklakffgbmaaW.PrintMore
def nx (z : Int) : Int := Int.tmod (wrap64 ((wrap64 (z * 233)) + 1871)) 10007
theorem nx_range {z : Int} (h0 : 0 ≤ z) (h1 : z ≤ 10006) : 0 ≤ nx z ∧ nx z ≤ 10006 := by
  unfold nx
  rw [w64 (x := z * 233) (by omega) (by omega), w64 (by omega) (by omega), tmod_nn (by omega)]
  omega
theorem pzNext_val (z : Int) : spec_pzNext.f z = some (nx z) := by
  unfold spec_pzNext.f nx
  rw [Int.mul_comm]
def mkA (kind z : Int) : Int := if kind = 2 then wrap64 ((Int.tmod z 8) + 2) else if kind = 4 then wrap64 ((Int.tmod z 40) + 1) else 0
def mkB (a b kind n h : Int) : Int := (impl_toldBy.f a b kind n 0 h).getD 0
def mkC (a b h z : Int) : S37 := ⟨Int.tmod (nx z) 6, mkA (Int.tmod (nx z) 6) (nx (nx z)), mkB a b (Int.tmod (nx z) 6) (mkA (Int.tmod (nx z) 6) (nx (nx z))) h⟩
def mkL (a b h : Int) : Nat → Int → List S37 → List S37
  | 0, _, acc => acc
  | d + 1, z, acc => mkL a b h d (nx (nx z)) (acc ++ [mkC a b h z])
theorem mkL_len (a b h : Int) : ∀ (d : Nat) (z : Int) (acc : List S37), (mkL a b h d z acc).length = acc.length + d := by
  intro d
  induction d with
  | zero => intro z acc; rfl
  | succ d ih =>
    intro z acc
    simp only [mkL]
    rw [ih]
    simp
    omega
theorem told_mk (a b kind z h : Int) (hz : 0 ≤ z) : impl_toldBy.f a b kind (mkA kind z) 0 h = some (mkB a b kind (mkA kind z) h) := by
  obtain ⟨v, hv⟩ := toldBy_some a b kind (mkA kind z) 0 h (fun e => by
    unfold mkA
    rw [if_pos e, tmod_nn hz, w64 (by omega) (by omega)]
    omega)
  unfold mkB
  rw [hv]
  rfl
theorem make_impl (a b h : Int) (n : Nat) (hn : n ≤ 6) : ∀ (d i k : Nat) (z : Int) (acc : List S37), i + d = n → d < k → 0 ≤ z → z ≤ 10006 → acc.length ≤ i →
    impl_MakePuzzle.l0 k h z (n : Int) (i : Int) a b a b acc = some (a, b, mkL a b h d z acc, true) := by
  intro d
  induction d with
  | zero =>
    intro i k z acc hi hk h0 h1 ha
    obtain ⟨k, rfl⟩ : ∃ m, k = m + 1 := ⟨k - 1, by omega⟩
    simp only [impl_MakePuzzle.l0]
    rw [if_neg (by omega)]
    rfl
  | succ d ih =>
    intro i k z acc hi hk h0 h1 ha
    obtain ⟨k, rfl⟩ : ∃ m, k = m + 1 := ⟨k - 1, by omega⟩
    obtain ⟨r0, r1⟩ := nx_range h0 h1
    obtain ⟨s0, s1⟩ := nx_range r0 r1
    simp only [impl_MakePuzzle.l0]
    rw [if_pos (by omega)]
    have e1 : Int.tmod (wrap64 ((wrap64 (z * 233)) + 1871)) 10007 = nx z := rfl
    have e2 : Int.tmod (wrap64 ((wrap64 (nx z * 233)) + 1871)) 10007 = nx (nx z) := rfl
    simp only [e1, e2]
    rw [w64 (x := (i : Int) + 1) (by omega) (by omega), show ((i : Int) + 1) = ((i + 1 : Nat) : Int) by omega]
    have ht := told_mk a b (Int.tmod (nx z) 6) (nx (nx z)) h s0
    have hr := ih (i + 1) k (nx (nx z)) (acc ++ [mkC a b h z]) (by omega) (by omega) s0 s1 (by simp; omega)
    have hl : acc.length < 5864062014805 := by omega
    simp only [mkL]
    rw [← hr]
    by_cases c2 : Int.tmod (nx z) 6 = 2
    · rw [if_pos c2]
      have hA : mkA (Int.tmod (nx z) 6) (nx (nx z)) = wrap64 ((Int.tmod (nx (nx z)) 8) + 2) := by rw [mkA, if_pos c2]
      rw [hA] at ht
      rw [ht, Option.bind_some, if_pos hl]
      simp only [mkC, hA]
    · rw [if_neg c2]
      by_cases c4 : Int.tmod (nx z) 6 = 4
      · rw [if_pos c4]
        have hA : mkA (Int.tmod (nx z) 6) (nx (nx z)) = wrap64 ((Int.tmod (nx (nx z)) 40) + 1) := by rw [mkA, if_neg c2, if_pos c4]
        rw [hA] at ht
        rw [ht, Option.bind_some, if_pos hl]
        simp only [mkC, hA]
      · rw [if_neg c4]
        have hA : mkA (Int.tmod (nx z) 6) (nx (nx z)) = 0 := by rw [mkA, if_neg c2, if_neg c4]
        rw [hA] at ht
        rw [ht, Option.bind_some, if_pos hl]
        simp only [mkC, hA]
theorem pzOf_val (a b h z : Int) (h1 : 1 ≤ h) (h2 : h ≤ 1000000) (hz : 0 ≤ nx (nx z)) : spec_pzOf.f a b (Int.tmod (nx z) 6) (nx (nx z)) h = some ((mkC a b h z).f0, (mkC a b h z).f1, (mkC a b h z).f2) := by
  have ht := told_mk a b (Int.tmod (nx z) 6) (nx (nx z)) h hz
  rw [← value_eq a b (Int.tmod (nx z) 6) (mkA (Int.tmod (nx z) 6) (nx (nx z))) h 0 h1 h2] at ht
  unfold spec_pzOf.f
  by_cases c2 : Int.tmod (nx z) 6 = 2
  · have hA : mkA (Int.tmod (nx z) 6) (nx (nx z)) = wrap64 ((Int.tmod (nx (nx z)) 8) + 2) := by rw [mkA, if_pos c2]
    rw [hA] at ht
    rw [if_pos c2, ht, Option.bind_some]
    simp only [mkC, hA]
  · by_cases c4 : Int.tmod (nx z) 6 = 4
    · have hA : mkA (Int.tmod (nx z) 6) (nx (nx z)) = wrap64 ((Int.tmod (nx (nx z)) 40) + 1) := by rw [mkA, if_neg c2, if_pos c4]
      rw [hA] at ht
      rw [if_neg c2, if_pos c4, ht, Option.bind_some]
      simp only [mkC, hA]
    · have hA : mkA (Int.tmod (nx z) 6) (nx (nx z)) = 0 := by rw [mkA, if_neg c2, if_neg c4]
      rw [hA] at ht
      rw [if_neg c2, if_neg c4, ht, Option.bind_some]
      simp only [mkC, hA]
theorem make_spec (a b h : Int) (h1 : 1 ≤ h) (h2 : h ≤ 1000000) : ∀ (d k : Nat) (z : Int) (acc : List S37), d ≤ 6 → d < k → 0 ≤ z → z ≤ 10006 → acc.length ≤ 100 - d →
    spec_MakePuzzle.l0 k h (d : Int) z a b a b acc = some (a, b, mkL a b h d z acc, true) := by
  intro d
  induction d with
  | zero =>
    intro k z acc hd hk h0 h1 ha
    obtain ⟨k, rfl⟩ : ∃ m, k = m + 1 := ⟨k - 1, by omega⟩
    simp only [spec_MakePuzzle.l0]
    rw [if_neg (by omega)]
    rfl
  | succ d ih =>
    intro k z acc hd hk h0 hz ha
    obtain ⟨k, rfl⟩ : ∃ m, k = m + 1 := ⟨k - 1, by omega⟩
    obtain ⟨r0, r1⟩ := nx_range h0 hz
    obtain ⟨s0, s1⟩ := nx_range r0 r1
    simp only [spec_MakePuzzle.l0]
    rw [if_pos (by omega), pzNext_val, Option.bind_some, pzNext_val, Option.bind_some, pzOf_val a b h z h1 h2 s0, Option.bind_some, if_pos (by omega), w64 (by omega) (by omega), show (((d + 1 : Nat) : Int) - 1) = (d : Int) by omega]
    exact ih k (nx (nx z)) (acc ++ [mkC a b h z]) (by omega) (by omega) s0 s1 (by simp; omega)
theorem MakePuzzle_both (a b h c s : Int) : ∃ v, Ev (fun k => spec_MakePuzzle.f k a b h c s) v ∧ Ev (fun k => impl_MakePuzzle.f k a b h c s) v ∧ v.2.2.1.length ≤ 40 := by
  have bad : ∀ k, 1 ≤ k → spec_MakePuzzle.j0 k h c s true a b = some (0, 0, [], false) := fun k hk => by
    obtain ⟨k, rfl⟩ : ∃ m, k = m + 1 := ⟨k - 1, by omega⟩
    simp only [spec_MakePuzzle.j0]
    rw [if_pos trivial]
  have bad' : ∀ k, 1 ≤ k → impl_MakePuzzle.j0 k h c s true a b = some (0, 0, [], false) := fun k hk => by
    obtain ⟨k, rfl⟩ : ∃ m, k = m + 1 := ⟨k - 1, by omega⟩
    simp only [impl_MakePuzzle.j0]
    rw [if_pos trivial]
  cases hh : hid a b with
  | false =>
    refine ⟨(0, 0, [], false), ⟨1, fun k hk => ?_⟩, ⟨1, fun k hk => ?_⟩, by simp⟩
    · show spec_MakePuzzle.f k a b h c s = _
      simp [spec_MakePuzzle.f, spec_pzHidden.f, pzStreet_val, hh, bad k hk]
    · show impl_MakePuzzle.f k a b h c s = _
      simp [impl_MakePuzzle.f, hidden_val, hh, bad' k hk]
  | true =>
    have hs : street a b = true := by
      unfold hid at hh
      simp at hh
      exact hh.1
    obtain ⟨g1, g2⟩ := houses_le hh
    have e1 : impl_isHouse.f a b h = some (inB h 1 (houses a b)) := by
      simp [impl_isHouse.f, isStreet_val, hs, housesOf_val hh, within_val]
    have e2 : spec_pzHidden.f a b h = some (inB h 1 (houses a b)) := by
      simp [spec_pzHidden.f, pzStreet_val, hh, nuHouses_val hh, l1In_val]
    cases hb : inB h 1 (houses a b) with
    | false =>
      rw [hb] at e1 e2
      refine ⟨(0, 0, [], false), ⟨1, fun k hk => ?_⟩, ⟨1, fun k hk => ?_⟩, by simp⟩
      · show spec_MakePuzzle.f k a b h c s = _
        simp [spec_MakePuzzle.f, e2, bad k hk]
      · show impl_MakePuzzle.f k a b h c s = _
        simp [impl_MakePuzzle.f, hidden_val, hh, e1, bad' k hk]
    | true =>
      rw [hb] at e1 e2
      have hb' : 1 ≤ h ∧ h ≤ houses a b := by unfold inB at hb; simpa using hb
      cases hc : inB c 0 6 with
      | false =>
        refine ⟨(0, 0, [], false), ⟨1, fun k hk => ?_⟩, ⟨1, fun k hk => ?_⟩, by simp⟩
        · show spec_MakePuzzle.f k a b h c s = _
          simp [spec_MakePuzzle.f, e2, l1In_val, hc, bad k hk]
        · show impl_MakePuzzle.f k a b h c s = _
          simp [impl_MakePuzzle.f, hidden_val, hh, e1, within_val, hc, bad' k hk]
      | true =>
        have hc' : 0 ≤ c ∧ c ≤ 6 := by unfold inB at hc; simpa using hc
        cases hz : inB s 0 9999 with
        | false =>
          refine ⟨(0, 0, [], false), ⟨1, fun k hk => ?_⟩, ⟨1, fun k hk => ?_⟩, by simp⟩
          · show spec_MakePuzzle.f k a b h c s = _
            simp [spec_MakePuzzle.f, e2, l1In_val, hc, hz, bad k hk]
          · show impl_MakePuzzle.f k a b h c s = _
            simp [impl_MakePuzzle.f, hidden_val, hh, e1, within_val, hc, hz, bad' k hk]
        | true =>
          have hz' : 0 ≤ s ∧ s ≤ 9999 := by unfold inB at hz; simpa using hz
          obtain ⟨n, rfl⟩ : ∃ n : Nat, c = (n : Int) := ⟨c.toNat, by omega⟩
          refine ⟨(a, b, mkL a b h n s [], true), ⟨n + 5, fun k hk => ?_⟩, ⟨n + 5, fun k hk => ?_⟩, by rw [mkL_len]; simp; omega⟩
          · show spec_MakePuzzle.f k a b h n s = _
            obtain ⟨k, rfl⟩ : ∃ m, k = m + 1 := ⟨k - 1, by omega⟩
            have := make_spec a b h hb'.1 (by omega) n k s [] (by omega) (by omega) (by omega) (by omega) (by simp)
            simp [spec_MakePuzzle.f, e2, l1In_val, hc, hz, spec_MakePuzzle.j0, this]
          · show impl_MakePuzzle.f k a b h n s = _
            obtain ⟨k, rfl⟩ : ∃ m, k = m + 1 := ⟨k - 1, by omega⟩
            have := make_impl a b h n (by omega) n 0 k s [] (by omega) (by omega) (by omega) (by omega) (by simp)
            rw [show ((0 : Nat) : Int) = 0 from rfl] at this
            simp [impl_MakePuzzle.f, hidden_val, hh, e1, within_val, hc, hz, impl_MakePuzzle.j0, this]
end Go.Proofs.Ytcloklakffgbmaa.Pz
