/- Texts of this seat's proofs: contracts of its functions and plain laws about them, with no condition beyond those that each theorem states. -/
import Derived.Test.YteiicfcjhphmpaaQec0ff597
import Derived.Test.YteiicfcjhphmpaaQcb16c1e2
import Derived.Test.YteiicfcjhphmpaaQea505d6a
import Derived.Test.YteiicfcjhphmpaaQ099ce3cb
import Derived.Test.YteiicfcjhphmpaaQea450fa6
namespace Go.Proofs.Yteiicfcjhphmpaa.Dk
open Go.RowKit Go.Proofs.Yteiicfcjhphmpaa.G Go.Proofs.YteiicfcjhphmpaaW.PrintWords
theorem w64 {x : Int} (h0 : -9223372036854775808 ≤ x) (h1 : x ≤ 9223372036854775807) : wrap64 x = x := by unfold wrap64; omega
def inB (a b c : Int) : Bool := decide (b ≤ a) && decide (a ≤ c)
theorem within_val (a b c : Int) : impl_within.f a b c = some (inB a b c) := by
  unfold impl_within.f inB
  by_cases h : a ≥ b
  · rw [if_pos h]; simp [show b ≤ a from h]
  · rw [if_neg h]; simp [show ¬ b ≤ a from h]
theorem l1In_val (a b c : Int) : spec_l1In.f a b c = some (inB a b c) := within_val a b c
def street (k p : Int) : Bool := inB k 0 2 && inB p 1 1000
theorem isStreet_val (k p : Int) : impl_IsStreet.f k p = some (street k p) := by
  unfold impl_IsStreet.f street
  rw [within_val, within_val]
  cases inB k 0 2 <;> rfl
theorem nuGood_val (k p : Int) : spec_nuGood.f k p = some (street k p) := isStreet_val k p
def dlv (c : Int) : Bool := decide (c = 108) || decide (c = 114) || decide (c = 98) || decide (c = 45)
def dlvs (s : ByteArray) (i : Nat) : Nat → Bool
  | 0 => true
  | d + 1 => dlv (bt s (i : Int)) && dlvs s (i + 1) d
theorem bt_range (s : ByteArray) (i : Int) : 0 ≤ bt s i ∧ bt s i < 256 := by
  unfold bt
  split
  · next h => exact ⟨by omega, by have := UInt8.toNat_lt s[i.toNat]; omega⟩
  · omega
theorem indexByte_lrb (c : UInt8) : (Lib.indexByte [108, 114, 98, 45] c < 0) = ¬ (dlv (c.toNat : Int) = true) := by
  have key : ∀ n : Nat, n < 256 → decide (Lib.indexByte [108, 114, 98, 45] (UInt8.ofNat n) < 0) = !(dlv (n : Int)) := by decide +kernel
  have := key c.toNat (UInt8.toNat_lt c)
  rw [UInt8.ofNat_toNat] at this
  by_cases h : Lib.indexByte [108, 114, 98, 45] c < 0
  · rw [decide_eq_true h] at this
    simp [h]
    cases hd : dlv (c.toNat : Int) <;> simp_all
  · rw [decide_eq_false h] at this
    simp [h]
    cases hd : dlv (c.toNat : Int) <;> simp_all
theorem poGood_l0 (s : ByteArray) (hs : s.size ≤ 1048577) : ∀ (d i k : Nat), i + d = s.size → d < k → spec_poGood.l0 k s (i : Int) = some (dlvs s i d) := by
  intro d
  induction d with
  | zero =>
    intro i k hi hk
    obtain ⟨k, rfl⟩ : ∃ m, k = m + 1 := ⟨k - 1, by omega⟩
    simp only [spec_poGood.l0]
    rw [if_neg (by omega)]
    rfl
  | succ d ih =>
    intro i k hi hk
    obtain ⟨k, rfl⟩ : ∃ m, k = m + 1 := ⟨k - 1, by omega⟩
    simp only [spec_poGood.l0]
    rw [if_pos (by omega), if_pos (by omega), w64 (by omega) (by omega), show ((i : Int) + 1) = ((i + 1 : Nat) : Int) by omega]
    rw [ih (i + 1) k (by omega) (by omega)]
    simp only [dlvs, dlv]
    by_cases h1 : bt s (i : Int) = 108
    · simp [h1]
    · by_cases h2 : bt s (i : Int) = 114
      · simp [h2]
      · by_cases h3 : bt s (i : Int) = 98
        · simp [h3]
        · by_cases h4 : bt s (i : Int) = 45
          · simp [h4]
          · simp [h1, h2, h3, h4]
theorem dlv_index (s : ByteArray) (i : Nat) : (Lib.indexByte [108, 114, 98, 45] (bt s (i : Int)).toNat.toUInt8 < 0) = ¬ (dlv (bt s (i : Int)) = true) := by
  rw [indexByte_lrb]
  have := bt_range s (i : Int)
  have e : (((bt s (i : Int)).toNat.toUInt8).toNat : Int) = bt s (i : Int) := by
    simp only [Nat.toUInt8_eq, UInt8.toNat_ofNat']
    omega
  rw [e]
theorem areDel_l0 (s : ByteArray) (hs : s.size ≤ 1048577) : ∀ (d i k : Nat), i + d = s.size → d < k → impl_AreDeliveries.l0 k s (s.size : Int) (i : Int) = some (dlvs s i d && inB (s.size : Int) 1 60) := by
  intro d
  induction d with
  | zero =>
    intro i k hi hk
    obtain ⟨k, rfl⟩ : ∃ m, k = m + 1 := ⟨k - 1, by omega⟩
    simp only [impl_AreDeliveries.l0]
    rw [if_neg (by omega), within_val]
    rfl
  | succ d ih =>
    intro i k hi hk
    obtain ⟨k, rfl⟩ : ∃ m, k = m + 1 := ⟨k - 1, by omega⟩
    simp only [impl_AreDeliveries.l0]
    rw [if_pos (by omega), if_pos (by omega), if_pos (by omega), w64 (by omega) (by omega), show ((i : Int) + 1) = ((i + 1 : Nat) : Int) by omega]
    rw [ih (i + 1) k (by omega) (by omega)]
    have e : strings_IndexByte.f (⟨#[108, 114, 98, 45]⟩ : ByteArray) (bt s (i : Int)) = some (Lib.indexByte [108, 114, 98, 45] (bt s (i : Int)).toNat.toUInt8) := rfl
    rw [e, Option.bind_some]
    simp only [dlvs, dlv_index]
    cases dlv (bt s (i : Int)) <;> simp
def delB (s : ByteArray) : Bool := dlvs s 0 s.size && inB (s.size : Int) 1 60
theorem poGood_ev (s : ByteArray) (hs : s.size ≤ 1048577) : Ev (fun k => spec_poGood.f k s) (delB s) := by
  refine Ev.of (k := s.size + 1) (fun k => spec_poGood.mono s k) ?_
  unfold spec_poGood.f delB
  rw [l1In_val, Option.bind_some]
  have := poGood_l0 s hs s.size 0 (s.size + 1) (by omega) (by omega)
  cases h : inB (s.size : Int) 1 60
  · simp
  · simp only [if_true, Bool.and_true]
    exact this
theorem areDel_ev (s : ByteArray) (hs : s.size ≤ 1048577) : Ev (fun k => impl_AreDeliveries.f k s) (delB s) := by
  refine Ev.of (k := s.size + 1) (fun k => impl_AreDeliveries.mono s k) ?_
  unfold impl_AreDeliveries.f delB
  exact areDel_l0 s hs s.size 0 (s.size + 1) (by omega) (by omega)
def allIn (l : List Int) (a b : Int) (i : Nat) : Nat → Bool
  | 0 => true
  | d + 1 => inB (rd l (i : Int)) a b && allIn l a b (i + 1) d
theorem allWithin_l0 (l : List Int) (a b : Int) (hn : l.length ≤ 1048577) : ∀ (d i k : Nat), i + d = l.length → d < k → impl_allWithin.l0 k a b l (l.length : Int) (i : Int) = some (allIn l a b i d) := by
  intro d
  induction d with
  | zero =>
    intro i k hi hk
    obtain ⟨k, rfl⟩ : ∃ m, k = m + 1 := ⟨k - 1, by omega⟩
    simp only [impl_allWithin.l0]
    rw [if_neg (by omega)]
    rfl
  | succ d ih =>
    intro i k hi hk
    obtain ⟨k, rfl⟩ : ∃ m, k = m + 1 := ⟨k - 1, by omega⟩
    simp only [impl_allWithin.l0]
    rw [if_pos (by omega), if_pos (by omega), if_pos (by omega), w64 (by omega) (by omega), show ((i : Int) + 1) = ((i + 1 : Nat) : Int) by omega, within_val, Option.bind_some, ih (i + 1) k (by omega) (by omega)]
    simp only [allIn]
    cases inB (rd l (i : Int)) a b <;> rfl
theorem l1All_l0 (l : List Int) (a b : Int) (hn : l.length ≤ 1048577) : ∀ (d i k : Nat), i + d = l.length → d < k → spec_l1All.l0 k a b l (l.length : Int) (i : Int) = some (allIn l a b i d) := by
  intro d
  induction d with
  | zero =>
    intro i k hi hk
    obtain ⟨k, rfl⟩ : ∃ m, k = m + 1 := ⟨k - 1, by omega⟩
    simp only [spec_l1All.l0]
    rw [if_neg (by omega)]
    rfl
  | succ d ih =>
    intro i k hi hk
    obtain ⟨k, rfl⟩ : ∃ m, k = m + 1 := ⟨k - 1, by omega⟩
    simp only [spec_l1All.l0]
    rw [if_pos (by omega), if_pos (by omega), if_pos (by omega), w64 (by omega) (by omega), show ((i : Int) + 1) = ((i + 1 : Nat) : Int) by omega, l1In_val, Option.bind_some, ih (i + 1) k (by omega) (by omega)]
    simp only [allIn]
    cases inB (rd l (i : Int)) a b <;> rfl
def sumTo (l : List Int) (i : Nat) : Nat → Int → Int
  | 0, s => s
  | d + 1, s => sumTo l (i + 1) d (wrap64 (s + rd l (i : Int)))
theorem sumOf_l0 (l : List Int) (hn : l.length ≤ 1048577) : ∀ (d i k : Nat) (s : Int), i + d = l.length → d < k → impl_sumOf.l0 k s l (l.length : Int) (i : Int) = some (sumTo l i d s) := by
  intro d
  induction d with
  | zero =>
    intro i k s hi hk
    obtain ⟨k, rfl⟩ : ∃ m, k = m + 1 := ⟨k - 1, by omega⟩
    simp only [impl_sumOf.l0]
    rw [if_neg (by omega)]
    rfl
  | succ d ih =>
    intro i k s hi hk
    obtain ⟨k, rfl⟩ : ∃ m, k = m + 1 := ⟨k - 1, by omega⟩
    simp only [impl_sumOf.l0]
    rw [if_pos (by omega), if_pos (by omega), if_pos (by omega), w64 (x := (i : Int) + 1) (by omega) (by omega), show ((i : Int) + 1) = ((i + 1 : Nat) : Int) by omega, ih (i + 1) k _ (by omega) (by omega)]
    rfl
theorem mdSum_l0 (l : List Int) (hn : l.length ≤ 1048577) : ∀ (d i k : Nat) (s : Int), i + d = l.length → d < k → spec_mdSum.l0 k s l (l.length : Int) (i : Int) = some (sumTo l i d s) := by
  intro d
  induction d with
  | zero =>
    intro i k s hi hk
    obtain ⟨k, rfl⟩ : ∃ m, k = m + 1 := ⟨k - 1, by omega⟩
    simp only [spec_mdSum.l0]
    rw [if_neg (by omega)]
    rfl
  | succ d ih =>
    intro i k s hi hk
    obtain ⟨k, rfl⟩ : ∃ m, k = m + 1 := ⟨k - 1, by omega⟩
    simp only [spec_mdSum.l0]
    rw [if_pos (by omega), if_pos (by omega), if_pos (by omega), w64 (x := (i : Int) + 1) (by omega) (by omega), show ((i : Int) + 1) = ((i + 1 : Nat) : Int) by omega, ih (i + 1) k _ (by omega) (by omega)]
    rfl
def pplB (l : List Int) : Bool := inB (l.length : Int) 1 60 && (allIn l 0 1000 0 l.length && decide (sumTo l 0 l.length 0 > 0))
theorem arePeople_ev (l : List Int) (hn : l.length ≤ 1048577) : Ev (fun k => impl_ArePeople.f k l) (pplB l) := by
  refine Ev.of (k := l.length + 1) (fun k => impl_ArePeople.mono l k) ?_
  have h1 := allWithin_l0 l 0 1000 hn l.length 0 (l.length + 1) (by omega) (by omega)
  have h2 := sumOf_l0 l hn l.length 0 (l.length + 1) 0 (by omega) (by omega)
  unfold impl_ArePeople.f pplB impl_allWithin.f impl_sumOf.f
  rw [within_val, Option.bind_some]
  rw [show ((0 : Nat) : Int) = 0 from rfl] at h1 h2
  rw [h1, h2]
  cases inB (l.length : Int) 1 60 <;> cases allIn l 0 1000 0 l.length <;> rfl
theorem mdGood_ev (l : List Int) (hn : l.length ≤ 1048577) : Ev (fun k => spec_mdGood.f k l) (pplB l) := by
  refine Ev.of (k := l.length + 1) (fun k => spec_mdGood.mono l k) ?_
  have h1 := l1All_l0 l 0 1000 hn l.length 0 (l.length + 1) (by omega) (by omega)
  have h2 := mdSum_l0 l hn l.length 0 (l.length + 1) 0 (by omega) (by omega)
  unfold spec_mdGood.f pplB spec_l1All.f spec_mdSum.f
  rw [l1In_val, Option.bind_some]
  rw [show ((0 : Nat) : Int) = 0 from rfl] at h1 h2
  rw [h1, h2]
  cases inB (l.length : Int) 1 60 <;> cases allIn l 0 1000 0 l.length <;> rfl
def deskB (a b : Int) (s : ByteArray) (l : List Int) : Bool := street a b && (delB s && pplB l)
theorem impl_isDesk_ev (a b : Int) (s : ByteArray) (l : List Int) (hs : s.size ≤ 1048577) (hn : l.length ≤ 1048577) : Ev (fun k => impl_IsDesk.f k a b s l) (deskB a b s l) := by
  obtain ⟨K1, h1⟩ := areDel_ev s hs
  obtain ⟨K2, h2⟩ := arePeople_ev l hn
  refine ⟨K1 + K2, fun k hk => ?_⟩
  have h1 : impl_AreDeliveries.f k s = some (delB s) := h1 k (by omega)
  have h2 : impl_ArePeople.f k l = some (pplB l) := h2 k (by omega)
  show impl_IsDesk.f k a b s l = _
  unfold impl_IsDesk.f deskB
  rw [isStreet_val, h1, h2]
  cases street a b <;> cases delB s <;> rfl
theorem spec_isDesk_ev (a b : Int) (s : ByteArray) (l : List Int) (hs : s.size ≤ 1048577) (hn : l.length ≤ 1048577) : Ev (fun k => spec_IsDesk.f k a b s l) (deskB a b s l) := by
  obtain ⟨K1, h1⟩ := poGood_ev s hs
  obtain ⟨K2, h2⟩ := mdGood_ev l hn
  refine ⟨K1 + K2, fun k hk => ?_⟩
  have h1 : spec_poGood.f k s = some (delB s) := h1 k (by omega)
  have h2 : spec_mdGood.f k l = some (pplB l) := h2 k (by omega)
  show spec_IsDesk.f k a b s l = _
  unfold spec_IsDesk.f spec_coGood.f deskB
  rw [nuGood_val, h1, h2]
  cases street a b <;> cases delB s <;> rfl
end Go.Proofs.Yteiicfcjhphmpaa.Dk
