/- Texts of this seat's proofs: contracts of its functions and plain laws about them, with no condition beyond those that each theorem states. -/
import Derived.Test.YtfjaapnnfpjfdaaQ70d2ea3a
import Derived.Test.YtfjaapnnfpjfdaaQ735cc7ca
import Derived.Test.YtfjaapnnfpjfdaaQ0b8cc9f3
import Derived.Test.YtfjaapnnfpjfdaaQ58a47136
import Derived.Test.YtfjaapnnfpjfdaaQ6e9af309
import Derived.Test.YtfjaapnnfpjfdaaQ4efa6517
import Derived.Test.YtfjaapnnfpjfdaaQ696790f5
import Derived.Test.YtfjaapnnfpjfdaaQ7d5bfa01
import Derived.Test.YtfjaapnnfpjfdaaQ84437383
import Derived.Test.YtfjaapnnfpjfdaaQ0eb1ef6b
import Derived.Test.YtfjaapnnfpjfdaaQ164cfe33
import Derived.Test.YtfjaapnnfpjfdaaQ3f773e62
namespace Go.Proofs.Ytfjaapnnfpjfdaa.Pz
open Go.RowKit Go.Proofs.Ytfjaapnnfpjfdaa.G Go.Proofs.YtfjaapnnfpjfdaaW.PrintWords Go.Proofs.YtfjaapnnfpjfdaaW.PrintLast Go.Proofs.YtfjaapnnfpjfdaaW.PrintMore
theorem pzAll_k {a b : Int} {l : List S29} (hh : hid a b = true) (hl : l.all okC = true) (hn : l.length ≤ 1000) {k : Nat} (hk : 50000 ≤ k) : spec_pzAll.f k a b l = some (sols a b l) := by
  have hb := houses_le hh
  have h0 : spec_pzAll.f 40081 a b l = some (sols a b l) := by
    unfold spec_pzAll.f
    have hmul : (houses a b).toNat * (l.length + 2) ≤ 40 * 1002 := Nat.mul_le_mul (by omega) (by omega)
    rw [pzAll_l0 a b l hh hl hn (houses a b).toNat [] 1 _ (by omega) (by omega) (by simp; omega) (by omega)]
    rfl
  exact at_rounds (fun k => spec_pzAll.mono a b l k) (by omega) h0
theorem pzGood_k (a b : Int) (l : List S29) {k : Nat} (hk : 50000 ≤ k) : spec_pzGood.f k a b l = some (good a b l) := by
  obtain ⟨K, h⟩ := pzGood_ev a b l
  have h : ∀ k, K ≤ k → spec_pzGood.f k a b l = some (good a b l) := h
  have h0 : spec_pzGood.f 1002 a b l = some (good a b l) := by
    have hs : ∃ r, spec_pzGood.f 1002 a b l = some r := by
      unfold spec_pzGood.f
      rw [pzStreet_val, Option.bind_some]
      cases hid a b with
      | false => exact ⟨_, by rw [if_neg (by decide), spec_pzGood.j0, if_pos rfl]⟩
      | true =>
        rw [if_pos rfl]
        by_cases h : l.length ≤ 6
        · have h6 : decide ((l.length : Int) > 6) = false := by simp; omega
          have := pzGood_l0 l (by omega) l.length 0 1001 (by omega) (by omega)
          rw [show ((0 : Nat) : Int) = 0 from rfl] at this
          exact ⟨_, by rw [h6, spec_pzGood.j0, if_neg (by decide)]; exact this⟩
        · have h6 : decide ((l.length : Int) > 6) = true := by simp; omega
          exact ⟨_, by rw [h6, spec_pzGood.j0, if_pos rfl]⟩
    obtain ⟨r, hr⟩ := hs
    have h1 := at_rounds (fun k => spec_pzGood.mono a b l k) (Nat.le_max_left 1002 K) hr
    rw [h _ (Nat.le_max_right 1002 K)] at h1
    rw [hr, h1]
  exact at_rounds (fun k => spec_pzGood.mono a b l k) (by omega) h0
theorem one_of (l : List S29) (i : Nat) (h : i < l.length) : (l.take (i + 1)).drop i = [l[i]] := by
  rw [List.take_succ_eq_append_getElem h, List.drop_left' (by rw [List.length_take]; omega)]
theorem all_sub {l m : List S29} (h : l.all okC = true) (hm : ∀ x ∈ m, x ∈ l) : m.all okC = true := by
  rw [List.all_eq_true] at h ⊢
  exact fun x hx => h x (hm x hx)
def cnt (a b : Int) (l : List S29) : Int := ((sols a b l).length : Int)
def lg (a b : Int) (l : List S29) : Nat → Nat → List Int → List Int
  | 0, _, acc => acc
  | d + 1, i, acc => lg a b l d (i + 1) (acc ++ [cnt a b (l.take i)])
theorem lg_len (a b : Int) (l : List S29) : ∀ (d i : Nat) (acc : List Int), (lg a b l d i acc).length = acc.length + d
  | 0, _, _ => rfl
  | d + 1, i, acc => by rw [lg, lg_len a b l d]; simp; omega
theorem left_spec (a b : Int) (l : List S29) (hg : good a b l = true) : ∀ (d i k : Nat) (acc : List Int), i + d = l.length + 1 → acc.length ≤ i → d + 60000 < k → spec_LeftByClues.l0 k acc (i : Int) a b l = some (lg a b l d i acc, true) := by
  obtain ⟨g1, g2, g3⟩ := good_facts hg
  intro d
  induction d with
  | zero =>
    intro i k acc hi ha hk
    obtain ⟨k, rfl⟩ : ∃ m, k = m + 1 := ⟨k - 1, by omega⟩
    rw [spec_LeftByClues.l0, if_neg (by omega)]
    rfl
  | succ d ih =>
    intro i k acc hi ha hk
    obtain ⟨k, rfl⟩ : ∃ m, k = m + 1 := ⟨k - 1, by omega⟩
    have hs := pzAll_k (k := k) g1 (all_sub g3 (m := l.take i) (fun x hx => List.mem_of_mem_take hx)) (by simp; omega) (by omega)
    rw [spec_LeftByClues.l0, if_pos (by omega), if_pos (by omega), Int.toNat_natCast, hs, Option.bind_some, if_pos (by omega), w64 (by omega) (by omega), show ((i : Int) + 1) = ((i + 1 : Nat) : Int) by omega, ih (i + 1) k _ (by omega) (by simp; omega) (by omega)]
    rfl
theorem left_impl (a b : Int) (l : List S29) (hg : good a b l = true) : ∀ (d i k : Nat) (acc : List Int), i + d = l.length + 1 → acc.length ≤ i → d + 60000 < k → impl_LeftByClues.l0 k acc ((l.length : Int) + 1) (i : Int) a b l = some (lg a b l d i acc, true) := by
  obtain ⟨g1, g2, g3⟩ := good_facts hg
  intro d
  induction d with
  | zero =>
    intro i k acc hi ha hk
    obtain ⟨k, rfl⟩ : ∃ m, k = m + 1 := ⟨k - 1, by omega⟩
    rw [impl_LeftByClues.l0, if_neg (by omega)]
    rfl
  | succ d ih =>
    intro i k acc hi ha hk
    obtain ⟨k, rfl⟩ : ∃ m, k = m + 1 := ⟨k - 1, by omega⟩
    have hs := solutions_val (l := l.take i) g1 (all_sub g3 (fun x hx => List.mem_of_mem_take hx))
    rw [impl_LeftByClues.l0, if_pos (by omega), if_pos (by omega), if_pos (by omega), Int.toNat_natCast, hs, Option.bind_some, if_pos (by omega), w64 (by omega) (by omega), show ((i : Int) + 1) = ((i + 1 : Nat) : Int) by omega, ih (i + 1) k _ (by omega) (by simp; omega) (by omega)]
    rfl
theorem LeftByClues_both (a b : Int) (l : List S29) : ∃ v, Ev (fun k => spec_LeftByClues.f k a b l) v ∧ Ev (fun k => impl_LeftByClues.f k a b l) v ∧ v.1.length ≤ 40 := by
  cases hg : good a b l with
  | false =>
    refine ⟨([], false), ⟨60000, fun k hk => ?_⟩, ⟨60000, fun k hk => ?_⟩, by simp⟩
    · show spec_LeftByClues.f k a b l = _
      rw [spec_LeftByClues.f, pzGood_k a b l (by omega), hg, Option.bind_some, if_neg (by decide)]
    · show impl_LeftByClues.f k a b l = _
      rw [impl_LeftByClues.f, isPuzzle_val, hg, Option.bind_some, if_neg (by decide)]
  | true =>
    obtain ⟨g1, g2, g3⟩ := good_facts hg
    refine ⟨(lg a b l (l.length + 1) 0 [], true), ⟨70000, fun k hk => ?_⟩, ⟨70000, fun k hk => ?_⟩, by rw [lg_len]; simp; omega⟩
    · show spec_LeftByClues.f k a b l = _
      have := left_spec a b l hg (l.length + 1) 0 k [] (by omega) (by simp) (by omega)
      rw [spec_LeftByClues.f, pzGood_k a b l (by omega), hg, Option.bind_some, if_pos rfl]
      exact this
    · show impl_LeftByClues.f k a b l = _
      have := left_impl a b l hg (l.length + 1) 0 k [] (by omega) (by simp) (by omega)
      rw [impl_LeftByClues.f, isPuzzle_val, hg, Option.bind_some, if_pos rfl, w64 (by omega) (by omega)]
      exact this
def hg_ (a b : Int) : Nat → List S29 → Nat → List S29
  | 0, l, _ => l
  | d + 1, l, i => if cnt a b (l.eraseIdx i) = 1 then hg_ a b d (l.eraseIdx i) i else hg_ a b d l (i + 1)
end Go.Proofs.Ytfjaapnnfpjfdaa.Pz
