/- Texts of this seat's proofs: contracts of its functions and plain laws about them, with no condition beyond those that each theorem states. -/
import Derived.Test.YtfjaapnnfpjfdaaQ18f50a20
import Derived.Test.YtfjaapnnfpjfdaaQ335e349f
import Derived.Test.YtfjaapnnfpjfdaaQc31a2ac4
import Derived.Test.YtfjaapnnfpjfdaaQ0ef5b0e2
import Derived.Test.YtfjaapnnfpjfdaaQ99dfbf05
import Derived.Test.YtfjaapnnfpjfdaaQc9b87141
import Derived.Test.YtfjaapnnfpjfdaaQ5478da7c
import Derived.Test.YtfjaapnnfpjfdaaQ13a16f57
import Derived.Test.YtfjaapnnfpjfdaaQ69aefdf8
import Derived.Test.YtfjaapnnfpjfdaaQ5aee2b72
import Derived.Test.YtfjaapnnfpjfdaaQe980335c
namespace Go.Proofs.Ytfjaapnnfpjfdaa.Pz
open Go.RowKit Go.Proofs.Ytfjaapnnfpjfdaa.G Go.Proofs.YtfjaapnnfpjfdaaW.PrintWords Go.Proofs.YtfjaapnnfpjfdaaW.PrintLast Go.Proofs.YtfjaapnnfpjfdaaW.PrintMore
theorem pzAll_k {a b : Int} {l : List S29} (hh : hid a b = true) (hl : l.all okC = true) (hn : l.length ≤ 1000) {k : Nat} (hk : 50000 ≤ k) : spec_pzAll.f k a b l = some (sols a b l) := by
  have hb := houses_le hh
  have h0 : spec_pzAll.f 40081 a b l = some (sols a b l) := by
    unfold spec_pzAll.f
    have hmul : (houses a b).toNat * (l.length + 2) ≤ 40 * 1002 := Nat.mul_le_mul (by omega) (by omega)
    rw [pzAll_l0 a b l hh hl hn (houses a b).toNat [] 1 _ (by omega) (by omega) (by simp; omega) (by omega)]
    rfl
  exact at_rounds (fun k => spec_pzAll.mono a b l k) (by omega) h0
theorem pzGood_k (a b : Int) (l : List S29) {k : Nat} (hk : 50000 ≤ k) : spec_pzGood.f k a b l = some (good a b l) := by
  obtain ⟨K, h⟩ := pzGood_ev a b l
  have h : ∀ k, K ≤ k → spec_pzGood.f k a b l = some (good a b l) := h
  have h0 : spec_pzGood.f 1002 a b l = some (good a b l) := by
    have hs : ∃ r, spec_pzGood.f 1002 a b l = some r := by
      unfold spec_pzGood.f
      rw [pzStreet_val, Option.bind_some]
      cases hid a b with
      | false => exact ⟨_, by rw [if_neg (by decide), spec_pzGood.j0, if_pos rfl]⟩
      | true =>
        rw [if_pos rfl]
        by_cases h : l.length ≤ 6
        · have h6 : decide ((l.length : Int) > 6) = false := by simp; omega
          have := pzGood_l0 l (by omega) l.length 0 1001 (by omega) (by omega)
          rw [show ((0 : Nat) : Int) = 0 from rfl] at this
          exact ⟨_, by rw [h6, spec_pzGood.j0, if_neg (by decide)]; exact this⟩
        · have h6 : decide ((l.length : Int) > 6) = true := by simp; omega
          exact ⟨_, by rw [h6, spec_pzGood.j0, if_pos rfl]⟩
    obtain ⟨r, hr⟩ := hs
    have h1 := at_rounds (fun k => spec_pzGood.mono a b l k) (Nat.le_max_left 1002 K) hr
    rw [h _ (Nat.le_max_right 1002 K)] at h1
    rw [hr, h1]
  exact at_rounds (fun k => spec_pzGood.mono a b l k) (by omega) h0
theorem one_of (l : List S29) (i : Nat) (h : i < l.length) : (l.take (i + 1)).drop i = [l[i]] := by
  rw [List.take_succ_eq_append_getElem h, List.drop_left' (by rw [List.length_take]; omega)]
theorem all_sub {l m : List S29} (h : l.all okC = true) (hm : ∀ x ∈ m, x ∈ l) : m.all okC = true := by
  rw [List.all_eq_true] at h ⊢
  exact fun x hx => h x (hm x hx)
def cnt (a b : Int) (l : List S29) : Int := ((sols a b l).length : Int)
theorem pzWithout_val (l : List S29) (i : Nat) (h : i < l.length) (hn : l.length ≤ 1000) : spec_pzWithout.f l (i : Int) = some (l.eraseIdx i) := by
  unfold spec_pzWithout.f
  rw [Option.bind_some, if_pos (by omega), if_pos (by omega), Option.bind_some, if_pos (by simp; omega), Option.bind_some, w64 (by omega) (by omega), if_pos (by omega), if_pos (by omega), Option.bind_some, if_pos (by simp; omega), show ((i : Int) + 1).toNat = i + 1 by omega, Int.toNat_natCast, List.eraseIdx_eq_take_drop_succ]
  rfl
theorem withoutClue_val (l : List S29) (i : Nat) (h : i < l.length) (hn : l.length ≤ 1000) : impl_withoutClue.f l (i : Int) = some (l.eraseIdx i) := by
  unfold impl_withoutClue.f
  rw [if_pos (by omega), Int.toNat_natCast]
theorem erase_ok {l : List S29} (h : l.all okC = true) (i : Nat) : (l.eraseIdx i).all okC = true := all_sub h (fun _ hx => List.mem_of_mem_eraseIdx hx)
def hg_ (a b : Int) : Nat → List S29 → Nat → List S29
  | 0, l, _ => l
  | d + 1, l, i => if cnt a b (l.eraseIdx i) = 1 then hg_ a b d (l.eraseIdx i) i else hg_ a b d l (i + 1)
theorem hg_len (a b : Int) : ∀ (d : Nat) (l : List S29) (i : Nat), (hg_ a b d l i).length ≤ l.length
  | 0, _, _ => Nat.le_refl _
  | d + 1, l, i => by
    unfold hg_
    split
    · have := hg_len a b d (l.eraseIdx i) i
      have h2 : (l.eraseIdx i).length ≤ l.length := List.length_eraseIdx_le ..
      omega
    · exact hg_len a b d l (i + 1)
theorem hard_spec (a b : Int) (l0 : List S29) (g1 : hid a b = true) : ∀ (d i k : Nat) (l : List S29), l.all okC = true → l.length ≤ 6 → i + d = l.length → d + 60000 < k → spec_HarderPuzzle.l0 k l (i : Int) a b l0 = some (a, b, hg_ a b d l i, true) := by
  intro d
  induction d with
  | zero =>
    intro i k l g3 g2 hi hk
    obtain ⟨k, rfl⟩ : ∃ m, k = m + 1 := ⟨k - 1, by omega⟩
    rw [spec_HarderPuzzle.l0, if_neg (by omega)]
    rfl
  | succ d ih =>
    intro i k l g3 g2 hi hk
    obtain ⟨k, rfl⟩ : ∃ m, k = m + 1 := ⟨k - 1, by omega⟩
    have hlen : (l.eraseIdx i).length = l.length - 1 := List.length_eraseIdx_of_lt (by omega)
    have hs := pzAll_k (k := k) g1 (erase_ok g3 i) (by omega) (by omega)
    have hsv : spec_pzSolved.f k a b (l.eraseIdx i) = some (cnt a b (l.eraseIdx i) == 1) := by
      unfold spec_pzSolved.f
      rw [hs]
      rfl
    rw [spec_HarderPuzzle.l0, if_pos (by omega), pzWithout_val l i (by omega) (by omega), Option.bind_some, hsv, Option.bind_some, ih i k (l.eraseIdx i) (erase_ok g3 i) (by omega) (by omega) (by omega), w64 (by omega) (by omega), show ((i : Int) + 1) = ((i + 1 : Nat) : Int) by omega, ih (i + 1) k l g3 g2 (by omega) (by omega)]
    conv => rhs; unfold hg_
    by_cases hc : cnt a b (l.eraseIdx i) = 1
    · rw [if_pos (by simpa using hc), if_pos hc]
    · rw [if_neg (by simpa using hc), if_neg hc]
theorem hard_impl (a b : Int) (l0 : List S29) (g1 : hid a b = true) : ∀ (d i k : Nat) (l : List S29), l.all okC = true → l.length ≤ 6 → i + d = l.length → d + 60000 < k → impl_HarderPuzzle.l0 k l (i : Int) a b l0 = some (a, b, hg_ a b d l i, true) := by
  intro d
  induction d with
  | zero =>
    intro i k l g3 g2 hi hk
    obtain ⟨k, rfl⟩ : ∃ m, k = m + 1 := ⟨k - 1, by omega⟩
    rw [impl_HarderPuzzle.l0, if_neg (by omega)]
    rfl
  | succ d ih =>
    intro i k l g3 g2 hi hk
    obtain ⟨k, rfl⟩ : ∃ m, k = m + 1 := ⟨k - 1, by omega⟩
    have hlen : (l.eraseIdx i).length = l.length - 1 := List.length_eraseIdx_of_lt (by omega)
    rw [impl_HarderPuzzle.l0, if_pos (by omega), withoutClue_val l i (by omega) (by omega), Option.bind_some, solutions_val g1 (erase_ok g3 i), Option.bind_some, ih i k (l.eraseIdx i) (erase_ok g3 i) (by omega) (by omega) (by omega), w64 (by omega) (by omega), show ((i : Int) + 1) = ((i + 1 : Nat) : Int) by omega, ih (i + 1) k l g3 g2 (by omega) (by omega)]
    conv => rhs; unfold hg_
    show (if cnt a b (l.eraseIdx i) = 1 then _ else _) = _
    split <;> rfl
theorem HarderPuzzle_both (a b : Int) (l : List S29) : ∃ v, Ev (fun k => spec_HarderPuzzle.f k a b l) v ∧ Ev (fun k => impl_HarderPuzzle.f k a b l) v ∧ v.2.2.1.length ≤ 40 := by
  cases hg : good a b l with
  | false =>
    refine ⟨(0, 0, [], false), ⟨60000, fun k hk => ?_⟩, ⟨60000, fun k hk => ?_⟩, by simp⟩
    · obtain ⟨k, rfl⟩ : ∃ m, k = m + 1 := ⟨k - 1, by omega⟩
      show spec_HarderPuzzle.f (k + 1) a b l = _
      rw [spec_HarderPuzzle.f, pzGood_k a b l (by omega), hg, Option.bind_some, if_neg (by decide), spec_HarderPuzzle.j0, if_pos rfl]
    · obtain ⟨k, rfl⟩ : ∃ m, k = m + 1 := ⟨k - 1, by omega⟩
      show impl_HarderPuzzle.f (k + 1) a b l = _
      rw [impl_HarderPuzzle.f, isPuzzle_val, hg, Option.bind_some, if_neg (by decide), impl_HarderPuzzle.j0, if_pos rfl]
  | true =>
    obtain ⟨g1, g2, g3⟩ := good_facts hg
    have hsv : ∀ k, 50000 ≤ k → spec_pzSolved.f k a b l = some (cnt a b l == 1) := fun k hk => by
      unfold spec_pzSolved.f
      rw [pzAll_k g1 g3 (by omega) hk]
      rfl
    have hi := solutions_val g1 g3
    by_cases hc : cnt a b l = 1
    · have c1 : (!(cnt a b l == 1)) = false := by simp [hc]
      have c2 : (((sols a b l).length : Int) != 1) = false := by show (cnt a b l != 1) = false; simp [hc]
      refine ⟨(a, b, hg_ a b l.length l 0, true), ⟨70000, fun k hk => ?_⟩, ⟨70000, fun k hk => ?_⟩, Nat.le_trans (hg_len a b l.length l 0) (by omega)⟩
      · obtain ⟨k, rfl⟩ : ∃ m, k = m + 1 := ⟨k - 1, by omega⟩
        show spec_HarderPuzzle.f (k + 1) a b l = _
        have := hard_spec a b l g1 l.length 0 k l g3 g2 (by omega) (by omega)
        rw [spec_HarderPuzzle.f, pzGood_k a b l (by omega), hg, Option.bind_some, if_pos rfl, hsv _ (by omega), Option.bind_some, c1, spec_HarderPuzzle.j0, if_neg (by decide), Option.bind_some, if_pos (by simp; omega), List.nil_append]
        exact this
      · obtain ⟨k, rfl⟩ : ∃ m, k = m + 1 := ⟨k - 1, by omega⟩
        show impl_HarderPuzzle.f (k + 1) a b l = _
        have := hard_impl a b l g1 l.length 0 k l g3 g2 (by omega) (by omega)
        rw [impl_HarderPuzzle.f, isPuzzle_val, hg, Option.bind_some, if_pos rfl, hi, Option.bind_some, c2, impl_HarderPuzzle.j0, if_neg (by decide)]
        unfold impl_Clue_85.f
        rw [if_pos (by omega), Option.bind_some]
        exact this
    · have c1 : (!(cnt a b l == 1)) = true := by simp [hc]
      have c2 : (((sols a b l).length : Int) != 1) = true := by show (cnt a b l != 1) = true; simp [hc]
      refine ⟨(0, 0, [], false), ⟨60000, fun k hk => ?_⟩, ⟨60000, fun k hk => ?_⟩, by simp⟩
      · obtain ⟨k, rfl⟩ : ∃ m, k = m + 1 := ⟨k - 1, by omega⟩
        show spec_HarderPuzzle.f (k + 1) a b l = _
        rw [spec_HarderPuzzle.f, pzGood_k a b l (by omega), hg, Option.bind_some, if_pos rfl, hsv _ (by omega), Option.bind_some, c1, spec_HarderPuzzle.j0, if_pos rfl]
      · obtain ⟨k, rfl⟩ : ∃ m, k = m + 1 := ⟨k - 1, by omega⟩
        show impl_HarderPuzzle.f (k + 1) a b l = _
        rw [impl_HarderPuzzle.f, isPuzzle_val, hg, Option.bind_some, if_pos rfl, hi, Option.bind_some, c2, impl_HarderPuzzle.j0, if_pos rfl]
end Go.Proofs.Ytfjaapnnfpjfdaa.Pz
