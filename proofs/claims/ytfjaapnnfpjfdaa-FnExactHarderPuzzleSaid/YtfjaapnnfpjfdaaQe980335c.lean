/- Texts of this seat's proofs: contracts of its functions and plain laws about them, with no condition beyond those that each theorem states. -/
import Derived.Test.YtfjaapnnfpjfdaaQ13a16f57
import Derived.Test.YtfjaapnnfpjfdaaQ5478da7c
import Derived.Test.YtfjaapnnfpjfdaaQ103673cd
import Derived.Test.YtfjaapnnfpjfdaaQ99dfbf05
import Derived.Test.YtfjaapnnfpjfdaaQ0ef5b0e2
import Derived.Test.YtfjaapnnfpjfdaaQd9c0fccc
import Derived.Test.YtfjaapnnfpjfdaaQ6cc6034a
import Derived.Test.YtfjaapnnfpjfdaaQ80efa908
namespace Go.Proofs.Ytfjaapnnfpjfdaa.Pz
open Go.RowKit Go.Proofs.Ytfjaapnnfpjfdaa.G Go.Proofs.YtfjaapnnfpjfdaaW.PrintWords Go.Proofs.YtfjaapnnfpjfdaaW.PrintLast Go.Proofs.YtfjaapnnfpjfdaaW.PrintMore
theorem tmod_nn {x y : Int} (h : 0 ≤ x) : Int.tmod x y = x % y := Int.tmod_eq_emod_of_nonneg h
def houses (a b : Int) : Int := if a = 0 then b else 2 * b
theorem hid_facts {a b : Int} (h : hid a b = true) : (a = 0 ∨ a = 1 ∨ a = 2) ∧ 1 ≤ b ∧ b ≤ 20 := by
  unfold hid street inB at h
  simp at h
  omega
theorem houses_le {a b : Int} (h : hid a b = true) : 1 ≤ houses a b ∧ houses a b ≤ 40 := by
  have := hid_facts h
  unfold houses
  split <;> omega
theorem housesOf_val {a b : Int} (h : hid a b = true) : impl_housesOf.f a b = some (houses a b) := by
  have := hid_facts h
  unfold impl_housesOf.f houses
  split
  · rfl
  · rw [w64 (by omega) (by omega)]
theorem nuHouses_val {a b : Int} (h : hid a b = true) : spec_nuHouses.f a b = some (houses a b) := housesOf_val h
theorem plot_eq (a b h : Int) (h1 : 1 ≤ h) (h2 : h ≤ 1000000) : spec_nuPlot.f a b h = impl_plotOf.f a b h := by
  unfold spec_nuPlot.f impl_plotOf.f
  split
  · have e : wrap64 (1 - Int.tmod h 2) = Int.tmod (wrap64 (h - 1)) 2 := by
      rw [w64 (x := h - 1) (by omega) (by omega), tmod_nn (by omega), tmod_nn (by omega), w64 (by omega) (by omega)]
      omega
    rw [e]
  · rfl
theorem value_eq (a b k n h : Int) (c : Int) (h1 : 1 ≤ h) (h2 : h ≤ 1000000) : spec_pzValue.f a b k n h = impl_toldBy.f a b k n c h := by
  unfold spec_pzValue.f impl_toldBy.f
  rw [plot_eq a b h h1 h2]
  rfl
theorem fits_eq (a b k n c h : Int) (h1 : 1 ≤ h) (h2 : h ≤ 1000000) : spec_pzFits.f a b k n c h = impl_doesFit.f a b k n c h := by
  unfold spec_pzFits.f impl_doesFit.f
  rw [value_eq a b k n h c h1 h2]
theorem plotOf_some (a b h : Int) : ∃ p, impl_plotOf.f a b h = some p := by
  unfold impl_plotOf.f
  split
  · exact ⟨_, rfl⟩
  · split <;> exact ⟨_, rfl⟩
theorem numberAt_some (a b s p : Int) : ∃ v, impl_numberAt.f a b s p = some v := by
  unfold impl_numberAt.f
  split
  · exact ⟨_, rfl⟩
  · split <;> exact ⟨_, rfl⟩
theorem oneIf_some (b : Bool) : ∃ v, impl_oneIf.f b = some v := by
  unfold impl_oneIf.f
  split <;> exact ⟨_, rfl⟩
theorem toldBy_some (a b k n c h : Int) (hn : k = 2 → n ≠ 0) : ∃ v, impl_toldBy.f a b k n c h = some v := by
  unfold impl_toldBy.f
  obtain ⟨p, hp⟩ := plotOf_some a b h
  rw [hp]
  simp only [Option.bind_some]
  split
  · exact ⟨_, rfl⟩
  split
  · exact ⟨_, rfl⟩
  split
  · rename_i h2
    rw [if_neg (hn h2)]
    obtain ⟨v, hv⟩ := oneIf_some (Int.tmod h n == 0)
    rw [hv]
    exact ⟨_, rfl⟩
  split
  · exact ⟨_, rfl⟩
  split
  · obtain ⟨v, hv⟩ := oneIf_some (decide (h > n))
    rw [hv]
    exact ⟨_, rfl⟩
  split
  · exact ⟨_, rfl⟩
  · obtain ⟨v, hv⟩ := numberAt_some a b (wrap64 (1 - p.1)) p.2
    rw [hv]
    exact ⟨_, rfl⟩
theorem clueB_two {k n c : Int} (h : clueB k n c = true) : k = 2 → n ≠ 0 := by
  rintro rfl rfl
  simp [clueB, inB] at h
def fitB (a b : Int) (x : S29) (h : Int) : Bool := (impl_doesFit.f a b x.f0 x.f1 x.f2 h).getD false
def okC (x : S29) : Bool := clueB x.f0 x.f1 x.f2
theorem clueOk_eq (x : S29) : clueOk x = okC x := by
  have := isClue_some x
  rw [isClue_val] at this
  exact (Option.some.inj this).symm
theorem doesFit_val (a b : Int) (x : S29) (h : Int) (hx : okC x = true) : impl_doesFit.f a b x.f0 x.f1 x.f2 h = some (fitB a b x h) := by
  obtain ⟨v, hv⟩ := toldBy_some a b x.f0 x.f1 x.f2 h (clueB_two hx)
  unfold fitB impl_doesFit.f
  rw [hv]
  rfl
def allFit (a b : Int) (l : List S29) (h : Int) : Bool := l.all fun x => fitB a b x h
theorem fitsAll_val (a b : Int) (l : List S29) (h : Int) (hl : l.all okC = true) : fitsAll a b l h = some (allFit a b l h) := by
  unfold fitsAll allFit
  have h1 : (l.all fun x => (impl_doesFit.f a b x.f0 x.f1 x.f2 h).isSome) = true := by
    rw [List.all_eq_true]
    intro x hx
    rw [doesFit_val a b x h (List.all_eq_true.1 hl x hx)]
    rfl
  rw [if_pos h1]
  congr 1
  have e : (fun x : S29 => !((impl_doesFit.f a b x.f0 x.f1 x.f2 h).getD false)) = fun x => !(fitB a b x h) := rfl
  rw [e, List.not_any_eq_all_not]
  simp
def solB (a b : Int) (l : List S29) : Nat → Int → List Int
  | 0, _ => []
  | m + 1, h => if allFit a b l h = true then h :: solB a b l m (h + 1) else solB a b l m (h + 1)
theorem solGo_val (a b : Int) (l : List S29) (hl : l.all okC = true) : ∀ (m : Nat) (acc : List Int) (h : Int), acc.length + m ≤ 1000 → solGo a b l m acc h = some (acc ++ solB a b l m h) := by
  intro m
  induction m with
  | zero => intro acc h _; simp [solGo, solB]
  | succ m ih =>
    intro acc h hm
    unfold solGo solB
    rw [fitsAll_val a b l h hl]
    simp only [Option.bind_some]
    by_cases hf : allFit a b l h = true
    · rw [if_pos hf, if_pos hf, if_pos (by omega), ih (acc ++ [h]) (h + 1) (by simp; omega)]
      simp
    · rw [if_neg hf, if_neg hf, ih acc (h + 1) (by omega)]
def sols (a b : Int) (l : List S29) : List Int := solB a b l (houses a b).toNat 1
theorem solutions_val {a b : Int} {l : List S29} (h : hid a b = true) (hl : l.all okC = true) : impl_solutions.f a b l = some (sols a b l) := by
  have := houses_le h
  unfold impl_solutions.f
  rw [housesOf_val h]
  simp only [Option.bind_some]
  rw [if_pos (by omega), solGo_val a b l hl _ _ _ (by simp; omega)]
  simp [sols]
theorem pzAll_l1 (a b : Int) (l acc : List _) (h : Int) (hl : l.all okC = true) (h1 : 1 ≤ h) (h2 : h ≤ 1000) (hn : l.length ≤ 1000) (ha : acc.length ≤ 1000) : ∀ (d i k : Nat) (f : Bool), i + d = l.length →
    spec_pzAll.l1 (k + d + 1) l acc h f l (l.length : Int) (i : Int) a b = if (f && (l.drop i).all fun x => fitB a b x h) = true then spec_pzAll.l0 k l (acc ++ [h]) (h + 1) a b else spec_pzAll.l0 k l acc (h + 1) a b := by
  intro d
  induction d with
  | zero =>
    intro i k f hi
    obtain rfl : i = l.length := by omega
    have hL : acc.length < 17592186044416 := by omega
    rw [Nat.add_zero, spec_pzAll.l1, if_neg (by omega), w64 (by omega) (by omega), if_pos hL]
    simp
  | succ d ih =>
    intro i k f hi
    rw [show k + (d + 1) + 1 = (k + d + 1) + 1 from rfl, spec_pzAll.l1]
    have hx : l[i]? = some l[i] := List.getElem?_eq_getElem (by omega)
    have hrd : rd_T29 l (i : Int) = l[i] := by simp [rd_T29, List.getD, hx]
    have hok : okC l[i] = true := List.all_eq_true.1 hl _ (List.getElem_mem _)
    rw [if_pos (by omega), if_pos (by omega), if_pos (by omega), hrd, fits_eq _ _ _ _ _ _ h1 (by omega), doesFit_val a b l[i] h hok, Option.bind_some, w64 (by omega) (by omega), show ((i : Int) + 1) = ((i + 1 : Nat) : Int) by omega, List.drop_eq_getElem_cons (by omega), List.all_cons]
    cases f with
    | true =>
      rw [if_pos rfl, ih (i + 1) k _ (by omega)]
      simp
    | false =>
      rw [if_neg (by decide), ih (i + 1) k _ (by omega)]
      simp
theorem pzAll_l0 (a b : Int) (l : List S29) (hh : hid a b = true) (hl : l.all okC = true) (hn : l.length ≤ 1000) : ∀ (m : Nat) (acc : List Int) (h : Int) (k : Nat), 1 ≤ h → h + m = houses a b + 1 → acc.length + m ≤ 100 → m * (l.length + 2) < k →
    spec_pzAll.l0 k l acc h a b = some (acc ++ solB a b l m h) := by
  have hb := houses_le hh
  intro m
  induction m with
  | zero =>
    intro acc h k h1 hm _ hk
    obtain ⟨k, rfl⟩ : ∃ m, k = m + 1 := ⟨k - 1, by omega⟩
    simp only [spec_pzAll.l0, nuHouses_val hh, Option.bind_some]
    rw [if_neg (by omega)]
    simp [solB]
  | succ m ih =>
    intro acc h k h1 hm ha hk
    rw [Nat.succ_mul] at hk
    obtain ⟨k, rfl⟩ : ∃ q, k = (q + l.length + 1) + 1 := ⟨k - (l.length + 2), by omega⟩
    simp only [spec_pzAll.l0, nuHouses_val hh, Option.bind_some]
    rw [if_pos (by omega)]
    have := pzAll_l1 a b l acc h hl h1 (by omega) hn (by omega) l.length 0 k true (by omega)
    simp only [List.drop_zero, Bool.true_and] at this
    rw [show ((0 : Nat) : Int) = 0 from rfl] at this
    rw [this]
    unfold solB
    change (if allFit a b l h = true then _ else _) = _
    by_cases hf : allFit a b l h = true
    · rw [if_pos hf, if_pos hf, ih (acc ++ [h]) (h + 1) k (by omega) (by omega) (by simp; omega) (by omega)]
      simp
    · rw [if_neg hf, if_neg hf, ih acc (h + 1) k (by omega) (by omega) (by omega) (by omega)]
def good (a b : Int) (l : List S29) : Bool := hid a b && (decide (l.length ≤ 6) && l.all okC)
theorem isPuzzle_val (a b : Int) (l : List S29) : impl_IsPuzzle.f a b l = some (good a b l) := by
  unfold impl_IsPuzzle.f good
  rw [hidden_val]
  simp only [Option.bind_some]
  cases hid a b with
  | false => rfl
  | true =>
    rw [if_pos rfl]
    by_cases h : l.length ≤ 6
    · rw [if_pos (by omega)]
      have e : (fun x => !clueOk x) = fun x : S29 => !(okC x) := by funext x; rw [clueOk_eq]
      rw [e, List.not_any_eq_all_not]
      simp [h]
    · rw [if_neg (by omega)]
      simp [h]
theorem pzGood_l0 (l : List S29) (hn : l.length ≤ 1000) : ∀ (d i k : Nat), i + d = l.length → d < k → spec_pzGood.l0 k l (l.length : Int) (i : Int) = some ((l.drop i).all okC) := by
  intro d
  induction d with
  | zero =>
    intro i k hi hk
    obtain ⟨k, rfl⟩ : ∃ m, k = m + 1 := ⟨k - 1, by omega⟩
    obtain rfl : i = l.length := by omega
    simp only [spec_pzGood.l0]
    rw [if_neg (by omega)]
    simp
  | succ d ih =>
    intro i k hi hk
    obtain ⟨k, rfl⟩ : ∃ m, k = m + 1 := ⟨k - 1, by omega⟩
    simp only [spec_pzGood.l0]
    have hx : l[i]? = some l[i] := List.getElem?_eq_getElem (by omega)
    have hrd : rd_T29 l (i : Int) = l[i] := by simp [rd_T29, List.getD, hx]
    rw [if_pos (by omega), if_pos (by omega), if_pos (by omega), hrd, pzClue_val, w64 (by omega) (by omega), show ((i : Int) + 1) = ((i + 1 : Nat) : Int) by omega, List.drop_eq_getElem_cons (by omega), List.all_cons]
    simp only [Option.bind_some]
    have e : clueB l[i].f0 l[i].f1 l[i].f2 = okC l[i] := rfl
    rw [e]
    cases okC l[i] with
    | true => rw [if_pos rfl, ih (i + 1) k (by omega) (by omega)]; simp
    | false => rw [if_neg (by decide)]; simp
theorem pzGood_ev (a b : Int) (l : List S29) : Ev (fun k => spec_pzGood.f k a b l) (good a b l) := by
  refine Ev.of (k := 1002) (fun k => spec_pzGood.mono a b l k) ?_
  unfold spec_pzGood.f good
  rw [pzStreet_val]
  simp only [Option.bind_some]
  cases hid a b with
  | false =>
    rw [if_neg (by decide)]
    simp [spec_pzGood.j0]
  | true =>
    rw [if_pos rfl]
    by_cases h : l.length ≤ 6
    · have h6 : decide ((l.length : Int) > 6) = false := by simp; omega
      have := pzGood_l0 l (by omega) l.length 0 1001 (by omega) (by omega)
      rw [show ((0 : Nat) : Int) = 0 from rfl] at this
      simp [h6, spec_pzGood.j0, h, this]
    · have h6 : decide ((l.length : Int) > 6) = true := by simp; omega
      simp [h6, spec_pzGood.j0, h]
theorem good_facts {a b : Int} {l : List S29} (h : good a b l = true) : hid a b = true ∧ l.length ≤ 6 ∧ l.all okC = true := by
  unfold good at h
  simp only [Bool.and_eq_true, decide_eq_true_eq] at h
  exact h
end Go.Proofs.Ytfjaapnnfpjfdaa.Pz
