/- Texts of this seat's proofs: contracts of its functions and plain laws about them, with no condition beyond those that each theorem states. -/
import Derived.Test.YtagbpiofphgjlaaQe9280fc4
import Derived.Test.YtagbpiofphgjlaaQ6b303e28
import Derived.Test.YtagbpiofphgjlaaQ51d42090
import Derived.Test.YtagbpiofphgjlaaQ6b5d919a
import Derived.Test.YtagbpiofphgjlaaQf653b09a
import Derived.Test.YtagbpiofphgjlaaQ65372d46
import Derived.Test.YtagbpiofphgjlaaQ8a128e3a
import Derived.Test.YtagbpiofphgjlaaQ1e05272b
import Derived.Test.YtagbpiofphgjlaaQ76768675
namespace Go.Proofs.Ytagbpiofphgjlaa.Bg
open Go.RowKit Go.Proofs.Ytagbpiofphgjlaa.G Go.Proofs.YtagbpiofphgjlaaW.PrintWords Go.Proofs.YtagbpiofphgjlaaW.PrintLast Go.Proofs.YtagbpiofphgjlaaW.PrintMore
theorem rd_get {l : List Int} {i : Nat} (h : i < l.length) : rd l (i : Int) = l[i] := by simp [rd, List.getD, List.getElem?_eq_getElem h]
def cI (p : List Int) : Nat → Nat
  | 0 => 0
  | i + 1 => if rd p (i : Int) = (cI p i : Int) then cI p i + 1 else cI p i
theorem cI_step (p : List Int) (i : Nat) : cI p i ≤ cI p (i + 1) ∧ cI p (i + 1) ≤ cI p i + 1 := by
  simp only [cI]
  split <;> omega
theorem cI_mono (p : List Int) (i : Nat) : ∀ d, cI p i ≤ cI p (i + d)
  | 0 => Nat.le_refl _
  | d + 1 => Nat.le_trans (cI_mono p i d) (cI_step p (i + d)).1
theorem cI_le (p : List Int) : ∀ i, cI p i ≤ i
  | 0 => Nat.le_refl _
  | i + 1 => by have := cI_le p i; have := (cI_step p i).2; omega
def Plan (p : List Int) : Prop := ∀ i, i < p.length → 0 ≤ rd p (i : Int) ∧ rd p (i : Int) ≤ (cI p i : Int)
theorem plan_max {p : List Int} (h : Plan p) : ∀ i, i < p.length → (maxTo p i : Int) = (cI p (i + 1) : Int) - 1
  | 0, hi => by
    have := h 0 hi
    have e : cI p 0 = 0 := rfl
    have e2 : rd p ((0 : Nat) : Int) = rd p 0 := rfl
    rw [e, e2] at this
    have e3 : rd p 0 = 0 := by omega
    simp [maxTo, cI, e3]
  | i + 1, hi => by
    have ih := plan_max h i (by omega)
    have hp := h (i + 1) hi
    have hc : cI p (i + 1 + 1) = if rd p ((i + 1 : Nat) : Int) = (cI p (i + 1) : Int) then cI p (i + 1) + 1 else cI p (i + 1) := rfl
    simp only [maxTo]
    split
    · rw [hc, if_pos (by omega)]
      omega
    · rw [hc, if_neg (by omega)]
      omega
theorem plan_pos {p : List Int} (h : Plan p) (hp : 1 ≤ p.length) : 1 ≤ cI p p.length := by
  have := h 0 (by omega)
  have e : cI p 0 = 0 := rfl
  have e2 : rd p ((0 : Nat) : Int) = rd p 0 := rfl
  rw [e, e2] at this
  have e1 : cI p 1 = 1 := by
    have e3 : rd p 0 = 0 := by omega
    simp [cI, e3]
  have := cI_mono p 1 (p.length - 1)
  rw [show 1 + (p.length - 1) = p.length by omega] at this
  omega
theorem rd_left {a b : List Int} {n : Int} (h0 : 0 ≤ n) (h : n < (a.length : Int)) : rd (a ++ b) n = rd a n := by
  obtain ⟨m, rfl⟩ : ∃ m : Nat, n = m := ⟨n.toNat, by omega⟩
  simp [rd, List.getD, List.getElem?_append_left (show m < a.length by omega)]
theorem rd_mem {a : List Int} {n : Int} (h0 : 0 ≤ n) (h : n < (a.length : Int)) : rd a n ∈ a := by
  obtain ⟨m, rfl⟩ : ∃ m : Nat, n = m := ⟨n.toNat, by omega⟩
  rw [rd_get (by omega)]
  exact List.getElem_mem _
theorem parc_get {l : List S61} (hl : l.all parcOk = true) {i : Nat} (h : i < l.length) : 1 ≤ (rd_T61 l (i : Int)).f1 ∧ (rd_T61 l (i : Int)).f1 ≤ 1000 ∧ 1 ≤ (rd_T61 l (i : Int)).f0 ∧ (rd_T61 l (i : Int)).f0 ≤ 100 := by
  have hx : l[i]? = some l[i] := List.getElem?_eq_getElem h
  have hrd : rd_T61 l (i : Int) = l[i] := by simp [rd_T61, List.getD, hx]
  rw [hrd]
  have := List.all_eq_true.1 hl l[i] (List.getElem_mem h)
  unfold parcOk at this
  simp at this
  omega
end Go.Proofs.Ytagbpiofphgjlaa.Bg
