/- Texts of this seat's proofs: contracts of its functions and plain laws about them, with no condition beyond those that each theorem states. -/
import Derived.Test.YtgdhbkoggfaioaaGreatDoorQe85c5c19
import Derived.Test.YtgdhbkoggfaioaaGreatDoorQ97079d4b
import Derived.Test.YtgdhbkoggfaioaaGreatDoorQ3577be40
import Derived.Test.YtgdhbkoggfaioaaGreatDoorQ42d385c3
import Derived.Test.YtgdhbkoggfaioaaGreatDoorQbb626c0f
import Derived.Laws.Bits64b
import Derived.Lib.ItoaNum
import Derived.Lib.Join
import Derived.Lib.AtoiAllCases
import Derived.Lib.SplitLaws
import Derived.JoinedOf
import Derived.KernelRfl
import Derived.Test.YtgdhbkoggfaioaaGreatDoorRows
import Derived.Deep.Slices
import Derived.Deep.Strs
import Derived.Lib.SmallJoins
import Derived.OpenShut
import Derived.ProofKit
set_option maxHeartbeats 8000000
set_option maxRecDepth 100000
section
namespace Go.Proofs.YtgdhbkoggfaioaaGreatDoor.Bg
open Go.RowKit Go.Proofs.YtgdhbkoggfaioaaGreatDoor.G Go.Proofs.YtgdhbkoggfaioaaGreatDoorW.PrintWords Go.Proofs.YtgdhbkoggfaioaaGreatDoorW.PrintLast Go.Proofs.YtgdhbkoggfaioaaGreatDoorW.PrintMore
theorem rd_get {l : List Int} {i : Nat} (h : i < l.length) : rd l (i : Int) = l[i] := by simp [rd, List.getD, List.getElem?_eq_getElem h]
def cI (p : List Int) : Nat → Nat
 | 0 => 0
 | i + 1 => if rd p (i : Int) = (cI p i : Int) then cI p i + 1 else cI p i
theorem cI_step (p : List Int) (i : Nat) : cI p i ≤ cI p (i + 1) ∧ cI p (i + 1) ≤ cI p i + 1 := by
 simp only [cI]
 split <;> omega
theorem cI_mono (p : List Int) (i : Nat) : ∀ d, cI p i ≤ cI p (i + d)
 | 0 => Nat.le_refl _
 | d + 1 => Nat.le_trans (cI_mono p i d) (cI_step p (i + d)).1
theorem cI_le (p : List Int) : ∀ i, cI p i ≤ i
 | 0 => Nat.le_refl _
 | i + 1 => by have := cI_le p i; have := (cI_step p i).2; omega
def Plan (p : List Int) : Prop := ∀ i, i < p.length → 0 ≤ rd p (i : Int) ∧ rd p (i : Int) ≤ (cI p i : Int)
theorem plan_max {p : List Int} (h : Plan p) : ∀ i, i < p.length → (maxTo p i : Int) = (cI p (i + 1) : Int) - 1
 | 0, hi => by
  have := h 0 hi
  have e : cI p 0 = 0 := rfl
  have e2 : rd p ((0 : Nat) : Int) = rd p 0 := rfl
  rw [e, e2] at this
  have e3 : rd p 0 = 0 := by omega
  simp [maxTo, cI, e3]
 | i + 1, hi => by
  have ih := plan_max h i (by omega)
  have hp := h (i + 1) hi
  have hc : cI p (i + 1 + 1) = if rd p ((i + 1 : Nat) : Int) = (cI p (i + 1) : Int) then cI p (i + 1) + 1 else cI p (i + 1) := rfl
  simp only [maxTo]
  split
  ·rw [hc, if_pos (by omega)]
   omega
  ·rw [hc, if_neg (by omega)]
   omega
theorem plan_pos {p : List Int} (h : Plan p) (hp : 1 ≤ p.length) : 1 ≤ cI p p.length := by
 have := h 0 (by omega)
 have e : cI p 0 = 0 := rfl
 have e2 : rd p ((0 : Nat) : Int) = rd p 0 := rfl
 rw [e, e2] at this
 have e1 : cI p 1 = 1 := by
  have e3 : rd p 0 = 0 := by omega
  simp [cI, e3]
 have := cI_mono p 1 (p.length - 1)
 rw [show 1 + (p.length - 1) = p.length by omega] at this
 omega
theorem rd_left {a b : List Int} {n : Int} (h0 : 0 ≤ n) (h : n < (a.length : Int)) : rd (a ++ b) n = rd a n := by
 obtain ⟨m, rfl⟩ : ∃ m : Nat, n = m := ⟨n.toNat, by omega⟩
 simp [rd, List.getD, List.getElem?_append_left (show m < a.length by omega)]
theorem rd_mem {a : List Int} {n : Int} (h0 : 0 ≤ n) (h : n < (a.length : Int)) : rd a n ∈ a := by
 obtain ⟨m, rfl⟩ : ∃ m : Nat, n = m := ⟨n.toNat, by omega⟩
 rw [rd_get (by omega)]
 exact List.getElem_mem _
theorem parc_get {l : List S62} (hl : l.all parcOk = true) {i : Nat} (h : i < l.length) : 1 ≤ (rd_T62 l (i : Int)).f1 ∧ (rd_T62 l (i : Int)).f1 ≤ 1000 ∧ 1 ≤ (rd_T62 l (i : Int)).f0 ∧ (rd_T62 l (i : Int)).f0 ≤ 100 := by
 have hx : l[i]? = some l[i] := List.getElem?_eq_getElem h
 have hrd : rd_T62 l (i : Int) = l[i] := by simp [rd_T62, List.getD, hx]
 rw [hrd]
 have := List.all_eq_true.1 hl l[i] (List.getElem_mem h)
 unfold parcOk at this
 simp at this
 omega
theorem impl_w_step {l : List S62} {p out : List Int} {i : Nat} {n wt o : Int} (k : Nat) (hpn : rd p (i : Int) = n) (hw : (rd_T62 l (i : Int)).f1 = wt) (hi : i < p.length) (hil : i < l.length) (hn : 0 ≤ n) (hno : n < (out.length : Int)) (ho : rd out n = o) (hi2 : i ≤ 1000) (hb : -1000000 ≤ o + wt ∧ o + wt ≤ 1000000) :
  impl_weightsOf.l0 (k + 1) l out p (p.length : Int) (i : Int) = impl_weightsOf.l0 k l (out.set n.toNat (o + wt)) p (p.length : Int) ((i + 1 : Nat) : Int) := by
 rw [impl_weightsOf.l0, hpn, hw, ho, if_pos (by omega), if_pos (by omega), if_pos (by omega), if_pos hn, if_pos hno, if_pos (by omega), w64 (x := o + wt) (by omega) (by omega), w64 (by omega) (by omega)]
 rfl
theorem spec_w_new {l : List S62} {p out : List Int} {i : Nat} {wt : Int} (k : Nat) (hpn : rd p (i : Int) = (out.length : Int)) (hw : (rd_T62 l (i : Int)).f1 = wt) (hi : i < p.length) (hil : i < l.length) (hi2 : i ≤ 1000) (ho : out.length ≤ 1000) (hb : -1000000 ≤ wt ∧ wt ≤ 1000000) :
  spec_bgWeights.l0 (k + 1) l out p (p.length : Int) (i : Int) = spec_bgWeights.l0 k l (out ++ [wt]) p (p.length : Int) ((i + 1 : Nat) : Int) := by
 have e : rd (out ++ [0]) (out.length : Int) = 0 := by simp [rd, List.getD]
 have e2 : (out ++ [0]).set out.length wt = out ++ [wt] := by
  rw [List.set_append_right _ _ (Nat.le_refl _), Nat.sub_self]
  rfl
 rw [spec_bgWeights.l0, hpn, hw, if_pos (by omega), if_pos (by omega), if_pos (by omega), if_pos rfl, if_pos (by omega), Option.bind_some, if_pos (by omega), if_pos (by simp; omega), if_pos (by omega), e, Int.zero_add, w64 (x := wt) (by omega) (by omega), w64 (by omega) (by omega), Int.toNat_natCast, e2]
 rfl
theorem spec_w_old {l : List S62} {p out : List Int} {i : Nat} {n wt o : Int} (k : Nat) (hpn : rd p (i : Int) = n) (hw : (rd_T62 l (i : Int)).f1 = wt) (hi : i < p.length) (hil : i < l.length) (hn : 0 ≤ n) (hno : n < (out.length : Int)) (ho : rd out n = o) (hi2 : i ≤ 1000) (hb : -1000000 ≤ o + wt ∧ o + wt ≤ 1000000) :
  spec_bgWeights.l0 (k + 1) l out p (p.length : Int) (i : Int) = spec_bgWeights.l0 k l (out.set n.toNat (o + wt)) p (p.length : Int) ((i + 1 : Nat) : Int) := by
 rw [spec_bgWeights.l0, hpn, hw, ho, if_pos (by omega), if_pos (by omega), if_pos (by omega), if_neg (by omega), if_pos hn, if_pos hno, if_pos (by omega), w64 (x := o + wt) (by omega) (by omega), w64 (by omega) (by omega)]
 rfl
theorem weights_l0 (l : List S62) (p : List Int) (hl : l.all parcOk = true) (hpl : p.length = l.length) (hn : l.length ≤ 8) (h : Plan p) : ∀ (d i z : Nat) (out : List Int), i + d = p.length → out.length = cI p i → cI p i + z = cI p p.length → (∀ x ∈ out, 1 ≤ x ∧ x ≤ 1000 * (i : Int)) →
  ∃ v : List Int, v.length = cI p p.length ∧ (∀ x ∈ v, 1 ≤ x ∧ x ≤ 8000) ∧ (∀ k, d < k → impl_weightsOf.l0 k l (out ++ List.replicate z 0) p (p.length : Int) (i : Int) = some v) ∧ ∀ k, d < k → spec_bgWeights.l0 k l out p (p.length : Int) (i : Int) = some v := by
 intro d
 induction d with
 | zero =>
  intro i z out hi ho hz hb
  obtain rfl : i = p.length := by omega
  obtain rfl : z = 0 := by omega
  refine ⟨out, ho, fun x hx => by have := hb x hx; omega, fun k hk => ?_, fun k hk => ?_⟩
  ·obtain ⟨k, rfl⟩ : ∃ m, k = m + 1 := ⟨k - 1, by omega⟩
   rw [impl_weightsOf.l0, if_neg (by omega)]
   simp
  ·obtain ⟨k, rfl⟩ : ∃ m, k = m + 1 := ⟨k - 1, by omega⟩
   rw [spec_bgWeights.l0, if_neg (by omega)]
 | succ d ih =>
  intro i z out hi ho hz hb
  have hp := h i (by omega)
  have hx := parc_get hl (i := i) (by omega)
  have hm := cI_mono p (i + 1) d
  rw [show i + 1 + d = p.length by omega] at hm
  have hci := cI_le p i
  by_cases hnew : rd p (i : Int) = (cI p i : Int)
  ·have hc : cI p (i + 1) = cI p i + 1 := by
    simp only [cI]
    rw [if_pos hnew]
   obtain ⟨z, rfl⟩ : ∃ m, z = m + 1 := ⟨z - 1, by omega⟩
   have hb' : ∀ x ∈ out ++ [(rd_T62 l (i : Int)).f1], 1 ≤ x ∧ x ≤ 1000 * ((i + 1 : Nat) : Int) := by
    intro x hx'
    rcases List.mem_append.1 hx' with hx' | hx'
    ·have := hb x hx'
     omega
    ·have := List.mem_singleton.1 hx'
     omega
   obtain ⟨v, hv, hvb, k1, k2⟩ := ih (i + 1) z (out ++ [(rd_T62 l (i : Int)).f1]) (by omega) (by simp; omega) (by omega) hb'
   refine ⟨v, hv, hvb, fun k hk => ?_, fun k hk => ?_⟩
   ·obtain ⟨k, rfl⟩ : ∃ m, k = m + 1 := ⟨k - 1, by omega⟩
    have ho0 : rd (out ++ List.replicate (z + 1) 0) (out.length : Int) = 0 := by simp [rd, List.getD]
    rw [impl_w_step k (hnew.trans (by rw [ho])) rfl (by omega) (by omega) (by omega) (by simp; omega) ho0 (by omega) (by omega), Int.zero_add, Int.toNat_natCast, List.set_append_right _ _ (Nat.le_refl _), Nat.sub_self, ← k1 k (by omega), List.append_assoc]
    rfl
   ·obtain ⟨k, rfl⟩ : ∃ m, k = m + 1 := ⟨k - 1, by omega⟩
    rw [spec_w_new k (hnew.trans (by rw [ho])) rfl (by omega) (by omega) (by omega) (by omega) (by omega)]
    exact k2 k (by omega)
  ·have hc : cI p (i + 1) = cI p i := by
    simp only [cI]
    rw [if_neg hnew]
   have hlt : rd p (i : Int) < (out.length : Int) := by omega
   have hmem := hb _ (rd_mem hp.1 hlt)
   have hb' : ∀ x ∈ out.set (rd p (i : Int)).toNat (rd out (rd p (i : Int)) + (rd_T62 l (i : Int)).f1), 1 ≤ x ∧ x ≤ 1000 * ((i + 1 : Nat) : Int) := by
    intro x hx'
    rcases List.mem_or_eq_of_mem_set hx' with hx' | hx'
    ·have := hb x hx'
     omega
    ·omega
   obtain ⟨v, hv, hvb, k1, k2⟩ := ih (i + 1) z _ (by omega) (by rw [List.length_set]; omega) (by omega) hb'
   refine ⟨v, hv, hvb, fun k hk => ?_, fun k hk => ?_⟩
   ·obtain ⟨k, rfl⟩ : ∃ m, k = m + 1 := ⟨k - 1, by omega⟩
    rw [impl_w_step k rfl rfl (by omega) (by omega) hp.1 (by simp; omega) (rd_left hp.1 hlt) (by omega) (by omega), List.set_append_left _ _ (by omega)]
    exact k1 k (by omega)
   ·obtain ⟨k, rfl⟩ : ∃ m, k = m + 1 := ⟨k - 1, by omega⟩
    rw [spec_w_old k rfl rfl (by omega) (by omega) hp.1 hlt rfl (by omega) (by omega)]
    exact k2 k (by omega)
theorem weights_both {l : List S62} {p : List Int} (hl : l.all parcOk = true) (hpl : p.length = l.length) (h1 : 1 ≤ l.length) (hn : l.length ≤ 8) (h : Plan p) :
  ∃ v : List Int, v.length = cI p p.length ∧ (∀ x ∈ v, 1 ≤ x ∧ x ≤ 8000) ∧ (∀ k, 8 < k → impl_weightsOf.f k l p = some v) ∧ ∀ k, 8 < k → spec_bgWeights.f k l p = some v := by
 obtain ⟨v, hv, hvb, k1, k2⟩ := weights_l0 l p hl hpl hn h p.length 0 (cI p p.length) [] (by omega) rfl (by show 0 + _ = _; omega) (fun x hx => by cases hx)
 refine ⟨v, hv, hvb, fun k hk => ?_, fun k hk => k2 k (by omega)⟩
 have hm := plan_max h (p.length - 1) (by omega)
 rw [show p.length - 1 + 1 = p.length by omega] at hm
 have hle := cI_le p p.length
 have hpos := plan_pos h (by omega)
 unfold impl_weightsOf.f slices_Max_int_int.f
 rw [if_pos (by omega), Option.bind_some, hm, w64 (by omega) (by omega), if_pos (by omega), if_pos (by omega), show ((cI p p.length : Int) - 1 + 1).toNat = cI p p.length by omega]
 exact k1 k (by omega)
theorem maxTo_le (v : List Int) (b : Int) : ∀ i, i < v.length → (maxTo v i ≤ b ↔ ∀ j, j ≤ i → rd v (j : Int) ≤ b)
 | 0, _ => ⟨fun h j hj => by rw [show j = 0 by omega]; exact h, fun h => h 0 (Nat.le_refl _)⟩
 | i + 1, hi => by
  have ih := maxTo_le v b i (by omega)
  simp only [maxTo]
  constructor
  ·intro h j hj
   by_cases e : j = i + 1
   ·subst e
    split at h <;> omega
   ·refine ih.1 ?_ j (by omega)
    split at h <;> omega
  ·intro h
   have h1 := ih.2 fun j hj => h j (by omega)
   have h2 := h (i + 1) (Nat.le_refl _)
   split
   ·exact h2
   ·exact h1
end Go.Proofs.YtgdhbkoggfaioaaGreatDoor.Bg
end
section
namespace Go.Proofs.YtgdhbkoggfaioaaGreatDoor.Bg
open Go.RowKit Go.Proofs.YtgdhbkoggfaioaaGreatDoor.G Go.Proofs.YtgdhbkoggfaioaaGreatDoorW.PrintWords Go.Proofs.YtgdhbkoggfaioaaGreatDoorW.PrintLast Go.Proofs.YtgdhbkoggfaioaaGreatDoorW.PrintMore
theorem most_val (a b : Int) : spec_l1Most.f a b = some (mx a b) := by
 unfold spec_l1Most.f mx
 by_cases h : a > b
 ·rw [if_pos h, if_neg (by omega)]
 ·rw [if_neg h]
  by_cases h2 : a < b
  ·rw [if_pos h2]
  ·rw [if_neg h2, show b = a by omega]
theorem mx_le {a b c : Int} : mx a b ≤ c ↔ a ≤ c ∧ b ≤ c := by
 unfold mx
 split <;> omega
theorem rdL_get {T : List (List Int)} {j : Nat} (h : j < T.length) : rd_L3 T (j : Int) = T[j] := by simp [rd_L3, List.getD, List.getElem?_eq_getElem h]
end Go.Proofs.YtgdhbkoggfaioaaGreatDoor.Bg
end
section
namespace Go.Proofs.YtgdhbkoggfaioaaGreatDoor.Bg
open Go.RowKit Go.Proofs.YtgdhbkoggfaioaaGreatDoor.G Go.Proofs.YtgdhbkoggfaioaaGreatDoorW.PrintWords Go.Proofs.YtgdhbkoggfaioaaGreatDoorW.PrintLast Go.Proofs.YtgdhbkoggfaioaaGreatDoorW.PrintMore
def wt (l : List S62) (i : Nat) : Int := (rd_T62 l (i : Int)).f1
def plLoop (f : List Int → List Int → List (List Int)) (bag x : Int) (p ws : List Int) : Nat → Nat → List (List Int)
 | 0, _ => []
 | m + 1, t => (if rd (bpNext ws t x) (t : Int) ≤ bag then f (p ++ [(t : Int)]) (bpNext ws t x) else []) ++ plLoop f bag x p ws m (t + 1)
def plGo (l : List S62) (bag : Int) : Nat → List Int → List Int → List (List Int)
 | 0, p, _ => [p]
 | d + 1, p, ws => plLoop (plGo l bag d) bag (wt l p.length) p ws (ws.length + 1) 0
def foldB (num : List Int → Option Int) (s : BpSt) : List (List Int) → Option BpSt
 | [] => some s
 | p :: ps => (bpLeaf num p s).bind fun s' => foldB num s' ps
theorem foldB_app (num : List Int → Option Int) : ∀ (a b : List (List Int)) (s : BpSt), foldB num s (a ++ b) = (foldB num s a).bind fun s' => foldB num s' b
 | [], b, s => rfl
 | p :: a, b, s => by
  simp only [List.cons_append, foldB]
  cases bpLeaf num p s with
  | none => rfl
  | some s' =>
   rw [Option.bind_some, Option.bind_some]
   exact foldB_app num a b s'
theorem bpLoop_fold (num : List Int → Option Int) (f : List Int → List Int → BpSt → Option BpSt) (g : List Int → List Int → List (List Int)) (h : ∀ p ws s, f p ws s = foldB num s (g p ws)) (bag x : Int) (p ws : List Int) : ∀ (m t : Nat) (s : BpSt), bpLoop f bag x p ws m t s = foldB num s (plLoop g bag x p ws m t)
 | 0, t, s => rfl
 | m + 1, t, s => by
  simp only [bpLoop, plLoop]
  by_cases hc : rd (bpNext ws t x) (t : Int) ≤ bag
  ·rw [if_pos hc, if_pos hc, foldB_app, h]
   cases foldB num s (g (p ++ [(t : Int)]) (bpNext ws t x)) with
   | none => rfl
   | some s' =>
    rw [Option.bind_some, Option.bind_some]
    exact bpLoop_fold num f g h bag x p ws m (t + 1) s'
  ·rw [if_neg hc, if_neg hc, List.nil_append]
   exact bpLoop_fold num f g h bag x p ws m (t + 1) s
theorem bpGo_fold (num : List Int → Option Int) (l : List S62) (bag : Int) : ∀ (d : Nat) (p ws : List Int) (s : BpSt), bpGo num l bag d p ws s = foldB num s (plGo l bag d p ws)
 | 0, p, ws, s => by
  simp only [bpGo, plGo, foldB]
  cases bpLeaf num p s with
  | none => rfl
  | some s' => rfl
 | d + 1, p, ws, s => by
  simp only [bpGo, plGo]
  exact bpLoop_fold num _ _ (bpGo_fold num l bag d) bag _ p ws _ 0 s
theorem cI_app (p q : List Int) : ∀ i, i ≤ p.length → cI (p ++ q) i = cI p i
 | 0, _ => rfl
 | i + 1, h => by
  simp only [cI]
  rw [cI_app p q i (by omega), rd_left (by omega) (by omega)]
theorem rd_last (p : List Int) (t : Int) : rd (p ++ [t]) (p.length : Int) = t := by simp [rd, List.getD]
theorem bpNext_len (ws : List Int) (t : Nat) (x : Int) : (bpNext ws t x).length = if t < ws.length then ws.length else ws.length + 1 := by
 unfold bpNext
 rw [List.length_set]
 split <;> simp
theorem bpNext_rd {ws : List Int} {t : Nat} {x : Int} (h : t < ws.length) : rd (bpNext ws t x) (t : Int) = wrap64 (rd ws (t : Int) + x) := by
 unfold bpNext
 rw [if_pos h]
 simp [rd, List.getD, h]
theorem bpNext_rdn (ws : List Int) (x : Int) : rd (bpNext ws ws.length x) (ws.length : Int) = wrap64 (0 + x) := by
 unfold bpNext
 rw [if_neg (Nat.lt_irrefl _)]
 simp [rd, List.getD]
theorem w_snoc (l : List S62) (p ws : List Int) (t : Nat) (hp : p.length < l.length) (hl : l.length ≤ 1000) (ht : t ≤ ws.length) (hws : ws.length ≤ 1000) : ∀ (d i k : Nat) (out : List Int), i + d = p.length → spec_bgWeights.l0 k l out p (p.length : Int) (i : Int) = some ws →
  spec_bgWeights.l0 (k + 1) l out (p ++ [(t : Int)]) ((p ++ [(t : Int)]).length : Int) (i : Int) = some (bpNext ws t (wt l p.length)) := by
 intro d
 induction d with
 | zero =>
  intro i k out hi h
  obtain rfl : i = p.length := by omega
  cases k with
  | zero => cases h
  | succ k =>
   rw [spec_bgWeights.l0, if_neg (by omega)] at h
   obtain rfl := Option.some.inj h
   have hlen : (p ++ [(t : Int)]).length = p.length + 1 := by simp
   have hend : ∀ o : List Int, spec_bgWeights.l0 (k + 1) l o (p ++ [(t : Int)]) ((p ++ [(t : Int)]).length : Int) (wrap64 ((p.length : Int) + 1)) = some o := fun o => by
    rw [w64 (by omega) (by omega), spec_bgWeights.l0, if_neg (by omega)]
   rw [spec_bgWeights.l0, rd_last, if_pos (by omega), if_pos (by omega), if_pos (by omega)]
   by_cases hn : t = out.length
   ·subst hn
    rw [if_pos rfl, if_pos (by omega), Option.bind_some, if_pos (by omega), if_pos (by simp; omega), if_pos (by omega), hend]
    unfold bpNext
    rw [if_neg (Nat.lt_irrefl _), Int.toNat_natCast]
    rfl
   ·rw [if_neg (by omega), if_pos (by omega), if_pos (by omega), if_pos (by omega), hend]
    unfold bpNext
    rw [if_pos (by omega), Int.toNat_natCast]
    rfl
 | succ d ih =>
  intro i k out hi h
  cases k with
  | zero => cases h
  | succ k =>
   have hlen : (p ++ [(t : Int)]).length = p.length + 1 := by simp
   have e : wrap64 ((i : Int) + 1) = ((i + 1 : Nat) : Int) := by rw [w64 (by omega) (by omega)]; rfl
   rw [spec_bgWeights.l0, if_pos (by omega), if_pos (by omega), if_pos (by omega), e] at h
   rw [spec_bgWeights.l0, rd_left (by omega) (by omega), if_pos (by omega), if_pos (by omega), if_pos (by omega), e]
   by_cases hn : rd p (i : Int) = (out.length : Int)
   ·rw [if_pos hn] at h ⊢
    by_cases hm : out.length < 17592186044416
    ·rw [if_pos hm, Option.bind_some] at h ⊢
     by_cases h0 : 0 ≤ rd p (i : Int)
     ·rw [if_pos h0] at h ⊢
      by_cases h1 : rd p (i : Int) < ((out ++ [0]).length : Int)
      ·rw [if_pos h1, if_pos (by omega)] at h ⊢
       exact ih (i + 1) k _ (by omega) h
      ·rw [if_neg h1] at h
       cases h
     ·rw [if_neg h0] at h
      cases h
    ·rw [if_neg hm] at h
     cases h
   ·rw [if_neg hn] at h ⊢
    by_cases h0 : 0 ≤ rd p (i : Int)
    ·rw [if_pos h0] at h ⊢
     by_cases h1 : rd p (i : Int) < (out.length : Int)
     ·rw [if_pos h1, if_pos (by omega)] at h ⊢
      exact ih (i + 1) k _ (by omega) h
     ·rw [if_neg h1] at h
      cases h
    ·rw [if_neg h0] at h
     cases h
structure Pre (l : List S62) (p ws : List Int) : Prop where
 plan : Plan p
 len : ws.length = cI p p.length
 wts : ∀ k, p.length < k → spec_bgWeights.f k l p = some ws
 pos : ∀ x ∈ ws, 0 ≤ x ∧ x ≤ 1000 * (p.length : Int)
theorem Pre.nil (l : List S62) : Pre l [] [] := ⟨fun i hi => absurd hi (Nat.not_lt_zero _), rfl, fun k hk => by
 obtain ⟨k, rfl⟩ : ∃ m, k = m + 1 := ⟨k - 1, by have : 0 < k := hk; omega⟩
 rfl, fun x hx => by cases hx⟩
theorem Pre.le {l : List S62} {p ws : List Int} (h : Pre l p ws) : ws.length ≤ p.length := by rw [h.len]; exact cI_le _ _
theorem Pre.snoc {l : List S62} {p ws : List Int} (h : Pre l p ws) (hl : l.all parcOk = true) (hl8 : l.length ≤ 8) (hp : p.length < l.length) {t : Nat} (ht : t ≤ ws.length) : Pre l (p ++ [(t : Int)]) (bpNext ws t (wt l p.length)) := by
 have hle := h.le
 have hx := parc_get hl (i := p.length) hp
 have hlen : (p ++ [(t : Int)]).length = p.length + 1 := by simp
 have hc : cI (p ++ [(t : Int)]) (p.length + 1) = if t < ws.length then ws.length else ws.length + 1 := by
  simp only [cI]
  rw [cI_app p _ _ (Nat.le_refl _), rd_last, ← h.len]
  split <;> split <;> omega
 refine ⟨fun i hi => ?_, ?_, fun k hk => ?_, fun x hx' => ?_⟩
 ·by_cases e : i = p.length
  ·subst e
   rw [rd_last, cI_app p _ _ (Nat.le_refl _), ← h.len]
   omega
  ·rw [rd_left (by omega) (by omega), cI_app p _ _ (by omega)]
   exact h.plan i (by omega)
 ·rw [bpNext_len, hlen, hc]
 ·obtain ⟨k, rfl⟩ : ∃ m, k = m + 1 := ⟨k - 1, by omega⟩
  unfold spec_bgWeights.f
  exact w_snoc l p ws t hp (by omega) ht (by omega) p.length 0 k [] (by omega) (h.wts k (by omega))
 ·rw [hlen]
  unfold bpNext at hx'
  have hx1 : 1 ≤ wt l p.length ∧ wt l p.length ≤ 1000 := ⟨hx.1, hx.2.1⟩
  rcases List.mem_or_eq_of_mem_set hx' with hm | rfl
  ·split at hm
   ·have := h.pos x hm
    omega
   ·rcases List.mem_append.1 hm with hm | hm
    ·have := h.pos x hm
     omega
    ·rw [List.mem_singleton.1 hm]
     omega
  ·by_cases hq : t < ws.length
   ·rw [if_pos hq]
    have := h.pos _ (rd_mem (a := ws) (n := (t : Int)) (by omega) (by omega))
    rw [w64 (by omega) (by omega)]
    omega
   ·rw [if_neg hq]
    obtain rfl : t = ws.length := by omega
    have e : rd (ws ++ [0]) (ws.length : Int) = 0 := rd_last ws 0
    rw [e, w64 (by omega) (by omega)]
    omega
theorem room_iff {l : List S62} {p ws : List Int} {bag : Int} (hl : l.all parcOk = true) (hp : p.length < l.length) (hb : wt l p.length ≤ bag) {t : Nat} (ht : t ≤ ws.length) : (t = ws.length ∨ wrap64 (rd ws (t : Int) + wt l p.length) ≤ bag) ↔ rd (bpNext ws t (wt l p.length)) (t : Int) ≤ bag := by
 have hx := parc_get hl (i := p.length) hp
 have hx1 : 1 ≤ wt l p.length ∧ wt l p.length ≤ 1000 := ⟨hx.1, hx.2.1⟩
 by_cases e : t = ws.length
 ·subst e
  have e2 : wrap64 (0 + wt l p.length) = wt l p.length := by rw [w64 (by omega) (by omega), Int.zero_add]
  rw [bpNext_rdn, e2]
  exact ⟨fun _ => hb, fun _ => .inl rfl⟩
 ·rw [bpNext_rd (by omega)]
  exact ⟨fun h => h.resolve_left e, .inr⟩
theorem plLoop_len (f : List Int → List Int → List (List Int)) (bag x : Int) (p ws : List Int) (N : Nat) (h : ∀ t, t ≤ ws.length → (f (p ++ [(t : Int)]) (bpNext ws t x)).length ≤ N) : ∀ m t, t + m = ws.length + 1 → (plLoop f bag x p ws m t).length ≤ m * N
 | 0, _, _ => by simp [plLoop]
 | m + 1, t, ht => by
  have ih := plLoop_len f bag x p ws N h m (t + 1) (by omega)
  have h1 := h t (by omega)
  simp only [plLoop, List.length_append]
  rw [Nat.succ_mul]
  split
  ·omega
  ·simp only [List.length_nil]
   omega
theorem plGo_len (l : List S62) (bag : Int) : ∀ (d : Nat) (p ws : List Int), ws.length + d ≤ 8 → (plGo l bag d p ws).length ≤ 9 ^ d
 | 0, p, ws, _ => by simp [plGo]
 | d + 1, p, ws, h => by
  simp only [plGo]
  refine Nat.le_trans (plLoop_len _ bag _ p ws (9 ^ d) (fun t ht => plGo_len l bag d _ _ ?_) (ws.length + 1) 0 (by omega)) ?_
  ·rw [bpNext_len]
   split <;> omega
  ·rw [Nat.pow_succ, Nat.mul_comm]
   exact Nat.mul_le_mul_left _ (by omega)
theorem lkLoop_val (f : List Int → List (List Int) → Option (List (List Int))) (g : List Int → List Int → List (List Int)) (bag x : Int) (p ws : List Int) (N : Nat)
  (hg : ∀ t, t ≤ ws.length → (g (p ++ [(t : Int)]) (bpNext ws t x)).length ≤ N) (hf : ∀ t, t ≤ ws.length → ∀ out : List (List Int), out.length + N ≤ 1000000000 → f (p ++ [(t : Int)]) out = some (out ++ g (p ++ [(t : Int)]) (bpNext ws t x)))
  (hc : ∀ t, t ≤ ws.length → ((t = ws.length ∨ wrap64 (rd ws (t : Int) + x) ≤ bag) ↔ rd (bpNext ws t x) (t : Int) ≤ bag)) : ∀ (m t : Nat) (out : List (List Int)), t + m = ws.length + 1 → out.length + m * N ≤ 1000000000 → lkLoop f bag x p ws m t out = some (out ++ plLoop g bag x p ws m t)
 | 0, _, out, _, _ => by simp [lkLoop, plLoop]
 | m + 1, t, out, ht, ho => by
  rw [Nat.succ_mul] at ho
  have hlen := hg t (by omega)
  simp only [lkLoop, plLoop]
  by_cases h : rd (bpNext ws t x) (t : Int) ≤ bag
  ·rw [if_pos ((hc t (by omega)).2 h), if_pos h, hf t (by omega) out (by omega), Option.bind_some, lkLoop_val f g bag x p ws N hg hf hc m (t + 1) _ (by omega) (by rw [List.length_append]; omega), List.append_assoc]
  ·rw [if_neg (fun h2 => h ((hc t (by omega)).1 h2)), if_neg h, lkLoop_val f g bag x p ws N hg hf hc m (t + 1) _ (by omega) (by omega), List.nil_append]
theorem pow9 {d : Nat} (h : d ≤ 8) : 9 ^ d ≤ 43046721 := Nat.le_trans (Nat.pow_le_pow_right (by omega) h) (by decide)
theorem lkGo_val {l : List S62} {bag : Int} (hl : l.all parcOk = true) (hl8 : l.length ≤ 8) (hb : ∀ i, i < l.length → wt l i ≤ bag) (k : Nat) (hk : 8 < k) : ∀ (d : Nat) (p ws : List Int), Pre l p ws → p.length + d = l.length → ∀ out : List (List Int), out.length + 9 ^ d ≤ 1000000000 → lkGo k l bag d p out = some (out ++ plGo l bag d p ws)
 | 0, p, ws, h, hd, out, ho => by
  simp only [lkGo, plGo]
  rw [if_pos (by omega)]
 | d + 1, p, ws, h, hd, out, ho => by
  have hle := h.le
  simp only [lkGo, plGo]
  rw [h.wts k (by omega), Option.bind_some, if_pos ⟨hle, by omega⟩]
  refine lkLoop_val (lkGo k l bag d) (plGo l bag d) bag (wt l p.length) p ws (9 ^ d) (fun t ht => plGo_len l bag d _ _ (by rw [bpNext_len]; split <;> omega)) (fun t ht o ho => lkGo_val hl hl8 hb k hk d _ _ (h.snoc hl hl8 (by omega) ht) (by simp; omega) o ho) (fun t ht => room_iff hl (by omega) (hb _ (by omega)) ht) (ws.length + 1) 0 out (by omega) ?_
  rw [Nat.pow_succ, Nat.mul_comm] at ho
  have : (ws.length + 1) * 9 ^ d ≤ 9 * 9 ^ d := Nat.mul_le_mul_right _ (by omega)
  omega
theorem plLoop_mem {f : List Int → List Int → List (List Int)} {bag x : Int} {p ws q : List Int} : ∀ {m t : Nat}, q ∈ plLoop f bag x p ws m t → ∃ u, t ≤ u ∧ u < t + m ∧ q ∈ f (p ++ [(u : Int)]) (bpNext ws u x)
 | 0, _, h => by cases h
 | m + 1, t, h => by
  simp only [plLoop] at h
  rcases List.mem_append.1 h with h | h
  ·split at h
   ·exact ⟨t, Nat.le_refl _, by omega, h⟩
   ·cases h
  ·obtain ⟨u, h1, h2, h3⟩ := plLoop_mem h
   exact ⟨u, by omega, by omega, h3⟩
theorem plGo_mem {l : List S62} {bag : Int} (hl : l.all parcOk = true) (hl8 : l.length ≤ 8) : ∀ (d : Nat) (p ws q : List Int), Pre l p ws → p.length + d = l.length → q ∈ plGo l bag d p ws → q.length = l.length ∧ ∃ wq, Pre l q wq
 | 0, p, ws, q, h, hd, hq => by
  simp only [plGo, List.mem_singleton] at hq
  subst hq
  exact ⟨by omega, ws, h⟩
 | d + 1, p, ws, q, h, hd, hq => by
  simp only [plGo] at hq
  obtain ⟨u, h1, h2, h3⟩ := plLoop_mem hq
  exact plGo_mem hl hl8 d _ _ q (h.snoc hl hl8 (by omega) (by omega)) (by simp; omega) h3
theorem plGo_ne {l : List S62} {bag : Int} (hl : l.all parcOk = true) (hl8 : l.length ≤ 8) (hb : ∀ i, i < l.length → wt l i ≤ bag) : ∀ (d : Nat) (p ws : List Int), Pre l p ws → p.length + d = l.length → plGo l bag d p ws ≠ []
 | 0, p, ws, h, hd => by simp [plGo]
 | d + 1, p, ws, h, hd => by
  have key : ∀ m t, t + m = ws.length + 1 → 1 ≤ m → plLoop (plGo l bag d) bag (wt l p.length) p ws m t ≠ [] := by
   intro m
   induction m with
   | zero => intro t _ h1; omega
   | succ m ih =>
    intro t ht _
    simp only [plLoop]
    by_cases e : m = 0
    ·obtain rfl : t = ws.length := by omega
     rw [if_pos ((room_iff hl (by omega) (hb _ (by omega)) (Nat.le_refl _)).1 (.inl rfl))]
     intro hn
     exact plGo_ne hl hl8 hb d _ _ (h.snoc hl hl8 (by omega) (Nat.le_refl _)) (by simp; omega) (List.append_eq_nil_iff.1 hn).1
    ·intro hn
     exact ih (t + 1) (by omega) (by omega) (List.append_eq_nil_iff.1 hn).2
  simp only [plGo]
  exact key _ _ (by omega) (by omega)
def allP (l : List S62) (bag : Int) : List (List Int) := plGo l bag l.length [] []
structure Fit (l : List S62) (bag : Int) : Prop where
 all : l.all parcOk = true
 one : 1 ≤ l.length
 max : l.length ≤ 8
 room : ∀ i, i < l.length → wt l i ≤ bag
theorem bgAll_val {l : List S62} {bag : Int} (h : Fit l bag) (k : Nat) (hk : 8 < k) : spec_bgAll.f k l bag = some (allP l bag) := by
 have := pow9 h.max
 have := lkGo_val h.all h.max h.room k hk l.length [] [] (Pre.nil l) (Nat.zero_add _) [] (by simp only [List.length_nil]; omega)
 rwa [List.nil_append] at this
theorem allP_mem {l : List S62} {bag : Int} (h : Fit l bag) {q : List Int} (hq : q ∈ allP l bag) : q.length = l.length ∧ Plan q := by
 obtain ⟨h1, _, h2⟩ := plGo_mem h.all h.max l.length [] [] q (Pre.nil l) (Nat.zero_add _) hq
 exact ⟨h1, h2.plan⟩
theorem allP_ne {l : List S62} {bag : Int} (h : Fit l bag) : ∃ p ps, allP l bag = p :: ps := List.exists_cons_of_ne_nil (plGo_ne h.all h.max h.room l.length [] [] (Pre.nil l) (Nat.zero_add _))
theorem allP_len {l : List S62} {bag : Int} (h : Fit l bag) : (allP l bag).length ≤ 43046721 := Nat.le_trans (plGo_len l bag l.length [] [] (by simp; exact h.max)) (pow9 h.max)
theorem fits_room {l : List S62} {b : Int} (h : fits l b = true) : Fit l b := by
 obtain ⟨h1, h2, _, _, h3⟩ := fits_facts h
 refine ⟨h3, h1, h2, fun i hi => ?_⟩
 unfold fits at h
 simp only [Bool.and_eq_true] at h
 have h4 := List.all_eq_true.1 h.2.2 l[i] (List.getElem_mem hi)
 have hrd : rd_T62 l (i : Int) = l[i] := by simp [rd_T62, List.getD, List.getElem?_eq_getElem hi]
 unfold wt
 rw [hrd]
 simpa using h4
theorem countTrips_val (l : List S62) {p : List Int} (h : Plan p) (h1 : 1 ≤ p.length) (h8 : p.length ≤ 8) : impl_countTrips.f l p = some (cI p p.length : Int) := by
 have hm := plan_max h (p.length - 1) (by omega)
 rw [show p.length - 1 + 1 = p.length by omega] at hm
 have hle := cI_le p p.length
 unfold impl_countTrips.f slices_Max_int_int.f
 rw [if_pos (by omega), Option.bind_some, hm, w64 (by omega) (by omega)]
 congr 1
 omega
end Go.Proofs.YtgdhbkoggfaioaaGreatDoor.Bg
end
section
namespace Go.Proofs.YtgdhbkoggfaioaaGreatDoor.Bg
open Go.RowKit Go.Proofs.YtgdhbkoggfaioaaGreatDoor.G Go.Proofs.YtgdhbkoggfaioaaGreatDoorW.PrintWords Go.Proofs.YtgdhbkoggfaioaaGreatDoorW.PrintLast Go.Proofs.YtgdhbkoggfaioaaGreatDoorW.PrintMore
def sumTo (l : List S62) : Nat → Int
 | 0 => 0
 | i + 1 => sumTo l i + wt l i
theorem wt_range {l : List S62} (hl : l.all parcOk = true) {i : Nat} (hi : i < l.length) : 1 ≤ wt l i ∧ wt l i ≤ 1000 := by
 have := parc_get hl hi
 exact ⟨this.1, this.2.1⟩
theorem sumTo_range {l : List S62} (hl : l.all parcOk = true) : ∀ i, i ≤ l.length → 0 ≤ sumTo l i ∧ sumTo l i ≤ 1000 * (i : Int)
 | 0, _ => by simp [sumTo]
 | i + 1, h => by
  have := sumTo_range hl i (by omega)
  have := wt_range hl (i := i) (by omega)
  simp only [sumTo]
  omega
theorem sumTo_mono {l : List S62} (hl : l.all parcOk = true) (i : Nat) : ∀ d, i + d ≤ l.length → sumTo l i ≤ sumTo l (i + d)
 | 0, _ => by simp
 | d + 1, h => by
  have := sumTo_mono hl i d (by omega)
  have := wt_range hl (i := i + d) (by omega)
  show sumTo l i ≤ sumTo l (i + d) + wt l (i + d)
  omega
theorem sum_val {l : List S62} (hl : l.all parcOk = true) (hn : l.length ≤ 8) : ∀ (d i k : Nat), i + d = l.length → d < k → impl_weightOf.l0 k (sumTo l i) l (l.length : Int) (i : Int) = some (sumTo l l.length) ∧ spec_bgSum.l0 k (sumTo l i) l (l.length : Int) (i : Int) = some (sumTo l l.length) := by
 intro d
 induction d with
 | zero =>
  intro i k hi hk
  obtain ⟨k, rfl⟩ : ∃ m, k = m + 1 := ⟨k - 1, by omega⟩
  rw [impl_weightOf.l0, spec_bgSum.l0, if_neg (by omega), if_neg (by omega), show i = l.length by omega]
  exact ⟨rfl, rfl⟩
 | succ d ih =>
  intro i k hi hk
  obtain ⟨k, rfl⟩ : ∃ m, k = m + 1 := ⟨k - 1, by omega⟩
  have h1 := sumTo_range hl i (by omega)
  have h2 := wt_range hl (i := i) (by omega)
  have e : wrap64 (sumTo l i + (rd_T62 l (i : Int)).f1) = sumTo l (i + 1) := by
   show wrap64 (sumTo l i + wt l i) = _
   rw [w64 (by omega) (by omega)]
   rfl
  have e2 : wrap64 ((i : Int) + 1) = ((i + 1 : Nat) : Int) := by rw [w64 (by omega) (by omega)]; rfl
  rw [impl_weightOf.l0, spec_bgSum.l0, if_pos (by omega), if_pos (by omega), if_pos (by omega), if_pos (by omega), if_pos (by omega), if_pos (by omega), e, e2]
  exact ih (i + 1) k (by omega) (by omega)
theorem okP_fit {l : List S62} (h : okP l = true) : Fit l (sumTo l l.length) := by
 have h1 := okP_len h
 have hl : l.all parcOk = true := by
  unfold okP at h
  exact (Bool.and_eq_true_iff.1 h).2
 refine ⟨hl, h1.1, h1.2, fun i hi => ?_⟩
 have h2 := sumTo_mono hl (i + 1) (l.length - (i + 1)) (by omega)
 rw [show i + 1 + (l.length - (i + 1)) = l.length by omega] at h2
 have h3 := (sumTo_range hl i (by omega)).1
 have h4 : sumTo l (i + 1) = sumTo l i + wt l i := rfl
 omega
theorem plGo_first {l : List S62} (h : Fit l (sumTo l l.length)) : ∀ (d : Nat) (p ws : List Int), Pre l p ws → (ws = [] ∧ p = [] ∨ ws = [sumTo l p.length]) → p.length + d = l.length → 1 ≤ p.length + d → ∃ q Q, plGo l (sumTo l l.length) d p ws = q :: Q ∧ q.length = l.length ∧ Pre l q [sumTo l l.length]
 | 0, p, ws, hp, hw, hd, h1 => by
  rcases hw with ⟨_, rfl⟩ | rfl
  ·exact absurd h1 (by simp)
  ·refine ⟨p, [], rfl, by omega, ?_⟩
   rw [show l.length = p.length by omega]
   exact hp
 | d + 1, p, ws, hp, hw, hd, h1 => by
  have hx := wt_range h.all (i := p.length) (by omega)
  have hs := sumTo_range h.all p.length (by omega)
  have h8 := h.max
  have hm := sumTo_mono h.all (p.length + 1) (l.length - (p.length + 1)) (by omega)
  rw [show p.length + 1 + (l.length - (p.length + 1)) = l.length by omega] at hm
  have h4 : sumTo l (p.length + 1) = sumTo l p.length + wt l p.length := rfl
  have hle := hp.le
  have hn : bpNext ws 0 (wt l p.length) = [sumTo l (p.length + 1)] := by
   rcases hw with ⟨rfl, rfl⟩ | rfl
   ·unfold bpNext
    have hx0 : 1 ≤ wt l 0 ∧ wt l 0 ≤ 1000 := hx
    have e : wrap64 (rd ([] ++ [0]) ((0 : Nat) : Int) + wt l 0) = sumTo l (0 + 1) := by
     show wrap64 (0 + wt l 0) = 0 + wt l 0
     exact w64 (by omega) (by omega)
    simp only [List.length_nil, Nat.lt_irrefl, if_false]
    rw [e]
    rfl
   ·unfold bpNext
    have e : wrap64 (rd [sumTo l p.length] ((0 : Nat) : Int) + wt l p.length) = sumTo l (p.length + 1) := by
     show wrap64 (sumTo l p.length + wt l p.length) = _
     rw [w64 (by omega) (by omega), h4]
    simp only [List.length_singleton, Nat.lt_one_iff, if_true]
    rw [e]
    rfl
  have hsn := hp.snoc h.all h.max (by omega) (t := 0) (Nat.zero_le _)
  rw [hn] at hsn
  obtain ⟨q, Q, hq, hq1, hq2⟩ := plGo_first h d (p ++ [((0 : Nat) : Int)]) [sumTo l (p.length + 1)] hsn (.inr (by simp)) (by simp; omega) (by simp; omega)
  refine ⟨q, Q ++ plLoop (plGo l (sumTo l l.length) d) (sumTo l l.length) (wt l p.length) p ws ws.length 1, ?_, hq1, hq2⟩
  simp only [plGo, plLoop]
  rw [hn, if_pos (by show sumTo l (p.length + 1) ≤ _; omega), hq]
  rfl
def hw (v : List Int) : Int := maxTo v (v.length - 1)
theorem fmx_le (c : Int) : ∀ (v : List Int) (m : Int), v.foldl mx m ≤ c ↔ m ≤ c ∧ ∀ x ∈ v, x ≤ c
 | [], m => by simp
 | y :: v, m => by
  rw [List.foldl_cons, fmx_le c v, mx_le]
  simp only [List.mem_cons, forall_eq_or_imp]
  rw [and_assoc]
theorem hw_fold {v : List Int} (h1 : 1 ≤ v.length) (hp : ∀ x ∈ v, 1 ≤ x ∧ x ≤ 8000) : v.foldl mx 0 = hw v := by
 have ha : ∀ x ∈ v, x ≤ hw v := fun x hx => by
  obtain ⟨j, hj, rfl⟩ := List.getElem_of_mem hx
  have := (maxTo_le v (hw v) (v.length - 1) (by omega)).1 (Int.le_refl _) j (by omega)
  rwa [rd_get hj] at this
 have hb : v.foldl mx 0 ≤ hw v := (fmx_le _ v 0).2 ⟨by have h2 := ha v[0] (List.getElem_mem _); have h3 := (hp v[0] (List.getElem_mem _)).1; omega, ha⟩
 have hc : hw v ≤ v.foldl mx 0 := (maxTo_le v _ (v.length - 1) (by omega)).2 fun j hj => by
  rw [rd_get (by omega)]
  exact ((fmx_le _ v 0).1 (Int.le_refl _)).2 _ (List.getElem_mem _)
 omega
theorem hw_range {v : List Int} (h1 : 1 ≤ v.length) (hp : ∀ x ∈ v, 1 ≤ x ∧ x ≤ 8000) : 1 ≤ hw v ∧ hw v ≤ 8000 := by
 have ha := (maxTo_le v (hw v) (v.length - 1) (by omega)).1 (Int.le_refl _) 0 (by omega)
 have h0 := rd_get (l := v) (i := 0) (by omega)
 have hq := hp v[0] (List.getElem_mem _)
 refine ⟨by omega, (maxTo_le v 8000 (v.length - 1) (by omega)).2 fun j hj => ?_⟩
 rw [rd_get (by omega)]
 exact (hp _ (List.getElem_mem _)).2
def wv (l : List S62) (p : List Int) : List Int := (spec_bgWeights.f 9 l p).getD []
theorem wv_both {l : List S62} {p : List Int} (hl : l.all parcOk = true) (hpl : p.length = l.length) (h1 : 1 ≤ l.length) (hn : l.length ≤ 8) (h : Plan p) :
  (wv l p).length = cI p p.length ∧ (∀ x ∈ wv l p, 1 ≤ x ∧ x ≤ 8000) ∧ (∀ k, 8 < k → impl_weightsOf.f k l p = some (wv l p)) ∧ ∀ k, 8 < k → spec_bgWeights.f k l p = some (wv l p) := by
 obtain ⟨v, h1, h2, h3, h4⟩ := weights_both hl hpl h1 hn h
 have e : wv l p = v := by
  unfold wv
  rw [h4 9 (by omega)]
  rfl
 rw [e]
 exact ⟨h1, h2, h3, h4⟩
def lightGo (l : List S62) (trips : Int) : List (List Int) → Int → Int
 | [], b => b
 | p :: ps, b => if ((wv l p).length : Int) > trips then lightGo l trips ps b else lightGo l trips ps (if b < hw (wv l p) then b else hw (wv l p))
theorem lbNum_val {l : List S62} {p : List Int} (hl : l.all parcOk = true) (hpl : p.length = l.length) (h1 : 1 ≤ l.length) (hn : l.length ≤ 8) (h : Plan p) (trips : Int) (k : Nat) (hk : 8 < k) : lbNum k l trips p = some (if ((wv l p).length : Int) > trips then 1000000 else hw (wv l p)) := by
 obtain ⟨a1, a2, a3, a4⟩ := wv_both hl hpl h1 hn h
 have hpos := plan_pos h (by omega)
 unfold lbNum
 rw [countTrips_val l h (by omega) (by omega), Option.bind_some, a3 k hk, Option.bind_some, a1]
 split
 ·rfl
 ·unfold slices_Max_int_int.f
  rw [if_pos (by omega)]
  rfl
theorem light_rel {l : List S62} (hl : l.all parcOk = true) (h1 : 1 ≤ l.length) (h8 : l.length ≤ 8) (trips : Int) : ∀ (P : List (List Int)) (s : BpSt), (∀ p ∈ P, p.length = l.length ∧ Plan p) → 1 ≤ s.count → s.count + (P.length : Int) ≤ 1000000000 → s.least ≤ 8000 →
  ∃ s', (∀ k, 8 < k → foldB (lbNum k l trips) s P = some s') ∧ s'.least = lightGo l trips P s.least
 | [], s, _, _, _, _ => ⟨s, fun k _ => rfl, rfl⟩
 | p :: P, s, hP, hc, hn, hs => by
  obtain ⟨hp1, hp2⟩ := hP p (List.mem_cons_self ..)
  have hv := fun k hk => lbNum_val hl hp1 h1 h8 hp2 trips k hk
  obtain ⟨a1, a2, _, _⟩ := wv_both hl hp1 h1 h8 hp2
  have hr := hw_range (v := wv l p) (by have := plan_pos hp2 (by omega); omega) a2
  have hrest := fun q hq => hP q (List.mem_cons_of_mem _ hq)
  rw [List.length_cons] at hn
  by_cases hgt : ((wv l p).length : Int) > trips
  ·obtain ⟨s', f1, f2⟩ := light_rel hl h1 h8 trips P s hrest hc (by omega) hs
   refine ⟨s', fun k hk => ?_, ?_⟩
   ·simp only [foldB, bpLeaf]
    rw [hv k hk, if_pos hgt, Option.bind_some, if_neg (by omega), if_neg (by omega), Option.bind_some]
    exact f1 k hk
   ·simp only [lightGo]
    rw [if_pos hgt]
    exact f2
  ·by_cases hlt : hw (wv l p) < s.least
   ·obtain ⟨s', f1, f2⟩ := light_rel hl h1 h8 trips P ⟨hw (wv l p), 1, p⟩ hrest (by simp) (by simp; omega) hr.2
    refine ⟨s', fun k hk => ?_, ?_⟩
    ·simp only [foldB, bpLeaf]
     rw [hv k hk, if_neg hgt, Option.bind_some, if_pos (.inr hlt), Option.bind_some]
     exact f1 k hk
    ·simp only [lightGo]
     rw [if_neg hgt, if_neg (by omega)]
     exact f2
   ·by_cases he : hw (wv l p) = s.least
    ·have e : wrap64 (s.count + 1) = s.count + 1 := w64 (by omega) (by omega)
     obtain ⟨s', f1, f2⟩ := light_rel hl h1 h8 trips P ⟨s.least, s.count + 1, s.best⟩ hrest (by simp; omega) (by simp; omega) hs
     refine ⟨s', fun k hk => ?_, ?_⟩
     ·simp only [foldB, bpLeaf]
      rw [hv k hk, if_neg hgt, Option.bind_some, if_neg (by omega), if_pos he, Option.bind_some, e]
      exact f1 k hk
     ·simp only [lightGo]
      rw [if_neg hgt, if_neg (by omega), he]
      exact f2
    ·obtain ⟨s', f1, f2⟩ := light_rel hl h1 h8 trips P s hrest hc (by omega) hs
     refine ⟨s', fun k hk => ?_, ?_⟩
     ·simp only [foldB, bpLeaf]
      rw [hv k hk, if_neg hgt, Option.bind_some, if_neg (by omega), if_neg he, Option.bind_some]
      exact f1 k hk
     ·simp only [lightGo]
      rw [if_neg hgt, if_pos (by omega)]
      exact f2
theorem least_val (a b : Int) : spec_l1Least.f a b = some (if a < b then a else b) := by
 unfold spec_l1Least.f
 by_cases h : a < b
 ·rw [if_pos h, if_pos h]
 ·rw [if_neg h, if_neg h]
theorem light_l1 (l : List S62) (trips best : Int) (A : List (List Int)) (i : Nat) (v : List Int) (hv : v.length ≤ 8) (hi : (i : Int) ≤ 1000000000) : ∀ (e j : Nat) (m : Int) (k : Nat), j + e = v.length →
  spec_LightestBag.l1 (k + e + 1) l trips best m A (A.length : Int) (i : Int) v (v.length : Int) (j : Int) = spec_LightestBag.l0 k l trips (if best < (v.drop j).foldl mx m then best else (v.drop j).foldl mx m) A (A.length : Int) ((i + 1 : Nat) : Int) := by
 intro e
 induction e with
 | zero =>
  intro j m k hj
  have e2 : wrap64 ((i : Int) + 1) = ((i + 1 : Nat) : Int) := by rw [w64 (by omega) (by omega)]; rfl
  rw [spec_LightestBag.l1, if_neg (by omega), least_val, Option.bind_some, e2, List.drop_eq_nil_of_le (by omega)]
  rfl
 | succ e ih =>
  intro j m k hj
  have e2 : wrap64 ((j : Int) + 1) = ((j + 1 : Nat) : Int) := by rw [w64 (by omega) (by omega)]; rfl
  rw [show k + (e + 1) + 1 = (k + e + 1) + 1 by omega, spec_LightestBag.l1, if_pos (by omega), if_pos (by omega), if_pos (by omega), most_val, Option.bind_some, e2, ih (j + 1) _ k (by omega), List.drop_eq_getElem_cons (l := v) (i := j) (by omega), List.foldl_cons, rd_get (by omega)]
theorem light_l0 {l : List S62} (hl : l.all parcOk = true) (h1 : 1 ≤ l.length) (h8 : l.length ≤ 8) (trips : Int) (A : List (List Int)) (hA : A.length ≤ 1000000000) (hP : ∀ p ∈ A, p.length = l.length ∧ Plan p) : ∀ (d i k : Nat) (best : Int), i + d = A.length → d * 10 + 10 < k →
  spec_LightestBag.l0 k l trips best A (A.length : Int) (i : Int) = some (lightGo l trips (A.drop i) best, true) := by
 intro d
 induction d with
 | zero =>
  intro i k best hi hk
  obtain ⟨k, rfl⟩ : ∃ m, k = m + 1 := ⟨k - 1, by omega⟩
  rw [spec_LightestBag.l0, if_neg (by omega), List.drop_eq_nil_of_le (by omega)]
  rfl
 | succ d ih =>
  intro i k best hi hk
  have hiA : i < A.length := Nat.lt_of_lt_of_le (Nat.lt_add_of_pos_right (Nat.succ_pos d)) (Nat.le_of_eq hi)
  obtain ⟨k, rfl⟩ : ∃ m, k = m + 1 := ⟨k - 1, by omega⟩
  obtain ⟨hp1, hp2⟩ := hP A[i] (List.getElem_mem hiA)
  obtain ⟨a1, a2, _, a4⟩ := wv_both hl hp1 h1 h8 hp2
  have hpos := plan_pos hp2 (by omega)
  have hle := cI_le A[i] A[i].length
  have hrow := rdL_get (T := A) (j := i) hiA
  rw [spec_LightestBag.l0, if_pos (by omega), if_pos (by omega), if_pos (by omega), hrow, a4 k (by omega), Option.bind_some, List.drop_eq_getElem_cons (l := A) (i := i) hiA]
  simp only [lightGo]
  by_cases hgt : ((wv l A[i]).length : Int) > trips
  ·rw [if_pos hgt, if_pos hgt, w64 (by omega) (by omega)]
   exact ih (i + 1) k best (by omega) (by omega)
  ·rw [if_neg hgt, if_neg hgt]
   obtain ⟨k2, rfl⟩ : ∃ m, k = m + (wv l A[i]).length + 1 := ⟨k - (wv l A[i]).length - 1, by omega⟩
   have := light_l1 l trips best A i (wv l A[i]) (by omega) (by omega) (wv l A[i]).length 0 0 k2 (by omega)
   rw [List.drop_zero, hw_fold (by omega) a2] at this
   rw [show ((0 : Nat) : Int) = 0 from rfl] at this
   rw [this]
   exact ih (i + 1) k2 _ (by omega) (by omega)
theorem LightestBag_both (l : List S62) (b : Int) : ∃ v : Int × Bool, Ev (fun k => spec_LightestBag.f k l b) v ∧ Ev (fun k => impl_LightestBag.f k l b) v := by
 obtain ⟨K, h⟩ := bgGood_ev l
 have h : ∀ k, K ≤ k → spec_bgGood.f k l = some (okP l) := h
 cases hok : okP l with
 | false =>
  refine ⟨(0, false), ⟨K + 1, fun k hk => ?_⟩, ⟨0, fun k _ => ?_⟩⟩
  ·obtain ⟨k, rfl⟩ : ∃ m, k = m + 1 := ⟨k - 1, by omega⟩
   show spec_LightestBag.f (k + 1) l b = _
   unfold spec_LightestBag.f
   rw [h (k + 1) (by omega), hok, Option.bind_some, if_neg (by decide), spec_LightestBag.j0, if_pos rfl]
  ·show impl_LightestBag.f k l b = _
   unfold impl_LightestBag.f
   rw [areParcels_val, hok, Option.bind_some, if_neg (by decide)]
 | true =>
  cases hb : (decide (b ≥ 1) && decide (b ≤ 8)) with
  | false =>
   refine ⟨(0, false), ⟨K + 1, fun k hk => ?_⟩, ⟨0, fun k _ => ?_⟩⟩
   ·obtain ⟨k, rfl⟩ : ∃ m, k = m + 1 := ⟨k - 1, by omega⟩
    show spec_LightestBag.f (k + 1) l b = _
    unfold spec_LightestBag.f
    rw [h (k + 1) (by omega), hok, Option.bind_some, if_pos rfl, l1In_is, hb, Option.bind_some, spec_LightestBag.j0, if_pos (show (!false) = true from rfl)]
   ·show impl_LightestBag.f k l b = _
    unfold impl_LightestBag.f
    rw [areParcels_val, hok, Option.bind_some, if_pos rfl, within_is', hb, Option.bind_some, if_neg (by decide)]
  | true =>
   have hF := okP_fit hok
   have hb1 : 1 ≤ b := by simp at hb; omega
   have h8 := hF.max
   obtain ⟨q, Q, hq, hq1, hq2⟩ := plGo_first hF l.length [] [] (Pre.nil l) (.inl ⟨rfl, rfl⟩) (Nat.zero_add _) (by have := hF.one; simp; omega)
   have hq : allP l (sumTo l l.length) = q :: Q := hq
   have hmem : ∀ p ∈ q :: Q, p.length = l.length ∧ Plan p := fun p hp => allP_mem hF (by rw [hq]; exact hp)
   have hlen := allP_len hF
   have hS := sumTo_range hF.all l.length (Nat.le_refl _)
   have hwq : wv l q = [sumTo l l.length] := by
    unfold wv
    rw [hq2.wts 9 (by omega)]
    rfl
   have hhw : hw (wv l q) = sumTo l l.length := by rw [hwq]; rfl
   rw [hq, List.length_cons] at hlen
   obtain ⟨s, f1, f2⟩ := light_rel hF.all hF.one h8 b Q ⟨sumTo l l.length, 1, q⟩ (fun p hp => hmem p (List.mem_cons_of_mem _ hp)) (by simp) (by simp; omega) (by simp; omega)
   have hnum := fun k hk => lbNum_val hF.all hq1 hF.one h8 (hmem q (List.mem_cons_self ..)).2 b k hk
   rw [hhw, hwq] at hnum
   have hno : ¬ ((([sumTo l l.length] : List Int).length : Int) > b) := by simp; omega
   refine ⟨(s.least, true), ⟨K + Q.length * 10 + 40, fun k hk => ?_⟩, ⟨9, fun k hk => ?_⟩⟩
   ·obtain ⟨k, rfl⟩ : ∃ m, k = m + 1 := ⟨k - 1, by omega⟩
    show spec_LightestBag.f (k + 1) l b = _
    unfold spec_LightestBag.f
    have hsum : spec_bgSum.f k l = some (sumTo l l.length) := (sum_val hF.all h8 l.length 0 k (by omega) (by omega)).2
    have hrun := light_l0 hF.all hF.one h8 b (allP l (sumTo l l.length)) (by rw [hq, List.length_cons]; omega) (by rw [hq]; exact hmem) (Q.length + 1) 0 k (sumTo l l.length) (by rw [hq, List.length_cons]; omega) (by omega)
    rw [h (k + 1) (by omega), hok, Option.bind_some, if_pos rfl, l1In_is, hb, Option.bind_some, spec_LightestBag.j0, if_neg (by decide), hsum, Option.bind_some, bgAll_val hF k (by omega), Option.bind_some]
    rw [show ((0 : Nat) : Int) = 0 from rfl] at hrun
    rw [hrun, List.drop_zero, hq]
    simp only [lightGo]
    rw [hwq, if_neg hno, f2]
    have e : hw [sumTo l l.length] = sumTo l l.length := rfl
    rw [e, if_neg (by omega)]
   ·show impl_LightestBag.f k l b = _
    unfold impl_LightestBag.f
    have hsum : impl_weightOf.f k l = some (sumTo l l.length) := (sum_val hF.all h8 l.length 0 k (by omega) (by omega)).1
    rw [areParcels_val, hok, Option.bind_some, if_pos rfl, within_is', hb, Option.bind_some, if_pos rfl, hsum, Option.bind_some, if_pos h8, bpGo_fold]
    show (foldB _ _ (allP l (sumTo l l.length))).bind _ = _
    rw [hq]
    simp only [foldB, bpLeaf]
    rw [hnum k hk, if_neg hno, Option.bind_some, if_pos (by simp), Option.bind_some, f1 k hk, Option.bind_some]
end Go.Proofs.YtgdhbkoggfaioaaGreatDoor.Bg
end
section
namespace Go.Proofs.YtgdhbkoggfaioaaGreatDoor.Bg
open Go.RowKit Go.Proofs.YtgdhbkoggfaioaaGreatDoor.G Go.Proofs.YtgdhbkoggfaioaaGreatDoorW.PrintWords Go.Proofs.YtgdhbkoggfaioaaGreatDoorW.PrintLast Go.Proofs.YtgdhbkoggfaioaaGreatDoorW.PrintMore
theorem plLoop_iff {f : List Int → List Int → List (List Int)} {bag x : Int} {p ws q : List Int} : ∀ {m t : Nat}, q ∈ plLoop f bag x p ws m t ↔ ∃ u, t ≤ u ∧ u < t + m ∧ rd (bpNext ws u x) (u : Int) ≤ bag ∧ q ∈ f (p ++ [(u : Int)]) (bpNext ws u x)
 | 0, t => ⟨fun h => (by cases h), fun ⟨u, h1, h2, _⟩ => (by omega)⟩
 | m + 1, t => by
  simp only [plLoop, List.mem_append]
  rw [plLoop_iff (m := m) (t := t + 1)]
  constructor
  ·rintro (h | ⟨u, h1, h2, h3, h4⟩)
   ·by_cases hc : rd (bpNext ws t x) (t : Int) ≤ bag
    ·rw [if_pos hc] at h
     exact ⟨t, Nat.le_refl _, by omega, hc, h⟩
    ·rw [if_neg hc] at h
     cases h
   ·exact ⟨u, by omega, by omega, h3, h4⟩
  ·rintro ⟨u, h1, h2, h3, h4⟩
   by_cases e : u = t
   ·subst e
    left
    rw [if_pos h3]
    exact h4
   ·right
    exact ⟨u, by omega, by omega, h3, h4⟩
theorem bpNext_other {ws : List Int} {t u : Nat} {x : Int} (hne : t ≠ u) (ht : t < ws.length) : rd (bpNext ws u x) (t : Int) = rd ws (t : Int) := by
 unfold bpNext
 split
 ·simp [rd, List.getD, List.getElem?_set_ne (Ne.symm hne)]
 ·simp [rd, List.getD, List.getElem?_set_ne (Ne.symm hne), List.getElem?_append_left ht]
theorem plGo_move {l : List S62} {c b : Int} (hl : l.all parcOk = true) (hl8 : l.length ≤ 8) : ∀ (d : Nat) (p ws q : List Int), Pre l p ws → p.length + d = l.length → q ∈ plGo l c d p ws → (∀ x ∈ ws, x ≤ c) →
  ∃ wq, Pre l q wq ∧ q.length = l.length ∧ ws.length ≤ wq.length ∧ (∀ t : Nat, t < ws.length → rd ws (t : Int) ≤ rd wq (t : Int)) ∧ (∀ x ∈ wq, x ≤ c) ∧ ((∀ x ∈ wq, x ≤ b) → q ∈ plGo l b d p ws) ∧ ∀ i, p.length ≤ i → i < l.length → wt l i ≤ c
 | 0, p, ws, q, h, hd, hq, hc => by
  simp only [plGo, List.mem_singleton] at hq
  subst hq
  exact ⟨ws, h, by omega, Nat.le_refl _, fun _ _ => Int.le_refl _, hc, fun _ => by simp [plGo], fun i h1 h2 => by omega⟩
 | d + 1, p, ws, q, h, hd, hq, hc => by
  simp only [plGo] at hq
  obtain ⟨u, _, hu, hr, hq⟩ := plLoop_iff.1 hq
  have hsn := h.snoc hl hl8 (by omega) (t := u) (by omega)
  have hlen : (p ++ [(u : Int)]).length = p.length + 1 := by simp
  have hx := wt_range hl (i := p.length) (by omega)
  have hle := h.le
  have hN := bpNext_len ws u (wt l p.length)
  have hu' : u < (bpNext ws u (wt l p.length)).length := by rw [hN]; split <;> omega
  have hge : wt l p.length ≤ rd (bpNext ws u (wt l p.length)) (u : Int) := by
   by_cases e : u < ws.length
   ·have hm := h.pos _ (rd_mem (a := ws) (n := (u : Int)) (by omega) (by omega))
    rw [bpNext_rd e, w64 (by omega) (by omega)]
    omega
   ·obtain rfl : u = ws.length := by omega
    rw [bpNext_rdn, w64 (by omega) (by omega)]
    omega
  obtain ⟨wq, a1, a0, a2, a3, a4, a5, a6⟩ := plGo_move (b := b) hl hl8 d _ _ q hsn (by omega) hq (by
   intro y hy
   obtain ⟨j, hj, rfl⟩ := List.getElem_of_mem hy
   rw [← rd_get hj]
   by_cases e : j = u
   ·subst e
    exact hr
   ·have hj' : j < ws.length := by rw [hN] at hj; split at hj <;> omega
    rw [bpNext_other e hj']
    exact hc _ (rd_mem (by omega) (by omega)))
  refine ⟨wq, a1, a0, by rw [hN] at a2; split at a2 <;> omega, fun t ht => ?_, a4, fun hb => ?_, fun i h1 h2 => ?_⟩
  ·have ht' : t < (bpNext ws u (wt l p.length)).length := by rw [hN]; split <;> omega
   have h3 := a3 t ht'
   by_cases e : t = u
   ·subst e
    have hm := h.pos _ (rd_mem (a := ws) (n := (t : Int)) (by omega) (by omega))
    rw [bpNext_rd ht, w64 (by omega) (by omega)] at h3
    omega
   ·rw [bpNext_other e ht] at h3
    exact h3
  ·simp only [plGo]
   refine plLoop_iff.2 ⟨u, by omega, hu, ?_, a5 hb⟩
   have h3 := a3 u hu'
   have h4 := hb _ (rd_mem (a := wq) (n := (u : Int)) (by omega) (by omega))
   omega
  ·by_cases e : i = p.length
   ·subst e
    omega
   ·exact a6 i (by omega) h2
theorem allP_move {l : List S62} {c b : Int} (hl : l.all parcOk = true) (hl8 : l.length ≤ 8) {q : List Int} (hq : q ∈ allP l c) :
  q.length = l.length ∧ Plan q ∧ (∀ x ∈ wv l q, x ≤ c) ∧ ((∀ x ∈ wv l q, x ≤ b) → q ∈ allP l b) ∧ ∀ i, i < l.length → wt l i ≤ c := by
 obtain ⟨wq, a1, a0, _, _, a4, a5, a6⟩ := plGo_move (b := b) hl hl8 l.length [] [] q (Pre.nil l) (Nat.zero_add _) hq (fun x hx => by cases hx)
 have e : wv l q = wq := by
  unfold wv
  rw [a1.wts 9 (by omega)]
  rfl
 rw [e]
 exact ⟨a0, a1.plan, a4, a5, fun i hi => a6 i (Nat.zero_le _) hi⟩
theorem foldB_least (num : List Int → Option Int) (val : List Int → Int) : ∀ (P : List (List Int)) (s s' : BpSt), (∀ p ∈ P, num p = some (val p)) → 1 ≤ s.count → s.count + (P.length : Int) ≤ 1000000000 → foldB num s P = some s' →
  s'.least ≤ s.least ∧ (∀ p ∈ P, s'.least ≤ val p) ∧ (s'.least = s.least ∨ ∃ p ∈ P, s'.least = val p)
 | [], s, s', _, _, _, h => by
  obtain rfl := Option.some.inj h
  exact ⟨Int.le_refl _, fun p hp => (by cases hp), .inl rfl⟩
 | p :: P, s, s', hP, hc, hn, h => by
  have hv := hP p (List.mem_cons_self ..)
  have hr := fun q hq => hP q (List.mem_cons_of_mem _ hq)
  rw [List.length_cons] at hn
  simp only [foldB, bpLeaf] at h
  rw [hv, Option.bind_some] at h
  have fin : ∀ (m : Int), m ≤ s.least → m ≤ val p → (m = s.least ∨ m = val p) → s'.least ≤ m ∧ (∀ q ∈ P, s'.least ≤ val q) ∧ (s'.least = m ∨ ∃ q ∈ P, s'.least = val q) → s'.least ≤ s.least ∧ (∀ q ∈ p :: P, s'.least ≤ val q) ∧ (s'.least = s.least ∨ ∃ q ∈ p :: P, s'.least = val q) := by
   rintro m h1 h2 h3 ⟨a, b, c⟩
   refine ⟨by omega, fun q hq => ?_, ?_⟩
   ·rcases List.mem_cons.1 hq with rfl | hq
    ·omega
    ·exact b q hq
   ·rcases c with c | ⟨q, hq, c⟩
    ·rcases h3 with h3 | h3
     ·exact .inl (by omega)
     ·exact .inr ⟨p, List.mem_cons_self .., by omega⟩
    ·exact .inr ⟨q, List.mem_cons_of_mem _ hq, c⟩
  by_cases hlt : val p < s.least
  ·rw [if_pos (.inr hlt), Option.bind_some] at h
   exact fin (val p) (by omega) (Int.le_refl _) (.inr rfl) (foldB_least num val P ⟨val p, 1, p⟩ s' hr (by simp) (by simp; omega) h)
  ·rw [if_neg (by omega)] at h
   by_cases he : val p = s.least
   ·have e : wrap64 (s.count + 1) = s.count + 1 := w64 (by omega) (by omega)
    rw [if_pos he, Option.bind_some, e] at h
    exact fin s.least (Int.le_refl _) (by omega) (.inl rfl) (foldB_least num val P ⟨s.least, s.count + 1, s.best⟩ s' hr (by simp; omega) (by simp; omega) h)
   ·rw [if_neg he, Option.bind_some] at h
    exact fin s.least (Int.le_refl _) (by omega) (.inl rfl) (foldB_least num val P s s' hr hc (by omega) h)
theorem foldB_some (num : List Int → Option Int) (val : List Int → Int) : ∀ (P : List (List Int)) (s : BpSt), (∀ p ∈ P, num p = some (val p)) → ∃ s', foldB num s P = some s'
 | [], s, _ => ⟨s, rfl⟩
 | p :: P, s, hP => by
  simp only [foldB, bpLeaf]
  rw [hP p (List.mem_cons_self ..), Option.bind_some]
  have hr := fun q hq => hP q (List.mem_cons_of_mem _ hq)
  split
  ·rw [Option.bind_some]
   exact foldB_some num val P _ hr
  ·split
   ·rw [Option.bind_some]
    exact foldB_some num val P _ hr
   ·rw [Option.bind_some]
    exact foldB_some num val P _ hr
theorem few_val {l : List S62} {b : Int} (hf : fits l b = true) :
  ∃ v, impl_FewestTrips.f l b = some (v, true) ∧ (∀ q ∈ allP l b, v ≤ ((wv l q).length : Int)) ∧ ∃ q ∈ allP l b, v = ((wv l q).length : Int) := by
 have h := fits_room hf
 obtain ⟨p, P, hP⟩ := allP_ne h
 have hlen := allP_len h
 have hmem : ∀ q ∈ p :: P, q.length = l.length ∧ Plan q := fun q hq => allP_mem h (by rw [hP]; exact hq)
 have h1 := h.one
 have h8 := h.max
 have hval : ∀ q ∈ p :: P, impl_countTrips.f l q = some ((wv l q).length : Int) := fun q hq => by
  obtain ⟨a, c⟩ := hmem q hq
  rw [(wv_both h.all a h1 h8 c).1]
  exact countTrips_val l c (by omega) (by omega)
 obtain ⟨s, f1⟩ := foldB_some (fun p => impl_countTrips.f l p) (fun q => ((wv l q).length : Int)) (p :: P) ⟨0, 0, []⟩ hval
 have f0 : bpGo (fun p => impl_countTrips.f l p) l b l.length [] [] ⟨0, 0, []⟩ = some s := by
  rw [bpGo_fold]
  show foldB _ _ (allP l b) = _
  rw [hP]
  exact f1
 refine ⟨s.least, by simp [impl_FewestTrips.f, fitBag_val, hf, h8, f0], ?_⟩
 clear f0
 rw [hP] at hlen ⊢
 rw [List.length_cons] at hlen
 simp only [foldB, bpLeaf] at f1
 rw [hval p (List.mem_cons_self ..), Option.bind_some, if_pos (by simp), Option.bind_some] at f1
 obtain ⟨a, b', c⟩ := foldB_least (fun p => impl_countTrips.f l p) (fun q => ((wv l q).length : Int)) P ⟨_, 1, p⟩ s (fun q hq => hval q (List.mem_cons_of_mem _ hq)) (by simp) (by simp; omega) f1
 refine ⟨fun q hq => ?_, ?_⟩
 ·rcases List.mem_cons.1 hq with rfl | hq
  ·exact a
  ·exact b' q hq
 ·rcases c with c | ⟨q, hq, c⟩
  ·exact ⟨p, List.mem_cons_self .., c⟩
  ·exact ⟨q, List.mem_cons_of_mem _ hq, c⟩
theorem hw_ge {v : List Int} {x : Int} (hx : x ∈ v) : x ≤ hw v := by
 obtain ⟨j, hj, rfl⟩ := List.getElem_of_mem hx
 have h := (maxTo_le v (hw v) (v.length - 1) (by omega)).1 (Int.le_refl _) j (by omega)
 rwa [rd_get hj] at h
theorem hw_le {v : List Int} {c : Int} (h1 : 1 ≤ v.length) (h : ∀ x ∈ v, x ≤ c) : hw v ≤ c := (maxTo_le v c (v.length - 1) (by omega)).2 fun j hj => by
 rw [rd_get (by omega)]
 exact h _ (List.getElem_mem _)
theorem light_min {l : List S62} {t v : Int} {k : Nat} (hok : okP l = true) (ht1 : 1 ≤ t) (ht8 : t ≤ 8) (hk : 9 ≤ k) (hv : impl_LightestBag.f k l t = some (v, true)) :
  v ≤ sumTo l l.length ∧ (∀ q ∈ allP l (sumTo l l.length), ((wv l q).length : Int) ≤ t → v ≤ hw (wv l q)) ∧ ∃ q ∈ allP l (sumTo l l.length), ((wv l q).length : Int) ≤ t ∧ v = hw (wv l q) := by
 have hF := okP_fit hok
 have h1 := hF.one
 have h8 := hF.max
 obtain ⟨q, Q, hq, hq1, hq2⟩ := plGo_first hF l.length [] [] (Pre.nil l) (.inl ⟨rfl, rfl⟩) (Nat.zero_add _) (by simp; omega)
 have hq : allP l (sumTo l l.length) = q :: Q := hq
 have hmem : ∀ p ∈ q :: Q, p.length = l.length ∧ Plan p := fun p hp => allP_mem hF (by rw [hq]; exact hp)
 have hlen := allP_len hF
 have hS := sumTo_range hF.all l.length (Nat.le_refl _)
 have hwq : wv l q = [sumTo l l.length] := by
  unfold wv
  rw [hq2.wts 9 (by omega)]
  rfl
 have hhw : hw (wv l q) = sumTo l l.length := by rw [hwq]; rfl
 have hsum : impl_weightOf.f k l = some (sumTo l l.length) := (sum_val hF.all h8 l.length 0 k (by omega) (by omega)).1
 unfold impl_LightestBag.f at hv
 rw [areParcels_val, hok, Option.bind_some, if_pos rfl, within_is', show (decide (t ≥ 1) && decide (t ≤ 8)) = true by simp; omega, Option.bind_some, if_pos rfl, hsum, Option.bind_some, if_pos h8, bpGo_fold] at hv
 have hv : (foldB (lbNum k l t) ⟨0, 0, []⟩ (allP l (sumTo l l.length))).bind (fun s => some (s.least, true)) = some (v, true) := hv
 obtain ⟨s, f1, f2⟩ := Option.bind_eq_some_iff.1 hv
 obtain rfl : s.least = v := by simpa using f2
 clear hv f2
 have hval : ∀ p ∈ q :: Q, lbNum k l t p = some (if ((wv l p).length : Int) > t then 1000000 else hw (wv l p)) := fun p hp => lbNum_val hF.all (hmem p hp).1 h1 h8 (hmem p hp).2 t k (by omega)
 rw [hq] at f1 hlen ⊢
 rw [List.length_cons] at hlen
 have hno : ¬ (((wv l q).length : Int) > t) := by rw [hwq]; simp; omega
 simp only [foldB, bpLeaf] at f1
 rw [hval q (List.mem_cons_self ..), if_neg hno, hhw, Option.bind_some, if_pos (by simp), Option.bind_some] at f1
 obtain ⟨a, b, c⟩ := foldB_least (lbNum k l t) (fun p => if ((wv l p).length : Int) > t then 1000000 else hw (wv l p)) Q ⟨sumTo l l.length, 1, q⟩ s (fun p hp => hval p (List.mem_cons_of_mem _ hp)) (by simp) (by simp; omega) f1
 have a : s.least ≤ sumTo l l.length := a
 refine ⟨a, fun p hp hle => ?_, ?_⟩
 ·rcases List.mem_cons.1 hp with rfl | hp
  ·omega
  ·have this : s.least ≤ (if ((wv l p).length : Int) > t then 1000000 else hw (wv l p)) := b p hp
   rwa [if_neg (by omega)] at this
 ·rcases c with c | ⟨p, hp, c⟩
  ·exact ⟨q, List.mem_cons_self .., by omega, by rw [hhw]; exact c⟩
  ·have c : s.least = (if ((wv l p).length : Int) > t then 1000000 else hw (wv l p)) := c
   by_cases hg : ((wv l p).length : Int) > t
   ·rw [if_pos hg] at c
    omega
   ·rw [if_neg hg] at c
    exact ⟨p, List.mem_cons_of_mem _ hp, by omega, c⟩
theorem fits_of {l : List S62} {b : Int} (hok : okP l = true) (h1 : 1 ≤ b) (h2 : b ≤ 10000) (h : ∀ i, i < l.length → wt l i ≤ b) : fits l b = true := by
 unfold fits bagOk
 rw [hok]
 simp only [Bool.true_and, Bool.and_eq_true, decide_eq_true_eq, List.all_eq_true]
 refine ⟨⟨h1, h2⟩, fun x hx => ?_⟩
 obtain ⟨i, hi, rfl⟩ := List.getElem_of_mem hx
 have := h i hi
 simp only [wt, rd_T62, List.getD, Int.toNat_natCast, List.getElem?_eq_getElem hi, Option.getD_some] at this
 simp
 omega
theorem light_few {l : List S62} {t v : Int} {k : Nat} (hk : 9 ≤ k) (hv : impl_LightestBag.f k l t = some (v, true)) :
  okP l = true ∧ 1 ≤ v ∧ v ≤ 8000 ∧ ∃ few, impl_FewestTrips.f l v = some (few, true) ∧ few ≤ t ∧ ∃ more four, impl_FewestTrips.f l (v - 1) = some (more, four) ∧ (1 < v → four = true → t < more) := by
 have hok : okP l = true ∧ 1 ≤ t ∧ t ≤ 8 := by
  unfold impl_LightestBag.f at hv
  rw [areParcels_val, Option.bind_some] at hv
  cases hc : okP l with
  | false =>
   rw [hc, if_neg (by decide)] at hv
   cases hv
  | true =>
   rw [hc, if_pos rfl, within_is', Option.bind_some] at hv
   by_cases hd : (decide (t ≥ 1) && decide (t ≤ 8)) = true
   ·simp at hd
    exact ⟨rfl, hd.1, hd.2⟩
   ·rw [if_neg hd] at hv
    cases hv
 obtain ⟨hok, ht1, ht8⟩ := hok
 have hF := okP_fit hok
 have h1 := hF.one
 have h8 := hF.max
 have hS := sumTo_range hF.all l.length (Nat.le_refl _)
 obtain ⟨a0, a1, q, hq, hql, hqv⟩ := light_min hok ht1 ht8 hk hv
 obtain ⟨m1, m2, m3, m4, _⟩ := allP_move (b := v) hF.all h8 hq
 have hw1 := wv_both hF.all m1 h1 h8 m2
 have hpos := plan_pos m2 (by omega)
 have hr := hw_range (v := wv l q) (by omega) hw1.2.1
 have hin : q ∈ allP l v := m4 fun x hx => by rw [hqv]; exact hw_ge hx
 have hroom := (allP_move (b := v) hF.all h8 hin).2.2.2.2
 have hf := fits_of (b := v) hok (by omega) (by omega) hroom
 obtain ⟨few, e, e1, _⟩ := few_val hf
 have hfew : few ≤ t := by
  have := e1 q hin
  omega
 cases hf2 : fits l (v - 1) with
 | false => exact ⟨hok, by omega, by omega, few, e, hfew, 0, false, by simp [impl_FewestTrips.f, fitBag_val, hf2], fun _ h => by cases h⟩
 | true =>
  obtain ⟨more, e2, _, q2, hq2, e3⟩ := few_val hf2
  refine ⟨hok, by omega, by omega, few, e, hfew, more, true, e2, fun hgt _ => ?_⟩
  obtain ⟨n1, n2, n3, n4, _⟩ := allP_move (b := sumTo l l.length) hF.all h8 hq2
  have hw2 := wv_both hF.all n1 h1 h8 n2
  have hpos2 := plan_pos n2 (by omega)
  have hin2 := n4 fun x hx => by have := n3 x hx; omega
  have hle := hw_le (v := wv l q2) (by omega) n3
  by_cases hc : t < more
  ·exact hc
  ·have := a1 q2 hin2 (by omega)
   omega
end Go.Proofs.YtgdhbkoggfaioaaGreatDoor.Bg
end
section
namespace Go.Proofs.YtgdhbkoggfaioaaGreatDoor.Bg
open Go.RowKit Go.Proofs.YtgdhbkoggfaioaaGreatDoor.G Go.Proofs.YtgdhbkoggfaioaaGreatDoorW.PrintWords Go.Proofs.YtgdhbkoggfaioaaGreatDoorW.PrintLast Go.Proofs.YtgdhbkoggfaioaaGreatDoorW.PrintMore
theorem rd_is {l : List Int} {i : Nat} (h : i < l.length) : rd l (i : Int) = l[i] := by simp [rd, List.getD, List.getElem?_eq_getElem h]
theorem rd_old {a b : List Int} {i : Nat} (h : i < a.length) : rd (a ++ b) (i : Int) = rd a (i : Int) := by
 rw [rd_is h, rd_is (by rw [List.length_append]; omega), List.getElem_append_left h]
theorem rd_end (a : List Int) (x : Int) : rd (a ++ [x]) (a.length : Int) = x := by simp [rd, List.getD]
def sg (l : List Int) (h : Nat) : Int := (l.drop h).sum
theorem sg_step {l : List Int} {h : Nat} (hh : h < l.length) : sg l h = rd l (h : Int) + sg l (h + 1) := by
 unfold sg
 rw [List.drop_eq_getElem_cons hh, List.sum_cons, rd_is hh]
structure TripsOk (l : List Int) (b : Int) (acc : List Int) : Prop where
 each : ∀ i, i < acc.length → ∃ h : Nat, rd acc (i : Int) = ((h + 1 : Nat) : Int) ∧ h < l.length ∧ 0 < rd l (h : Int) ∧ sg l (h + 1) ≤ (i : Int) * b ∧ (i : Int) * b < sg l (h + 1) + rd l (h : Int)
 prev : ∀ i, i + 1 < acc.length → rd acc ((i + 1 : Nat) : Int) ≤ rd acc (i : Int)
theorem TripsOk.nil (l : List Int) (b : Int) : TripsOk l b [] := ⟨fun _ h => absurd h (Nat.not_lt_zero _), fun _ h => absurd h (Nat.not_lt_zero _)⟩
theorem TripsOk.snoc {l : List Int} {b : Int} {acc : List Int} (h : TripsOk l b acc) {g : Nat} (hg : g < l.length) (hge : ∀ y ∈ acc, (g : Int) + 1 ≤ y) (hp : 0 < rd l (g : Int)) (h1 : sg l (g + 1) ≤ (acc.length : Int) * b) (h2 : (acc.length : Int) * b < sg l (g + 1) + rd l (g : Int)) :
  TripsOk l b (acc ++ [((g + 1 : Nat) : Int)]) where
 each i hi := by
  rw [List.length_append, List.length_singleton] at hi
  by_cases e : i = acc.length
  ·subst e
   exact ⟨g, rd_end _ _, hg, hp, h1, h2⟩
  ·rw [rd_old (by omega)]
   exact h.each i (by omega)
 prev i hi := by
  rw [List.length_append, List.length_singleton] at hi
  by_cases e : i + 1 = acc.length
  ·rw [e, rd_end, rd_old (by omega), rd_is (by omega)]
   have := hge acc[i] (List.getElem_mem _)
   omega
  ·rw [rd_old (by omega), rd_old (by omega)]
   exact h.prev i (by omega)
structure St (l : List Int) (b : Int) (h : Nat) (acc : List Int) (room : Int) : Prop where
 ok : TripsOk l b acc
 ge : ∀ y ∈ acc, (h : Int) + 1 ≤ y
 sum : sg l h + room = (acc.length : Int) * b
 r0 : 0 ≤ room
 r1 : room < b
structure St1 (l : List Int) (b : Int) (h : Nat) (acc : List Int) (room left : Int) : Prop where
 ok : TripsOk l b acc
 ge : ∀ y ∈ acc, (h : Int) + 1 ≤ y
 sum : sg l (h + 1) + (rd l (h : Int) - left) + room = (acc.length : Int) * b
 r0 : 0 ≤ room
 r1 : room ≤ b
 l0 : 0 ≤ left
 l1 : left ≤ rd l (h : Int)
 lt : room < b ∨ 1 ≤ left
structure Fin (l : List Int) (b : Int) (v : List Int) : Prop where
 ok : TripsOk l b v
 sum : ∃ room, sg l 0 + room = (v.length : Int) * b ∧ 0 ≤ room ∧ room < b
theorem letters_inv (l : List Int) (b : Int) (hn : l.length ≤ 100) (hb : 1 ≤ b ∧ b ≤ 10000) (hl : ∀ x ∈ l, 0 ≤ x ∧ x ≤ 1000) : ∀ k,
  (∀ h acc room v, h ≤ l.length → St l b h acc room → impl_lettersTrips.l0 k l b acc room (h : Int) = some v → Fin l b v) ∧
  (∀ h acc room left v, h < l.length → St1 l b h acc room left → impl_lettersTrips.l1 k l b acc room ((h + 1 : Nat) : Int) left = some v → Fin l b v)
 | 0 => ⟨fun _ _ _ _ _ _ h => (by simp [impl_lettersTrips.l0] at h), fun _ _ _ _ _ _ _ h => (by simp [impl_lettersTrips.l1] at h)⟩
 | k + 1 => by
  obtain ⟨ih0, ih1⟩ := letters_inv l b hn hb hl k
  refine ⟨fun h acc room v hh hs hv => ?_, fun h acc room left v hh hs hv => ?_⟩
  ·rw [impl_lettersTrips.l0] at hv
   by_cases h0 : h = 0
   ·subst h0
    rw [if_neg (by omega)] at hv
    obtain rfl := Option.some.inj hv
    exact ⟨hs.ok, room, hs.sum, hs.r0, hs.r1⟩
   ·obtain ⟨g, rfl⟩ : ∃ g, h = g + 1 := ⟨h - 1, by omega⟩
    have hxl := hl l[g] (List.getElem_mem (by omega))
    rw [← rd_is (by omega)] at hxl
    rw [w64 (by omega) (by omega), show ((g + 1 : Nat) : Int) - 1 = (g : Int) by omega, if_pos (by omega), if_pos (by omega), if_pos (by omega)] at hv
    have s1 := hs.sum
    have s2 := hs.r1
    exact ih1 g acc room _ v (by omega) ⟨hs.ok, fun y hy => by have := hs.ge y hy; omega, by omega, hs.r0, by omega, hxl.1, Int.le_refl _, .inl hs.r1⟩ hv
  ·rw [impl_lettersTrips.l1] at hv
   have hxl := hl l[h] (List.getElem_mem hh)
   rw [← rd_is hh] at hxl
   have s1 := hs.sum
   have s2 := hs.r1
   have s3 := hs.l1
   have s4 := hs.r0
   have s5 := hs.l0
   have s6 := hs.lt
   by_cases hgt : left > room
   ·rw [if_pos hgt] at hv
    by_cases hlen : acc.length < 17592186044416
    ·rw [if_pos hlen, w64 (by omega) (by omega)] at hv
     have e : (((acc ++ [((h + 1 : Nat) : Int)]).length : Nat) : Int) * b = (acc.length : Int) * b + b := by
      rw [List.length_append, List.length_singleton, Int.natCast_add, Int.add_mul]
      omega
     refine ih1 h _ b (left - room) v hh ⟨hs.ok.snoc hh hs.ge (by omega) (by omega) (by omega), fun y hy => ?_, by omega, by omega, Int.le_refl _, by omega, by omega, .inr (by omega)⟩ hv
     rcases List.mem_append.1 hy with hy | hy
     ·exact hs.ge y hy
     ·obtain rfl := List.mem_singleton.1 hy
      omega
    ·rw [if_neg hlen] at hv
     cases hv
   ·rw [if_neg hgt, w64 (by omega) (by omega), w64 (by omega) (by omega), show ((h + 1 : Nat) : Int) - 1 = (h : Int) by omega] at hv
    exact ih0 h acc (room - left) v (by omega) ⟨hs.ok, hs.ge, by rw [sg_step hh]; omega, by omega, by omega⟩ hv
theorem aSum_l0 (l : List Int) (hn : l.length ≤ 1000000) (hl : ∀ x ∈ l, 0 ≤ x ∧ x ≤ 1000) : ∀ (d i k : Nat) (s : Int), i + d = l.length → d < k → 0 ≤ s → s ≤ 1000 * (i : Int) →
  laws_aSum.l0 k s l (l.length : Int) (i : Int) = some (s + sg l i) ∧ impl_sumOf.l0 k s l (l.length : Int) (i : Int) = some (s + sg l i) := by
 intro d
 induction d with
 | zero =>
  intro i k s hi hk h0 h1
  obtain ⟨k, rfl⟩ : ∃ m, k = m + 1 := ⟨k - 1, by omega⟩
  obtain rfl : i = l.length := by omega
  have e : sg l l.length = 0 := by
   unfold sg
   rw [List.drop_length]
   rfl
  rw [e, Int.add_zero]
  simp only [laws_aSum.l0, impl_sumOf.l0]
  rw [if_neg (by omega), if_neg (by omega)]
  exact ⟨rfl, rfl⟩
 | succ d ih =>
  intro i k s hi hk h0 h1
  obtain ⟨k, rfl⟩ : ∃ m, k = m + 1 := ⟨k - 1, by omega⟩
  have hxl := hl l[i] (List.getElem_mem (by omega))
  rw [← rd_is (by omega)] at hxl
  have := ih (i + 1) k (s + rd l (i : Int)) (by omega) (by omega) (by omega) (by omega)
  rw [show (((i + 1 : Nat)) : Int) = (i : Int) + 1 by omega, show s + rd l (i : Int) + sg l (i + 1) = s + sg l i by rw [sg_step (l := l) (h := i) (by omega)]; omega] at this
  simp only [laws_aSum.l0, impl_sumOf.l0]
  rw [w64 (x := s + rd l (i : Int)) (by omega) (by omega), w64 (x := (i : Int) + 1) (by omega) (by omega)]
  have c1 : (i : Int) < (l.length : Int) := by omega
  have c0 : (0 : Int) ≤ (i : Int) := by omega
  simp only [c1, c0, if_true]
  exact this
theorem aSum_val (l : List Int) (hn : l.length ≤ 1000000) (hl : ∀ x ∈ l, 0 ≤ x ∧ x ≤ 1000) (k : Nat) (hk : l.length < k) : laws_aSum.f k l = some (sg l 0) ∧ impl_sumOf.f k l = some (sg l 0) := by
 have := aSum_l0 l hn hl l.length 0 k 0 (by omega) hk (Int.le_refl _) (by omega)
 rw [Int.zero_add] at this
 exact this
theorem sg_range {l : List Int} (hl : ∀ x ∈ l, 0 ≤ x ∧ x ≤ 1000) : ∀ (d i : Nat), i + d = l.length → 0 ≤ sg l i ∧ sg l i ≤ 1000 * (d : Int)
 | 0, i, h => by
  obtain rfl : i = l.length := by omega
  unfold sg
  rw [List.drop_length]
  exact ⟨Int.le_refl _, by simp⟩
 | d + 1, i, h => by
  have hxl := hl l[i] (List.getElem_mem (by omega))
  rw [← rd_is (by omega)] at hxl
  have := sg_range hl d (i + 1) (by omega)
  rw [sg_step (l := l) (h := i) (by omega)]
  omega
theorem letters_cnt {t b r : Int} {n : Nat} (ht0 : 0 ≤ t) (ht : t ≤ 1000000) (hb : 1 ≤ b ∧ b ≤ 10000) (h : t + r = (n : Int) * b) (h0 : 0 ≤ r) (h1 : r < b) (hn : (n : Int) ≤ 1000000) : (n : Int) = wrap64 ((wrap64 (wrap64 (t + b) - 1)).tdiv b) := by
 rw [w64 (x := t + b) (by omega) (by omega), w64 (x := t + b - 1) (by omega) (by omega), Int.tdiv_eq_ediv_of_nonneg (by omega), show t + b - 1 = (b - 1 - r) + (n : Int) * b by omega, Int.add_mul_ediv_right _ _ (by omega), Int.ediv_eq_zero_of_lt (by omega) (by omega), Int.zero_add, w64 (by omega) (by omega)]
theorem letters_facts (l : List Int) (b : Int) (h : okL l b = true) : ∃ v : List Int, v.length ≤ 200000 ∧ Ev (fun k => impl_LettersTrips.f k l b) (v, true) ∧ Ev (fun k => spec_LettersTrips.f k l b) (v, true) ∧ Ev (fun k => impl_LettersLength.f k l b) (wrap64 (2 * sg v 0), true) ∧ Ev (fun k => spec_LettersLength.f k l b) (wrap64 (2 * sg v 0), true) ∧ Fin l b v ∧ ∀ x ∈ v, 0 ≤ x ∧ x ≤ 1000 := by
 obtain ⟨hn, hl, hb⟩ := okL_len h
 have e3 : impl_within.f b 1 10000 = some (decide (b ≥ 1) && decide (b ≤ 10000)) := within_is' _ _ _
 obtain ⟨v, hv, ⟨K1, h1⟩, ⟨K2, h2⟩⟩ := lettersTrips_both l b h
 have h1 : ∀ k, K1 ≤ k → impl_lettersTrips.f k l b = some v := h1
 have h2 : ∀ k, K2 ≤ k → spec_bgLetters.f k l b = some v := h2
 have e : impl_lettersTrips.l0 K1 l b [] 0 (l.length : Int) = some v := h1 K1 (Nat.le_refl _)
 have s0 : sg l l.length = 0 := by
  unfold sg
  rw [List.drop_length]
  rfl
 have hF := (letters_inv l b hn hb hl K1).1 l.length [] 0 v (Nat.le_refl _) ⟨TripsOk.nil l b, fun y hy => (by cases hy), by rw [s0]; simp, Int.le_refl _, by omega⟩ e
 have hvx : ∀ x ∈ v, 0 ≤ x ∧ x ≤ 1000 := fun x hx => by
  obtain ⟨i, hi, rfl⟩ := List.getElem_of_mem hx
  obtain ⟨g, hg, hgl, _⟩ := hF.ok.each i hi
  rw [rd_is hi] at hg
  omega
 have hs := fun k hk => (aSum_val v (by omega) hvx k hk).2
 obtain ⟨t, t1, t2⟩ := sums_l0 v (by omega) v.length 0 0 0 (by omega) (by unfold wrap64; omega)
 have ht : t = sg v 0 := by
  have a := hs (v.length + 1) (by omega)
  have a2 := t1 (v.length + 1) (by omega)
  have a : impl_sumOf.l0 (v.length + 1) 0 v (v.length : Int) 0 = some (sg v 0) := a
  rw [show ((0 : Nat) : Int) = 0 from rfl, a] at a2
  exact (Option.some.inj a2).symm
 subst ht
 have hk := h
 unfold okL at hk
 simp only [Bool.and_eq_true] at hk
 refine ⟨v, hv, ⟨K1 + 1002, fun k hk2 => ?_⟩, ⟨K2 + 1002, fun k hk2 => by simp [spec_LettersTrips.f, bgPost_val l b k (by omega), h, h2 k (by omega)]⟩, ⟨K1 + v.length + 1003, fun k hk2 => ?_⟩, ⟨K2 + v.length + 1002, fun k hk2 => ?_⟩, hF, hvx⟩
 ·show impl_LettersTrips.f k l b = some _
  unfold impl_LettersTrips.f impl_isBag.f
  rw [areLetters_val l k (by omega), Option.bind_some, e3, h1 k (by omega)]
  simp only [Bool.and_eq_true, hk, and_self, if_true, Option.bind_some]
 ·show impl_LettersLength.f k l b = some _
  obtain ⟨k, rfl⟩ : ∃ m, k = m + 1 := ⟨k - 1, by omega⟩
  have h5 : impl_sumOf.f k v = some (sg v 0) := hs k (by omega)
  unfold impl_LettersLength.f impl_isBag.f
  rw [areLetters_val l (k + 1) (by omega), Option.bind_some, e3]
  simp only [Bool.and_eq_true, hk, and_self, if_true, Option.bind_some, impl_LettersLength.j0, h1 k (by omega), h5]
  rfl
 ·show spec_LettersLength.f k l b = some _
  unfold spec_LettersLength.f
  rw [bgPost_val l b k (by omega), h, Option.bind_some, if_pos rfl, h2 k (by omega), Option.bind_some]
  exact t2 k (by omega)
theorem letters_no (l : List Int) (b : Int) (h : okL l b = false) : Ev (fun k => impl_LettersTrips.f k l b) ([], false) ∧ Ev (fun k => spec_LettersTrips.f k l b) ([], false) ∧ Ev (fun k => impl_LettersLength.f k l b) (0, false) ∧ Ev (fun k => spec_LettersLength.f k l b) (0, false) := by
 have e3 : impl_within.f b 1 10000 = some (decide (b ≥ 1) && decide (b ≤ 10000)) := within_is' _ _ _
 have hh := h
 unfold okL at hh
 refine ⟨⟨1002, fun k hk => ?_⟩, ⟨1002, fun k hk => by simp [spec_LettersTrips.f, bgPost_val l b k (by omega), h]⟩, ⟨1003, fun k hk => ?_⟩, ⟨1002, fun k hk => by simp [spec_LettersLength.f, bgPost_val l b k (by omega), h]⟩⟩
 ·show impl_LettersTrips.f k l b = some _
  unfold impl_LettersTrips.f impl_isBag.f
  rw [areLetters_val l k (by omega), Option.bind_some, e3]
  revert hh
  cases (decide ((l.length : Int) ≥ 1) && decide ((l.length : Int) ≤ 100)) <;> cases (l.all fun x => decide (x ≥ 0) && decide (x ≤ 1000)) <;> cases (decide (b ≥ 1) && decide (b ≤ 10000)) <;> simp
 ·show impl_LettersLength.f k l b = some _
  obtain ⟨k, rfl⟩ : ∃ m, k = m + 1 := ⟨k - 1, by omega⟩
  unfold impl_LettersLength.f impl_isBag.f
  rw [areLetters_val l (k + 1) (by omega), Option.bind_some, e3]
  revert hh
  cases (decide ((l.length : Int) ≥ 1) && decide ((l.length : Int) ≤ 100)) <;> cases (l.all fun x => decide (x ≥ 0) && decide (x ≤ 1000)) <;> cases (decide (b ≥ 1) && decide (b ≤ 10000)) <;> simp [impl_LettersLength.j0]
end Go.Proofs.YtgdhbkoggfaioaaGreatDoor.Bg
end
section
namespace Go.Proofs.YtgdhbkoggfaioaaGreatDoor.Bg
open Go.RowKit Go.Proofs.YtgdhbkoggfaioaaGreatDoor.G Go.Proofs.YtgdhbkoggfaioaaGreatDoorW.PrintWords Go.Proofs.YtgdhbkoggfaioaaGreatDoorW.PrintLast Go.Proofs.YtgdhbkoggfaioaaGreatDoorW.PrintMore
def sn (p : List Int) : Nat → List Int
 | 0 => []
 | i + 1 => if ix (sn p i) (rd p (i : Int)) = (sn p i).length then sn p i ++ [rd p (i : Int)] else sn p i
def ot (p : List Int) (i : Nat) : Nat := ix (sn p i) (rd p (i : Int))
theorem nm_go (p : List Int) : ∀ (d i : Nat), i + d = p.length → nmGo (sn p i) ((List.range i).map fun j => (ot p j : Int)) (p.drop i) = (List.range p.length).map fun j => (ot p j : Int)
 | 0, i, h => by
  obtain rfl : i = p.length := by omega
  rw [List.drop_length]
  rfl
 | d + 1, i, h => by
  have hx : p[i]? = some p[i] := List.getElem?_eq_getElem (by omega)
  have hrd : rd p (i : Int) = p[i] := by simp [rd, List.getD, hx]
  rw [List.drop_eq_getElem_cons (by omega : i < p.length)]
  have hr := nm_go p d (i + 1) (by omega)
  rw [List.range_succ, List.map_append, List.map_singleton] at hr
  unfold nmGo
  rw [← hrd]
  by_cases hc : ix (sn p i) (rd p (i : Int)) = (sn p i).length
  ·rw [if_pos hc]
   simp only [sn] at hr
   rw [if_pos hc] at hr
   exact hr
  ·rw [if_neg hc]
   simp only [sn] at hr
   rw [if_neg hc] at hr
   exact hr
theorem nm_is (p : List Int) : nm p = (List.range p.length).map fun j => (ot p j : Int) := nm_go p p.length 0 (Nat.zero_add _)
theorem nm_rd (p : List Int) {i : Nat} (h : i < p.length) : rd (nm p) (i : Int) = (ot p i : Int) := by
 rw [nm_is]
 simp [rd, List.getD, h]
theorem ix_at {l : List Int} {n : Int} (h : ix l n < l.length) : l[ix l n]? = some n := by
 have h2 := List.findIdx_getElem (xs := l) (p := fun y => decide (n = y)) (w := h)
 rw [List.getElem?_eq_getElem h]
 simp only [decide_eq_true_eq] at h2
 exact congrArg some h2.symm
theorem ix_app (l r : List Int) (n : Int) (h : ix l n < l.length) : ix (l ++ r) n = ix l n := by
 unfold ix at h ⊢
 rw [List.findIdx_append, if_pos h]
theorem ix_new (l : List Int) (n : Int) (h : ix l n = l.length) : ix (l ++ [n]) n = l.length := by
 unfold ix at h ⊢
 rw [List.findIdx_append, if_neg (by omega)]
 simp
theorem sn_ext (p : List Int) (i : Nat) : ∀ d, ∃ r, sn p (i + d) = sn p i ++ r
 | 0 => ⟨[], by simp⟩
 | d + 1 => by
  obtain ⟨r, hr⟩ := sn_ext p i d
  show ∃ r, sn p (i + d + 1) = _
  simp only [sn]
  split
  ·exact ⟨r ++ [rd p ((i + d : Nat) : Int)], by rw [hr, List.append_assoc]⟩
  ·exact ⟨r, hr⟩
theorem sn_now (p : List Int) (i : Nat) : ix (sn p (i + 1)) (rd p (i : Int)) = ot p i ∧ ot p i < (sn p (i + 1)).length := by
 unfold ot
 simp only [sn]
 by_cases hc : ix (sn p i) (rd p (i : Int)) = (sn p i).length
 ·rw [if_pos hc, ix_new _ _ hc, hc]
  exact ⟨rfl, by simp⟩
 ·rw [if_neg hc]
  exact ⟨rfl, by have := ix_le (sn p i) (rd p (i : Int)); omega⟩
theorem sn_later (p : List Int) (i d : Nat) : ix (sn p (i + 1 + d)) (rd p (i : Int)) = ot p i ∧ ot p i < (sn p (i + 1 + d)).length := by
 obtain ⟨r, hr⟩ := sn_ext p (i + 1) d
 obtain ⟨h1, h2⟩ := sn_now p i
 rw [hr, ix_app _ _ _ (by omega), h1]
 exact ⟨rfl, by rw [List.length_append]; omega⟩
theorem ot_le (p : List Int) (i : Nat) : ot p i ≤ (sn p i).length := ix_le _ _
theorem sn_len (p : List Int) (i : Nat) : (sn p (i + 1)).length = if ot p i = (sn p i).length then (sn p i).length + 1 else (sn p i).length := by
 show (if ix (sn p i) (rd p (i : Int)) = (sn p i).length then sn p i ++ [rd p (i : Int)] else sn p i).length = _
 unfold ot
 split
 ·simp
 ·rfl
theorem sn_le (p : List Int) : ∀ i, (sn p i).length ≤ i
 | 0 => Nat.le_refl _
 | i + 1 => by
  have := sn_le p i
  rw [sn_len]
  split <;> omega
theorem ot_same (p : List Int) (i j : Nat) : ot p i = ot p j ↔ rd p (i : Int) = rd p (j : Int) := by
 have key : ∀ (i d : Nat), rd p (i : Int) = rd p ((i + 1 + d : Nat) : Int) → ot p (i + 1 + d) = ot p i := fun i d h => by
  have := (sn_later p i d).1
  rw [h] at this
  exact this
 have hat : ∀ i M, i < M → (sn p M)[ot p i]? = some (rd p (i : Int)) := fun i M h => by
  obtain ⟨d, rfl⟩ : ∃ d, M = i + 1 + d := ⟨M - (i + 1), by omega⟩
  obtain ⟨h1, h2⟩ := sn_later p i d
  have := ix_at (l := sn p (i + 1 + d)) (n := rd p (i : Int)) (by omega)
  rwa [h1] at this
 constructor
 ·intro h
  have h1 := hat i (i + j + 1) (by omega)
  have h2 := hat j (i + j + 1) (by omega)
  rw [h, h2] at h1
  exact (Option.some.inj h1).symm
 ·intro h
  rcases Nat.lt_trichotomy i j with hl | hl | hl
  ·obtain ⟨d, rfl⟩ : ∃ d, j = i + 1 + d := ⟨j - (i + 1), by omega⟩
   exact (key i d h).symm
  ·rw [hl]
  ·obtain ⟨d, rfl⟩ : ∃ d, i = j + 1 + d := ⟨i - (j + 1), by omega⟩
   exact key j d h.symm
end Go.Proofs.YtgdhbkoggfaioaaGreatDoor.Bg
end
section
namespace Go.Proofs.YtgdhbkoggfaioaaGreatDoor.Pz
open Go.RowKit Go.Proofs.YtgdhbkoggfaioaaGreatDoor.G Go.Proofs.YtgdhbkoggfaioaaGreatDoorW.PrintWords Go.Proofs.YtgdhbkoggfaioaaGreatDoorW.PrintLast Go.Proofs.YtgdhbkoggfaioaaGreatDoorW.PrintMore
def Gv {α : Type} (g : Nat → Option α) (P : α → Prop) : Prop := ∃ r, Ev g r ∧ P r
theorem Gv.some {α : Type} {r : α} {P : α → Prop} (h : P r) : Gv (fun _ => Option.some r) P := ⟨r, Ev.now r, h⟩
theorem Gv.bind {α β : Type} {g : Nat → Option α} {f : Nat → α → Option β} {P : α → Prop} {Q : β → Prop} (h : Gv g P) (k : ∀ r, P r → Gv (fun n => f n r) Q) : Gv (fun n => (g n).bind (f n)) Q := by
 obtain ⟨r, hr, hp⟩ := h
 obtain ⟨q, hq, hq'⟩ := k r hp
 exact ⟨q, hr.bind hq, hq'⟩
theorem Gv.imp {α : Type} {g : Nat → Option α} {P Q : α → Prop} (h : Gv g P) (k : ∀ r, P r → Q r) : Gv g Q := by
 obtain ⟨r, hr, hp⟩ := h
 exact ⟨r, hr, k r hp⟩
theorem Gv.step {α : Type} {g f : Nat → Option α} {P : α → Prop} (h : ∀ k, g (k + 1) = f k) (k : Gv f P) : Gv g P := by
 obtain ⟨r, hr, hp⟩ := k
 exact ⟨r, hr.step h, hp⟩
theorem Gv.ev {α : Type} {g : Nat → Option α} {r : α} (h : Ev g r) {P : α → Prop} (hp : P r) : Gv g P := ⟨r, h, hp⟩
theorem Gv.out {α : Type} {o : Option α} {P : α → Prop} (h : Gv (fun _ => o) P) : ∃ r, o = Option.some r ∧ P r := by
 obtain ⟨r, ⟨K, hK⟩, hp⟩ := h
 exact ⟨r, hK K (Nat.le_refl K), hp⟩
def byt (l : List Int) : Prop := ∀ x ∈ l, 0 ≤ x ∧ x ≤ 255
theorem byt_of {l : List Int} (h : ∀ x ∈ l, (Lit.int .u8 x).wf = true) : byt l := by
 intro x hx
 have := h x hx
 have e0 : IntKind.u8.min = 0 := rfl
 have e1 : IntKind.u8.max = 255 := rfl
 simp [Lit.wf, e0, e1] at this
 omega
theorem emod_self_le {a n : Int} (ha : 0 ≤ a) (hn : 0 < n) : a % n ≤ a := by
 have h := Int.mul_ediv_add_emod a n
 have := Int.mul_nonneg (Int.le_of_lt hn) (Int.ediv_nonneg ha (Int.le_of_lt hn))
 omega
theorem byt_rd {l : List Int} (h : byt l) (i : Int) : 0 ≤ rd l i ∧ rd l i ≤ 255 := by
 unfold rd
 rw [List.getD_eq_getElem?_getD]
 cases hx : l[i.toNat]? with
 | none => simp
 | some x =>
  obtain ⟨hl, rfl⟩ := List.getElem?_eq_some_iff.1 hx
  exact h _ (List.getElem_mem hl)
def at_ (N i : Int) : Prop := 0 ≤ i ∧ i ≤ N
theorem wr_in {x : Int} (h0 : 0 ≤ x) (h1 : x ≤ 9223372036854775807) : wrap64 x = x := by unfold wrap64; omega
theorem low8 (s : Int) : 0 ≤ wrap64 (Go.bits .and .u64 ((IntKind.u64.wrap s) / 1099511627776) 255) ∧ wrap64 (Go.bits .and .u64 ((IntKind.u64.wrap s) / 1099511627776) 255) ≤ 255 := by
 rw [IntKind.wrap_u64]
 have e := bits_and_u64_nat ((s % 18446744073709551616) / 1099511627776).toNat 255 (by omega) (by omega)
 have e2 : ((((s % 18446744073709551616) / 1099511627776).toNat : Nat) : Int) = (s % 18446744073709551616) / 1099511627776 := by omega
 rw [e2] at e
 have hle : ((s % 18446744073709551616) / 1099511627776).toNat &&& 255 ≤ 255 := Nat.and_le_right
 have e3 : Go.bits .and .u64 ((s % 18446744073709551616) / 1099511627776) 255 = ((((s % 18446744073709551616) / 1099511627776).toNat &&& 255 : Nat) : Int) := e
 rw [e3, wr_in (by omega) (by omega)]
 omega
theorem next_gv {l : List Int} (hb : byt l) {N i : Int} (s : Int) (hN : N ≤ 2000000000) (hi : at_ N i) : Gv (fun _ => spec_l1Cur_next.f l i s) (fun r => 0 ≤ r.1 ∧ r.1 ≤ 255 ∧ at_ (N + 1) r.2.1) := by
 obtain ⟨h0, h1⟩ := hi
 have hw : wrap64 (i + 1) = i + 1 := wr_in (by omega) (by omega)
 have ha : at_ (N + 1) (i + 1) := ⟨by omega, by omega⟩
 obtain ⟨b0, b1⟩ := byt_rd hb i
 unfold spec_l1Cur_next.f
 rw [hw, if_pos h0]
 split
 ·split
  ·exact Gv.some ⟨by rw [wr_in (by omega) (by omega)]; exact b0, by rw [wr_in (by omega) (by omega)]; exact b1, ha⟩
  ·exact Gv.some ⟨(low8 _).1, (low8 _).2, ha⟩
 ·split
  ·exact Gv.some ⟨by show (0 : Int) ≤ 0; omega, by show (0 : Int) ≤ 255; omega, ha⟩
  ·exact Gv.some ⟨(low8 _).1, (low8 _).2, ha⟩
theorem pick_gv {l : List Int} (hb : byt l) {N i : Int} (s n : Int) (hN : N ≤ 1000000000) (hi : at_ N i) : Gv (fun _ => spec_l1Cur_pick.f l i s n) (fun r => 0 ≤ r.1 ∧ r.1 ≤ 65535 ∧ (1 ≤ n → r.1 < n) ∧ at_ (N + 2) r.2.1) := by
 unfold spec_l1Cur_pick.f
 split
 ·obtain ⟨h0, h1⟩ := hi
  exact Gv.some ⟨by show (0 : Int) ≤ 0; omega, by show (0 : Int) ≤ 65535; omega, fun h => by show (0 : Int) < n; omega, h0, by show i ≤ N + 2; omega⟩
 ·rename_i hn
  refine Gv.bind (next_gv hb s (by omega) hi) ?_
  rintro ⟨v, i1, s1⟩ ⟨v0, v1, h1⟩
  dsimp only at v0 v1 h1 ⊢
  split
  ·refine Gv.bind (next_gv (N := N + 1) hb s1 (by omega) h1) ?_
   rintro ⟨v', i2, s2⟩ ⟨u0, u1, h2⟩
   dsimp only at u0 u1 h2 ⊢
   rw [if_neg (show ¬ n = 0 by omega), wr_in (x := v * 256) (by omega) (by omega), wr_in (by omega) (by omega), Int.tmod_eq_emod_of_nonneg (by omega)]
   have m1 := Int.emod_nonneg (v * 256 + v') (show n ≠ 0 by omega)
   have m2 := Int.emod_lt_of_pos (v * 256 + v') (show 0 < n by omega)
   have m3 := emod_self_le (a := v * 256 + v') (n := n) (by omega) (by omega)
   obtain ⟨k0, k1⟩ := h2
   exact Gv.some ⟨m1, by dsimp only; omega, fun _ => m2, k0, by dsimp only; omega⟩
  ·rw [if_neg (show ¬ n = 0 by omega), Int.tmod_eq_emod_of_nonneg v0]
   have m1 := Int.emod_nonneg v (show n ≠ 0 by omega)
   have m2 := Int.emod_lt_of_pos v (show 0 < n by omega)
   have m3 := emod_self_le (a := v) (n := n) (by omega) (by omega)
   obtain ⟨k0, k1⟩ := h1
   exact Gv.some ⟨m1, by dsimp only; omega, fun _ => m2, k0, by dsimp only; omega⟩
theorem one_gv {l : List Int} (hb : byt l) {N i : Int} (s n : Int) (hN : N ≤ 1000000000) (hi : at_ N i) : Gv (fun _ => spec_l1Cur_one.f l i s n) (fun r => at_ (N + 2) r.2.1) := by
 unfold spec_l1Cur_one.f
 refine Gv.bind (pick_gv hb s n hN hi) ?_
 rintro ⟨v, i1, s1⟩ ⟨_, _, _, h⟩
 exact Gv.some h
theorem among_gv {l : List Int} (hb : byt l) {N i : Int} (s : Int) (m : List Int) (hN : N ≤ 1000000000) (hi : at_ N i) (hm : 0 < m.length) : Gv (fun _ => spec_l1Cur_among.f l i s m) (fun r => r.1 ∈ m ∧ at_ (N + 2) r.2.1) := by
 unfold spec_l1Cur_among.f
 refine Gv.bind (pick_gv hb s _ hN hi) ?_
 rintro ⟨v, i1, s1⟩ ⟨v0, _, v2, h⟩
 dsimp only at v0 v2 h ⊢
 have v3 := v2 (by omega)
 rw [if_pos v0, if_pos v3]
 refine Gv.some ⟨?_, h⟩
 dsimp only
 unfold rd
 rw [List.getD_eq_getElem?_getD, List.getElem?_eq_getElem (by omega)]
 exact List.getElem_mem (by omega)
end Go.Proofs.YtgdhbkoggfaioaaGreatDoor.Pz
end
section
set_option linter.unusedSimpArgs false
namespace Go.Proofs.YtgdhbkoggfaioaaGreatDoor.Tx
open Go.RowKit Go.Proofs.YtgdhbkoggfaioaaGreatDoor.G Go.Proofs.YtgdhbkoggfaioaaGreatDoorW.PrintWords Go.Proofs.YtgdhbkoggfaioaaGreatDoorW.PrintLast Go.Proofs.YtgdhbkoggfaioaaGreatDoorW.PrintMore
theorem w64 {x : Int} (h0 : -9223372036854775808 ≤ x) (h1 : x ≤ 9223372036854775807) : wrap64 x = x := by unfold wrap64; omega
def bs (l : List UInt8) : ByteArray := ⟨l.toArray⟩
theorem bs_size (l : List UInt8) : (bs l).size = l.length := by simp [bs, ByteArray.size]
theorem bs_append (a b : List UInt8) : bs a ++ bs b = bs (a ++ b) := by
 apply ByteArray.ext
 simp [bs]
theorem bs_list (l : List UInt8) : (bs l).data.toList = l := by simp [bs]
def dg (n : Nat) : List UInt8 := Lib.decDigits n
theorem dg_small {n : Nat} (h : n < 10) : dg n = [UInt8.ofNat (48 + n)] := by
 unfold dg
 rw [Lib.decDigits, dif_pos h]
theorem dg_big {n : Nat} (h : ¬ n < 10) : dg n = dg (n / 10) ++ [UInt8.ofNat (48 + n % 10)] := by
 unfold dg
 rw [Lib.decDigits, dif_neg h]
theorem dg_len (n : Nat) : (dg n).length ≤ n + 1 := by
 induction n using Nat.strongRecOn with
 | _ n ih =>
  by_cases h : n < 10
  ·rw [dg_small h]
   simp
  ·rw [dg_big h, List.length_append]
   have := ih (n / 10) (by omega)
   simp
   omega
theorem str_one (x : Nat) (_ : x < 256) : strOfNums [(x : Int)] = bs [UInt8.ofNat x] := by
 simp [strOfNums, bs]
theorem l1Num_val (n : Nat) : ∀ (k : Nat), n < 1000000000 → n < k → spec_l1Num.f k (n : Int) = some (bs (dg n)) := by
 induction n using Nat.strongRecOn with
 | _ n ih =>
  intro k hn hk
  obtain ⟨k, rfl⟩ : ∃ m, k = m + 1 := ⟨k - 1, by omega⟩
  simp only [spec_l1Num.f]
  by_cases h : n < 10
  ·rw [if_pos (by omega), w64 (by omega) (by omega), dg_small h]
   rw [show (48 + (n : Int)) % 256 = ((48 + n : Nat) : Int) by omega, str_one _ (by omega)]
  ·rw [if_neg (by omega), dg_big h]
   have e1 : Int.tdiv (n : Int) 10 = ((n / 10 : Nat) : Int) := by rw [Int.tdiv_eq_ediv_of_nonneg (by omega)]; omega
   have e2 : Int.tmod (n : Int) 10 = ((n % 10 : Nat) : Int) := by rw [Int.tmod_eq_emod_of_nonneg (by omega)]; omega
   have hd := dg_len (n / 10)
   rw [e1, w64 (by omega) (by omega), ih (n / 10) (by omega) k (by omega) (by omega), Option.bind_some, e2, w64 (by omega) (by omega), show (48 + ((n % 10 : Nat) : Int)) % 256 = ((48 + n % 10 : Nat) : Int) by omega, Option.bind_some, str_one _ (by omega), if_pos (by rw [bs_size, bs_size]; simp; omega), bs_append]
theorem itoa_val (n : Nat) (hn : n < 1000000000) : strconv_Itoa.f (n : Int) = some (bs (dg n)) := by
 unfold strconv_Itoa.f
 rw [if_pos (by omega), if_pos (by omega)]
 have : Lib.itoa (n : Int) = dg n := by
  unfold Lib.itoa dg
  rw [if_neg (by omega)]
  rfl
 rw [this]
 rfl
theorem join_snoc (xs : List (List UInt8)) (y sep : List UInt8) (h : xs ≠ []) : Lib.join (xs ++ [y]) sep = Lib.join xs sep ++ sep ++ y := by
 cases xs with
 | nil => exact absurd rfl h
 | cons x r =>
  rw [List.cons_append, Lib.join_cons, Lib.join_cons]
  simp [Lib.joinTail]
theorem lens_le (xs : List (List UInt8)) (m : Nat) (h : ∀ x ∈ xs, x.length ≤ m) : Lib.lens xs ≤ m * xs.length := by
 induction xs with
 | nil => simp [Lib.lens]
 | cons x r ih =>
  have h1 := h x (List.mem_cons_self)
  have h2 := ih (fun y hy => h y (List.mem_cons_of_mem _ hy))
  have e : Lib.lens (x :: r) = x.length + Lib.lens r := by simp [Lib.lens]
  rw [e, List.length_cons, Nat.mul_succ]
  omega
theorem join_len (xs : List (List UInt8)) (sep : List UInt8) (m : Nat) (h : ∀ x ∈ xs, x.length ≤ m) : (Lib.join xs sep).length ≤ (sep.length + m) * xs.length := by
 cases xs with
 | nil => simp [Lib.join_nil]
 | cons x r =>
  rw [Lib.join_length]
  have := lens_le (x :: r) m h
  rw [Nat.add_mul]
  have h2 : sep.length * r.length ≤ sep.length * (x :: r).length := Nat.mul_le_mul_left _ (by simp)
  omega
theorem join_val (xs : List (List UInt8)) (sep : List UInt8) (h1 : (Lib.join xs sep).length ≤ 140737488355328) (h2 : xs.length ≤ 140737488355328) : strings_Join.f (xs.map bs) (bs sep) = some (bs (Lib.join xs sep)) := by
 unfold strings_Join.f
 have e : (xs.map bs).map (fun x : ByteArray => x.data.toList) = xs := by
  rw [List.map_map]
  exact (List.map_congr_left (fun x _ => bs_list x)).trans (List.map_id xs)
 rw [e, bs_list, if_pos h1, if_pos (by simpa using h2)]
 rfl
theorem joinNumbers_l0 (l : List Nat) (sep : List UInt8) (hl : l.length ≤ 1000) (hn : ∀ x ∈ l, x < 1000000) (hs : sep.length ≤ 1000) : ∀ (d i k : Nat), i + d = l.length → d < k →
  impl_joinNumbers.l0 k (bs sep) ((l.take i).map (fun n => bs (dg n)) ++ List.replicate d (bs [])) (l.map fun n : Nat => (n : Int)) (l.length : Int) (i : Int) = some (bs (Lib.join (l.map dg) sep)) := by
 intro d
 induction d with
 | zero =>
  intro i k hi hk
  obtain ⟨k, rfl⟩ : ∃ m, k = m + 1 := ⟨k - 1, by omega⟩
  simp only [impl_joinNumbers.l0]
  have hj := join_len (l.map dg) sep 1000001 (fun x hx => by
   obtain ⟨n, hnl, rfl⟩ := List.mem_map.1 hx
   have := dg_len n
   have := hn n hnl
   omega)
  have hb : (sep.length + 1000001) * (l.map dg).length ≤ 2001001 * 1000 := Nat.mul_le_mul (by omega) (by simpa using hl)
  have hv := join_val (l.map dg) sep (by omega) (by simp; omega)
  rw [List.map_map] at hv
  rw [if_neg (by omega), List.take_of_length_le (by omega), List.replicate_zero, List.append_nil]
  rw [show (fun n => bs (dg n)) = bs ∘ dg from rfl, hv, Option.bind_some]
 | succ d ih =>
  intro i k hi hk
  obtain ⟨k, rfl⟩ : ∃ m, k = m + 1 := ⟨k - 1, by omega⟩
  simp only [impl_joinNumbers.l0]
  have hx : l[i]? = some l[i] := List.getElem?_eq_getElem (by omega)
  have hrd : rd (l.map fun n : Nat => (n : Int)) (i : Int) = ((l[i] : Nat) : Int) := by simp [rd, List.getD, hx]
  have hsm := hn l[i] (List.getElem_mem (by omega))
  rw [if_pos (by omega), if_pos (by omega), if_pos (by simp; omega), hrd, itoa_val _ (by omega), Option.bind_some, if_pos (by simp; omega), w64 (by omega) (by omega), show ((i : Int) + 1) = ((i + 1 : Nat) : Int) by omega, ← ih (i + 1) k (by omega) (by omega)]
  congr 1
  rw [Int.toNat_natCast, List.set_append_right _ _ (by simp; omega), List.take_succ_eq_append_getElem (by omega), List.map_append, List.append_assoc]
  congr 1
  rw [show i - ((List.take i l).map fun n => bs (dg n)).length = 0 by simp; omega]
  rfl
theorem joinNumbers_val (l : List Nat) (sep : List UInt8) (hl : l.length ≤ 1000) (hn : ∀ x ∈ l, x < 1000000) (hs : sep.length ≤ 1000) (k : Nat) (hk : l.length < k) :
  impl_joinNumbers.f k (l.map fun n : Nat => (n : Int)) (bs sep) = some (bs (Lib.join (l.map dg) sep)) := by
 unfold impl_joinNumbers.f
 rw [if_pos (by omega), if_pos (by simp; omega)]
 have := joinNumbers_l0 l sep hl hn hs l.length 0 k (by omega) hk
 simpa [bs] using this
end Go.Proofs.YtgdhbkoggfaioaaGreatDoor.Tx
end
section
set_option linter.unusedSimpArgs false
namespace Go.Proofs.YtgdhbkoggfaioaaGreatDoor.Tx
open Go.RowKit Go.Proofs.YtgdhbkoggfaioaaGreatDoor.G Go.Proofs.YtgdhbkoggfaioaaGreatDoorW.PrintWords Go.Proofs.YtgdhbkoggfaioaaGreatDoorW.PrintLast Go.Proofs.YtgdhbkoggfaioaaGreatDoorW.PrintMore
def ap (a : List UInt8) : List (List UInt8) → List (List UInt8)
 | [] => [a]
 | h :: t => (a ++ h) :: t
def sp (c : UInt8) : List UInt8 → List (List UInt8)
 | [] => [[]]
 | b :: r => if b = c then [] :: sp c r else ap [b] (sp c r)
theorem ap_ap (a b : List UInt8) (l : List (List UInt8)) : ap a (ap b l) = ap (a ++ b) l := by
 cases l <;> simp [ap]
theorem ap_nil {l : List (List UInt8)} (h : l ≠ []) : ap [] l = l := by
 cases l with
 | nil => exact absurd rfl h
 | cons x t => rfl
theorem sp_ne (c : UInt8) (l : List UInt8) : sp c l ≠ [] := by
 cases l with
 | nil => simp [sp]
 | cons b r =>
  unfold sp
  split
  ·simp
  ·cases sp c r <;> simp [ap]
theorem splitK_sp (c : UInt8) (l : List UInt8) : Lib.splitK [c] 0 (Lib.count l [c]) l = sp c l := by
 induction l with
 | nil => rfl
 | cons b r ih =>
  by_cases hb : b = c
  ·subst hb
   rw [Lib.count_cons_eq, Nat.add_comm]
   have hi : Lib.index (b :: r) [b] = 0 := by simp [Lib.index]
   unfold Lib.splitK
   rw [hi]
   simp [sp, ← ih]
  ·rw [Lib.count_cons_ne b c r hb]
   have hi : Lib.index (b :: r) [c] = if Lib.index r [c] == -1 then -1 else Lib.index r [c] + 1 := by
    have : ([c].isPrefixOf (b :: r)) = false := by simp [List.isPrefixOf, Ne.symm hb]
    rw [Lib.index, this]
    rfl
   have hs : sp c (b :: r) = ap [b] (sp c r) := by rw [sp, if_neg hb]
   rw [hs, ← ih]
   cases hk : Lib.count r [c] with
   | zero => rfl
   | succ k =>
    unfold Lib.splitK
    rw [hi]
    by_cases h1 : Lib.index r [c] = -1
    ·simp [h1, ap]
    ·have h2 : (Lib.index r [c] == -1) = false := beq_eq_false_iff_ne.mpr h1
     have h0 := Lib.index_ge r [c]
     have h3 : (Lib.index r [c] + 1 == -1) = false := beq_eq_false_iff_ne.mpr (by omega)
     have h4 : (Lib.index r [c] + 1).toNat = (Lib.index r [c]).toNat + 1 := by omega
     simp only [h2, h3, h4, if_false, Bool.false_eq_true, ap, List.length_cons, List.length_nil, Nat.add_zero]
     rw [show (Lib.index r [c]).toNat + 1 + (0 + 1) = ((Lib.index r [c]).toNat + (0 + 1)) + 1 by omega, List.drop_succ_cons, List.take_succ_cons]
     rfl
theorem bs_data (s : ByteArray) : s = bs s.data.toList := by
 apply ByteArray.ext
 simp [bs]
theorem split_val (l : List UInt8) (c : UInt8) (h : l.length < 4294967281) : strings_Split.f (bs l) (bs [c]) = some ((sp c l).map bs) := by
 unfold strings_Split.f
 have e1 : (bs [c]).size = 1 := by rw [bs_size]; rfl
 rw [if_pos e1, if_pos (by rw [bs_size]; exact h)]
 congr 1
 have hd := Lib.splitB_data (bs [c]) 0 (Lib.countB (bs l) (bs [c])) (bs l)
 rw [bs_list, bs_list] at hd
 have hc : Lib.countB (bs l) (bs [c]) = Lib.count l [c] := by unfold Lib.countB; rw [bs_list, bs_list]
 rw [hc] at hd ⊢
 rw [splitK_sp] at hd
 rw [← hd, List.map_map]
 exact ((List.map_congr_left (fun x _ => (bs_data x).symm)).trans (List.map_id _)).symm
theorem bt_bs (l : List UInt8) (i : Nat) (h : i < l.length) : bt (bs l) (i : Int) = ((l[i]).toNat : Int) := by
 have hs : i < (bs l).size := by rw [bs_size]; exact h
 unfold bt
 rw [dif_pos (by simpa using hs)]
 simp [bs, ByteArray.getElem_eq_getElem_data]
theorem extract_bs (l : List UInt8) (a b : Nat) : (bs l).extract a b = bs ((l.take b).drop a) := by
 apply ByteArray.ext
 simp only [bs, ByteArray.data_extract]
 apply Array.ext'
 simp [List.drop_take]
theorem sp_no (c : UInt8) (l : List UInt8) (h : c ∉ l) (r : List UInt8) : sp c (l ++ r) = ap l (sp c r) := by
 induction l with
 | nil => rw [List.nil_append, ap_nil (sp_ne c r)]
 | cons b l ih =>
  have hb : b ≠ c := fun e => h (by rw [e]; exact List.mem_cons_self)
  rw [List.cons_append, sp, if_neg hb, ih (fun e => h (List.mem_cons_of_mem _ e)), ap_ap]
  rfl
theorem l1Split_l0 (l : List UInt8) (c : UInt8) (hl : l.length ≤ 2000000) : ∀ (d i k j : Nat) (done : List (List UInt8)), i + d = l.length → d < k → j ≤ i → done.length ≤ i →
  spec_l1Split.l0 k (bs l) ((c.toNat : Nat) : Int) (done.map bs) (j : Int) (i : Int) = some ((done ++ ap ((l.take i).drop j) (sp c (l.drop i))).map bs) := by
 intro d
 induction d with
 | zero =>
  intro i k j done hi hk hj hd
  obtain ⟨k, rfl⟩ : ∃ m, k = m + 1 := ⟨k - 1, by omega⟩
  simp only [spec_l1Split.l0]
  rw [if_neg (by rw [bs_size]; omega), if_pos (by omega), if_pos (by rw [bs_size]; omega), if_pos (by simp; omega)]
  rw [bs_size, Int.toNat_natCast, extract_bs, List.drop_of_length_le (by omega : l.length ≤ i), List.take_of_length_le (by omega : l.length ≤ i), List.take_length]
  simp [sp, ap]
 | succ d ih =>
  intro i k j done hi hk hj hd
  obtain ⟨k, rfl⟩ : ∃ m, k = m + 1 := ⟨k - 1, by omega⟩
  simp only [spec_l1Split.l0]
  have hil : i < l.length := by omega
  rw [if_pos (by rw [bs_size]; omega), if_pos (by omega), bt_bs l i hil, w64 (by omega) (by omega), show ((i : Int) + 1) = ((i + 1 : Nat) : Int) by omega]
  have hdr : l.drop i = l[i] :: l.drop (i + 1) := List.drop_eq_getElem_cons hil
  by_cases hc : l[i] = c
  ·rw [if_pos (by rw [hc]), if_pos (by omega), if_pos (by omega), if_pos (by rw [bs_size]; omega), if_pos (by simp; omega)]
   rw [Int.toNat_natCast, Int.toNat_natCast, extract_bs]
   have := ih (i + 1) k (i + 1) (done ++ [(l.take i).drop j]) (by omega) (by omega) (by omega) (by simp; omega)
   rw [List.map_append, List.map_cons, List.map_nil] at this
   rw [this, hdr, sp, if_pos hc]
   congr 2
   have e : (l.take (i + 1)).drop (i + 1) = [] := List.drop_of_length_le (by simp; omega)
   rw [e, ap_nil (sp_ne c _)]
   simp [ap]
  ·rw [if_neg (by intro e; exact hc (UInt8.toNat_inj.1 (by omega)))]
   rw [ih (i + 1) k j done (by omega) (by omega) (by omega) (by omega), hdr, sp, if_neg hc, ap_ap]
   congr 4
   rw [List.take_succ_eq_append_getElem hil, List.drop_append_of_le_length (by simp; omega)]
theorem l1Split_ev (l : List UInt8) (c : UInt8) (hl : l.length ≤ 2000000) (k : Nat) (hk : l.length < k) : spec_l1Split.f k (bs l) ((c.toNat : Nat) : Int) = some ((sp c l).map bs) := by
 unfold spec_l1Split.f
 have := l1Split_l0 l c hl l.length 0 k 0 [] (by omega) hk (by omega) (by simp)
 simp only [List.map_nil, List.take_zero, List.drop_nil, List.nil_append, List.drop_zero] at this
 rw [ap_nil (sp_ne c l)] at this
 exact this
theorem sp_len (c : UInt8) (l : List UInt8) : (sp c l).length ≤ l.length + 1 := by
 induction l with
 | nil => simp [sp]
 | cons b r ih =>
  unfold sp
  split
  ·simp; omega
  ·cases h : sp c r with
   | nil => simp [ap]
   | cons x t => rw [h] at ih; simp [ap] at *; omega
theorem sp_mem_len (c : UInt8) (l : List UInt8) : ∀ x ∈ sp c l, x.length ≤ l.length := by
 induction l with
 | nil => simp [sp]
 | cons b r ih =>
  unfold sp
  split
  ·intro x hx
   simp at hx
   rcases hx with rfl | hx
   ·simp
   ·have := ih x hx; simp; omega
  ·cases h : sp c r with
   | nil => intro x hx; simp [ap] at hx; subst hx; simp
   | cons y t =>
    rw [h] at ih
    intro x hx
    simp [ap] at hx
    rcases hx with rfl | hx
    ·have := ih y (by simp); simp; omega
    ·have := ih x (by simp [hx]); simp; omega
theorem join_sp (c : UInt8) (l : List UInt8) : Lib.join (sp c l) [c] = l := by
 induction l with
 | nil => rfl
 | cons b r ih =>
  unfold sp
  split
  ·next h =>
   subst h
   have hr := ih
   cases h : sp b r with
   | nil => exact absurd h (sp_ne b r)
   | cons x t =>
    rw [h] at hr
    rw [Lib.join_cons] at hr ⊢
    simp [Lib.joinTail] at hr ⊢
    exact hr
  ·have hr := ih
   cases h : sp c r with
   | nil => exact absurd h (sp_ne c r)
   | cons x t =>
    rw [h] at hr
    rw [Lib.join_cons] at hr
    simp only [ap]
    rw [Lib.join_cons, List.append_assoc, hr]
    rfl
theorem sp_join (c : UInt8) (xs : List (List UInt8)) (hne : xs ≠ []) (h : ∀ x ∈ xs, c ∉ x) : sp c (Lib.join xs [c]) = xs := by
 induction xs with
 | nil => exact absurd rfl hne
 | cons x r ih =>
  have hx := h x List.mem_cons_self
  cases r with
  | nil =>
   rw [Lib.join_one]
   have := sp_no c x hx []
   rw [List.append_nil] at this
   rw [this]
   simp [sp, ap]
  | cons y t =>
   have ht := ih (by simp) (fun z hz => h z (List.mem_cons_of_mem _ hz))
   have e : Lib.join (x :: y :: t) [c] = x ++ c :: Lib.join (y :: t) [c] := by
    rw [Lib.join_cons, Lib.join_cons]
    simp [Lib.joinTail]
   rw [e, sp_no c x hx, sp, if_pos rfl, ht]
   simp [ap]
theorem dg_digit (n : Nat) : ∀ b ∈ dg n, 48 ≤ b.toNat ∧ b.toNat ≤ 57 := by
 induction n using Nat.strongRecOn with
 | _ n ih =>
  by_cases h : n < 10
  ·rw [dg_small h]
   intro b hb
   obtain rfl := List.mem_singleton.1 hb
   have : (UInt8.ofNat (48 + n)).toNat = 48 + n := by simp; omega
   omega
  ·rw [dg_big h]
   intro b hb
   rcases List.mem_append.1 hb with hb | hb
   ·exact ih (n / 10) (by omega) b hb
   ·obtain rfl := List.mem_singleton.1 hb
    have : (UInt8.ofNat (48 + n % 10)).toNat = 48 + n % 10 := by simp; omega
    omega
theorem dg_no (c : UInt8) (hc : c.toNat < 48) (n : Nat) : c ∉ dg n := fun h => by
 have := dg_digit n c h
 omega
theorem dg_ne (n : Nat) : dg n ≠ [] := by
 by_cases h : n < 10
 ·rw [dg_small h]; simp
 ·rw [dg_big h]; simp
theorem dg_head (n : Nat) (hn : 1 ≤ n) : ∃ c r, dg n = c :: r ∧ 49 ≤ c.toNat := by
 induction n using Nat.strongRecOn with
 | _ n ih =>
  by_cases h : n < 10
  ·refine ⟨_, [], dg_small h, ?_⟩
   have : (UInt8.ofNat (48 + n)).toNat = 48 + n := by simp; omega
   omega
  ·obtain ⟨c, r, e, hc⟩ := ih (n / 10) (by omega) (by omega)
   exact ⟨c, r ++ [UInt8.ofNat (48 + n % 10)], by rw [dg_big h, e]; rfl, hc⟩
theorem dg_len_pow (k : Nat) : ∀ n, n < 10 ^ (k + 1) → (dg n).length ≤ k + 1 := by
 induction k with
 | zero => intro n hn; rw [dg_small (by simpa using hn)]; simp
 | succ k ih =>
  intro n hn
  by_cases h : n < 10
  ·rw [dg_small h]; simp
  ·rw [dg_big h, List.length_append]
   have := ih (n / 10) (by rw [Nat.pow_succ] at hn; omega)
   simp
   omega
theorem parse_app (xs : List UInt8) : ∀ (acc m : Nat), Lib.parseUint10 acc xs = .ok m → ∀ ys, Lib.parseUint10 acc (xs ++ ys) = Lib.parseUint10 m ys := by
 induction xs with
 | nil =>
  intro acc m h ys
  simp only [Lib.parseUint10] at h
  injection h with h
  rw [List.nil_append, h]
 | cons c r ih =>
  intro acc m h ys
  simp only [List.cons_append, Lib.parseUint10] at h ⊢
  split at h
  ·next h1 =>
   rw [if_pos h1]
   split at h
   ·cases h
   ·next h2 =>
    rw [if_neg h2]
    split at h
    ·cases h
    ·next h3 =>
     rw [if_neg h3]
     exact ih _ m h ys
  ·cases h
theorem parse_dg (n : Nat) (hn : n < 1000000000) : Lib.parseUint10 0 (dg n) = .ok n := by
 induction n using Nat.strongRecOn with
 | _ n ih =>
  by_cases h : n < 10
  ·rw [dg_small h]
   have e : (UInt8.ofNat (48 + n)).toNat = 48 + n := by simp; omega
   simp only [Lib.parseUint10]
   rw [e, if_pos (by omega), if_neg (by omega), if_neg (by omega)]
   congr 1
   omega
  ·rw [dg_big h, parse_app _ 0 (n / 10) (ih (n / 10) (by omega) (by omega))]
   have e : (UInt8.ofNat (48 + n % 10)).toNat = 48 + n % 10 := by simp; omega
   simp only [Lib.parseUint10]
   rw [e, if_pos (by omega), if_neg (by omega), if_neg (by omega)]
   congr 1
   omega
theorem atoi_dg (n : Nat) (hn : n < 1000000000) : Lib.atoiAll (dg n) = .ok (n : Int) := by
 have hp := parse_dg n hn
 cases hd : dg n with
 | nil => exact absurd hd (dg_ne n)
 | cons c r =>
  have hdig := dg_digit n c (by rw [hd]; exact List.mem_cons_self)
  rw [hd] at hp
  unfold Lib.atoiAll
  simp only
  rw [if_neg (by omega)]
  unfold Lib.parseMag
  rw [if_neg (by simp), hp]
  simp only
  rw [if_neg (by omega), if_neg (by omega), if_neg (by omega)]
theorem itoa_nat (n : Nat) : Lib.itoa (n : Int) = dg n := by
 unfold Lib.itoa dg
 rw [if_neg (by omega)]
 rfl
theorem rnum_dg (n : Nat) (hn : n < 1000000000) : rnum (dg n) = ((n : Int), true) := by
 unfold rnum
 rw [atoi_dg n hn]
 simp only
 rw [itoa_nat, if_pos rfl]
theorem rnum_ok {l : List UInt8} {v : Int} (h : rnum l = (v, true)) : Lib.itoa v = l := by
 unfold rnum at h
 split at h
 ·split at h
  ·next h1 => injection h with h2 _; rw [← h2]; exact h1
  ·cases h
 ·cases h
def rn (l : List UInt8) : Option Int := if (rnum l).2 = true then some (rnum l).1 else none
theorem rn_dg (n : Nat) (hn : n < 1000000000) : rn (dg n) = some (n : Int) := by
 unfold rn
 rw [rnum_dg n hn, if_pos rfl]
theorem rn_ok {l : List UInt8} {v : Int} (h : rn l = some v) : Lib.itoa v = l := by
 unfold rn at h
 split at h
 ·next h1 =>
  injection h with h
  exact rnum_ok (Prod.ext h h1)
 ·cases h
theorem readNumber_val (l : List UInt8) (h : l.length ≤ 2000000) : impl_readNumber.f (bs l) = some (rnum l) := by
 unfold impl_readNumber.f
 rw [if_pos (by rw [bs_size]; omega), bs_list]
def rl : List UInt8 → Int → Int
 | [], acc => acc
 | c :: r, acc => if (c.toNat : Int) < 48 then -1 else if (c.toNat : Int) > 57 then -1 else rl r (wrap64 ((wrap64 (10 * acc)) + ((((c.toNat : Int)) - 48) % 256)))
theorem l1Read_l0 (l : List UInt8) (hl : l.length ≤ 2000000) : ∀ (d i k : Nat) (acc : Int), i + d = l.length → d < k → spec_l1Read.l0 k (bs l) acc (i : Int) = some (rl (l.drop i) acc) := by
 intro d
 induction d with
 | zero =>
  intro i k acc hi hk
  obtain ⟨k, rfl⟩ : ∃ m, k = m + 1 := ⟨k - 1, by omega⟩
  simp only [spec_l1Read.l0]
  rw [if_neg (by rw [bs_size]; omega), List.drop_of_length_le (by omega : l.length ≤ i)]
  rfl
 | succ d ih =>
  intro i k acc hi hk
  obtain ⟨k, rfl⟩ : ∃ m, k = m + 1 := ⟨k - 1, by omega⟩
  simp only [spec_l1Read.l0]
  have hil : i < l.length := by omega
  rw [if_pos (by rw [bs_size]; omega), if_pos (by omega), bt_bs l i hil, List.drop_eq_getElem_cons hil, rl, w64 (x := (i : Int) + 1) (by omega) (by omega), show ((i : Int) + 1) = ((i + 1 : Nat) : Int) by omega]
  by_cases h1 : ((l[i].toNat : Nat) : Int) < 48
  ·rw [if_pos h1, if_pos h1]
  ·rw [if_neg h1, if_neg h1]
   by_cases h2 : ((l[i].toNat : Nat) : Int) > 57
   ·rw [if_pos h2, if_pos h2]
   ·rw [if_neg h2, if_neg h2]
    exact ih (i + 1) k _ (by omega) (by omega)
def rd6 (l : List UInt8) : Int := if l.length < 1 ∨ 6 < l.length then -1 else if l.head? = some 48 ∧ 1 < l.length then -1 else rl l 0
theorem l1Read_val (l : List UInt8) (hl : l.length ≤ 2000000) (k : Nat) (hk : l.length + 2 < k) : spec_l1Read.f k (bs l) = some (rd6 l) := by
 obtain ⟨k, rfl⟩ : ∃ m, k = m + 1 := ⟨k - 1, by omega⟩
 have hin : spec_l1In.f ((bs l).size : Int) 1 6 = some (decide (1 ≤ l.length) && decide (l.length ≤ 6)) := by
  unfold spec_l1In.f
  rw [bs_size]
  by_cases h : ((l.length : Int) ≥ 1)
  ·rw [if_pos h]
   have e1 : decide (1 ≤ l.length) = true := decide_eq_true (by omega)
   have e2 : decide ((l.length : Int) ≤ 6) = decide (l.length ≤ 6) := by rw [Bool.eq_iff_iff]; simp; omega
   rw [e1, e2]
   rfl
  ·rw [if_neg h]
   have e1 : decide (1 ≤ l.length) = false := decide_eq_false (by omega)
   rw [e1]
   rfl
 have hl0 := l1Read_l0 l hl l.length 0 k 0 (by omega) (by omega)
 rw [List.drop_zero] at hl0
 unfold spec_l1Read.f rd6
 rw [hin, Option.bind_some]
 by_cases hb : l.length < 1 ∨ 6 < l.length
 ·rw [if_pos hb]
  have : (decide (1 ≤ l.length) && decide (l.length ≤ 6)) = false := by
   rcases hb with h | h
   ·rw [decide_eq_false (by omega)]; rfl
   ·rw [decide_eq_false (by omega : ¬ l.length ≤ 6), Bool.and_false]
  rw [this, if_neg (by simp)]
  simp only [spec_l1Read.j0]
  rw [if_pos trivial]
 ·rw [if_neg hb]
  have : (decide (1 ≤ l.length) && decide (l.length ≤ 6)) = true := by
   rw [decide_eq_true (by omega : 1 ≤ l.length), decide_eq_true (by omega : l.length ≤ 6)]; rfl
  rw [this, if_pos rfl, if_pos (by rw [bs_size]; omega)]
  cases l with
  | nil => simp at hb
  | cons c r =>
   have hbt := bt_bs (c :: r) 0 (by simp)
   rw [show ((0 : Nat) : Int) = 0 from rfl] at hbt
   rw [hbt]
   simp only [List.getElem_cons_zero, List.head?_cons, Option.some.injEq]
   by_cases hc : c = 48
   ·subst hc
    rw [if_pos (by decide)]
    by_cases h2 : 1 < (48 :: r : List UInt8).length
    ·rw [if_pos ⟨rfl, h2⟩]
     simp only [spec_l1Read.j0]
     rw [if_pos (decide_eq_true (by rw [bs_size]; omega))]
    ·rw [if_neg (fun h => h2 h.2)]
     simp only [spec_l1Read.j0]
     rw [if_neg (by rw [decide_eq_false (by rw [bs_size]; omega)]; simp)]
     exact hl0
   ·rw [if_neg (by intro e; exact hc (UInt8.toNat_inj.1 (by have : (48 : UInt8).toNat = 48 := rfl; omega))), if_neg (fun h => hc h.1)]
    simp only [spec_l1Read.j0]
    rw [if_neg (by simp)]
    exact hl0
theorem rl_app (xs : List UInt8) : ∀ (acc : Int) (ys : List UInt8), (∀ b ∈ xs, 48 ≤ b.toNat ∧ b.toNat ≤ 57) → rl (xs ++ ys) acc = rl ys (rl xs acc) := by
 induction xs with
 | nil => intro acc ys _; rfl
 | cons c r ih =>
  intro acc ys h
  obtain ⟨h1, h2⟩ := h c List.mem_cons_self
  simp only [List.cons_append, rl]
  rw [if_neg (by omega), if_neg (by omega), if_neg (by omega), if_neg (by omega)]
  exact ih _ _ (fun b hb => h b (List.mem_cons_of_mem _ hb))
theorem rl_dg (n : Nat) (hn : n < 1000000000) : rl (dg n) 0 = (n : Int) := by
 induction n using Nat.strongRecOn with
 | _ n ih =>
  by_cases h : n < 10
  ·rw [dg_small h]
   have e : (UInt8.ofNat (48 + n)).toNat = 48 + n := by simp; omega
   simp only [rl]
   rw [e, if_neg (by omega), if_neg (by omega), show wrap64 (10 * (0 : Int)) = 0 by rw [Int.mul_zero]; exact w64 (by omega) (by omega), w64 (by omega) (by omega)]
   omega
  ·rw [dg_big h, rl_app _ _ _ (dg_digit _), ih (n / 10) (by omega) (by omega)]
   have e : (UInt8.ofNat (48 + n % 10)).toNat = 48 + n % 10 := by simp; omega
   simp only [rl]
   rw [e, if_neg (by omega), if_neg (by omega), w64 (x := 10 * ((n / 10 : Nat) : Int)) (by omega) (by omega), w64 (by omega) (by omega)]
   omega
theorem rd6_dg (n : Nat) (hn : n < 1000000) : rd6 (dg n) = (n : Int) := by
 have hl := dg_len_pow 5 n (by simpa using hn)
 have hne : (dg n).length ≠ 0 := fun e => dg_ne n (List.eq_nil_of_length_eq_zero e)
 unfold rd6
 rw [if_neg (by omega)]
 by_cases h1 : n < 10
 ·rw [if_neg (by rw [dg_small h1]; simp), rl_dg n (by omega)]
 ·obtain ⟨c, r, e, hc⟩ := dg_head n (by omega)
  rw [if_neg (by rw [e]; simp; intro e2; rw [e2] at hc; simp at hc), rl_dg n (by omega)]
end Go.Proofs.YtgdhbkoggfaioaaGreatDoor.Tx
end
section
set_option linter.unusedSimpArgs false
set_option linter.unusedVariables false
namespace Go.Proofs.YtgdhbkoggfaioaaGreatDoor.Tx
open Go.RowKit Go.Proofs.YtgdhbkoggfaioaaGreatDoor.G Go.Proofs.YtgdhbkoggfaioaaGreatDoorW.PrintWords Go.Proofs.YtgdhbkoggfaioaaGreatDoorW.PrintLast Go.Proofs.YtgdhbkoggfaioaaGreatDoorW.PrintMore
def rns : List (List UInt8) → Option (List Int)
 | [] => some []
 | x :: r => (rn x).bind fun v => (rns r).map (v :: ·)
theorem rns_len : ∀ (xs : List (List UInt8)) (ns : List Int), rns xs = some ns → ns.length = xs.length
 | [], ns, h => by
  injection h with h
  rw [← h]
  rfl
 | x :: r, ns, h => by
  simp only [rns] at h
  obtain ⟨v, _, h⟩ := Option.bind_eq_some_iff.1 h
  obtain ⟨m, hm, rfl⟩ := Option.map_eq_some_iff.1 h
  simp [rns_len r m hm]
theorem readNumbers_l0 (xs : List (List UInt8)) (hx : ∀ x ∈ xs, x.length ≤ 2000000) (hn : xs.length ≤ 2000002) : ∀ (d i k : Nat) (acc : List Int), i + d = xs.length → d < k → acc.length ≤ i →
  impl_readNumbers.l0 k acc (xs.map bs) (xs.length : Int) (i : Int) = some (match rns (xs.drop i) with | some ns => (acc ++ ns, true) | none => ([], false)) := by
 intro d
 induction d with
 | zero =>
  intro i k acc hi hk ha
  obtain ⟨k, rfl⟩ : ∃ m, k = m + 1 := ⟨k - 1, by omega⟩
  simp only [impl_readNumbers.l0]
  rw [if_neg (by omega), List.drop_of_length_le (by omega : xs.length ≤ i)]
  simp [rns]
 | succ d ih =>
  intro i k acc hi hk ha
  obtain ⟨k, rfl⟩ : ∃ m, k = m + 1 := ⟨k - 1, by omega⟩
  simp only [impl_readNumbers.l0]
  have hil : i < xs.length := by omega
  have hrd : rdOf ByteArray.empty (xs.map bs) (i : Int) = bs xs[i] := by simp [rdOf, List.getD, hil]
  rw [if_pos (by omega), if_pos (by omega), if_pos (by simp; omega), hrd, readNumber_val _ (hx _ (List.getElem_mem hil)), Option.bind_some, w64 (by omega) (by omega), show ((i : Int) + 1) = ((i + 1 : Nat) : Int) by omega, List.drop_eq_getElem_cons hil]
  by_cases h : (rnum xs[i]).2 = true
  ·rw [if_pos h, if_pos (by omega), ih (i + 1) k _ (by omega) (by omega) (by simp; omega)]
   have hr : rn xs[i] = some (rnum xs[i]).1 := by rw [rn, if_pos h]
   simp only [rns, hr, Option.bind_some]
   cases rns (xs.drop (i + 1)) <;> simp
  ·rw [if_neg h]
   have hr : rn xs[i] = none := by rw [rn, if_neg h]
   simp only [rns, hr, Option.bind_none]
theorem readNumbers_val (w : List UInt8) (c : UInt8) (hw : w.length ≤ 2000000) (k : Nat) (hk : w.length + 1 < k) :
  impl_readNumbers.f k (bs w) (bs [c]) = some (match rns (sp c w) with | some ns => (ns, true) | none => ([], false)) := by
 have hl := sp_len c w
 unfold impl_readNumbers.f
 rw [split_val w c (by omega), Option.bind_some, List.length_map]
 have := readNumbers_l0 (sp c w) (fun x hx => by have := sp_mem_len c w x hx; omega) (by omega) (sp c w).length 0 k [] (by omega) (by omega) (by simp)
 rw [List.drop_zero] at this
 rw [show (0 : Int) = ((0 : Nat) : Int) from rfl, this]
 cases rns (sp c w) <;> simp
theorem itoa_nn {v : Int} (h : 0 ≤ v) : Lib.itoa v = dg v.toNat := by
 have := itoa_nat v.toNat
 rw [Int.toNat_of_nonneg h] at this
 exact this
end Go.Proofs.YtgdhbkoggfaioaaGreatDoor.Tx
end
section
set_option linter.unusedSimpArgs false
namespace Go.Proofs.YtgdhbkoggfaioaaGreatDoor.Tx
open Go.RowKit Go.Proofs.YtgdhbkoggfaioaaGreatDoor.G Go.Proofs.YtgdhbkoggfaioaaGreatDoor.Bg Go.Proofs.YtgdhbkoggfaioaaGreatDoorW.PrintWords Go.Proofs.YtgdhbkoggfaioaaGreatDoorW.PrintLast Go.Proofs.YtgdhbkoggfaioaaGreatDoorW.PrintMore
def pc (p : S62) : List UInt8 := dg p.f0.toNat ++ [42] ++ dg p.f1.toNat
def okN (p : S62) : Prop := 1 ≤ p.f0 ∧ p.f0 ≤ 100 ∧ 1 ≤ p.f1 ∧ p.f1 ≤ 1000
theorem okP_n {l : List S62} (h : okP l = true) : ∀ p ∈ l, okN p := by
 intro p hp
 unfold okP at h
 simp only [Bool.and_eq_true, List.all_eq_true] at h
 have := h.2 p hp
 unfold parcOk at this
 simp only [Bool.and_eq_true, decide_eq_true_eq] at this
 exact ⟨by omega, by omega, by omega, by omega⟩
theorem pc_len {p : S62} (h : okN p) : (pc p).length ≤ 2003 := by
 obtain ⟨a, b, c, d⟩ := h
 have h1 := dg_len p.f0.toNat
 have h2 := dg_len p.f1.toNat
 unfold pc
 simp
 omega
theorem parts_len {l : List S62} (h : ∀ p ∈ l, okN p) (hl : l.length ≤ 8) : (Lib.join (l.map pc) [44]).length ≤ 16032 := by
 have := join_len (l.map pc) [44] 2003 (fun x hx => by
  obtain ⟨p, hp, rfl⟩ := List.mem_map.1 hx
  exact pc_len (h p hp))
 have h2 : ([44].length + 2003 : Nat) * (l.map pc).length ≤ 2004 * 8 := Nat.mul_le_mul (by simp) (by simpa using hl)
 omega
theorem specText_l0 (l : List S62) (h : ∀ p ∈ l, okN p) (hl : l.length ≤ 8) : ∀ (d i k : Nat), i + d = l.length → d + 2000 < k →
  spec_bgText.l0 k (bs (Lib.join ((l.take i).map pc) [44])) l (l.length : Int) (i : Int) = some (bs (Lib.join (l.map pc) [44])) := by
 intro d
 induction d with
 | zero =>
  intro i k hi hk
  obtain ⟨k, rfl⟩ : ∃ m, k = m + 1 := ⟨k - 1, by omega⟩
  simp only [spec_bgText.l0]
  rw [if_neg (by omega), List.take_of_length_le (by omega)]
 | succ d ih =>
  intro i k hi hk
  obtain ⟨k, rfl⟩ : ∃ m, k = m + 1 := ⟨k - 1, by omega⟩
  simp only [spec_bgText.l0]
  have hx : l[i]? = some l[i] := List.getElem?_eq_getElem (by omega)
  have hrd : rd_T62 l (i : Int) = l[i] := by simp [rd_T62, List.getD, hx]
  have hok := h l[i] (List.getElem_mem (by omega))
  obtain ⟨o1, o2, o3, o4⟩ := hok
  have v1 := l1Num_val l[i].f0.toNat k (by omega) (by omega)
  have v2 := l1Num_val l[i].f1.toNat k (by omega) (by omega)
  rw [Int.toNat_of_nonneg (by omega)] at v1 v2
  have n1 := dg_len l[i].f0.toNat
  have n2 := dg_len l[i].f1.toNat
  have hpre := parts_len (l := l.take i) (fun p hp => h p (List.mem_of_mem_take hp)) (by simp; omega)
  have hr := ih (i + 1) k (by omega) (by omega)
  have htk : (l.take (i + 1)).map pc = (l.take i).map pc ++ [pc l[i]] := by rw [List.take_succ_eq_append_getElem (by omega), List.map_append]; rfl
  have b42 : (⟨#[42]⟩ : ByteArray) = bs [42] := rfl
  have b44 : (⟨#[44]⟩ : ByteArray) = bs [44] := rfl
  rw [if_pos (by omega), if_pos (by omega), if_pos (by omega), hrd, v1, v2]
  simp only [Option.bind_some, b42, b44, bs_append, bs_size]
  rw [w64 (by omega) (by omega), show ((i : Int) + 1) = ((i + 1 : Nat) : Int) by omega]
  by_cases h0 : i = 0
  ·subst h0
   rw [if_neg (by simp)]
   rw [htk] at hr
   simp only [List.take_zero, List.map_nil, List.nil_append, Lib.join_nil, Lib.join_one] at hr ⊢
   rw [if_pos (by (try simp only [List.length_append, List.length_cons, List.length_nil]); omega), if_pos (by (try simp only [List.length_append, List.length_cons, List.length_nil]); omega), if_pos (by (try simp only [List.length_append, List.length_cons, List.length_nil]); omega)]
   exact hr
  ·rw [htk, join_snoc _ _ _ (by intro e; have := congrArg List.length e; rw [List.length_map, List.length_take, List.length_nil] at this; omega)] at hr
   rw [if_pos (by omega), if_pos (by (try simp only [List.length_append, List.length_cons, List.length_nil]); omega), if_pos (by (try simp only [List.length_append, List.length_cons, List.length_nil]); omega), if_pos (by (try simp only [List.length_append, List.length_cons, List.length_nil]); omega), if_pos (by (try simp only [List.length_append, List.length_cons, List.length_nil]); omega)]
   exact hr
end Go.Proofs.YtgdhbkoggfaioaaGreatDoor.Tx
end
section
set_option linter.unusedSimpArgs false
set_option linter.unusedVariables false
namespace Go.Proofs.YtgdhbkoggfaioaaGreatDoor.Tx
open Go.RowKit Go.Proofs.YtgdhbkoggfaioaaGreatDoor.G Go.Proofs.YtgdhbkoggfaioaaGreatDoor.Bg Go.Proofs.YtgdhbkoggfaioaaGreatDoorW.PrintWords Go.Proofs.YtgdhbkoggfaioaaGreatDoorW.PrintLast Go.Proofs.YtgdhbkoggfaioaaGreatDoorW.PrintMore
def pw (w : List UInt8) : Option S62 := match rns (sp 42 w) with
 | some [a, b] => some ⟨a, b⟩
 | _ => none
def pws : List (List UInt8) → Option (List S62)
 | [] => some []
 | x :: r => (pw x).bind fun v => (pws r).map (v :: ·)
def pres (o : Option (List S62)) (acc : List S62) : List S62 × Bool := match o with
 | some ps => if okP (acc ++ ps) = true then (acc ++ ps, true) else ([], false)
 | none => ([], false)
theorem implParse_l0 (xs : List (List UInt8)) (hx : ∀ x ∈ xs, x.length ≤ 2000000) (hn : xs.length ≤ 2000002) : ∀ (d i k : Nat) (acc : List S62), i + d = xs.length → d + 2000002 < k → acc.length ≤ i →
  impl_ParseParcels.l0 k acc (xs.map bs) (xs.length : Int) (i : Int) = some (pres (pws (xs.drop i)) acc) := by
 intro d
 induction d with
 | zero =>
  intro i k acc hi hk ha
  obtain ⟨k, rfl⟩ : ∃ m, k = m + 1 := ⟨k - 1, by omega⟩
  simp only [impl_ParseParcels.l0]
  rw [if_neg (by omega), List.drop_of_length_le (by omega : xs.length ≤ i), areParcels_val, Option.bind_some]
  simp only [pws, pres, List.append_nil]
  cases okP acc <;> simp
 | succ d ih =>
  intro i k acc hi hk ha
  obtain ⟨k, rfl⟩ : ∃ m, k = m + 1 := ⟨k - 1, by omega⟩
  simp only [impl_ParseParcels.l0]
  have hil : i < xs.length := by omega
  have hrd : rdOf ByteArray.empty (xs.map bs) (i : Int) = bs xs[i] := by simp [rdOf, List.getD, hil]
  have hxi := hx _ (List.getElem_mem hil)
  rw [if_pos (by omega), if_pos (by omega), if_pos (by simp; omega), hrd, show (⟨#[42]⟩ : ByteArray) = bs [42] from rfl, readNumbers_val _ 42 hxi k (by omega), Option.bind_some, w64 (by omega) (by omega), show ((i : Int) + 1) = ((i + 1 : Nat) : Int) by omega, List.drop_eq_getElem_cons hil]
  cases hr : rns (sp 42 xs[i]) with
  | none =>
   have hp : pw xs[i] = none := by rw [pw, hr]
   simp only [pws, hp, Option.bind_none, pres]
   rw [if_neg (by simp)]
  | some ns =>
   simp only
   rw [if_pos trivial]
   match ns, hr with
   | [], hr =>
    have hp : pw xs[i] = none := by rw [pw, hr]
    simp [pws, hp, pres]
   | [a], hr =>
    have hp : pw xs[i] = none := by rw [pw, hr]
    simp [pws, hp, pres]
   | [a, b], hr =>
    have hp : pw xs[i] = some ⟨a, b⟩ := by rw [pw, hr]
    rw [if_pos (by simp), if_pos (by simp), if_pos (by simp), if_pos (by omega)]
    have e : (⟨rd [a, b] 0, rd [a, b] 1⟩ : S62) = ⟨a, b⟩ := rfl
    rw [e, ih (i + 1) k _ (by omega) (by omega) (by simp; omega)]
    simp only [pws, hp, Option.bind_some]
    cases pws (xs.drop (i + 1)) <;> simp [pres]
   | a :: b :: c :: t, hr =>
    have hp : pw xs[i] = none := by rw [pw, hr]
    rw [if_neg (by simp; omega)]
    simp [pws, hp, pres]
theorem implParse_val (l : List UInt8) (hl : l.length ≤ 2000000) (k : Nat) (hk : l.length + 2000010 < k) : impl_ParseParcels.f k (bs l) = some (pres (pws (sp 44 l)) []) := by
 have hs := sp_len 44 l
 unfold impl_ParseParcels.f
 rw [show (⟨#[44]⟩ : ByteArray) = bs [44] from rfl, split_val l 44 (by omega), Option.bind_some, List.length_map]
 have := implParse_l0 (sp 44 l) (fun x hx => by have := sp_mem_len 44 l x hx; omega) (by omega) (sp 44 l).length 0 k [] (by omega) (by omega) (by simp)
 rw [List.drop_zero] at this
 exact this
def sw (w : List UInt8) : Option S62 := match sp 42 w with
 | [a, b] => some ⟨rd6 a, rd6 b⟩
 | _ => none
def sws : List (List UInt8) → Option (List S62)
 | [] => some []
 | x :: r => (sw x).bind fun v => (sws r).map (v :: ·)
def txt (q : List S62) : List UInt8 := Lib.join (q.map pc) [44]
def sres (l : List UInt8) (o : Option (List S62)) (acc : List S62) : List S62 × Bool := match o with
 | some ps => if okP (acc ++ ps) = true then (if txt (acc ++ ps) = l then (acc ++ ps, true) else ([], false)) else ([], false)
 | none => ([], false)
theorem bgGood_k (l : List S62) (k : Nat) (hk : 20 ≤ k) : spec_bgGood.f k l = some (okP l) := by
 by_cases h : (decide ((l.length : Int) ≥ 1) && decide ((l.length : Int) ≤ 8)) = true
 ·simp only [Bool.and_eq_true, decide_eq_true_eq] at h
  have := bgGood_l0 l (by omega) l.length 0 k (by omega) (by omega)
  unfold spec_bgGood.f okP
  rw [l1In_is, Option.bind_some, if_pos (by simp; omega)]
  rw [show (0 : Int) = ((0 : Nat) : Int) from rfl, this, List.drop_zero]
  rw [decide_eq_true (by omega : (l.length : Int) ≥ 1), decide_eq_true (by omega : (l.length : Int) ≤ 8)]
  rfl
 ·have hf : (decide ((l.length : Int) ≥ 1) && decide ((l.length : Int) ≤ 8)) = false := by simpa using h
  unfold spec_bgGood.f okP
  rw [l1In_is, Option.bind_some, hf]
  rfl
theorem bgText_k {q : List S62} (h : okP q = true) (k : Nat) (hk : 3000 ≤ k) : spec_bgText.f k q = some (bs (txt q)) := by
 obtain ⟨_, hl⟩ := okP_len h
 have := specText_l0 q (okP_n h) hl q.length 0 k (by omega) (by omega)
 unfold spec_bgText.f
 simp only [List.take_zero, List.map_nil, Lib.join_nil] at this
 have e : (⟨#[]⟩ : ByteArray) = bs [] := rfl
 rw [e, show (0 : Int) = ((0 : Nat) : Int) from rfl, this]
 rfl
theorem specParse_l0 (l : List UInt8) (xs : List (List UInt8)) (hx : ∀ x ∈ xs, x.length ≤ 1000) (hn : xs.length ≤ 1000) : ∀ (d i k : Nat) (acc : List S62), i + d = xs.length → d + 5000 < k → acc.length ≤ i →
  spec_ParseParcels.l0 k (bs l) acc (xs.map bs) (xs.length : Int) (i : Int) = some (sres l (sws (xs.drop i)) acc) := by
 intro d
 induction d with
 | zero =>
  intro i k acc hi hk ha
  obtain ⟨k, rfl⟩ : ∃ m, k = m + 1 := ⟨k - 1, by omega⟩
  simp only [spec_ParseParcels.l0]
  rw [if_neg (by omega), List.drop_of_length_le (by omega : xs.length ≤ i), bgGood_k acc k (by omega), Option.bind_some]
  simp only [sws, sres, List.append_nil]
  cases hok : okP acc with
  | false => simp
  | true =>
   rw [if_pos rfl, if_pos rfl, bgText_k hok k (by omega), Option.bind_some]
   have e : ((bs (txt acc)).toList = (bs l).toList) = (txt acc = l) := by rw [ByteArray.toList_eq, ByteArray.toList_eq, bs_list, bs_list]
   simp only [e]
   by_cases ht : txt acc = l <;> simp [ht]
 | succ d ih =>
  intro i k acc hi hk ha
  obtain ⟨k, rfl⟩ : ∃ m, k = m + 1 := ⟨k - 1, by omega⟩
  simp only [spec_ParseParcels.l0]
  have hil : i < xs.length := by omega
  have hrd : rdOf ByteArray.empty (xs.map bs) (i : Int) = bs xs[i] := by simp [rdOf, List.getD, hil]
  have hxi := hx _ (List.getElem_mem hil)
  have hsp := l1Split_ev xs[i] 42 (by omega) k (by omega)
  rw [show (((42 : UInt8).toNat : Nat) : Int) = 42 from rfl] at hsp
  rw [if_pos (by omega), if_pos (by omega), if_pos (by simp; omega), hrd, hsp, Option.bind_some, List.length_map, w64 (by omega) (by omega), show ((i : Int) + 1) = ((i + 1 : Nat) : Int) by omega, List.drop_eq_getElem_cons hil]
  match hs : sp 42 xs[i] with
  | [] => exact absurd hs (sp_ne 42 _)
  | [a] =>
   have hp : sw xs[i] = none := by rw [sw, hs]
   simp [sws, hp, sres]
  | [a, b] =>
   have hp : sw xs[i] = some ⟨rd6 a, rd6 b⟩ := by rw [sw, hs]
   have hm := sp_mem_len 42 xs[i]
   rw [hs] at hm
   have ha2 := hm a (by simp)
   have hb2 := hm b (by simp)
   have e0 : rdOf ByteArray.empty ([a, b].map bs) 0 = bs a := rfl
   have e1 : rdOf ByteArray.empty ([a, b].map bs) 1 = bs b := rfl
   rw [if_pos (by simp), if_pos (by simp), e0, e1, l1Read_val a (by omega) k (by omega), Option.bind_some, if_pos (by simp), l1Read_val b (by omega) k (by omega), Option.bind_some, if_pos (by omega)]
   rw [ih (i + 1) k _ (by omega) (by omega) (by simp; omega)]
   simp only [sws, hp, Option.bind_some]
   cases sws (xs.drop (i + 1)) <;> simp [sres]
  | a :: b :: c :: t =>
   have hp : sw xs[i] = none := by rw [sw, hs]
   rw [if_neg (by simp; omega)]
   simp [sws, hp, sres]
theorem specParse_val (l : List UInt8) (hl : l.length ≤ 80) (k : Nat) (hk : 6000 < k) : spec_ParseParcels.f k (bs l) = some (sres l (sws (sp 44 l)) []) := by
 have hs := sp_len 44 l
 have hsp := l1Split_ev l 44 (by omega) k (by omega)
 rw [show (((44 : UInt8).toNat : Nat) : Int) = 44 from rfl] at hsp
 unfold spec_ParseParcels.f
 rw [if_neg (by rw [bs_size]; omega), hsp, Option.bind_some, List.length_map]
 have := specParse_l0 l (sp 44 l) (fun x hx => by have := sp_mem_len 44 l x hx; omega) (by omega) (sp 44 l).length 0 k [] (by omega) (by omega) (by simp)
 rw [List.drop_zero] at this
 exact this
theorem specParse_long (l : List UInt8) (hl : 80 < l.length) (k : Nat) : spec_ParseParcels.f k (bs l) = some ([], false) := by
 unfold spec_ParseParcels.f
 rw [if_pos (by rw [bs_size]; omega)]
theorem pc_sp {p : S62} : sp 42 (pc p) = [dg p.f0.toNat, dg p.f1.toNat] := by
 have e : pc p = Lib.join [dg p.f0.toNat, dg p.f1.toNat] [42] := by rw [Lib.join_cons]; simp [Lib.joinTail, pc]
 rw [e]
 exact sp_join 42 _ (by simp) (fun x hx => by
  simp at hx
  rcases hx with rfl | rfl
  ·exact dg_no 42 (by decide) _
  ·exact dg_no 42 (by decide) _)
theorem pw_pc {p : S62} (h : okN p) : pw (pc p) = some p := by
 obtain ⟨a, b, c, d⟩ := h
 unfold pw
 rw [pc_sp]
 simp only [rns, rn_dg p.f0.toNat (by omega), rn_dg p.f1.toNat (by omega), Option.bind_some, Option.map_some]
 have e1 : ((p.f0.toNat : Nat) : Int) = p.f0 := by omega
 have e2 : ((p.f1.toNat : Nat) : Int) = p.f1 := by omega
 rw [e1, e2]
theorem sw_pc {p : S62} (h : okN p) : sw (pc p) = some p := by
 obtain ⟨a, b, c, d⟩ := h
 unfold sw
 rw [pc_sp]
 simp only [rd6_dg p.f0.toNat (by omega), rd6_dg p.f1.toNat (by omega)]
 have e1 : ((p.f0.toNat : Nat) : Int) = p.f0 := by omega
 have e2 : ((p.f1.toNat : Nat) : Int) = p.f1 := by omega
 rw [e1, e2]
theorem pws_pc : ∀ (q : List S62), (∀ p ∈ q, okN p) → pws (q.map pc) = some q
 | [], _ => rfl
 | p :: r, h => by
  simp only [List.map_cons, pws, pw_pc (h p List.mem_cons_self), pws_pc r (fun x hx => h x (List.mem_cons_of_mem _ hx)), Option.bind_some, Option.map_some]
theorem sws_pc : ∀ (q : List S62), (∀ p ∈ q, okN p) → sws (q.map pc) = some q
 | [], _ => rfl
 | p :: r, h => by
  simp only [List.map_cons, sws, sw_pc (h p List.mem_cons_self), sws_pc r (fun x hx => h x (List.mem_cons_of_mem _ hx)), Option.bind_some, Option.map_some]
theorem pw_ok {w : List UInt8} {p : S62} (h : pw w = some p) (hp : okN p) : w = pc p := by
 obtain ⟨a, b, c, d⟩ := hp
 unfold pw at h
 have hj := join_sp 42 w
 split at h
 ·next x y hr =>
  injection h with h
  subst h
  match hs : sp 42 w with
  | [] => exact absurd hs (sp_ne 42 _)
  | [u] => rw [hs] at hr; have := rns_len _ _ hr; simp at this
  | [u, v] =>
   rw [hs] at hr hj
   simp only [rns] at hr
   obtain ⟨x1, h1, hr⟩ := Option.bind_eq_some_iff.1 hr
   obtain ⟨m, hm, e⟩ := Option.map_eq_some_iff.1 hr
   obtain ⟨y1, h2, hm⟩ := Option.bind_eq_some_iff.1 hm
   simp only [Option.map_some, Option.some.injEq] at hm
   subst hm
   simp only [List.cons.injEq, and_true] at e
   obtain ⟨rfl, rfl⟩ := e
   have e1 := rn_ok h1
   have e2 := rn_ok h2
   have a1 : 1 ≤ x1 := a
   have c1 : 1 ≤ y1 := c
   rw [itoa_nn (by omega)] at e1
   rw [itoa_nn (by omega)] at e2
   rw [← hj, ← e1, ← e2, Lib.join_cons]
   simp [Lib.joinTail, pc]
  | u :: v :: z :: t => rw [hs] at hr; have := rns_len _ _ hr; simp at this
 ·cases h
theorem pws_ok : ∀ (ws : List (List UInt8)) (q : List S62), pws ws = some q → (∀ p ∈ q, okN p) → ws = q.map pc
 | [], q, h, _ => by
  injection h with h
  rw [← h]
  rfl
 | w :: r, q, h, hq => by
  simp only [pws] at h
  obtain ⟨p, h1, h⟩ := Option.bind_eq_some_iff.1 h
  obtain ⟨m, hm, rfl⟩ := Option.map_eq_some_iff.1 h
  rw [List.map_cons, ← pws_ok r m hm (fun x hx => hq x (List.mem_cons_of_mem _ hx)), ← pw_ok h1 (hq p List.mem_cons_self)]
theorem pc_len8 {p : S62} (h : okN p) : (pc p).length ≤ 8 := by
 obtain ⟨a, b, c, d⟩ := h
 have h1 := dg_len_pow 2 p.f0.toNat (by omega)
 have h2 := dg_len_pow 3 p.f1.toNat (by omega)
 unfold pc
 simp
 omega
theorem txt_len {q : List S62} (h : okP q = true) : (txt q).length ≤ 80 := by
 obtain ⟨_, hl⟩ := okP_len h
 have := join_len (q.map pc) [44] 8 (fun x hx => by
  obtain ⟨p, hp, rfl⟩ := List.mem_map.1 hx
  exact pc_len8 (okP_n h p hp))
 have h2 : ([44].length + 8 : Nat) * (q.map pc).length ≤ 9 * 8 := Nat.mul_le_mul (by simp) (by simpa using hl)
 unfold txt
 omega
theorem pc_no {p : S62} : (44 : UInt8) ∉ pc p := by
 unfold pc
 intro h
 simp at h
 rcases h with h | h
 ·exact dg_no 44 (by decide) _ h
 ·exact dg_no 44 (by decide) _ h
theorem txt_sp {q : List S62} (h : okP q = true) : sp 44 (txt q) = q.map pc := by
 obtain ⟨hl, _⟩ := okP_len h
 exact sp_join 44 _ (by intro e; have := congrArg List.length e; simp at this; rw [this] at hl; simp at hl) (fun x hx => by
  obtain ⟨p, _, rfl⟩ := List.mem_map.1 hx
  exact pc_no)
theorem ParseParcels_both (l : List UInt8) (hl : l.length ≤ 1048577) : ∃ v, Ev (fun k => spec_ParseParcels.f k (bs l)) v ∧ Ev (fun k => impl_ParseParcels.f k (bs l)) v ∧ v.1.length ≤ 40 := by
 by_cases hq : ∃ q, okP q = true ∧ txt q = l
 ·obtain ⟨q, h1, rfl⟩ := hq
  obtain ⟨_, h8⟩ := okP_len h1
  refine ⟨(q, true), ⟨7000, fun k hk => ?_⟩, ⟨5000000, fun k hk => ?_⟩, by simp; omega⟩
  ·show spec_ParseParcels.f k (bs (txt q)) = _
   rw [specParse_val _ (txt_len h1) k (by omega), txt_sp h1, sws_pc q (okP_n h1)]
   simp [sres, h1]
  ·show impl_ParseParcels.f k (bs (txt q)) = _
   rw [implParse_val _ (by omega) k (by omega), txt_sp h1, pws_pc q (okP_n h1)]
   simp [pres, h1]
 ·refine ⟨([], false), ⟨7000, fun k hk => ?_⟩, ⟨5000000, fun k hk => ?_⟩, by simp⟩
  ·show spec_ParseParcels.f k (bs l) = _
   by_cases h80 : l.length ≤ 80
   ·rw [specParse_val l h80 k (by omega)]
    cases hs : sws (sp 44 l) with
    | none => rfl
    | some ps =>
     simp only [sres, List.nil_append]
     by_cases h1 : okP ps = true
     ·rw [if_pos h1]
      by_cases h2 : txt ps = l
      ·exact absurd ⟨ps, h1, h2⟩ hq
      ·rw [if_neg h2]
     ·rw [if_neg h1]
   ·exact specParse_long l (by omega) k
  ·show impl_ParseParcels.f k (bs l) = _
   rw [implParse_val l (by omega) k (by omega)]
   cases hs : pws (sp 44 l) with
   | none => rfl
   | some ps =>
    simp only [pres, List.nil_append]
    by_cases h1 : okP ps = true
    ·have hw := pws_ok _ _ hs (okP_n h1)
     have : txt ps = l := by
      unfold txt
      rw [← hw]
      exact join_sp 44 l
     exact absurd ⟨ps, h1, this⟩ hq
    ·rw [if_neg h1]
end Go.Proofs.YtgdhbkoggfaioaaGreatDoor.Tx
end
section
namespace Go.Proofs.YtgdhbkoggfaioaaGreatDoor.Pz
open Go.RowKit Go.Proofs.YtgdhbkoggfaioaaGreatDoor.G Go.Proofs.YtgdhbkoggfaioaaGreatDoorW.PrintWords Go.Proofs.YtgdhbkoggfaioaaGreatDoorW.PrintLast Go.Proofs.YtgdhbkoggfaioaaGreatDoorW.PrintMore Go.Proofs.YtgdhbkoggfaioaaGreatDoor.Bg Go.Proofs.YtgdhbkoggfaioaaGreatDoor.Tx
theorem Gv.yes {α : Type} {c : Prop} [Decidable c] {f g : Nat → Option α} {P : α → Prop} (hc : c) (h : Gv f P) : Gv (fun k => if c then f k else g k) P := by
 simp only [if_pos hc]
 exact h
theorem Gv.no {α : Type} {c : Prop} [Decidable c] {f g : Nat → Option α} {P : α → Prop} (hc : ¬ c) (h : Gv g P) : Gv (fun k => if c then f k else g k) P := by
 simp only [if_neg hc]
 exact h
def okQ (p : S62) : Prop := 1 ≤ p.f0 ∧ p.f0 ≤ 9 ∧ 1 ≤ p.f1 ∧ p.f1 ≤ 9
theorem at_up' {N M i : Int} (h : at_ N i) (hm : N ≤ M) : at_ M i := ⟨h.1, Int.le_trans h.2 hm⟩
theorem sureP_l0 {l : List Int} (hb : byt l) : ∀ (d : Nat) (N i s : Int) (acc : List S62), N + 4 * (d : Int) ≤ 900000000 → at_ N i → acc.length + d ≤ 10 → (∀ p ∈ acc, okQ p) → Gv (fun k => spec_l1Cur_sureParcels.l0 k acc (d : Int) l i s) (fun r => r.1.length = acc.length + d ∧ (∀ p ∈ r.1, okQ p) ∧ at_ (N + 4 * (d : Int)) r.2.1) := by
 intro d
 induction d with
 | zero =>
  intro N i s acc hN hi ha hp
  refine Gv.step (fun k => by rw [spec_l1Cur_sureParcels.l0]) ?_
  refine Gv.no (by omega) ?_
  exact Gv.some ⟨rfl, hp, at_up' hi (by omega)⟩
 | succ d ih =>
  intro N i s acc hN hi ha hp
  refine Gv.step (fun k => by rw [spec_l1Cur_sureParcels.l0]) ?_
  refine Gv.yes (by omega) ?_
  refine Gv.bind (pick_gv hb s 9 (by omega) hi) ?_
  rintro ⟨c, i1, s1⟩ ⟨c0, _, c2, h1⟩
  dsimp only at c0 c2 h1 ⊢
  have c3 := c2 (by decide)
  refine Gv.bind (pick_gv (N := N + 2) hb s1 9 (by omega) h1) ?_
  rintro ⟨e, i2, s2⟩ ⟨e0, _, e2, h2⟩
  dsimp only at e0 e2 h2 ⊢
  have e3 := e2 (by decide)
  refine Gv.yes (by omega) ?_
  rw [wr_in (x := 1 + c) (by omega) (by omega), wr_in (x := 1 + e) (by omega) (by omega), wr_in (x := ((d + 1 : Nat) : Int) - 1) (by omega) (by omega), show ((d + 1 : Nat) : Int) - 1 = (d : Int) by omega]
  refine Gv.imp (ih (N + 4) i2 s2 _ (by omega) (at_up' h2 (by omega)) (by rw [List.length_append, List.length_singleton]; omega) ?_) ?_
  ·intro p hpm
   rcases List.mem_append.1 hpm with h | h
   ·exact hp p h
   ·obtain rfl := List.mem_singleton.1 h
    exact ⟨by dsimp only; omega, by dsimp only; omega, by dsimp only; omega, by dsimp only; omega⟩
  ·rintro r ⟨r0, r1, r2⟩
   rw [List.length_append, List.length_singleton] at r0
   exact ⟨by omega, r1, at_up' r2 (by omega)⟩
theorem sureP_gv {l : List Int} (hb : byt l) {N i : Int} (s m : Int) (hm : 1 ≤ m ∧ m ≤ 9) (hN : N ≤ 800000000) (hi : at_ N i) : Gv (fun k => spec_l1Cur_sureParcels.f k l i s m) (fun r => 1 ≤ r.1.length ∧ (r.1.length : Int) ≤ m ∧ (∀ p ∈ r.1, okQ p) ∧ at_ (N + 50) r.2.1) := by
 unfold spec_l1Cur_sureParcels.f
 refine Gv.bind (pick_gv hb s m (by omega) hi) ?_
 rintro ⟨c, i1, s1⟩ ⟨c0, _, c2, h1⟩
 dsimp only at c0 c2 h1 ⊢
 have c3 := c2 hm.1
 obtain ⟨d, hd⟩ : ∃ d : Nat, 1 + c = (d : Int) := ⟨(1 + c).toNat, by omega⟩
 rw [wr_in (x := 1 + c) (by omega) (by omega), hd]
 refine Gv.imp (sureP_l0 hb d (N + 2) i1 s1 [] (by omega) h1 (by simp; omega) (fun p hp => (by cases hp))) ?_
 rintro r ⟨r0, r1, r2⟩
 have r0 : r.1.length = d := by rw [r0]; simp
 exact ⟨by omega, by omega, r1, at_up' r2 (by omega)⟩
theorem parcels_l0 {l : List Int} (hb : byt l) : ∀ (d : Nat) (N i s : Int) (acc : List S62), N + 2 * ((d : Int) + 1) ≤ 900000000 → at_ N i → acc.length ≤ 9 → 9 ≤ acc.length + d → Gv (fun k => spec_l1Cur_parcels.l0 k acc l i s) (fun r => at_ (N + 2 * ((d : Int) + 1)) r.2.1) := by
 intro d
 induction d with
 | zero =>
  intro N i s acc hN hi ha hd
  refine Gv.step (fun k => by rw [spec_l1Cur_parcels.l0]) ?_
  refine Gv.bind (pick_gv hb s 2 (by omega) hi) ?_
  rintro ⟨c, i1, s1⟩ ⟨c0, _, c2, h1⟩
  dsimp only at c0 c2 h1 ⊢
  have c3 := c2 (by decide)
  rw [wr_in (x := 8 + c) (by omega) (by omega)]
  refine Gv.no (by omega) ?_
  exact Gv.some (at_up' h1 (by omega))
 | succ d ih =>
  intro N i s acc hN hi ha hd
  refine Gv.step (fun k => by rw [spec_l1Cur_parcels.l0]) ?_
  refine Gv.bind (pick_gv hb s 2 (by omega) hi) ?_
  rintro ⟨c, i1, s1⟩ ⟨c0, _, c2, h1⟩
  dsimp only at c0 c2 h1 ⊢
  have c3 := c2 (by decide)
  rw [wr_in (x := 8 + c) (by omega) (by omega)]
  split
  ·refine Gv.yes (by omega) ?_
   refine Gv.imp (ih (N + 2) i1 s1 _ (by omega) h1 (by rw [List.length_append, List.length_singleton]; omega) (by rw [List.length_append, List.length_singleton]; omega)) ?_
   intro r r0
   exact at_up' r0 (by omega)
  ·exact Gv.some (at_up' h1 (by omega))
theorem parcels_gv {l : List Int} (hb : byt l) {N i : Int} (s : Int) (hN : N ≤ 700000000) (hi : at_ N i) : Gv (fun k => spec_l1Cur_parcels.f k l i s) (fun r => at_ (N + 100) r.2.1) := by
 unfold spec_l1Cur_parcels.f
 refine Gv.bind (sureP_gv hb s 5 (by decide) (by omega) hi) ?_
 rintro ⟨p, i1, s1⟩ ⟨p0, p1, p2, h1⟩
 dsimp only at p0 p1 p2 h1 ⊢
 refine Gv.bind (pick_gv (N := N + 50) hb s1 20 (by omega) h1) ?_
 rintro ⟨c, i2, s2⟩ ⟨_, _, _, h2⟩
 dsimp only at h2 ⊢
 split
 ·exact Gv.some (at_up' h2 (by omega))
 ·split
  ·refine Gv.bind (among_gv (N := N + 50 + 2) hb s2 _ (by omega) h2 (by decide)) ?_
   rintro ⟨a, i3, s3⟩ ⟨_, h3⟩
   dsimp only at h3 ⊢
   refine Gv.bind (among_gv (N := N + 50 + 2 + 2) hb s3 _ (by omega) h3 (by decide)) ?_
   rintro ⟨e, i4, s4⟩ ⟨_, h4⟩
   dsimp only at h4 ⊢
   refine Gv.yes (by omega) ?_
   exact Gv.some (at_up' h4 (by omega))
  ·split
   ·refine Gv.imp (parcels_l0 hb 9 (N + 50 + 2) i2 s2 p (by omega) h2 (by omega) (by omega)) ?_
    intro r r0
    exact at_up' r0 (by omega)
   ·exact Gv.some (at_up' h2 (by omega))
theorem lightest_gv {l : List Int} (hb : byt l) : Gv (fun k => spec_DrawLightestBag.f k l) (fun _ => True) := by
 unfold spec_DrawLightestBag.f
 refine Gv.bind (parcels_gv (N := 0) hb 0 (by omega) ⟨Int.le_refl _, Int.le_refl _⟩) ?_
 rintro ⟨p, i1, s1⟩ h1
 dsimp only at h1 ⊢
 refine Gv.bind (among_gv hb s1 _ (by omega) h1 (by decide)) ?_
 rintro ⟨a, i2, s2⟩ _
 exact Gv.some trivial
theorem letters_l1 {l : List Int} (hb : byt l) : ∀ (d : Nat) (N i s : Int) (acc : List Int), N + 4 * ((d : Int) + 1) ≤ 900000000 → at_ N i → acc.length ≤ 101 → 101 ≤ acc.length + d → Gv (fun k => spec_DrawLettersLength.l1 k acc l i s) (fun _ => True) := by
 intro d
 induction d with
 | zero =>
  intro N i s acc hN hi ha hd
  refine Gv.step (fun k => by rw [spec_DrawLettersLength.l1]) ?_
  refine Gv.bind (pick_gv hb s 2 (by omega) hi) ?_
  rintro ⟨c, i1, s1⟩ ⟨c0, _, c2, h1⟩
  dsimp only at c0 c2 h1 ⊢
  have c3 := c2 (by decide)
  rw [wr_in (x := 100 + c) (by omega) (by omega)]
  refine Gv.no (by omega) ?_
  refine Gv.bind (among_gv (N := N + 2) hb s1 _ (by omega) h1 (by decide)) ?_
  rintro ⟨a, i2, s2⟩ _
  exact Gv.some trivial
 | succ d ih =>
  intro N i s acc hN hi ha hd
  refine Gv.step (fun k => by rw [spec_DrawLettersLength.l1]) ?_
  refine Gv.bind (pick_gv hb s 2 (by omega) hi) ?_
  rintro ⟨c, i1, s1⟩ ⟨c0, _, c2, h1⟩
  dsimp only at c0 c2 h1 ⊢
  have c3 := c2 (by decide)
  rw [wr_in (x := 100 + c) (by omega) (by omega)]
  split
  ·refine Gv.bind (pick_gv (N := N + 2) hb s1 3 (by omega) h1) ?_
   rintro ⟨e, i2, s2⟩ ⟨_, _, _, h2⟩
   dsimp only at h2 ⊢
   refine Gv.yes (by omega) ?_
   exact ih (N + 4) i2 s2 _ (by omega) (at_up' h2 (by omega)) (by rw [List.length_append, List.length_singleton]; omega) (by rw [List.length_append, List.length_singleton]; omega)
  ·refine Gv.bind (among_gv (N := N + 2) hb s1 _ (by omega) h1 (by decide)) ?_
   rintro ⟨a, i2, s2⟩ _
   exact Gv.some trivial
theorem letters_l0 {l : List Int} (hb : byt l) : ∀ (d : Nat) (N i s : Int) (acc : List Int), N + 2 * (d : Int) ≤ 800000000 → at_ N i → acc.length + d ≤ 20 → Gv (fun k => spec_DrawLettersLength.l0 k acc (d : Int) l i s) (fun _ => True) := by
 intro d
 induction d with
 | zero =>
  intro N i s acc hN hi ha
  refine Gv.step (fun k => by rw [spec_DrawLettersLength.l0]) ?_
  refine Gv.no (by omega) ?_
  refine Gv.bind (pick_gv hb s 14 (by omega) hi) ?_
  rintro ⟨c, i1, s1⟩ ⟨_, _, _, h1⟩
  dsimp only at h1 ⊢
  split
  ·refine Gv.bind (among_gv (N := N + 2) hb s1 _ (by omega) h1 (by decide)) ?_
   rintro ⟨a, i2, s2⟩ ⟨_, h2⟩
   dsimp only at h2 ⊢
   refine Gv.yes (by omega) ?_
   refine Gv.bind (among_gv (N := N + 2 + 2) hb s2 _ (by omega) h2 (by decide)) ?_
   rintro ⟨e, i3, s3⟩ _
   exact Gv.some trivial
  ·split
   ·exact letters_l1 hb 101 (N + 2) i1 s1 acc (by omega) h1 (by omega) (by omega)
   ·split
    ·refine Gv.bind (among_gv (N := N + 2) hb s1 _ (by omega) h1 (by decide)) ?_
     rintro ⟨a, i2, s2⟩ _
     exact Gv.some trivial
    ·refine Gv.bind (among_gv (N := N + 2) hb s1 _ (by omega) h1 (by decide)) ?_
     rintro ⟨a, i2, s2⟩ _
     exact Gv.some trivial
 | succ d ih =>
  intro N i s acc hN hi ha
  refine Gv.step (fun k => by rw [spec_DrawLettersLength.l0]) ?_
  refine Gv.yes (by omega) ?_
  refine Gv.bind (pick_gv hb s 9 (by omega) hi) ?_
  rintro ⟨c, i1, s1⟩ ⟨_, _, _, h1⟩
  dsimp only at h1 ⊢
  refine Gv.yes (by omega) ?_
  rw [wr_in (x := ((d + 1 : Nat) : Int) - 1) (by omega) (by omega), show ((d + 1 : Nat) : Int) - 1 = (d : Int) by omega]
  exact ih (N + 2) i1 s1 _ (by omega) h1 (by rw [List.length_append, List.length_singleton]; omega)
theorem letters_gv {l : List Int} (hb : byt l) : Gv (fun k => spec_DrawLettersTrips.f k l) (fun _ => True) := by
 unfold spec_DrawLettersTrips.f spec_DrawLettersLength.f
 refine Gv.bind (P := fun _ => True) ?_ (fun r _ => Gv.some trivial)
 refine Gv.bind (pick_gv (N := 0) hb 0 8 (by omega) ⟨Int.le_refl _, Int.le_refl _⟩) ?_
 rintro ⟨c, i1, s1⟩ ⟨c0, _, c2, h1⟩
 dsimp only at c0 c2 h1 ⊢
 have c3 := c2 (by decide)
 obtain ⟨d, hd⟩ : ∃ d : Nat, 1 + c = (d : Int) := ⟨(1 + c).toNat, by omega⟩
 rw [wr_in (x := 1 + c) (by omega) (by omega), hd]
 exact letters_l0 hb d (0 + 2) i1 s1 [] (by omega) h1 (by simp; omega)
theorem named_l0' {l : List Int} (hb : byt l) : ∀ (d : Nat) (N i s : Int) (acc : List Int), N + 2 * (d : Int) ≤ 800000000 → at_ N i → acc.length + d ≤ 20 → Gv (fun k => spec_DrawNamedPlan.l0 k acc (d : Int) l i s) (fun _ => True) := by
 intro d
 induction d with
 | zero =>
  intro N i s acc hN hi ha
  refine Gv.step (fun k => by rw [spec_DrawNamedPlan.l0]) ?_
  refine Gv.no (by omega) ?_
  exact Gv.some trivial
 | succ d ih =>
  intro N i s acc hN hi ha
  refine Gv.step (fun k => by rw [spec_DrawNamedPlan.l0]) ?_
  refine Gv.yes (by omega) ?_
  refine Gv.bind (among_gv hb s _ (by omega) hi (by decide)) ?_
  rintro ⟨c, i1, s1⟩ ⟨_, h1⟩
  dsimp only at h1 ⊢
  refine Gv.yes (by omega) ?_
  rw [wr_in (x := ((d + 1 : Nat) : Int) - 1) (by omega) (by omega), show ((d + 1 : Nat) : Int) - 1 = (d : Int) by omega]
  exact ih (N + 2) i1 s1 _ (by omega) h1 (by rw [List.length_append, List.length_singleton]; omega)
theorem named_gv {l : List Int} (hb : byt l) : Gv (fun k => spec_DrawNamedPlan.f k l) (fun _ => True) := by
 unfold spec_DrawNamedPlan.f
 refine Gv.bind (pick_gv (N := 0) hb 0 10 (by omega) ⟨Int.le_refl _, Int.le_refl _⟩) ?_
 rintro ⟨c, i1, s1⟩ ⟨c0, _, c2, h1⟩
 dsimp only at c0 c2 h1 ⊢
 have c3 := c2 (by decide)
 obtain ⟨d, rfl⟩ : ∃ d : Nat, c = (d : Int) := ⟨c.toNat, by omega⟩
 exact named_l0' hb d (0 + 2) i1 s1 [] (by omega) h1 (by simp; omega)
theorem nums_size (x : Int) : (strOfNums [x]).size = 1 := by
 unfold strOfNums
 simp [ByteArray.size]
theorem spoilt_l0 {l : List Int} (hb : byt l) (w : ByteArray) (hw : w.size = 7) : ∀ (d : Nat) (N i s : Int) (t : ByteArray), N + 6 * (d : Int) ≤ 800000000 → at_ N i → t.size + d ≤ 1000 → Gv (fun k => spec_l1Cur_spoilt.l0 k t w (d : Int) l i s) (fun r => r.1.size ≤ 1000) := by
 intro d
 induction d with
 | zero =>
  intro N i s t hN hi ht
  refine Gv.step (fun k => by rw [spec_l1Cur_spoilt.l0]) ?_
  refine Gv.no (by omega) ?_
  refine Gv.step (fun k => by rw [spec_l1Cur_spoilt.j1]) ?_
  refine Gv.no (by decide) ?_
  exact Gv.some (by dsimp only; omega)
 | succ d ih =>
  intro N i s t hN hi ht
  refine Gv.step (fun k => by rw [spec_l1Cur_spoilt.l0]) ?_
  refine Gv.yes (by omega) ?_
  refine Gv.step (fun k => by rw [spec_l1Cur_spoilt.j1]) ?_
  by_cases h0 : ((t.size : Int) > 0)
  ·refine Gv.yes (decide_eq_true h0) ?_
   refine Gv.bind (pick_gv hb s _ (by omega) hi) ?_
   rintro ⟨c, i1, s1⟩ ⟨c0, _, c2, h1⟩
   dsimp only at c0 c2 h1 ⊢
   have c3 := c2 (by omega)
   refine Gv.bind (pick_gv (N := N + 2) hb s1 _ (by omega) h1) ?_
   rintro ⟨e, i2, s2⟩ ⟨e0, _, e2, h2⟩
   dsimp only at e0 e2 h2 ⊢
   have e3 := e2 (by omega)
   refine Gv.yes e0 ?_
   refine Gv.yes e3 ?_
   refine Gv.bind (P := fun y => (strOfNums y).size = 1) (Gv.some (nums_size _)) ?_
   intro y hy
   refine Gv.bind (pick_gv (N := N + 2 + 2) hb s2 3 (by omega) h2) ?_
   rintro ⟨g, i3, s3⟩ ⟨_, _, _, h3⟩
   dsimp only at h3 ⊢
   obtain ⟨q, rfl⟩ : ∃ q : Nat, c = (q : Int) := ⟨c.toNat, by omega⟩
   have X2 : Aside0 ((t.extract 0 q).size = q) := ⟨by rw [ByteArray.size_extract]; omega⟩
   have X3 : Aside0 ((t.extract q t.size).size = t.size - q) := ⟨by rw [ByteArray.size_extract]; omega⟩
   have X4 : Aside0 ((t.extract (q + 1) t.size).size = t.size - (q + 1)) := ⟨by rw [ByteArray.size_extract]; omega⟩
   have XY : Aside0 ((strOfNums y).size = 1) := ⟨hy⟩
   clear hy
   have ew : wrap64 ((q : Int) + 1) = ((q + 1 : Nat) : Int) := by rw [wr_in (by omega) (by omega)]; omega
   have ed : wrap64 (((d + 1 : Nat) : Int) - 1) = (d : Int) := by rw [wr_in (by omega) (by omega)]; omega
   have h4 : at_ (N + 6) i3 := at_up' h3 (by omega)
   have hN6 : N + 6 + 6 * (d : Int) ≤ 800000000 := by omega
   have f1 : (0 ≤ (q : Int)) = True := eq_true (by omega)
   have f2 : ((q : Int) ≤ (t.size : Int)) = True := eq_true (by omega)
   have f5 : (0 ≤ ((q + 1 : Nat) : Int)) = True := eq_true (by omega)
   have f6 : (((q + 1 : Nat) : Int) ≤ (t.size : Int)) = True := eq_true (by omega)
   have f3 : ((t.extract 0 q).size + (strOfNums y).size ≤ 9223372036854775807) = True := eq_true (by rw [X2.out, XY.out]; omega)
   have f4 : ((t.extract 0 q ++ strOfNums y).size + (t.extract q t.size).size ≤ 9223372036854775807) = True := eq_true (by rw [ByteArray.size_append, X2.out, XY.out, X3.out]; omega)
   have f7 : ((t.extract 0 q ++ strOfNums y).size + (t.extract (q + 1) t.size).size ≤ 9223372036854775807) = True := eq_true (by rw [ByteArray.size_append, X2.out, XY.out, X4.out]; omega)
   have f8 : ((t.extract 0 q).size + (t.extract (q + 1) t.size).size ≤ 9223372036854775807) = True := eq_true (by rw [X2.out, X4.out]; omega)
   simp only [ew, ed, Int.toNat_natCast, f1, f2, f3, f4, f5, f6, f7, f8, if_true]
   have g1 : (t.extract 0 q ++ strOfNums y ++ t.extract q t.size).size + d ≤ 1000 := by rw [ByteArray.size_append, ByteArray.size_append, X2.out, XY.out, X3.out]; omega
   have g2 : (t.extract 0 q ++ strOfNums y ++ t.extract (q + 1) t.size).size + d ≤ 1000 := by rw [ByteArray.size_append, ByteArray.size_append, X2.out, XY.out, X4.out]; omega
   have g3 : (t.extract 0 q ++ t.extract (q + 1) t.size).size + d ≤ 1000 := by rw [ByteArray.size_append, X2.out, X4.out]; omega
   by_cases hg : g = 0
   ·exact Gv.yes hg (ih (N + 6) i3 s3 _ hN6 h4 g1)
   ·refine Gv.no hg ?_
    by_cases hg2 : g = 1
    ·exact Gv.yes hg2 (ih (N + 6) i3 s3 _ hN6 h4 g2)
    ·exact Gv.no hg2 (ih (N + 6) i3 s3 _ hN6 h4 g3)
  ·refine Gv.no (by simpa using h0) ?_
   exact Gv.some (by dsimp only; omega)
theorem okQ_ok {p : List S62} (h1 : 1 ≤ p.length) (h2 : (p.length : Int) ≤ 6) (h : ∀ x ∈ p, okQ x) : okP p = true := by
 unfold okP
 simp only [Bool.and_eq_true, decide_eq_true_eq, List.all_eq_true]
 refine ⟨⟨by omega, by omega⟩, fun x hx => ?_⟩
 obtain ⟨a, b, c, d⟩ := h x hx
 unfold parcOk
 simp
 omega
theorem parse_gv {l : List Int} (hb : byt l) : Gv (fun k => spec_DrawParseParcels.f k l) (fun r => r.size ≤ 1000) := by
 unfold spec_DrawParseParcels.f
 refine Gv.bind (sureP_gv (N := 0) hb 0 6 (by decide) (by omega) ⟨Int.le_refl _, Int.le_refl _⟩) ?_
 rintro ⟨p, i1, s1⟩ ⟨p0, p1, p2, h1⟩
 dsimp only at p0 p1 p2 h1 ⊢
 have hok := okQ_ok p0 p1 p2
 refine Gv.bind (P := fun t => t.size ≤ 80) ⟨bs (txt p), ⟨3000, fun k hk => bgText_k hok k hk⟩, by show (bs (txt p)).size ≤ 80; rw [bs_size]; exact txt_len hok⟩ ?_
 intro t ht
 refine Gv.bind (one_gv (N := 0 + 50) hb s1 3 (by omega) h1) ?_
 rintro ⟨o, i2, s2⟩ h2
 dsimp only at h2 ⊢
 split
 ·refine Gv.bind (P := fun r => r.1.size ≤ 1000) ?_ (fun r hr => Gv.some hr)
  unfold spec_l1Cur_spoilt.f
  refine Gv.bind (pick_gv (N := 0 + 50 + 2) hb s2 2 (by omega) h2) ?_
  rintro ⟨c, i3, s3⟩ ⟨c0, _, c2, h3⟩
  dsimp only at c0 c2 h3 ⊢
  have c3 := c2 (by decide)
  obtain ⟨d, hd⟩ : ∃ d : Nat, 1 + c = (d : Int) := ⟨(1 + c).toNat, by omega⟩
  rw [wr_in (x := 1 + c) (by omega) (by omega), hd]
  exact spoilt_l0 hb _ rfl d (0 + 50 + 2 + 2) i3 s3 t (by omega) h3 (by omega)
 ·exact Gv.some (by omega)
end Go.Proofs.YtgdhbkoggfaioaaGreatDoor.Pz
end
section
set_option linter.unusedSimpArgs false
set_option linter.unusedVariables false
namespace Go.Proofs.YtgdhbkoggfaioaaGreatDoor.Tx
open Go.RowKit Go.Proofs.YtgdhbkoggfaioaaGreatDoor.G Go.Proofs.YtgdhbkoggfaioaaGreatDoor.Bg Go.Proofs.YtgdhbkoggfaioaaGreatDoorW.PrintWords Go.Proofs.YtgdhbkoggfaioaaGreatDoorW.PrintLast Go.Proofs.YtgdhbkoggfaioaaGreatDoorW.PrintMore Go.Proofs.YtgdhbkoggfaioaaGreatDoor.Pz
theorem pc_join (p : S62) : Lib.join ([p.f0.toNat, p.f1.toNat].map dg) [42] = pc p := by
 rw [List.map_cons, Lib.join_cons]
 simp [Lib.joinTail, pc]
theorem nums {p : S62} (h : okN p) : ([p.f0, p.f1] : List Int) = [p.f0.toNat, p.f1.toNat].map fun n : Nat => (n : Int) := by
 obtain ⟨a, b, c, d⟩ := h
 simp
 omega
theorem implText_l0 (l : List S62) (h : ∀ p ∈ l, okN p) (hl : l.length ≤ 8) : ∀ (d i k : Nat), i + d = l.length → d + 5 < k →
  impl_ParcelsText.l0 k ((l.take i).map (fun p => bs (pc p)) ++ List.replicate d (bs [])) l (l.length : Int) (i : Int) = some (bs (Lib.join (l.map pc) [44]), true) := by
 intro d
 induction d with
 | zero =>
  intro i k hi hk
  obtain ⟨k, rfl⟩ : ∃ m, k = m + 1 := ⟨k - 1, by omega⟩
  simp only [impl_ParcelsText.l0]
  have hp := parts_len h hl
  have hv := join_val (l.map pc) [44] (by omega) (by simp; omega)
  rw [List.map_map] at hv
  rw [if_neg (by omega), List.take_of_length_le (by omega), List.replicate_zero, List.append_nil]
  rw [show (fun p => bs (pc p)) = bs ∘ pc from rfl, show (⟨#[44]⟩ : ByteArray) = bs [44] from rfl, hv, Option.bind_some]
 | succ d ih =>
  intro i k hi hk
  obtain ⟨k, rfl⟩ : ∃ m, k = m + 1 := ⟨k - 1, by omega⟩
  simp only [impl_ParcelsText.l0]
  have hx : l[i]? = some l[i] := List.getElem?_eq_getElem (by omega)
  have hrd : rd_T62 l (i : Int) = l[i] := by simp [rd_T62, List.getD, hx]
  have hok := h l[i] (List.getElem_mem (by omega))
  have hj := joinNumbers_val [l[i].f0.toNat, l[i].f1.toNat] [42] (by simp) (fun x hx => by
   obtain ⟨a, b, c, d⟩ := hok
   simp at hx
   omega) (by simp) k (by simp; omega)
  rw [pc_join, ← nums hok] at hj
  rw [if_pos (by omega), if_pos (by omega), if_pos (by omega), hrd, show (⟨#[42]⟩ : ByteArray) = bs [42] from rfl, hj, Option.bind_some, if_pos (by simp; omega), w64 (by omega) (by omega), show ((i : Int) + 1) = ((i + 1 : Nat) : Int) by omega, ← ih (i + 1) k (by omega) (by omega)]
  congr 1
  rw [Int.toNat_natCast, List.set_append_right _ _ (by simp; omega), List.take_succ_eq_append_getElem (by omega), List.map_append, List.append_assoc]
  congr 1
  rw [show i - ((List.take i l).map fun p => bs (pc p)).length = 0 by simp; omega]
  rfl
theorem text_both (l : List S62) : ∃ t, Ev (fun k => spec_ParcelsText.f k l) (t, okP l) ∧ Ev (fun k => impl_ParcelsText.f k l) (t, okP l) ∧ (okP l = true → t = bs (txt l)) := by
 cases h : okP l with
 | false =>
  refine ⟨bs [], ⟨20, fun k hk => ?_⟩, ⟨0, fun k _ => ?_⟩, fun h => (by cases h)⟩
  ·show spec_ParcelsText.f k l = _
   unfold spec_ParcelsText.f
   rw [bgGood_k l k hk, h]
   rfl
  ·show impl_ParcelsText.f k l = _
   unfold impl_ParcelsText.f
   rw [areParcels_val, h]
   rfl
 | true =>
  have hn := okP_n h
  obtain ⟨_, hl⟩ := okP_len h
  refine ⟨bs (txt l), ⟨3000, fun k hk => ?_⟩, ⟨3000, fun k hk => ?_⟩, fun _ => rfl⟩
  ·show spec_ParcelsText.f k l = _
   unfold spec_ParcelsText.f
   rw [bgGood_k l k (by omega), h, Option.bind_some, if_pos rfl, bgText_k h k hk]
   rfl
  ·show impl_ParcelsText.f k l = some (bs (Lib.join (l.map pc) [44]), true)
   have := implText_l0 l hn hl l.length 0 k (by omega) (by omega)
   unfold impl_ParcelsText.f
   rw [areParcels_val, h, Option.bind_some, if_pos rfl, if_pos (by omega), if_pos (by simp; omega)]
   simp only [List.take_zero, List.map_nil, List.nil_append] at this
   have e : (⟨#[]⟩ : ByteArray) = bs [] := rfl
   rw [e, show (0 : Int) = ((0 : Nat) : Int) from rfl]
   simpa using this
theorem parse_all (s : ByteArray) (hs : s.size ≤ 1000) : ∃ q nine, Ev (fun k => spec_ParseParcels.f k s) (q, nine) ∧ Ev (fun k => impl_ParseParcels.f k s) (q, nine) ∧ q.length ≤ 40 ∧ (nine = true → okP q = true ∧ s = bs (txt q)) := by
 rw [bs_data s] at hs ⊢
 generalize s.data.toList = l at hs ⊢
 rw [bs_size] at hs
 obtain ⟨⟨q, nine⟩, h1, ⟨K2, h2⟩, h3⟩ := ParseParcels_both l (by omega)
 refine ⟨q, nine, h1, ⟨K2, h2⟩, h3, fun hn => ?_⟩
 have e := h2 (K2 + 3000000) (by omega)
 have e : impl_ParseParcels.f (K2 + 3000000) (bs l) = some (q, nine) := e
 rw [implParse_val l (by omega) _ (by omega)] at e
 cases hp : pws (sp 44 l) with
 | none =>
  rw [hp] at e
  simp [pres] at e
  rw [hn] at e
  cases e.2
 | some ps =>
  rw [hp] at e
  simp only [pres, List.nil_append] at e
  by_cases hok : okP ps = true
  ·rw [if_pos hok] at e
   have e := Option.some.inj e
   obtain ⟨rfl, _⟩ := Prod.mk.inj e
   refine ⟨hok, ?_⟩
   have hw := pws_ok _ _ hp (okP_n hok)
   congr 1
   unfold txt
   rw [← hw]
   exact (join_sp 44 l).symm
  ·rw [if_neg hok] at e
   have e := Option.some.inj e
   obtain ⟨_, e2⟩ := Prod.mk.inj e
   rw [hn] at e2
   cases e2
theorem parse_back {q : List S62} (h : okP q = true) : Ev (fun k => impl_ParseParcels.f k (bs (txt q))) (q, true) := ⟨5000000, fun k hk => by
 show impl_ParseParcels.f k (bs (txt q)) = _
 have h80 := txt_len h
 rw [implParse_val _ (by omega) k (by omega), txt_sp h, pws_pc q (okP_n h)]
 simp [pres, h]⟩
theorem aSame_l0 (l : List Int) (hn : l.length ≤ 1000000) : ∀ (d i k : Nat), i + d = l.length → d < k → laws_aSame.l0 k l l (l.length : Int) (i : Int) = some true := by
 intro d
 induction d with
 | zero =>
  intro i k hi hk
  obtain ⟨k, rfl⟩ : ∃ m, k = m + 1 := ⟨k - 1, by omega⟩
  rw [laws_aSame.l0, if_neg (by omega)]
 | succ d ih =>
  intro i k hi hk
  obtain ⟨k, rfl⟩ : ∃ m, k = m + 1 := ⟨k - 1, by omega⟩
  rw [laws_aSame.l0, if_pos (by omega), if_pos (by omega), if_pos (by omega), if_pos (by omega), if_pos rfl, wr64 (by omega) (by omega), show ((i : Int) + 1) = ((i + 1 : Nat) : Int) by omega]
  exact ih (i + 1) k (by omega) (by omega)
theorem aSame_k (l : List Int) (hn : l.length ≤ 1000000) (k : Nat) (hk : l.length < k) : laws_aSame.f k l l = some true := by
 have := aSame_l0 l hn l.length 0 k (by omega) (by omega)
 rw [laws_aSame.f, if_pos rfl]
 exact this
theorem aParcels_l0 (l : List S62) (hn : l.length ≤ 1000000) : ∀ (d i k : Nat), i + d = l.length → d < k → laws_aParcels.l0 k l l (l.length : Int) (i : Int) = some true := by
 intro d
 induction d with
 | zero =>
  intro i k hi hk
  obtain ⟨k, rfl⟩ : ∃ m, k = m + 1 := ⟨k - 1, by omega⟩
  rw [laws_aParcels.l0, if_neg (by omega)]
 | succ d ih =>
  intro i k hi hk
  obtain ⟨k, rfl⟩ : ∃ m, k = m + 1 := ⟨k - 1, by omega⟩
  rw [laws_aParcels.l0, if_pos (by omega), if_pos (by omega), if_pos (by omega), if_pos (by omega), if_neg (by simp), wr64 (by omega) (by omega), show ((i : Int) + 1) = ((i + 1 : Nat) : Int) by omega]
  exact ih (i + 1) k (by omega) (by omega)
theorem aParcels_k (l : List S62) (hn : l.length ≤ 1000000) (k : Nat) (hk : l.length < k) : laws_aParcels.f k l l = some true := by
 have := aParcels_l0 l hn l.length 0 k (by omega) (by omega)
 rw [laws_aParcels.f, if_pos rfl]
 exact this
theorem letters_all (ls : List Int) (wt : Int) : ∃ hs three len, Ev (fun k => impl_LettersTrips.f k ls wt) (hs, three) ∧ Ev (fun k => spec_LettersTrips.f k ls wt) (hs, three) ∧ Ev (fun k => impl_LettersLength.f k ls wt) (len, three) ∧ Ev (fun k => spec_LettersLength.f k ls wt) (len, three) ∧ hs.length ≤ 200000 ∧
  ∀ k, 300000 < k → three = true → ∃ tot sh, RunE k ls wt hs len tot sh := by
 cases h : okL ls wt with
 | false =>
  obtain ⟨a, b, c, d⟩ := letters_no ls wt h
  exact ⟨[], false, 0, a, b, c, d, by simp, fun k _ h => (by cases h)⟩
 | true =>
  obtain ⟨hn, hl, hb⟩ := okL_len h
  obtain ⟨v, hv, a, b, c, d, hF, hx⟩ := letters_facts ls wt h
  refine ⟨v, true, _, a, b, c, d, hv, fun k hk _ => ⟨sg ls 0, sg v 0, ?_⟩⟩
  obtain ⟨room, r1, r2, r3⟩ := hF.sum
  have hr := sg_range hl ls.length 0 (by omega)
  refine ⟨hb.1, (aSum_val ls (by omega) hl k (by omega)).1, (aSum_val v (by omega) hx k (by omega)).1, letters_cnt hr.1 (by omega) hb r1 r2 r3 (by omega), rfl, fun i hi => ?_⟩
  obtain ⟨g, g1, g2, g3, g4, g5⟩ := hF.ok.each i hi
  have hrg := sg_range hl (ls.length - (g + 1)) (g + 1) (by omega)
  have hxl := hl ls[g] (List.getElem_mem g2)
  rw [← rd_is g2] at hxl
  have e1 : (((g + 1 : Nat) : Int) - 1) = (g : Int) := by omega
  have ew : wrap64 ((i : Int) * wt) = (i : Int) * wt := wr64 (by omega) (by omega)
  have hd := aSum_val (ls.drop (g + 1)) (by rw [List.length_drop]; omega) (fun x hx => hl x (List.mem_of_mem_drop hx)) k (by rw [List.length_drop]; omega)
  have e2 : sg (ls.drop (g + 1)) 0 = sg ls (g + 1) := by simp [sg]
  rw [e2] at hd
  refine ⟨sg ls (g + 1), rd ls (g : Int), ((g + 1 : Nat) : Int), g1, by omega, by omega, by rw [e1], by omega, fun h0 => ?_, by rw [Int.toNat_natCast]; exact hd.1, by rw [ew]; exact g4, by rw [ew, wr64 (by omega) (by omega)]; exact g5, by omega, by omega⟩
  obtain ⟨j, rfl⟩ : ∃ j, i = j + 1 := ⟨i - 1, by omega⟩
  have hp := hF.ok.prev j hi
  rw [g1] at hp
  rw [show (((j + 1 : Nat) : Int) - 1) = (j : Int) by omega]
  exact hp
theorem named_all (pn : List Int) : ∃ q seven, Ev (fun k => spec_NamedPlan.f k pn) (q, seven) ∧ Ev (fun k => impl_NamedPlan.f k pn) (q, seven) ∧ q.length ≤ 1000 ∧ ((seven = false ∧ pn.length = 0) ∨ (seven = true ∧ 0 < pn.length ∧ pn.length ≤ 8) ∨ (seven = false ∧ 8 < pn.length)) ∧ (seven = true → ∃ nx, RunF pn q nx) := by
 have e1 : impl_within.f (pn.length : Int) 1 8 = some (decide ((pn.length : Int) ≥ 1) && decide ((pn.length : Int) ≤ 8)) := within_is' _ _ _
 have e2 : spec_l1In.f (pn.length : Int) 1 8 = some (decide ((pn.length : Int) ≥ 1) && decide ((pn.length : Int) ≤ 8)) := within_is' _ _ _
 cases h : (decide ((pn.length : Int) ≥ 1) && decide ((pn.length : Int) ≤ 8)) with
 | false =>
  have hl : pn.length = 0 ∨ 8 < pn.length := by
   simp at h
   omega
  exact ⟨[], false, ⟨0, fun k _ => by simp [spec_NamedPlan.f, e2, h]⟩, ⟨0, fun k _ => by simp [impl_NamedPlan.f, e1, h]⟩, by simp, hl.elim (fun h => .inl ⟨rfl, h⟩) (fun h => .inr (.inr ⟨rfl, h⟩)), fun h => (by cases h)⟩
 | true =>
  have hl : 1 ≤ pn.length ∧ pn.length ≤ 8 := by
   simp at h
   omega
  obtain ⟨K1, h1⟩ := bgNamed_ev pn (by omega)
  have h1 : ∀ k, K1 ≤ k → spec_bgNamed.f k pn = some (nm pn) := h1
  obtain ⟨K2, h2⟩ := named_ev pn (by omega)
  have h2 : ∀ k, K2 ≤ k → impl_named.f k pn = some (nm pn) := h2
  have hlen := nm_len pn
  refine ⟨nm pn, true, ⟨K1, fun k hk => by simp [spec_NamedPlan.f, e2, h, h1 k hk]⟩, ⟨K2, fun k hk => by simp [impl_NamedPlan.f, e1, h, h2 k hk]⟩, by omega, .inr (.inl ⟨rfl, by omega, hl.2⟩), fun _ => ⟨fun i => ((sn pn i).length : Int), hlen, hl.2, rfl, fun i hi => ?_, fun i hi => ?_, fun i j hi hj => ?_⟩⟩
  ·have := sn_le pn i
   rw [nm_rd pn (by omega), sn_len]
   by_cases hc : ot pn i = (sn pn i).length
   ·rw [if_pos hc, if_pos (by omega), wr64 (by omega) (by omega)]
    omega
   ·rw [if_neg hc, if_neg (by omega)]
  ·have := ot_le pn i
   rw [nm_rd pn (by omega)]
   omega
  ·rw [nm_rd pn (by omega), nm_rd pn (by omega), ← ot_same]
   omega
theorem big_val (l0 l1 : List Int) : ∃ b, laws_big.f l0 l1 = some b := by
 unfold laws_big.f
 split
 ·exact ⟨_, rfl⟩
 ·exact ⟨_, rfl⟩
theorem lt_pure : LtPure := by
 intro l0 l1 hw0 hw1 hw2 hw3
 have hb0 := byt_of hw1
 have hb1 := byt_of hw3
 obtain ⟨b, hbig⟩ := big_val l0 l1
 cases b with
 | true => exact .inl hbig
 | false =>
  obtain ⟨⟨pl, tr⟩, ⟨Ka, ha⟩, _⟩ := lightest_gv hb0
  obtain ⟨⟨bag, ok⟩, ⟨Kb, hb⟩, ⟨Kc, hc⟩⟩ := LightestBag_both pl tr
  obtain ⟨text, ⟨Kd, hd⟩, ⟨Ke, he⟩, htx⟩ := text_both pl
  obtain ⟨⟨ls, wt⟩, ⟨Kf, hf⟩, _⟩ := letters_gv hb1
  obtain ⟨hs, three, len, ⟨Kg, hg⟩, ⟨Kh, hh⟩, ⟨Ki, hi⟩, ⟨Kj, hj⟩, hsl, hE⟩ := letters_all ls wt
  obtain ⟨pn, ⟨Kk, hk⟩, _⟩ := named_gv hb1
  obtain ⟨q, seven, ⟨Kl, hl⟩, ⟨Km, hm⟩, hql, hsev, hF⟩ := named_all pn
  obtain ⟨s, ⟨Kn, hn⟩, hss⟩ := parse_gv hb1
  obtain ⟨ql, nine, ⟨Ko, ho⟩, ⟨Kp, hp⟩, hqq, hnine⟩ := parse_all s hss
  have hback : ∃ K, okP pl = true → ∀ k, K ≤ k → impl_ParseParcels.f k (bs (txt pl)) = some (pl, true) := by
   by_cases h : okP pl = true
   ·obtain ⟨K, hK⟩ := parse_back h
    exact ⟨K, fun _ => hK⟩
   ·exact ⟨0, fun h2 => absurd h2 h⟩
  obtain ⟨Kq, hq⟩ := hback
  have hagain : ∃ K, nine = true → ∀ k, K ≤ k → impl_ParcelsText.f k ql = some (s, true) := by
   by_cases h : nine = true
   ·obtain ⟨h1, h2⟩ := hnine h
    obtain ⟨t, _, ⟨K, hK⟩, ht⟩ := text_both ql
    rw [ht h1, ← h2, h1] at hK
    exact ⟨K, fun _ => hK⟩
   ·exact ⟨0, fun h2 => absurd h2 h⟩
  obtain ⟨Kr, hr⟩ := hagain
  have hpl : okP pl = true → pl.length ≤ 8 := fun h => (okP_len h).2
  obtain ⟨k, hk0⟩ : ∃ k, k = Ka + Kb + Kc + Kd + Ke + Kf + Kg + Kh + Ki + Kj + Kk + Kl + Km + Kn + Ko + Kp + Kq + Kr + 400000 := ⟨_, rfl⟩
  have hc' : impl_LightestBag.f k pl tr = some (bag, ok) := hc k (by omega)
  have hlf : ok = true → okP pl = true ∧ 1 ≤ bag ∧ bag ≤ 8000 ∧ ∃ few, impl_FewestTrips.f pl bag = some (few, true) ∧ few ≤ tr ∧ ∃ more four, impl_FewestTrips.f pl (bag - 1) = some (more, four) ∧ (1 < bag → four = true → tr < more) := fun h => light_few (k := k) (by omega) (by rw [h] at hc'; exact hc')
  refine .inr ⟨hbig, k, pl, tr, bag, ok, text, okP pl, ⟨ha k (by omega), hc', hb k (by omega), he k (by omega), hd k (by omega), areParcels_val pl, fun h => (hlf h).1⟩, fun h => ?_, fun h => ?_, ls, wt, hs, three, len, pn, q, seven, s, ql, nine, ⟨hf k (by omega), hg k (by omega), hh k (by omega), hi k (by omega), hj k (by omega), hk k (by omega), hm k (by omega), hl k (by omega), hn k (by omega), hp k (by omega), ho k (by omega), aSame_k hs (by omega) k (by omega), aSame_k q (by omega) k (by omega), aParcels_k ql (by omega) k (by omega), hsev⟩, hE k (by omega), hF, fun h => hr h k (by omega)⟩
  ·obtain ⟨_, h1, h2, few, h3, h4, more, four, h5, h6⟩ := hlf h
   exact ⟨few, more, four, h3, h4, h1, fun h => by rw [wr64 (by omega) (by omega)]; exact h5, h6⟩
  ·have h8 := hpl h
   refine ⟨pl, true, ?_, fun _ => rfl, fun _ => aParcels_k pl (by omega) k (by omega)⟩
   rw [htx h]
   exact hq h k (by omega)
end Go.Proofs.YtgdhbkoggfaioaaGreatDoor.Tx
end
section
namespace Go.Proofs.YtgdhbkoggfaioaaGreatDoor.Pure
open Go.RowKit Go.Proofs.YtgdhbkoggfaioaaGreatDoor.G
theorem FnBagsLetters : laws_FnBagsLetters.Pure := Go.Proofs.YtgdhbkoggfaioaaGreatDoor.Tx.lt_pure
end Go.Proofs.YtgdhbkoggfaioaaGreatDoor.Pure
end
section
namespace Go.Proofs.YtgdhbkoggfaioaaGreatDoor.Facts
open Go
set_option maxRecDepth 100000
def signs : List Char := [Char.ofNat 104, Char.ofNat 97, Char.ofNat 114, Char.ofNat 110, Char.ofNat 101, Char.ofNat 115, Char.ofNat 115, Char.ofNat 32, Char.ofNat 53, Char.ofNat 48, Char.ofNat 101, Char.ofNat 51, Char.ofNat 49, Char.ofNat 54, Char.ofNat 98, Char.ofNat 49, Char.ofNat 101, Char.ofNat 101, Char.ofNat 101, Char.ofNat 102, Char.ofNat 50, Char.ofNat 55, Char.ofNat 99, Char.ofNat 51, Char.ofNat 98, Char.ofNat 53, Char.ofNat 98, Char.ofNat 101, Char.ofNat 97, Char.ofNat 100, Char.ofNat 52, Char.ofNat 54, Char.ofNat 101, Char.ofNat 51, Char.ofNat 50, Char.ofNat 97, Char.ofNat 51, Char.ofNat 53, Char.ofNat 101, Char.ofNat 50, Char.ofNat 53, Char.ofNat 98, Char.ofNat 52, Char.ofNat 54, Char.ofNat 98, Char.ofNat 54, Char.ofNat 52, Char.ofNat 55, Char.ofNat 51, Char.ofNat 52, Char.ofNat 100, Char.ofNat 55, Char.ofNat 49, Char.ofNat 51, Char.ofNat 55, Char.ofNat 100, Char.ofNat 56, Char.ofNat 51, Char.ofNat 101, Char.ofNat 50, Char.ofNat 50, Char.ofNat 53, Char.ofNat 102, Char.ofNat 57, Char.ofNat 56, Char.ofNat 57, Char.ofNat 53, Char.ofNat 98, Char.ofNat 50, Char.ofNat 54, Char.ofNat 57, Char.ofNat 53, Char.ofNat 32, Char.ofNat 99, Char.ofNat 117, Char.ofNat 116, Char.ofNat 32, Char.ofNat 97, Char.ofNat 116, Char.ofNat 32, Char.ofNat 108, Char.ofNat 111, Char.ofNat 111, Char.ofNat 112, Char.ofNat 46, Char.ofNat 101, Char.ofNat 120, Char.ofNat 97, Char.ofNat 109, Char.ofNat 112, Char.ofNat 108, Char.ofNat 101, Char.ofNat 47, Char.ofNat 103, Char.ofNat 48, Char.ofNat 49, Char.ofNat 51, Char.ofNat 51, Char.ofNat 54, Char.ofNat 47, Char.ofNat 108, Char.ofNat 97, Char.ofNat 119, Char.ofNat 115, Char.ofNat 46, Char.ofNat 70, Char.ofNat 110, Char.ofNat 66, Char.ofNat 97, Char.ofNat 103, Char.ofNat 115, Char.ofNat 76, Char.ofNat 101, Char.ofNat 116, Char.ofNat 116, Char.ofNat 101, Char.ofNat 114, Char.ofNat 115]
theorem order : Tryz.prog.initOrder = String.ofList signs := by kernel_rfl
theorem orderL : Tryz.prog.initOrder.toList = signs := by rw [order, String.toList_ofList]
def rest : List (List Char) := [[Char.ofNat 97, Char.ofNat 116], [Char.ofNat 108, Char.ofNat 111, Char.ofNat 111, Char.ofNat 112, Char.ofNat 46, Char.ofNat 101, Char.ofNat 120, Char.ofNat 97, Char.ofNat 109, Char.ofNat 112, Char.ofNat 108, Char.ofNat 101, Char.ofNat 47, Char.ofNat 103, Char.ofNat 48, Char.ofNat 49, Char.ofNat 51, Char.ofNat 51, Char.ofNat 54, Char.ofNat 47, Char.ofNat 108, Char.ofNat 97, Char.ofNat 119, Char.ofNat 115, Char.ofNat 46, Char.ofNat 70, Char.ofNat 110, Char.ofNat 66, Char.ofNat 97, Char.ofNat 103, Char.ofNat 115, Char.ofNat 76, Char.ofNat 101, Char.ofNat 116, Char.ofNat 116, Char.ofNat 101, Char.ofNat 114, Char.ofNat 115]]
theorem wordsOf : behindMainWord (wordsSigns signs) = "cut".toList :: rest := by kernel_rfl
theorem mayEnter_of {P : Program} {c : List Char} {r : List (List Char)} (h : behindMainWord (wordsSigns P.initOrder.toList) = c :: r) (hc : c = "cut".toList) (h1 : stripLifts liftWords (c :: r) = ([], c :: r)) (h3 : P.laysLater = false) (h4 : P.bearsReflect = false) (h5 : P.doorFits [] = true) : P.mayEnter = true := by
 unfold Program.mayEnter
 rw [h]
 subst hc
 simp only [h1]
 simp [h3, h4, h5]
theorem make_of {P : Program} {c : List Char} {r : List (List Char)} (h : behindMainWord (wordsSigns P.initOrder.toList) = c :: r) (hc : c = "cut".toList) : P.make = some .cut := by
 unfold Program.make
 rw [h]
 subst hc
 simp
theorem strip : stripLifts liftWords ("cut".toList :: rest) = ([], "cut".toList :: rest) := by kernel_rfl
theorem laysLater : Tryz.prog.laysLater = false := by kernel_rfl
theorem bearsReflect : Tryz.prog.bearsReflect = false := by kernel_rfl
theorem doorFits : Tryz.prog.doorFits [] = true := by kernel_rfl
theorem mayEnter : Tryz.prog.mayEnter = true := mayEnter_of (by rw [orderL]; exact wordsOf) rfl strip laysLater bearsReflect doorFits
theorem lifts : Tryz.prog.liftsFinal = false := by
 unfold Program.liftsFinal Program.headLifts
 rw [orderL, wordsOf]
 kernel_rfl
theorem make : Tryz.prog.make = some .cut := make_of (by rw [orderL]; exact wordsOf) rfl
theorem laidOut : laidOutB Tryz.prog = true := by kernel_rfl
theorem mapsRowed : Go.mapsRowed Tryz.prog = true := by kernel_rfl
theorem stops : Tryz.prog.stops = [] := by kernel_rfl
theorem stopKnobs : Tryz.prog.stopKnobs = [] := by kernel_rfl
theorem stopsHeard : Tryz.prog.stopsHeard = true := by kernel_rfl
theorem plainKeys : Tryz.prog.plainKeys = true := by kernel_rfl
end Go.Proofs.YtgdhbkoggfaioaaGreatDoor.Facts
end
section
namespace Go.Proofs.YtgdhbkoggfaioaaGreatDoor.Open
open Go.RowKit Go.Proofs.YtgdhbkoggfaioaaGreatDoorW.PrintWords Go.Proofs.YtgdhbkoggfaioaaGreatDoorW.PrintLast Go.Proofs.YtgdhbkoggfaioaaGreatDoorW.PrintMore Go.Deep Go.Joins Go.ChangeShapes
variable {P : Program} {t e : TypeId} {α β γ : Type}
def Opens (P : Program) (d : Kd α) (t : TypeId) (wf : α → Prop) : Prop :=
 ∀ {H : Type} (enc : TypeId × Value → H) (w : World) (base : Nat) (spare : Nat → Bool) (held : Bool) (fuel : Nat) (cs : List Value) (x : DataW H × List MemPlace),
  DataW.trod enc P w base spare held fuel t cs = some x → ∃ a : α, d.K w a cs ∧ wf a
theorem slice_eq {a b : Option Addr} {n m c c' : Nat} (h : [Value.slice a n c] = [Value.slice b m c']) : b = a ∧ m = n ∧ c' = c := by
 simp only [List.cons.injEq, Value.slice.injEq, and_true] at h
 exact ⟨h.1.symm, h.2.1.symm, h.2.2.symm⟩
theorem opens_int {k : IntKind} (ht : P.underlying t = some (.int k)) : Opens P (Kd.int k) t (fun n => (Lit.int k n).wf = true) := by
 intro H enc w base spare held fuel cs x h
 obtain ⟨n, rfl, _, hw⟩ := DataW.trod_int ht h
 exact ⟨n, rfl, hw⟩
theorem opens_slice {d : Kd α} {wf : α → Prop} (ht : P.underlying t = some (.slice e)) (hc : P.cellsOf e = d.sz) (h : Opens P d e wf) : Opens P (Kd.slice e d) t (fun xs => xs.length ≤ maxLen ∧ ∀ x ∈ xs, wf x) := by
 intro H enc w base spare held fuel cs x hx
 rcases open_slice ht hx with ⟨rfl, _⟩ | ⟨a, len, cap, m, n, D, Pl, rfl, hb, hl, hm, hmm, rfl, hel⟩
 ·exact ⟨[], ⟨none, 0, rfl, Nat.le_refl _, rfl, by simp, fun h0 => absurd h0 (by simp)⟩, by simp, fun x hx => by cases hx⟩
 ·have hlm : len ≤ m := by rw [hmm]; split <;> omega
  have key : ∀ k, k ≤ len → ∃ xs : List α, xs.length = k ∧ (∀ j p, xs[j]? = some p → ∃ c, c.length = d.sz ∧ d.K w p c ∧ ∀ i u, c[i]? = some u → w.cell? (a.add (j * d.sz + i)) = some u) ∧ ∀ x ∈ xs, wf x := by
   intro k
   induction k with
   | zero => intro _; exact ⟨[], rfl, fun j p hj => by simp at hj, fun x hx => by cases hx⟩
   | succ k ih =>
    intro hk
    obtain ⟨xs, hlen, hxs, hwf⟩ := ih (by omega)
    obtain ⟨cs', hcs, htr⟩ := hel k (by omega)
    obtain ⟨y, hK, hwy⟩ := h enc w base spare held n cs' _ htr
    refine ⟨xs ++ [y], by simp [hlen], fun j p hj => ?_, fun x hx => ?_⟩
    ·rcases Nat.lt_or_ge j xs.length with hjl | hjl
     ·rw [List.getElem?_append_left hjl] at hj
      exact hxs j p hj
     ·have hj' : j = xs.length := by
       have := (List.getElem?_eq_some_iff.1 hj).1
       rw [List.length_append, List.length_singleton] at this
       omega
      subst hj'
      obtain rfl : y = p := by simpa using hj
      refine ⟨cs', d.K_len hK, hK, fun i u hu => ?_⟩
      obtain ⟨_, _, hcell⟩ := World.cells?_some hcs
      have := hcell i (by rw [hc, ← d.K_len hK]; exact (List.getElem?_eq_some_iff.1 hu).1)
      rw [hc, Addr.add_add, hu] at this
      rw [hlen]
      exact this
    ·rcases List.mem_append.1 hx with hx | hx
     ·exact hwf x hx
     ·rw [List.mem_singleton.1 hx]
      exact hwy
  obtain ⟨xs, hlen, hxs, hwf⟩ := key len (Nat.le_refl _)
  have hml : maxLen = 9223372036854775807 := rfl
  exact ⟨xs, ⟨some a, cap, by rw [hlen], by omega, rfl, by omega, fun _ => ⟨a, rfl, hxs⟩⟩, by omega, hwf⟩
end Go.Proofs.YtgdhbkoggfaioaaGreatDoor.Open
end
