/- Texts of this seat's proofs: contracts of its functions and plain laws about them, with no condition beyond those that each theorem states. -/
import Derived.Test.YtmninaoedoonbaaQ778e2bef
import Derived.Test.YtmninaoedoonbaaQa47db134
import Derived.Test.YtmninaoedoonbaaQ4ea981c7
import Derived.Test.YtmninaoedoonbaaQ331824f3
import Derived.Test.YtmninaoedoonbaaQ5865e9cb
import Derived.JoinedOf
import Derived.KernelRfl
import Derived.Test.YtmninaoedoonbaaRows
import Derived.Deep.Slices
import Derived.Deep.Strs
import Derived.Lib.SmallJoins
import Derived.OpenShut
import Derived.ProofKit
set_option maxHeartbeats 8000000
set_option maxRecDepth 100000
section
namespace Go.Proofs.Ytmninaoedoonbaa.Bg
open Go.RowKit Go.Proofs.Ytmninaoedoonbaa.G Go.Proofs.YtmninaoedoonbaaW.PrintWords Go.Proofs.YtmninaoedoonbaaW.PrintLast Go.Proofs.YtmninaoedoonbaaW.PrintMore
theorem rd_app_end (p t : List Int) (x : Int) : rd (p ++ x :: t) (p.length : Int) = x := by simp [rd, List.getD]
theorem plan_at {p t : List Int} {x : Int} (h : Plan (p ++ x :: t)) : 0 ≤ x ∧ x ≤ (cI p p.length : Int) := by
 have := h p.length (by simp)
 rw [rd_app_end, cI_app _ _ _ (Nat.le_refl _)] at this
 exact this
theorem plGo_all {l : List S45} {b : Int} (hl : l.all parcOk = true) (hl8 : l.length ≤ 8) : ∀ (t p ws : List Int), Pre l p ws → p.length + t.length = l.length → Plan (p ++ t) →
  ∃ wq, Pre l (p ++ t) wq ∧ ws.length ≤ wq.length ∧ (∀ u : Nat, u < ws.length → rd ws (u : Int) ≤ rd wq (u : Int)) ∧ ((∀ x ∈ wq, x ≤ b) → p ++ t ∈ plGo l b t.length p ws)
 | [], p, ws, h, hd, hp => by
  rw [List.append_nil]
  exact ⟨ws, h, Nat.le_refl _, fun _ _ => Int.le_refl _, fun _ => by simp [plGo]⟩
 | x :: t, p, ws, h, hd, hp => by
  rw [List.length_cons] at hd
  obtain ⟨x0, x1⟩ := plan_at hp
  rw [← h.len] at x1
  obtain ⟨u, rfl⟩ : ∃ u : Nat, x = (u : Int) := ⟨x.toNat, by omega⟩
  have hu : u ≤ ws.length := by omega
  have hsn := h.snoc hl hl8 (by omega) (t := u) hu
  have hlen : (p ++ [(u : Int)]).length = p.length + 1 := by simp
  have e : p ++ (u : Int) :: t = p ++ [(u : Int)] ++ t := by simp
  rw [e] at hp ⊢
  have hx := wt_range hl (i := p.length) (by omega)
  have hle := h.le
  have hN := bpNext_len ws u (wt l p.length)
  have hu' : u < (bpNext ws u (wt l p.length)).length := by rw [hN]; split <;> omega
  obtain ⟨wq, a1, a2, a3, a4⟩ := plGo_all (b := b) hl hl8 t _ _ hsn (by omega) hp
  refine ⟨wq, a1, by rw [hN] at a2; split at a2 <;> omega, fun v hv => ?_, fun hb => ?_⟩
  ·have hv' : v < (bpNext ws u (wt l p.length)).length := by rw [hN]; split <;> omega
   have h3 := a3 v hv'
   by_cases e2 : v = u
   ·subst e2
    have hm := h.pos _ (rd_mem (a := ws) (n := (v : Int)) (by omega) (by omega))
    rw [bpNext_rd hv, w64 (by omega) (by omega)] at h3
    omega
   ·rw [bpNext_other e2 hv] at h3
    exact h3
  ·rw [List.length_cons]
   simp only [plGo]
   refine plLoop_iff.2 ⟨u, by omega, by omega, ?_, a4 hb⟩
   have h3 := a3 u hu'
   have h4 := hb _ (rd_mem (a := wq) (n := (u : Int)) (by omega) (by omega))
   omega
theorem allP_all {l : List S45} {b : Int} (hl : l.all parcOk = true) (hl8 : l.length ≤ 8) {q : List Int} (hq : Plan q) (hn : q.length = l.length) (hw : ∀ x ∈ wv l q, x ≤ b) : q ∈ allP l b := by
 obtain ⟨wq, a1, _, _, a4⟩ := plGo_all (b := b) hl hl8 q [] [] (Pre.nil l) (by simpa using hn) (by simpa using hq)
 have e : wv l q = wq := by
  unfold wv
  have := a1.wts 9 (by simp; omega)
  rw [List.nil_append] at this
  rw [this]
  rfl
 have h := a4 (by rw [← e]; exact hw)
 rw [List.nil_append, hn] at h
 exact h
def Ahead (a b : List Int) : Prop := ∃ i, i < a.length ∧ i < b.length ∧ a.take i = b.take i ∧ rd a (i : Int) < rd b (i : Int)
theorem plGo_pre {l : List S45} {b : Int} : ∀ (d : Nat) (p ws q : List Int), q ∈ plGo l b d p ws → ∃ t, q = p ++ t ∧ t.length = d
 | 0, p, ws, q, h => by
  simp only [plGo, List.mem_singleton] at h
  exact ⟨[], by rw [h, List.append_nil], rfl⟩
 | d + 1, p, ws, q, h => by
  simp only [plGo] at h
  obtain ⟨u, _, _, _, h⟩ := plLoop_iff.1 h
  obtain ⟨t, rfl, ht⟩ := plGo_pre d _ _ q h
  exact ⟨(u : Int) :: t, by simp, by rw [List.length_cons, ht]⟩
theorem ahead_of {p s t : List Int} {u v : Nat} (h : u < v) : Ahead (p ++ [(u : Int)] ++ s) (p ++ [(v : Int)] ++ t) := by
 refine ⟨p.length, by simp, by simp, by simp, ?_⟩
 have e1 : p ++ [(u : Int)] ++ s = p ++ (u : Int) :: s := by simp
 have e2 : p ++ [(v : Int)] ++ t = p ++ (v : Int) :: t := by simp
 rw [e1, e2, rd_app_end, rd_app_end]
 omega
theorem plLoop_sorted {l : List S45} {b x : Int} {p ws : List Int} {d : Nat} (hs : ∀ p ws, (plGo l b d p ws).Pairwise Ahead) : ∀ m t, (plLoop (plGo l b d) b x p ws m t).Pairwise Ahead
 | 0, _ => by simp [plLoop]
 | m + 1, t => by
  simp only [plLoop]
  rw [List.pairwise_append]
  refine ⟨?_, plLoop_sorted hs m (t + 1), ?_⟩
  ·split
   ·exact hs _ _
   ·exact List.Pairwise.nil
  ·intro q hq r hr
   obtain ⟨u, hu, _, _, hr⟩ := plLoop_iff.1 hr
   split at hq
   ·obtain ⟨s1, rfl, _⟩ := plGo_pre d _ _ q hq
    obtain ⟨s2, rfl, _⟩ := plGo_pre d _ _ r hr
    exact ahead_of (by omega)
   ·cases hq
theorem plGo_sorted {l : List S45} {b : Int} : ∀ (d : Nat) (p ws : List Int), (plGo l b d p ws).Pairwise Ahead
 | 0, p, ws => by simp [plGo]
 | d + 1, p, ws => by
  simp only [plGo]
  exact plLoop_sorted (plGo_sorted d) _ _
theorem allP_sorted (l : List S45) (b : Int) : (allP l b).Pairwise Ahead := plGo_sorted _ _ _
theorem foldB_first (num : List Int → Option Int) (val : List Int → Int) : ∀ (P : List (List Int)) (s s' : BpSt), (∀ p ∈ P, num p = some (val p)) → 1 ≤ s.count → s.count + (P.length : Int) ≤ 1000000000 → foldB num s P = some s' → 1 ≤ s'.count ∧
  ((s'.best = s.best ∧ s'.least = s.least ∧ ∀ p ∈ P, s.least ≤ val p) ∨ ∃ A p B, P = A ++ p :: B ∧ s'.best = p ∧ s'.least = val p ∧ val p < s.least ∧ (∀ q ∈ A, val p < val q) ∧ ∀ q ∈ B, val p ≤ val q)
 | [], s, s', _, hc, _, h => by
  obtain rfl := Option.some.inj h
  exact ⟨hc, .inl ⟨rfl, rfl, fun p hp => (by cases hp)⟩⟩
 | p :: P, s, s', hP, hc, hn, h => by
  have hv := hP p (List.mem_cons_self ..)
  have hr := fun q hq => hP q (List.mem_cons_of_mem _ hq)
  rw [List.length_cons] at hn
  simp only [foldB, bpLeaf] at h
  rw [hv, Option.bind_some] at h
  by_cases hlt : val p < s.least
  ·rw [if_pos (.inr hlt), Option.bind_some] at h
   obtain ⟨c, hh⟩ := foldB_first num val P ⟨val p, 1, p⟩ s' hr (by simp) (by simp; omega) h
   refine ⟨c, .inr ?_⟩
   rcases hh with ⟨a1, a2, a3⟩ | ⟨A, q, B, a1, a2, a3, a4, a5, a6⟩
   ·exact ⟨[], p, P, rfl, a1, a2, hlt, fun q hq => (by cases hq), a3⟩
   ·have a4 : val q < val p := a4
    refine ⟨p :: A, q, B, by rw [a1]; rfl, a2, a3, by omega, fun r hr => ?_, a6⟩
    rcases List.mem_cons.1 hr with rfl | hr
    ·exact a4
    ·exact a5 r hr
  ·rw [if_neg (by omega)] at h
   have go : ∀ s2 : BpSt, s2.best = s.best → s2.least = s.least → 1 ≤ s2.count → s2.count + (P.length : Int) ≤ 1000000000 → foldB num s2 P = some s' → 1 ≤ s'.count ∧
     ((s'.best = s.best ∧ s'.least = s.least ∧ ∀ q ∈ p :: P, s.least ≤ val q) ∨ ∃ A q B, p :: P = A ++ q :: B ∧ s'.best = q ∧ s'.least = val q ∧ val q < s.least ∧ (∀ r ∈ A, val q < val r) ∧ ∀ r ∈ B, val q ≤ val r) := by
    intro s2 e1 e2 c2 n2 h2
    obtain ⟨c, hh⟩ := foldB_first num val P s2 s' hr c2 n2 h2
    refine ⟨c, ?_⟩
    rw [e1, e2] at hh
    rcases hh with ⟨a1, a2, a3⟩ | ⟨A, q, B, a1, a2, a3, a4, a5, a6⟩
    ·refine .inl ⟨a1, a2, fun q hq => ?_⟩
     rcases List.mem_cons.1 hq with rfl | hq
     ·omega
     ·exact a3 q hq
    ·refine .inr ⟨p :: A, q, B, by rw [a1]; rfl, a2, a3, a4, fun r hr => ?_, a6⟩
     rcases List.mem_cons.1 hr with rfl | hr
     ·omega
     ·exact a5 r hr
   by_cases he : val p = s.least
   ·have e : wrap64 (s.count + 1) = s.count + 1 := w64 (by omega) (by omega)
    rw [if_pos he, Option.bind_some, e] at h
    exact go ⟨s.least, s.count + 1, s.best⟩ rfl rfl (by simp; omega) (by simp; omega) h
   ·rw [if_neg he, Option.bind_some] at h
    exact go s rfl rfl hc (by omega) h
theorem best_first {num : List Int → Option Int} {val : List Int → Int} {l : List S45} {b : Int} (h : Fit l b) (hv : ∀ p ∈ allP l b, num p = some (val p)) :
  ∃ s : BpSt, bpGo num l b l.length [] [] ⟨0, 0, []⟩ = some s ∧ 1 ≤ s.count ∧ s.best ∈ allP l b ∧ s.least = val s.best ∧ (∀ q ∈ allP l b, s.least ≤ val q) ∧ ∀ q ∈ allP l b, val q = s.least → q = s.best ∨ Ahead s.best q := by
 obtain ⟨p, P, hP⟩ := allP_ne h
 have hlen := allP_len h
 have hso := allP_sorted l b
 rw [hP] at hv hlen hso ⊢
 rw [List.length_cons] at hlen
 obtain ⟨s, f1⟩ := foldB_some num val (p :: P) ⟨0, 0, []⟩ hv
 refine ⟨s, by rw [bpGo_fold]; show foldB _ _ (allP l b) = _; rw [hP]; exact f1, ?_⟩
 simp only [foldB, bpLeaf] at f1
 rw [hv p (List.mem_cons_self ..), Option.bind_some, if_pos (by simp), Option.bind_some] at f1
 obtain ⟨c, hh⟩ := foldB_first num val P ⟨val p, 1, p⟩ s (fun q hq => hv q (List.mem_cons_of_mem _ hq)) (by simp) (by simp; omega) f1
 refine ⟨c, ?_⟩
 obtain ⟨s1, s2⟩ := List.pairwise_cons.1 hso
 rcases hh with ⟨a1, a2, a3⟩ | ⟨A, q, B, a1, a2, a3, a4, a5, a6⟩
 ·have a1 : s.best = p := a1
  have a2 : s.least = val p := a2
  have a3 : ∀ q ∈ P, val p ≤ val q := a3
  rw [a1, a2]
  refine ⟨List.mem_cons_self .., rfl, fun q hq => ?_, fun q hq _ => ?_⟩
  ·rcases List.mem_cons.1 hq with rfl | hq
   ·exact Int.le_refl _
   ·exact a3 q hq
  ·rcases List.mem_cons.1 hq with rfl | hq
   ·exact .inl rfl
   ·exact .inr (s1 q hq)
 ·have a4 : val q < val p := a4
  subst a1
  rw [a2, a3]
  have hmem : ∀ r, r ∈ p :: (A ++ q :: B) → r = p ∨ r ∈ A ∨ r = q ∨ r ∈ B := fun r hr => by
   rcases List.mem_cons.1 hr with rfl | hr
   ·exact .inl rfl
   ·rcases List.mem_append.1 hr with hr | hr
    ·exact .inr (.inl hr)
    ·rcases List.mem_cons.1 hr with rfl | hr
     ·exact .inr (.inr (.inl rfl))
     ·exact .inr (.inr (.inr hr))
  obtain ⟨_, s3, _⟩ := List.pairwise_append.1 s2
  obtain ⟨s4, _⟩ := List.pairwise_cons.1 s3
  refine ⟨List.mem_cons_of_mem _ (List.mem_append_right _ (List.mem_cons_self ..)), rfl, fun r hr => ?_, fun r hr he => ?_⟩
  ·rcases hmem r hr with rfl | hr | rfl | hr
   ·omega
   ·have := a5 r hr
    omega
   ·exact Int.le_refl _
   ·exact a6 r hr
  ·rcases hmem r hr with rfl | hr | rfl | hr
   ·omega
   ·have := a5 r hr
    omega
   ·exact .inl rfl
   ·exact .inr (s4 r hr)
end Go.Proofs.Ytmninaoedoonbaa.Bg
end
section
namespace Go.Proofs.Ytmninaoedoonbaa.Bg
open Go.RowKit Go.Proofs.Ytmninaoedoonbaa.G Go.Proofs.YtmninaoedoonbaaW.PrintWords Go.Proofs.YtmninaoedoonbaaW.PrintLast Go.Proofs.YtmninaoedoonbaaW.PrintMore
def ft (w : Int) (room : List Int) : Nat := room.findIdx fun x => decide (x ≥ w)
theorem ft_le (w : Int) (room : List Int) : ft w room ≤ room.length := List.findIdx_le_length
theorem ft_at {w : Int} {room : List Int} : ∀ (h : ft w room < room.length), w ≤ room[ft w room] := by
 unfold ft
 intro h
 have := List.findIdx_getElem (w := h)
 simpa using this
theorem ft_before {w : Int} {room : List Int} {t : Nat} (h : t < ft w room) (ht : t < room.length) : room[t] < w := by
 unfold ft at h
 have := List.not_of_lt_findIdx h
 simpa using this
theorem fidx_ft (w : Int) (room : List Int) : Fun.fidx (fun x => decide (x ≥ w)) room = if ft w room < room.length then (ft w room : Int) else -1 := by
 unfold Fun.fidx ft
 cases h : room.findIdx? (fun x => decide (x ≥ w)) with
 | none =>
  have e : room.findIdx (fun x => decide (x ≥ w)) = room.length := by
   rw [List.findIdx_eq_length]
   rw [List.findIdx?_eq_none_iff] at h
   exact h
  rw [if_neg (by omega)]
 | some i =>
  rw [List.findIdx?_eq_some_iff_getElem] at h
  obtain ⟨hi, hp, hlt⟩ := h
  have e : room.findIdx (fun x => decide (x ≥ w)) = i := by
   rw [List.findIdx_eq hi]
   exact ⟨hp, fun j hj => by have := hlt j hj; simpa using this⟩
  rw [if_pos (by omega), e]
def wtI (l : List S45) (i : Int) : Int := (rd_T45 l i).f1
def roomNext (bag w : Int) (room : List Int) : List Int := (if ft w room < room.length then room else room ++ [bag]).set (ft w room) (wrap64 (rd (if ft w room < room.length then room else room ++ [bag]) (ft w room : Int) - w))
theorem roomNext_len (bag w : Int) (room : List Int) : (roomNext bag w room).length = if ft w room < room.length then room.length else room.length + 1 := by
 unfold roomNext
 rw [List.length_set]
 split <;> simp
def pk2 (l : List S45) (bag : Int) : List Int → List Int → List Int → List Int
 | [], _, plan => plan
 | i :: r, room, plan => pk2 l bag r (roomNext bag (wtI l i) room) (plan.set i.toNat (ft (wtI l i) room : Int))
theorem pk2_len (l : List S45) (bag : Int) : ∀ (o room plan : List Int), (pk2 l bag o room plan).length = plan.length
 | [], _, _ => rfl
 | i :: o, room, plan => by
  simp only [pk2]
  rw [pk2_len l bag o, List.length_set]
theorem pkGo_val (l : List S45) (bag : Int) : ∀ (o room plan : List Int), (∀ i ∈ o, 0 ≤ i ∧ i < (l.length : Int)) → plan.length = l.length → room.length + o.length ≤ 1000 → pkGo l bag o room plan = some (pk2 l bag o room plan)
 | [], _, _, _, _, _ => rfl
 | i :: o, room, plan, ho, hp, hr => by
  have hi := ho i (List.mem_cons_self ..)
  rw [List.length_cons] at hr
  have hle := ft_le (wtI l i) room
  have hrest := fun q hq => ho q (List.mem_cons_of_mem _ hq)
  have e : Fun.fidx (fun x => decide (x ≥ (rd_T45 l i).f1)) room = if ft (wtI l i) room < room.length then (ft (wtI l i) room : Int) else -1 := fidx_ft _ _
  simp only [pkGo, pk2]
  rw [if_pos ⟨hi.1, hi.2, by omega, by omega⟩, e]
  by_cases h : ft (wtI l i) room < room.length
  ·rw [if_pos h, if_neg (by omega), Int.toNat_natCast]
   have := pkGo_val l bag o (roomNext bag (wtI l i) room) (plan.set i.toNat (ft (wtI l i) room : Int)) hrest (by rw [List.length_set]; exact hp) (by rw [roomNext_len, if_pos h]; omega)
   rw [← this]
   unfold roomNext
   rw [if_pos h]
   rfl
  ·have h2 : ft (wtI l i) room = room.length := by omega
   rw [if_neg h, if_pos (by decide)]
   have := pkGo_val l bag o (roomNext bag (wtI l i) room) (plan.set i.toNat (ft (wtI l i) room : Int)) hrest (by rw [List.length_set]; exact hp) (by rw [roomNext_len, if_neg h]; omega)
   rw [← this]
   unfold roomNext
   rw [if_neg h, h2]
   rfl
theorem next_val (t : Nat) (h : t ≤ 1000000) : wrap64 ((t : Int) + 1) = ((t + 1 : Nat) : Int) := by
 rw [w64 (by omega) (by omega)]
 rfl
theorem bgPack_step (k : Nat) (l : List S45) (bag : Int) (plan room : List Int) (i : Int) (hi : 0 ≤ i ∧ i < (l.length : Int)) (t : Nat) (ht : t < room.length) (hno : rd room (t : Int) < (rd_T45 l i).f1) (O : List Int) (n j : Int) (e3 : wrap64 ((t : Int) + 1) = ((t + 1 : Nat) : Int)) :
  spec_bgPack.l1 (k + 1) l bag plan room i (t : Int) O n j = spec_bgPack.l1 k l bag plan room i ((t + 1 : Nat) : Int) O n j := by
 have h1 : (t : Int) < (room.length : Int) := by omega
 have h2 : 0 ≤ (t : Int) := by omega
 rw [spec_bgPack.l1, if_pos h1, if_pos h2, if_pos hi.1, if_pos hi.2, if_pos hno, e3]
theorem bgPack_l1 (l : List S45) (bag : Int) (O : List Int) (j : Nat) (i : Int) (hi : 0 ≤ i ∧ i < (l.length : Int)) (plan room : List Int) (hp : plan.length = l.length) (hr : room.length ≤ 1000) (hj : (j : Int) ≤ 1000000) : ∀ (d t k : Nat), t + d = ft (wtI l i) room →
  spec_bgPack.l1 (k + d + 1) l bag plan room i (t : Int) O (O.length : Int) (j : Int) = spec_bgPack.l0 k l bag (plan.set i.toNat (ft (wtI l i) room : Int)) (roomNext bag (wtI l i) room) O (O.length : Int) ((j + 1 : Nat) : Int) := by
 have hle := ft_le (wtI l i) room
 have e2 : wrap64 ((j : Int) + 1) = ((j + 1 : Nat) : Int) := by rw [w64 (by omega) (by omega)]; rfl
 intro d
 induction d with
 | zero =>
  intro t k ht
  obtain rfl : t = ft (wtI l i) room := by omega
  by_cases h : ft (wtI l i) room < room.length
  ·have hhit : ¬ (rd room (ft (wtI l i) room : Int) < (rd_T45 l i).f1) := by
    rw [rd_get h]
    have h3 := ft_at h
    have h4 : wtI l i = (rd_T45 l i).f1 := rfl
    omega
   rw [spec_bgPack.l1, if_pos (by omega), if_pos (by omega), if_pos hi.1, if_pos hi.2, if_neg hhit, if_neg (by omega), if_pos (by omega), e2]
   unfold roomNext
   rw [if_pos h, Int.toNat_natCast]
   rfl
  ·have h2 : ft (wtI l i) room = room.length := by omega
   rw [spec_bgPack.l1, if_neg (by omega), if_pos (by omega), if_pos (by omega), Option.bind_some, if_pos (by omega), if_pos (by rw [List.length_append, List.length_singleton]; omega), if_pos hi.1, if_pos hi.2, if_pos (by omega), e2]
   unfold roomNext
   rw [if_neg h, Int.toNat_natCast]
   rfl
 | succ d ih =>
  intro t k ht
  have hlt : t < room.length := by omega
  have hno : rd room (t : Int) < (rd_T45 l i).f1 := by
   rw [rd_get hlt]
   have h3 := ft_before (w := wtI l i) (room := room) (t := t) (by omega) hlt
   have h4 : wtI l i = (rd_T45 l i).f1 := rfl
   omega
  have e3 := next_val t (by omega)
  have h5 := bgPack_step (k + d + 1) l bag plan room i hi t hlt hno O (O.length : Int) (j : Int) e3
  have h6 := ih (t + 1) k (by omega)
  rw [← h5] at h6
  exact h6
theorem bgPack_l0 (l : List S45) (bag : Int) (O : List Int) (hl : l.length ≤ 8) (hO : ∀ i ∈ O, 0 ≤ i ∧ i < (l.length : Int)) (hOl : O.length ≤ 8) : ∀ (d j : Nat) (room plan : List Int), j + d = O.length → plan.length = l.length → room.length ≤ j → ∃ K, ∀ k, K ≤ k → spec_bgPack.l0 k l bag plan room O (O.length : Int) (j : Int) = some (nm (pk2 l bag (O.drop j) room plan)) := by
 intro d
 induction d with
 | zero =>
  intro j room plan hj hp hr
  obtain ⟨K, hK⟩ := bgNamed_ev plan (by omega)
  have hK : ∀ k, K ≤ k → spec_bgNamed.f k plan = some (nm plan) := hK
  refine ⟨K + 1, fun k hk => ?_⟩
  obtain ⟨k, rfl⟩ : ∃ m, k = m + 1 := ⟨k - 1, by omega⟩
  rw [spec_bgPack.l0, if_neg (by omega), hK k (by omega), Option.bind_some, List.drop_eq_nil_of_le (by omega)]
  rfl
 | succ d ih =>
  intro j room plan hj hp hr
  have hjO : j < O.length := by omega
  have hi := hO O[j] (List.getElem_mem hjO)
  have hle := ft_le (wtI l O[j]) room
  obtain ⟨K, hK⟩ := ih (j + 1) (roomNext bag (wtI l O[j]) room) (plan.set O[j].toNat (ft (wtI l O[j]) room : Int)) (by omega) (by rw [List.length_set]; exact hp) (by rw [roomNext_len]; split <;> omega)
  refine ⟨K + 1 + ft (wtI l O[j]) room + 1, fun k hk => ?_⟩
  obtain ⟨m, rfl⟩ : ∃ m, k = (m + ft (wtI l O[j]) room + 1) + 1 := ⟨k - ft (wtI l O[j]) room - 2, by omega⟩
  have h1 := bgPack_l1 l bag O j O[j] hi plan room hp (by omega) (by omega) (ft (wtI l O[j]) room) 0 m (Nat.zero_add _)
  rw [show ((0 : Nat) : Int) = 0 from rfl] at h1
  rw [spec_bgPack.l0, if_pos (by omega), if_pos (by omega), if_pos (by omega), rd_get hjO, h1, hK m (by omega), List.drop_eq_getElem_cons hjO]
  rfl
theorem packed_val (l : List S45) (bag : Int) (O : List Int) (h1 : 1 ≤ l.length) (hl : l.length ≤ 8) (hO : ∀ i ∈ O, 0 ≤ i ∧ i < (l.length : Int)) (hOl : O.length ≤ 8) : impl_packed.f l bag O = some (pk2 l bag O [] (List.replicate l.length 0)) ∧ Ev (fun k => spec_bgPack.f k l bag O) (nm (pk2 l bag O [] (List.replicate l.length 0))) := by
 refine ⟨?_, ?_⟩
 ·unfold impl_packed.f
  rw [if_pos ⟨h1, by omega, by omega⟩]
  exact pkGo_val l bag O [] _ hO (by simp) (by simp; omega)
 ·obtain ⟨K, hK⟩ := bgPack_l0 l bag O hl hO hOl O.length 0 [] (List.replicate l.length 0) (Nat.zero_add _) (by simp) (by simp)
  refine ⟨K, fun k hk => ?_⟩
  show spec_bgPack.f k l bag O = _
  unfold spec_bgPack.f
  rw [if_pos (by omega), if_pos (by omega), Int.toNat_natCast]
  exact hK k hk
theorem plan_nm {p : List Int} (h : Plan p) : nm p = p := by
 have key : ∀ d i, i + d = p.length → nmGo (line 0 (cI p i)) (p.take i) (p.drop i) = p := by
  intro d
  induction d with
  | zero =>
   intro i hi
   rw [List.drop_eq_nil_of_le (by omega), List.take_of_length_le (by omega)]
   rfl
  | succ d ih =>
   intro i hi
   have hp := h i (by omega)
   rw [rd_get (by omega)] at hp
   rw [List.drop_eq_getElem_cons (by omega)]
   simp only [nmGo]
   rw [line_len]
   obtain ⟨n, hn⟩ := Int.eq_ofNat_of_zero_le hp.1
   have hnc : n ≤ cI p i := by omega
   by_cases e : n = cI p i
   ·have hix : ix (line 0 (cI p i)) p[i] = cI p i := by
     have := ix_miss (l := line 0 (cI p i)) (n := p[i]) (fun m hm => by
      have hm2 : m < cI p i := by rwa [line_len] at hm
      have := line_get 0 (cI p i) m hm2
      rw [List.getElem?_eq_getElem hm] at this
      have := Option.some.inj this
      omega)
     rwa [line_len] at this
    have hc : cI p (i + 1) = cI p i + 1 := by
     simp only [cI]
     rw [rd_get (by omega), if_pos (by omega)]
    rw [hix, if_pos rfl]
    have := ih (i + 1) (by omega)
    rw [hc, line_snoc, List.take_succ_eq_append_getElem (by omega), hn, e, Nat.zero_add] at this
    rw [hn, e]
    exact this
   ·have hlen : n < (line 0 (cI p i)).length := by rw [line_len]; omega
    have hix : ix (line 0 (cI p i)) p[i] = n := ix_hit hlen (by
      have := line_get 0 (cI p i) n (by omega)
      rw [List.getElem?_eq_getElem hlen] at this
      have := Option.some.inj this
      omega) (fun m hm hmn => by
      have := line_get 0 (cI p i) m (by omega)
      rw [List.getElem?_eq_getElem hm] at this
      have := Option.some.inj this
      omega)
    have hc : cI p (i + 1) = cI p i := by
     simp only [cI]
     rw [rd_get (by omega), if_neg (by omega)]
    rw [hix, if_neg e]
    have := ih (i + 1) (by omega)
    rw [hc, List.take_succ_eq_append_getElem (by omega), hn] at this
    exact this
 have := key p.length 0 (by omega)
 simpa [nm, cI, line] using this
theorem cI_app' (p q : List Int) : ∀ i, i ≤ p.length → cI (p ++ q) i = cI p i
 | 0, _ => rfl
 | i + 1, h => by
  simp only [cI]
  rw [cI_app' p q i (by omega), rd_left (by omega) (by omega)]
theorem pk2_line (l : List S45) (bag : Int) (n : Nat) : ∀ (d i : Nat) (room ts : List Int), i + d = n → ts.length = i → Plan ts → room.length = cI ts i → ∃ P, pk2 l bag ((line 0 n).drop i) room (ts ++ List.replicate d 0) = P ∧ Plan P ∧ P.length = n := by
 intro d
 induction d with
 | zero =>
  intro i room ts hi ht hp hr
  rw [List.drop_eq_nil_of_le (by rw [line_len]; omega)]
  exact ⟨_, rfl, by simpa [pk2] using hp, by simp [pk2]; omega⟩
 | succ d ih =>
  intro i room ts hi ht hp hr
  have hin : i < (line 0 n).length := by rw [line_len]; omega
  have hg : (line 0 n)[i] = (i : Int) := by
   have := line_get 0 n i (by omega)
   rw [List.getElem?_eq_getElem hin] at this
   have := Option.some.inj this
   omega
  rw [List.drop_eq_getElem_cons hin, hg]
  simp only [pk2]
  have hle := ft_le (wtI l (i : Int)) room
  have hlast : rd (ts ++ [(ft (wtI l (i : Int)) room : Int)]) (i : Int) = (ft (wtI l (i : Int)) room : Int) := by
   subst ht
   simp [rd, List.getD]
  have hpre : cI (ts ++ [(ft (wtI l (i : Int)) room : Int)]) i = cI ts i := cI_app' _ _ _ (by omega)
  rw [Int.toNat_natCast, set_at ts i d _ ht]
  refine ih (i + 1) (roomNext bag (wtI l (i : Int)) room) (ts ++ [(ft (wtI l (i : Int)) room : Int)]) (by omega) (by simp; omega) (fun j hj => ?_) ?_
  ·rw [List.length_append, List.length_singleton] at hj
   by_cases e : j = i
   ·subst e
    rw [hlast, hpre]
    omega
   ·rw [rd_left (by omega) (by omega), cI_app' _ _ _ (by omega)]
    exact hp j (by omega)
  ·rw [roomNext_len]
   simp only [cI]
   rw [hlast, hpre]
   split <;> split <;> omega
theorem own_val (x : List Int) (h : x.length ≤ 1000) : spec_l1Own.f x = some x := by
 unfold spec_l1Own.f
 rw [Option.bind_some, if_pos (by simp; omega), List.nil_append]
theorem order_line (l : List S45) (hl : l.length ≤ 8) : ∀ (d i k : Nat), i + d = l.length → 2 * d < k → spec_bgOrder.l0 k l false (line 0 i) l (l.length : Int) (i : Int) = some (line 0 l.length) := by
 intro d
 induction d with
 | zero =>
  intro i k hi hk
  obtain ⟨k, rfl⟩ : ∃ m, k = m + 1 := ⟨k - 1, by omega⟩
  rw [spec_bgOrder.l0, if_neg (by omega), show i = l.length by omega]
 | succ d ih =>
  intro i k hi hk
  obtain ⟨k, rfl⟩ : ∃ m, k = m + 2 := ⟨k - 2, by omega⟩
  have e : wrap64 ((i : Int) + 1) = ((i + 1 : Nat) : Int) := by rw [w64 (by omega) (by omega)]; rfl
  have hll := line_len 0 i
  rw [spec_bgOrder.l0, if_pos (by omega), if_pos (by omega), if_pos (by omega), spec_bgOrder.l1, if_neg (by decide), if_pos (by omega), if_pos (Int.le_refl _), hll, Int.toNat_natCast, List.take_of_length_le (by omega), own_val _ (by omega), Option.bind_some, if_pos (by omega), Option.bind_some, Option.bind_some, List.drop_eq_nil_of_le (by omega), if_pos (by simp; omega), e, List.append_nil]
  have := ih (i + 1) k (by omega) (by omega)
  rw [line_snoc, Nat.zero_add] at this
  exact this
theorem pack_l0 (l : List S45) (bag : Int) (n : Nat) (hn : n ≤ 1000) : ∀ (d i k : Nat), i + d = n → d < k → impl_PackInOrder.l0 k l bag (line 0 i ++ List.replicate d 0) (n : Int) (i : Int) = (impl_packed.f l bag (line 0 n)).bind fun t => some (t, true) := by
 intro d
 induction d with
 | zero =>
  intro i k hi hk
  obtain ⟨k, rfl⟩ : ∃ m, k = m + 1 := ⟨k - 1, by omega⟩
  rw [impl_PackInOrder.l0, if_neg (by omega), show i = n by omega]
  simp
 | succ d ih =>
  intro i k hi hk
  obtain ⟨k, rfl⟩ : ∃ m, k = m + 1 := ⟨k - 1, by omega⟩
  have e : wrap64 ((i : Int) + 1) = ((i + 1 : Nat) : Int) := by rw [w64 (by omega) (by omega)]; rfl
  rw [impl_PackInOrder.l0, if_pos (by omega), if_pos (by omega), if_pos (by rw [List.length_append, line_len, List.length_replicate]; omega), e, Int.toNat_natCast, set_at (line 0 i) i d _ (line_len 0 i)]
  have := ih (i + 1) k (by omega) (by omega)
  rw [line_snoc, Nat.zero_add] at this
  exact this
theorem line_mem {n : Nat} {x : Int} (h : x ∈ line 0 n) : 0 ≤ x ∧ x < (n : Int) := by
 unfold line at h
 simp only [List.mem_map, List.mem_range] at h
 obtain ⟨j, hj, rfl⟩ := h
 omega
theorem PackInOrder_both (l : List S45) (b : Int) : ∃ v : List Int × Bool, Ev (fun k => spec_PackInOrder.f k l b) v ∧ Ev (fun k => impl_PackInOrder.f k l b) v ∧ v.1.length ≤ 1000 := by
 obtain ⟨K, h⟩ := bgAsked_ev l b
 have h : ∀ k, K ≤ k → spec_bgAsked.f k l b = some (fits l b) := h
 cases hf : fits l b with
 | false => exact ⟨([], false), ⟨K, fun k hk => by simp [spec_PackInOrder.f, h k hk, hf]⟩, ⟨0, fun k _ => by simp [impl_PackInOrder.f, fitBag_val, hf]⟩, by simp⟩
 | true =>
  obtain ⟨h1, h8, _, _, _⟩ := fits_facts hf
  obtain ⟨e1, K2, e2⟩ := packed_val l b (line 0 l.length) h1 h8 (fun i hi => line_mem hi) (by rw [line_len]; exact h8)
  have e2 : ∀ k, K2 ≤ k → spec_bgPack.f k l b (line 0 l.length) = some _ := e2
  obtain ⟨P, hP, hPl, hPn⟩ := pk2_line l b l.length l.length 0 [] [] (Nat.zero_add _) rfl (fun i hi => absurd hi (Nat.not_lt_zero _)) rfl
  rw [List.drop_zero, List.nil_append] at hP
  rw [hP, plan_nm hPl] at e2
  rw [hP] at e1
  refine ⟨(P, true), ⟨K + K2 + 100, fun k hk => ?_⟩, ⟨20, fun k hk => ?_⟩, by simp; omega⟩
  ·show spec_PackInOrder.f k l b = _
   unfold spec_PackInOrder.f
   have ho : spec_bgOrder.f k l false = some (line 0 l.length) := order_line l h8 l.length 0 k (Nat.zero_add _) (by omega)
   rw [h k (by omega), hf, Option.bind_some, if_pos rfl, ho, Option.bind_some, e2 k (by omega), Option.bind_some]
  ·show impl_PackInOrder.f k l b = _
   unfold impl_PackInOrder.f
   have := pack_l0 l b l.length (by omega) l.length 0 k (Nat.zero_add _) (by omega)
   rw [show line 0 0 = [] from rfl, List.nil_append] at this
   rw [fitBag_val, hf, Option.bind_some, if_pos rfl, if_pos (by omega), if_pos (by omega), Option.bind_some, Int.toNat_natCast, List.length_replicate]
   rw [show ((0 : Nat) : Int) = 0 from rfl] at this
   rw [this, e1, Option.bind_some]
end Go.Proofs.Ytmninaoedoonbaa.Bg
end
section
namespace Go.Proofs.Ytmninaoedoonbaa.Bg
open Go.RowKit Go.Proofs.Ytmninaoedoonbaa.G Go.Proofs.YtmninaoedoonbaaW.PrintWords Go.Proofs.YtmninaoedoonbaaW.PrintLast Go.Proofs.YtmninaoedoonbaaW.PrintMore
def sn (p : List Int) : Nat → List Int
 | 0 => []
 | i + 1 => if ix (sn p i) (rd p (i : Int)) = (sn p i).length then sn p i ++ [rd p (i : Int)] else sn p i
def ot (p : List Int) (i : Nat) : Nat := ix (sn p i) (rd p (i : Int))
theorem nm_go (p : List Int) : ∀ (d i : Nat), i + d = p.length → nmGo (sn p i) ((List.range i).map fun j => (ot p j : Int)) (p.drop i) = (List.range p.length).map fun j => (ot p j : Int)
 | 0, i, h => by
  obtain rfl : i = p.length := by omega
  rw [List.drop_length]
  rfl
 | d + 1, i, h => by
  have hx : p[i]? = some p[i] := List.getElem?_eq_getElem (by omega)
  have hrd : rd p (i : Int) = p[i] := by simp [rd, List.getD, hx]
  rw [List.drop_eq_getElem_cons (by omega : i < p.length)]
  have hr := nm_go p d (i + 1) (by omega)
  rw [List.range_succ, List.map_append, List.map_singleton] at hr
  unfold nmGo
  rw [← hrd]
  by_cases hc : ix (sn p i) (rd p (i : Int)) = (sn p i).length
  ·rw [if_pos hc]
   simp only [sn] at hr
   rw [if_pos hc] at hr
   exact hr
  ·rw [if_neg hc]
   simp only [sn] at hr
   rw [if_neg hc] at hr
   exact hr
theorem nm_is (p : List Int) : nm p = (List.range p.length).map fun j => (ot p j : Int) := nm_go p p.length 0 (Nat.zero_add _)
theorem nm_rd (p : List Int) {i : Nat} (h : i < p.length) : rd (nm p) (i : Int) = (ot p i : Int) := by
 rw [nm_is]
 simp [rd, List.getD, h]
theorem ix_at {l : List Int} {n : Int} (h : ix l n < l.length) : l[ix l n]? = some n := by
 have h2 := List.findIdx_getElem (xs := l) (p := fun y => decide (n = y)) (w := h)
 rw [List.getElem?_eq_getElem h]
 simp only [decide_eq_true_eq] at h2
 exact congrArg some h2.symm
theorem ix_app (l r : List Int) (n : Int) (h : ix l n < l.length) : ix (l ++ r) n = ix l n := by
 unfold ix at h ⊢
 rw [List.findIdx_append, if_pos h]
theorem ix_new (l : List Int) (n : Int) (h : ix l n = l.length) : ix (l ++ [n]) n = l.length := by
 unfold ix at h ⊢
 rw [List.findIdx_append, if_neg (by omega)]
 simp
theorem sn_ext (p : List Int) (i : Nat) : ∀ d, ∃ r, sn p (i + d) = sn p i ++ r
 | 0 => ⟨[], by simp⟩
 | d + 1 => by
  obtain ⟨r, hr⟩ := sn_ext p i d
  show ∃ r, sn p (i + d + 1) = _
  simp only [sn]
  split
  ·exact ⟨r ++ [rd p ((i + d : Nat) : Int)], by rw [hr, List.append_assoc]⟩
  ·exact ⟨r, hr⟩
theorem sn_now (p : List Int) (i : Nat) : ix (sn p (i + 1)) (rd p (i : Int)) = ot p i ∧ ot p i < (sn p (i + 1)).length := by
 unfold ot
 simp only [sn]
 by_cases hc : ix (sn p i) (rd p (i : Int)) = (sn p i).length
 ·rw [if_pos hc, ix_new _ _ hc, hc]
  exact ⟨rfl, by simp⟩
 ·rw [if_neg hc]
  exact ⟨rfl, by have := ix_le (sn p i) (rd p (i : Int)); omega⟩
theorem sn_later (p : List Int) (i d : Nat) : ix (sn p (i + 1 + d)) (rd p (i : Int)) = ot p i ∧ ot p i < (sn p (i + 1 + d)).length := by
 obtain ⟨r, hr⟩ := sn_ext p (i + 1) d
 obtain ⟨h1, h2⟩ := sn_now p i
 rw [hr, ix_app _ _ _ (by omega), h1]
 exact ⟨rfl, by rw [List.length_append]; omega⟩
theorem ot_le (p : List Int) (i : Nat) : ot p i ≤ (sn p i).length := ix_le _ _
theorem sn_len (p : List Int) (i : Nat) : (sn p (i + 1)).length = if ot p i = (sn p i).length then (sn p i).length + 1 else (sn p i).length := by
 show (if ix (sn p i) (rd p (i : Int)) = (sn p i).length then sn p i ++ [rd p (i : Int)] else sn p i).length = _
 unfold ot
 split
 ·simp
 ·rfl
theorem ot_same (p : List Int) (i j : Nat) : ot p i = ot p j ↔ rd p (i : Int) = rd p (j : Int) := by
 have key : ∀ (i d : Nat), rd p (i : Int) = rd p ((i + 1 + d : Nat) : Int) → ot p (i + 1 + d) = ot p i := fun i d h => by
  have := (sn_later p i d).1
  rw [h] at this
  exact this
 have hat : ∀ i M, i < M → (sn p M)[ot p i]? = some (rd p (i : Int)) := fun i M h => by
  obtain ⟨d, rfl⟩ : ∃ d, M = i + 1 + d := ⟨M - (i + 1), by omega⟩
  obtain ⟨h1, h2⟩ := sn_later p i d
  have := ix_at (l := sn p (i + 1 + d)) (n := rd p (i : Int)) (by omega)
  rwa [h1] at this
 constructor
 ·intro h
  have h1 := hat i (i + j + 1) (by omega)
  have h2 := hat j (i + j + 1) (by omega)
  rw [h, h2] at h1
  exact (Option.some.inj h1).symm
 ·intro h
  rcases Nat.lt_trichotomy i j with hl | hl | hl
  ·obtain ⟨d, rfl⟩ : ∃ d, j = i + 1 + d := ⟨j - (i + 1), by omega⟩
   exact (key i d h).symm
  ·rw [hl]
  ·obtain ⟨d, rfl⟩ : ∃ d, i = j + 1 + d := ⟨i - (j + 1), by omega⟩
   exact key j d h.symm
end Go.Proofs.Ytmninaoedoonbaa.Bg
end
section
namespace Go.Proofs.Ytmninaoedoonbaa.Bg
open Go.RowKit Go.Proofs.Ytmninaoedoonbaa.G Go.Proofs.YtmninaoedoonbaaW.PrintWords Go.Proofs.YtmninaoedoonbaaW.PrintLast Go.Proofs.YtmninaoedoonbaaW.PrintMore
def sW (l : List S45) (q : List Int) (v : Int) : Nat → Int
 | 0 => 0
 | i + 1 => sW l q v i + (if rd q (i : Int) = v then wt l i else 0)
theorem pre_sum {l : List S45} (hl : l.all parcOk = true) (hl8 : l.length ≤ 8) {q : List Int} (hq : Plan q) (hn : q.length ≤ l.length) : ∀ i, i ≤ q.length →
  ∃ ws, Pre l (q.take i) ws ∧ ∀ j : Nat, (j < ws.length → rd ws (j : Int) = sW l q (j : Int) i) ∧ (ws.length ≤ j → sW l q (j : Int) i = 0)
 | 0, _ => ⟨[], Pre.nil l, fun j => ⟨fun h => absurd h (Nat.not_lt_zero _), fun _ => rfl⟩⟩
 | i + 1, h => by
  obtain ⟨ws, h1, h2⟩ := pre_sum hl hl8 hq hn i (by omega)
  have hti : (q.take i).length = i := by rw [List.length_take]; omega
  have hp := hq i (by omega)
  have hc : cI (q.take i) i = cI q i := by
   have := cI_app (q.take i) (q.drop i) i (by omega)
   rw [List.take_append_drop] at this
   exact this.symm
  have hlen := h1.len
  rw [hti, hc] at hlen
  obtain ⟨u, hu⟩ : ∃ u : Nat, rd q (i : Int) = (u : Int) := ⟨(rd q (i : Int)).toNat, by omega⟩
  have hsn := h1.snoc hl hl8 (by omega) (t := u) (by omega)
  have e : q.take (i + 1) = q.take i ++ [(u : Int)] := by rw [List.take_succ_eq_append_getElem (by omega), ← rd_get (by omega), hu]
  rw [← e, hti] at hsn
  have hx := wt_range hl (i := i) (by omega)
  have hN := bpNext_len ws u (wt l i)
  have hle := h1.le
  refine ⟨_, hsn, fun j => ?_⟩
  simp only [sW]
  rw [hu]
  by_cases ej : j = u
  ·subst ej
   rw [if_pos rfl]
   refine ⟨fun _ => ?_, fun hj => ?_⟩
   ·by_cases hlt : j < ws.length
    ·have hm := h1.pos _ (rd_mem (a := ws) (n := (j : Int)) (by omega) (by omega))
     rw [bpNext_rd hlt, w64 (by omega) (by omega), (h2 j).1 hlt]
    ·obtain rfl : j = ws.length := by omega
     rw [bpNext_rdn, w64 (by omega) (by omega), (h2 _).2 (Nat.le_refl _)]
   ·exfalso
    rw [hN] at hj
    split at hj <;> omega
  ·rw [if_neg (by omega), Int.add_zero]
   refine ⟨fun hj => ?_, fun hj => ?_⟩
   ·have hj2 : j < ws.length := by
     rw [hN] at hj
     split at hj <;> omega
    rw [bpNext_other ej hj2]
    exact (h2 j).1 hj2
   ·exact (h2 j).2 (by
     rw [hN] at hj
     split at hj <;> omega)
theorem wv_sum {l : List S45} (hl : l.all parcOk = true) (hl8 : l.length ≤ 8) {q : List Int} (hq : Plan q) (hn : q.length = l.length) {j : Nat} (hj : j < (wv l q).length) : rd (wv l q) (j : Int) = sW l q (j : Int) q.length := by
 obtain ⟨ws, h1, h2⟩ := pre_sum hl hl8 hq (by omega) q.length (Nat.le_refl _)
 rw [List.take_length] at h1
 have e : wv l q = ws := by
  unfold wv
  rw [h1.wts 9 (by omega)]
  rfl
 rw [e] at hj ⊢
 exact (h2 j).1 hj
theorem allP_sum {l : List S45} {b : Int} (hl : l.all parcOk = true) (hl8 : l.length ≤ 8) {q : List Int} (hq : Plan q) (hn : q.length = l.length) (hw : ∀ j : Nat, sW l q (j : Int) q.length ≤ b) : q ∈ allP l b :=
 allP_all hl hl8 hq hn fun x hx => by
  obtain ⟨j, hj, rfl⟩ := List.getElem_of_mem hx
  rw [← rd_get hj, wv_sum hl hl8 hq hn hj]
  exact hw j
theorem nm_is_plan (p : List Int) : Plan (nm p) := by
 have key : ∀ i, i ≤ p.length → cI (nm p) i = (sn p i).length := by
  intro i
  induction i with
  | zero => exact fun _ => rfl
  | succ i ih =>
   intro hi
   have := ot_le p i
   simp only [cI]
   rw [ih (by omega), nm_rd p (by omega), sn_len]
   by_cases hc : ot p i = (sn p i).length
   ·rw [if_pos hc, if_pos (by omega)]
   ·rw [if_neg hc, if_neg (by omega)]
 intro i hi
 rw [nm_len] at hi
 rw [nm_rd p hi, key i (by omega)]
 have := ot_le p i
 omega
end Go.Proofs.Ytmninaoedoonbaa.Bg
end
section
namespace Go.Proofs.Ytmninaoedoonbaa.Bg
open Go.RowKit Go.Proofs.Ytmninaoedoonbaa.G Go.Proofs.YtmninaoedoonbaaW.PrintWords Go.Proofs.YtmninaoedoonbaaW.PrintLast Go.Proofs.YtmninaoedoonbaaW.PrintMore
def sP (l : List S45) (p : List Int) (v : Int) : List Int → Int
 | [] => 0
 | i :: r => (if rd p i = v then wtI l i else 0) + sP l p v r
theorem sP_app (l : List S45) (p : List Int) (v : Int) : ∀ (a b : List Int), sP l p v (a ++ b) = sP l p v a + sP l p v b
 | [], b => by simp [sP]
 | i :: a, b => by
  simp only [List.cons_append, sP]
  rw [sP_app l p v a b]
  omega
theorem sP_perm (l : List S45) (p : List Int) (v : Int) {a b : List Int} (h : a.Perm b) : sP l p v a = sP l p v b := by
 induction h with
 | nil => rfl
 | cons x _ ih => simp only [sP, ih]
 | swap x y r =>
  simp only [sP]
  omega
 | trans _ _ h1 h2 => rw [h1, h2]
theorem sP_line (l : List S45) (p : List Int) (v : Int) : ∀ n, sP l p v (line 0 n) = sW l p v n
 | 0 => rfl
 | n + 1 => by
  rw [line_snoc, sP_app, sP_line l p v n]
  simp only [sW, sP, Nat.zero_add]
  rw [Int.add_zero]
  rfl
theorem rd_put {p : List Int} {i : Int} {x : Int} (h0 : 0 ≤ i) (h1 : i < (p.length : Int)) : rd (p.set i.toNat x) i = x := by
 obtain ⟨m, rfl⟩ : ∃ m : Nat, i = m := ⟨i.toNat, by omega⟩
 have hm : m < p.length := by omega
 simp [rd, List.getD, hm]
theorem rd_put_ne {p : List Int} {i j : Int} {x : Int} (h0 : 0 ≤ i) (h1 : 0 ≤ j) (h : j ≠ i) : rd (p.set i.toNat x) j = rd p j := by
 have hne : i.toNat ≠ j.toNat := by omega
 simp [rd, List.getD, List.getElem?_set_ne hne]
theorem sP_put (l : List S45) (p : List Int) (v : Int) {i : Int} {x : Int} (h0 : 0 ≤ i) : ∀ (D : List Int), (∀ j ∈ D, 0 ≤ j) → i ∉ D → sP l (p.set i.toNat x) v D = sP l p v D
 | [], _, _ => rfl
 | j :: D, hD, hi => by
  simp only [sP]
  rw [sP_put l p v h0 D (fun k hk => hD k (List.mem_cons_of_mem _ hk)) (fun hk => hi (List.mem_cons_of_mem _ hk)), rd_put_ne h0 (hD j (List.mem_cons_self ..)) (fun e => hi (by rw [e]; exact List.mem_cons_self ..))]
structure Room (l : List S45) (bag : Int) (room plan D : List Int) : Prop where
 has : ∀ t : Nat, t < room.length → rd room (t : Int) + sP l plan (t : Int) D = bag ∧ 0 ≤ rd room (t : Int) ∧ rd room (t : Int) ≤ bag
 no : ∀ t : Nat, room.length ≤ t → sP l plan (t : Int) D = 0
theorem Room.step {l : List S45} {bag : Int} {room plan D : List Int} (h : Room l bag room plan D) {i : Int} (hb : 0 ≤ bag ∧ bag ≤ 10000) (hi : 0 ≤ i ∧ i < (plan.length : Int)) (hw : 1 ≤ wtI l i ∧ wtI l i ≤ bag) (hD : ∀ j ∈ D, 0 ≤ j) (hn : i ∉ D) :
  Room l bag (roomNext bag (wtI l i) room) (plan.set i.toNat (ft (wtI l i) room : Int)) (i :: D) := by
 have hle := ft_le (wtI l i) room
 have hN := roomNext_len bag (wtI l i) room
 have hs : ∀ v, sP l (plan.set i.toNat (ft (wtI l i) room : Int)) v (i :: D) = (if ((ft (wtI l i) room : Nat) : Int) = v then wtI l i else 0) + sP l plan v D := fun v => by
  simp only [sP]
  rw [rd_put hi.1 hi.2, sP_put l plan v hi.1 D hD hn]
 have hat := @ft_at (wtI l i) room
 generalize hf : ft (wtI l i) room = t0 at *
 have hr : ∀ t : Nat, t ≠ t0 → t < room.length → rd (roomNext bag (wtI l i) room) (t : Int) = rd room (t : Int) := fun t hne ht => by
  unfold roomNext
  rw [hf]
  split
  ·simp [rd, List.getD, List.getElem?_set_ne (Ne.symm hne)]
  ·simp [rd, List.getD, List.getElem?_set_ne (Ne.symm hne), List.getElem?_append_left ht]
 constructor
 ·intro t ht
  rw [hs]
  by_cases e : t = t0
  ·subst e
   rw [if_pos rfl]
   by_cases hlt : t < room.length
   ·obtain ⟨a, b, c⟩ := h.has t hlt
    have hge := hat hlt
    rw [← rd_get hlt] at hge
    have e2 : rd (roomNext bag (wtI l i) room) (t : Int) = rd room (t : Int) - wtI l i := by
     unfold roomNext
     rw [hf, if_pos hlt, w64 (by omega) (by omega)]
     simp [rd, List.getD, hlt]
    rw [e2]
    omega
   ·obtain rfl : t = room.length := by omega
    have e2 : rd (roomNext bag (wtI l i) room) (room.length : Int) = bag - wtI l i := by
     unfold roomNext
     rw [hf, if_neg (Nat.lt_irrefl _)]
     have e3 : rd (room ++ [bag]) (room.length : Int) = bag := by simp [rd, List.getD]
     rw [e3, w64 (by omega) (by omega)]
     simp [rd, List.getD]
    rw [e2, h.no _ (Nat.le_refl _)]
    omega
  ·rw [if_neg (by omega)]
   have ht2 : t < room.length := by
    rw [hN] at ht
    split at ht <;> omega
   obtain ⟨a, b, c⟩ := h.has t ht2
   rw [hr t e ht2]
   omega
 ·intro t ht
  rw [hs]
  rw [hN] at ht
  have ht2 : room.length ≤ t := by split at ht <;> omega
  have hne : ¬ ((t0 : Int) = (t : Int)) := by split at ht <;> omega
  rw [if_neg hne, h.no t ht2]
  rfl
theorem pk2_sum {l : List S45} {bag : Int} (hb : 0 ≤ bag ∧ bag ≤ 10000) : ∀ (O room plan D : List Int), Room l bag room plan D → (∀ i ∈ O, 0 ≤ i ∧ i < (plan.length : Int) ∧ 1 ≤ wtI l i ∧ wtI l i ≤ bag) → (∀ j ∈ D, 0 ≤ j) → O.Nodup → (∀ i ∈ O, i ∉ D) →
  ∀ t : Nat, sP l (pk2 l bag O room plan) (t : Int) (O.reverse ++ D) ≤ bag
 | [], room, plan, D, h, _, _, _, _ => fun t => by
  simp only [pk2, List.reverse_nil, List.nil_append]
  by_cases ht : t < room.length
  ·have := h.has t ht
   omega
  ·rw [h.no t (by omega)]
   exact hb.1
 | i :: O, room, plan, D, h, hO, hD, hnd, hdis => fun t => by
  obtain ⟨a0, a1, a2, a3⟩ := hO i (List.mem_cons_self ..)
  obtain ⟨n1, n2⟩ := List.nodup_cons.1 hnd
  have hst := h.step hb ⟨a0, a1⟩ ⟨a2, a3⟩ hD (hdis i (List.mem_cons_self ..))
  have := pk2_sum hb O _ _ (i :: D) hst (fun j hj => by rw [List.length_set]; exact hO j (List.mem_cons_of_mem _ hj)) (fun j hj => by
   rcases List.mem_cons.1 hj with rfl | hj
   ·exact a0
   ·exact hD j hj) n2 (fun j hj hm => by
   rcases List.mem_cons.1 hm with rfl | hm
   ·exact n1 hj
   ·exact hdis j (List.mem_cons_of_mem _ hj) hm) t
  simp only [pk2]
  rw [List.reverse_cons, List.append_assoc]
  exact this
theorem packing_sum {l : List S45} {bag : Int} (hb : 0 ≤ bag ∧ bag ≤ 10000) {O : List Int} (hp : O.Perm (line 0 l.length)) (hw : ∀ i, i < l.length → 1 ≤ wt l i ∧ wt l i ≤ bag) (t : Nat) :
  sW l (pk2 l bag O [] (List.replicate l.length 0)) (t : Int) l.length ≤ bag := by
 have hmem : ∀ i ∈ O, 0 ≤ i ∧ i < (l.length : Int) := fun i hi => line_mem (hp.mem_iff.1 hi)
 have hnd : O.Nodup := by
  refine hp.nodup_iff.2 ?_
  unfold line
  refine List.Pairwise.map _ (fun a b h => ?_) List.nodup_range
  omega
 have h0 : Room l bag [] (List.replicate l.length 0) [] := ⟨fun t ht => absurd ht (Nat.not_lt_zero _), fun _ _ => rfl⟩
 have := pk2_sum hb O [] (List.replicate l.length 0) [] h0 (fun i hi => by
  obtain ⟨a, b⟩ := hmem i hi
  have := hw i.toNat (by omega)
  have e : wt l i.toNat = wtI l i := by
   unfold wt wtI
   rw [Int.toNat_of_nonneg a]
  rw [e] at this
  exact ⟨a, by rw [List.length_replicate]; exact b, this.1, this.2⟩) (fun j hj => by cases hj) hnd (fun i _ hm => by cases hm) t
 rw [List.append_nil] at this
 rw [← sP_line]
 rw [sP_perm l _ _ ((List.reverse_perm O).trans hp)] at this
 exact this
theorem nm_sum {l : List S45} {bag : Int} (hb : 0 ≤ bag) {p : List Int} (h : ∀ v : Nat, sW l p (v : Int) p.length ≤ bag) (hp : ∀ x ∈ p, 0 ≤ x) (j : Nat) : sW l (nm p) (j : Int) p.length ≤ bag := by
 by_cases hex : ∃ i, i < p.length ∧ ot p i = j
 ·obtain ⟨i, hi, rfl⟩ := hex
  have hx := hp _ (rd_mem (a := p) (n := (i : Int)) (by omega) (by omega))
  obtain ⟨v, hv⟩ : ∃ v : Nat, rd p (i : Int) = (v : Int) := ⟨(rd p (i : Int)).toNat, by omega⟩
  have key : ∀ m, m ≤ p.length → sW l (nm p) (ot p i : Int) m = sW l p (v : Int) m := by
   intro m
   induction m with
   | zero => exact fun _ => rfl
   | succ m ih =>
    intro hm
    simp only [sW]
    rw [ih (by omega), nm_rd p (by omega)]
    have hs := ot_same p m i
    rw [hv] at hs
    by_cases hc : ot p m = ot p i
    ·rw [if_pos (by omega), if_pos (hs.1 hc)]
    ·rw [if_neg (by omega), if_neg (fun e => hc (hs.2 e))]
  rw [key p.length (Nat.le_refl _)]
  exact h v
 ·have key : ∀ m, m ≤ p.length → sW l (nm p) (j : Int) m = 0 := by
   intro m
   induction m with
   | zero => exact fun _ => rfl
   | succ m ih =>
    intro hm
    simp only [sW]
    rw [ih (by omega), nm_rd p (by omega), if_neg (fun e => hex ⟨m, by omega, by omega⟩)]
    rfl
  rw [key p.length (Nat.le_refl _)]
  exact hb
end Go.Proofs.Ytmninaoedoonbaa.Bg
end
section
namespace Go.Proofs.Ytmninaoedoonbaa.Bg
open Go.RowKit Go.Proofs.Ytmninaoedoonbaa.G Go.Proofs.YtmninaoedoonbaaW.PrintWords Go.Proofs.YtmninaoedoonbaaW.PrintLast Go.Proofs.YtmninaoedoonbaaW.PrintMore
def hs (l : List S45) (i : Int) : Int := (rd_T45 l i).f0
theorem cfH_neg (l : List S45) (x y : Int) : cfH l x y < 0 ↔ hs l y < hs l x := by
 unfold cfH cmpv hs
 split
 ·simp; omega
 ·split <;> omega
def cutN (l : List S45) (x : Int) (A : List Int) : Nat → Nat
 | 0 => 0
 | k + 1 => if hs l (rd A (k : Int)) < hs l x then cutN l x A k else k + 1
theorem cutN_le (l : List S45) (x : Int) (A : List Int) : ∀ k, cutN l x A k ≤ k
 | 0 => Nat.le_refl _
 | k + 1 => by
  simp only [cutN]
  split
  ·have := cutN_le l x A k
   omega
  ·exact Nat.le_refl _
theorem cutN_app (l : List S45) (x : Int) (A B : List Int) : ∀ k, k ≤ A.length → cutN l x (A ++ B) k = cutN l x A k
 | 0, _ => rfl
 | k + 1, h => by
  simp only [cutN]
  rw [cutN_app l x A B k (by omega), rd_left (by omega) (by omega)]
def put (l : List S45) (x : Int) (A : List Int) : List Int := A.take (cutN l x A A.length) ++ [x] ++ A.drop (cutN l x A A.length)
theorem put_len (l : List S45) (x : Int) (A : List Int) : (put l x A).length = A.length + 1 := by
 have := cutN_le l x A A.length
 unfold put
 simp
 omega
theorem put_mem {l : List S45} {x y : Int} {A : List Int} (h : y ∈ put l x A) : y = x ∨ y ∈ A := by
 unfold put at h
 simp only [List.mem_append, List.mem_singleton] at h
 rcases h with (h | h) | h
 ·exact .inr (List.mem_of_mem_take h)
 ·exact .inl h
 ·exact .inr (List.mem_of_mem_drop h)
theorem insJ_put (l : List S45) (x : Int) : ∀ (j : Nat) (A R : List Int), A.length = j → insJ (cfH l) j (A ++ x :: R) = put l x A ++ R
 | 0, A, R, h => by
  obtain rfl := List.length_eq_zero_iff.1 h
  simp [insJ, put, cutN]
 | j + 1, A, R, h => by
  obtain ⟨B, a, rfl⟩ : ∃ B a, A = B ++ [a] := ⟨A.dropLast, A.getLast (by intro e; rw [e] at h; simp at h), (List.dropLast_concat_getLast _).symm⟩
  have hB : B.length = j := by simpa using h
  have r1 : rd (B ++ [a] ++ x :: R) ((j + 1 : Nat) : Int) = x := by
   subst hB
   simp [rd, List.getD]
  have r0 : rd (B ++ [a] ++ x :: R) (j : Int) = a := by
   subst hB
   simp [rd, List.getD]
  have hc : cutN l x (B ++ [a]) (B ++ [a]).length = if hs l a < hs l x then cutN l x B B.length else j + 1 := by
   rw [h]
   simp only [cutN]
   have e : rd (B ++ [a]) (j : Int) = a := by
    subst hB
    simp [rd, List.getD]
   rw [e, cutN_app l x B [a] j (by omega), hB]
  have hle := cutN_le l x B B.length
  simp only [insJ]
  rw [r1, r0]
  by_cases hcf : hs l a < hs l x
  ·rw [if_pos ((cfH_neg l x a).2 hcf)]
   have e : ((B ++ [a] ++ x :: R).set (j + 1) a).set j x = B ++ x :: (a :: R) := by
    subst hB
    simp
   rw [e, insJ_put l x j B (a :: R) hB]
   unfold put
   rw [hc, if_pos hcf, List.take_append_of_le_length (by omega), List.drop_append_of_le_length (by omega)]
   simp
  ·rw [if_neg (fun h2 => hcf ((cfH_neg l x a).1 h2))]
   unfold put
   rw [hc, if_neg hcf, List.take_of_length_le (by omega), List.drop_eq_nil_of_le (by omega)]
   simp
theorem order_l1 (l : List S45) (hl : l.length ≤ 8) (i : Nat) (hi : i < l.length) (O : List Int) (hOl : O.length ≤ 8) (hO : ∀ x ∈ O, 0 ≤ x ∧ x < (l.length : Int)) (K : Nat) (r : List Int) (wx : Int) : ∀ t, t ≤ O.length → (∀ k, K ≤ k → spec_bgOrder.l0 k l true (O.take (cutN l (i : Int) O t) ++ [(i : Int)] ++ O.drop (cutN l (i : Int) O t)) l (l.length : Int) ((i + 1 : Nat) : Int) = some r) →
  ∀ k, K + t + 1 ≤ k → spec_bgOrder.l1 k l true O (i : Int) (t : Int) l (l.length : Int) (i : Int) (hs l (i : Int)) wx = some r := by
 have e : wrap64 ((i : Int) + 1) = ((i + 1 : Nat) : Int) := next_val i (by omega)
 intro t
 induction t with
 | zero =>
  intro _ h k hk
  obtain ⟨k, rfl⟩ : ∃ m, k = m + 1 := ⟨k - 1, by omega⟩
  have h2 := h k (by omega)
  simp only [cutN, List.take_zero, List.drop_zero] at h2
  rw [spec_bgOrder.l1, if_pos rfl, if_neg (by omega), if_pos (by omega), if_pos (by omega), Int.toNat_natCast, List.take_zero, own_val [] (by simp), Option.bind_some, if_pos (by simp), Option.bind_some, List.drop_zero, Option.bind_some, if_pos (by simp; omega), e]
  exact h2
 | succ t ih =>
  intro ht h k hk
  obtain ⟨k, rfl⟩ : ∃ m, k = m + 1 := ⟨k - 1, by omega⟩
  have e2 : wrap64 (((t + 1 : Nat) : Int) - 1) = (t : Int) := by
   have := w64 (x := ((t + 1 : Nat) : Int) - 1) (by omega) (by omega)
   omega
  have hm := hO _ (rd_mem (a := O) (n := (t : Int)) (by omega) (by omega))
  rw [spec_bgOrder.l1, if_pos rfl, if_pos (by omega), e2, if_pos (by omega), if_pos (by omega), if_pos hm.1, if_pos hm.2]
  by_cases hlt : hs l (rd O (t : Int)) < hs l (i : Int)
  ·rw [if_pos (show (rd_T45 l (rd O (t : Int))).f0 < hs l (i : Int) from hlt)]
   refine ih (by omega) (fun k' hk' => ?_) k (by omega)
   have := h k' hk'
   simp only [cutN] at this
   rw [if_pos hlt] at this
   exact this
  ·rw [if_neg (show ¬ (rd_T45 l (rd O (t : Int))).f0 < hs l (i : Int) from hlt)]
   have h2 := h k (by omega)
   simp only [cutN] at h2
   rw [if_neg hlt] at h2
   rw [if_pos (by omega), if_pos (by omega), Int.toNat_natCast, own_val _ (by simp; omega), Option.bind_some, if_pos (by simp; omega), Option.bind_some, Option.bind_some, if_pos (by simp; omega), e]
   exact h2
theorem line_cons (n i : Nat) (h : i < n) : (line 0 n).drop i = (i : Int) :: (line 0 n).drop (i + 1) := by
 have hin : i < (line 0 n).length := by rw [line_len]; omega
 have hg : (line 0 n)[i] = (i : Int) := by
  have := line_get 0 n i h
  rw [List.getElem?_eq_getElem hin] at this
  have := Option.some.inj this
  omega
 rw [List.drop_eq_getElem_cons hin, hg]
theorem order_both (l : List S45) (hl : l.length ≤ 8) : ∀ (d i : Nat) (O : List Int), i + d = l.length → O.length = i → (∀ x ∈ O, 0 ≤ x ∧ x < (l.length : Int)) → ∃ r : List Int, insI (cfH l) d i (O ++ (line 0 l.length).drop i) = r ∧ (r.length = l.length ∧ ∀ x ∈ r, 0 ≤ x ∧ x < (l.length : Int)) ∧ ∃ K, ∀ k, K ≤ k → spec_bgOrder.l0 k l true O l (l.length : Int) (i : Int) = some r := by
 intro d
 induction d with
 | zero =>
  intro i O hi hOl hO
  refine ⟨O, ?_, ⟨by omega, hO⟩, 1, fun k hk => ?_⟩
  ·rw [List.drop_eq_nil_of_le (by rw [line_len]; omega), List.append_nil]
   rfl
  ·obtain ⟨k, rfl⟩ : ∃ m, k = m + 1 := ⟨k - 1, by omega⟩
   rw [spec_bgOrder.l0, if_neg (by omega)]
 | succ d ih =>
  intro i O hi hOl hO
  obtain ⟨r, h1, h2, K, h3⟩ := ih (i + 1) (put l (i : Int) O) (by omega) (by rw [put_len]; omega) (fun x hx => by
   rcases put_mem hx with rfl | hx
   ·omega
   ·exact hO x hx)
  refine ⟨r, ?_, h2, K + O.length + 2, fun k hk => ?_⟩
  ·rw [line_cons l.length i (by omega)]
   simp only [insI]
   rw [insJ_put l (i : Int) i O _ hOl]
   exact h1
  ·obtain ⟨k, rfl⟩ : ∃ m, k = m + 1 := ⟨k - 1, by omega⟩
   rw [spec_bgOrder.l0, if_pos (by omega), if_pos (by omega), if_pos (by omega)]
   exact order_l1 l hl i (by omega) O (by omega) hO K r _ O.length (Nat.le_refl _) h3 k (by omega)
theorem upTo_line (n : Nat) : upTo n = line 0 n := by
 unfold upTo line
 simp
theorem PackFarthestFirst_both (l : List S45) (b : Int) : ∃ v : List Int × Bool, Ev (fun k => spec_PackFarthestFirst.f k l b) v ∧ Ev (fun k => impl_PackFarthestFirst.f k l b) v ∧ v.1.length ≤ 1000 := by
 obtain ⟨K, h⟩ := bgAsked_ev l b
 have h : ∀ k, K ≤ k → spec_bgAsked.f k l b = some (fits l b) := h
 cases hf : fits l b with
 | false => exact ⟨([], false), ⟨K, fun k hk => by simp [spec_PackFarthestFirst.f, h k hk, hf]⟩, ⟨0, fun k _ => by simp [impl_PackFarthestFirst.f, fitBag_val, hf]⟩, by simp⟩
 | true =>
  obtain ⟨h1, h8, _, _, _⟩ := fits_facts hf
  have hz : insI (cfH l) l.length 0 (line 0 l.length) = insI (cfH l) (l.length - 1) 1 (line 0 l.length) := by
   obtain ⟨m, hm⟩ : ∃ m, l.length = m + 1 := ⟨l.length - 1, by omega⟩
   rw [hm]
   rfl
  obtain ⟨r, o1, ⟨o2, o3⟩, K1, o4⟩ := order_both l h8 l.length 0 [] (Nat.zero_add _) rfl (fun x hx => by cases hx)
  rw [List.nil_append, List.drop_zero, hz] at o1
  obtain ⟨e1, K2, e2⟩ := packed_val l b r h1 h8 o3 (by omega)
  have e2 : ∀ k, K2 ≤ k → spec_bgPack.f k l b r = some _ := e2
  have hlen : (pk2 l b r [] (List.replicate l.length 0)).length = l.length := by rw [pk2_len]; simp
  obtain ⟨K3, e3⟩ := named_ev (pk2 l b r [] (List.replicate l.length 0)) (by omega)
  have e3 : ∀ k, K3 ≤ k → impl_named.f k (pk2 l b r [] (List.replicate l.length 0)) = some _ := e3
  have hnl := nm_len (pk2 l b r [] (List.replicate l.length 0))
  refine ⟨(nm (pk2 l b r [] (List.replicate l.length 0)), true), ⟨K + K1 + K2, fun k hk => ?_⟩, ⟨K3, fun k hk => ?_⟩, by simp; omega⟩
  ·show spec_PackFarthestFirst.f k l b = _
   unfold spec_PackFarthestFirst.f
   have ho : spec_bgOrder.f k l true = some r := o4 k (by omega)
   rw [h k (by omega), hf, Option.bind_some, if_pos rfl, ho, Option.bind_some, e2 k (by omega), Option.bind_some]
  ·show impl_PackFarthestFirst.f k l b = _
   unfold impl_PackFarthestFirst.f
   rw [fitBag_val, hf, Option.bind_some, if_pos rfl, if_pos ⟨h1, by omega⟩, upTo_line, o1, e1, Option.bind_some, e3 k hk, Option.bind_some]
end Go.Proofs.Ytmninaoedoonbaa.Bg
end
section
namespace Go.Proofs.Ytmninaoedoonbaa.Bg
open Go.RowKit Go.Proofs.Ytmninaoedoonbaa.G Go.Proofs.YtmninaoedoonbaaW.PrintWords Go.Proofs.YtmninaoedoonbaaW.PrintLast Go.Proofs.YtmninaoedoonbaaW.PrintMore
theorem put_perm (l : List S45) (x : Int) (A : List Int) : (put l x A).Perm (x :: A) := by
 unfold put
 have h : (A.take (cutN l x A A.length) ++ [x] ++ A.drop (cutN l x A A.length)).Perm (x :: (A.take (cutN l x A A.length) ++ A.drop (cutN l x A A.length))) := by
  rw [List.append_assoc]
  exact List.perm_middle
 rwa [List.take_append_drop] at h
theorem order_perm (l : List S45) : ∀ (d i : Nat) (O : List Int), i + d = l.length → O.length = i → (insI (cfH l) d i (O ++ (line 0 l.length).drop i)).Perm (O ++ (line 0 l.length).drop i)
 | 0, i, O, hi, hO => by
  rw [List.drop_eq_nil_of_le (by rw [line_len]; omega), List.append_nil]
  exact List.Perm.refl _
 | d + 1, i, O, hi, hO => by
  rw [line_cons l.length i (by omega)]
  simp only [insI]
  rw [insJ_put l (i : Int) i O _ hO]
  refine (order_perm l d (i + 1) (put l (i : Int) O) (by omega) (by rw [put_len]; omega)).trans ?_
  refine ((put_perm l (i : Int) O).append_right _).trans ?_
  exact List.perm_middle.symm
theorem pk2_nonneg (l : List S45) (bag : Int) : ∀ (o room plan : List Int), (∀ x ∈ plan, 0 ≤ x) → ∀ x ∈ pk2 l bag o room plan, 0 ≤ x
 | [], _, _, h => h
 | i :: o, room, plan, h => by
  simp only [pk2]
  refine pk2_nonneg l bag o _ _ fun x hx => ?_
  rcases List.mem_or_eq_of_mem_set hx with hx | rfl
  ·exact h x hx
  ·omega
theorem fits_wt {l : List S45} {b : Int} (hf : fits l b = true) : (0 ≤ b ∧ b ≤ 10000) ∧ ∀ i, i < l.length → 1 ≤ wt l i ∧ wt l i ≤ b := by
 obtain ⟨h1, h8, hb1, hb2, hall⟩ := fits_facts hf
 refine ⟨⟨by omega, hb2⟩, fun i hi => ⟨(wt_range hall hi).1, ?_⟩⟩
 exact (fits_room hf).room i hi
theorem pack_in {l : List S45} {b : Int} (hf : fits l b = true) {O : List Int} (hO : O.Perm (line 0 l.length)) : nm (pk2 l b O [] (List.replicate l.length 0)) ∈ allP l b := by
 obtain ⟨h1, h8, hb1, hb2, hall⟩ := fits_facts hf
 obtain ⟨hb, hw⟩ := fits_wt hf
 have hlen : (pk2 l b O [] (List.replicate l.length 0)).length = l.length := by rw [pk2_len]; simp
 refine allP_sum hall h8 (nm_is_plan _) (by rw [nm_len, hlen]) fun j => ?_
 rw [nm_len]
 exact nm_sum hb.1 (fun v => by rw [hlen]; exact packing_sum hb hO hw v) (pk2_nonneg l b O [] _ (fun x hx => by rw [List.eq_of_mem_replicate hx]; exact Int.le_refl _)) j
theorem pre_total {l : List S45} (hl : l.all parcOk = true) (hl8 : l.length ≤ 8) {q : List Int} (hq : Plan q) (hn : q.length ≤ l.length) : ∀ i, i ≤ q.length → ∃ ws, Pre l (q.take i) ws ∧ ws.sum = sumTo l i
 | 0, _ => ⟨[], Pre.nil l, rfl⟩
 | i + 1, h => by
  obtain ⟨ws, h1, h2⟩ := pre_total hl hl8 hq hn i (by omega)
  have hti : (q.take i).length = i := by rw [List.length_take]; omega
  have hp := hq i (by omega)
  have hc : cI (q.take i) i = cI q i := by
   have := cI_app (q.take i) (q.drop i) i (by omega)
   rw [List.take_append_drop] at this
   exact this.symm
  have hlen := h1.len
  rw [hti, hc] at hlen
  obtain ⟨u, hu⟩ : ∃ u : Nat, rd q (i : Int) = (u : Int) := ⟨(rd q (i : Int)).toNat, by omega⟩
  have hsn := h1.snoc hl hl8 (by omega) (t := u) (by omega)
  have e : q.take (i + 1) = q.take i ++ [(u : Int)] := by rw [List.take_succ_eq_append_getElem (by omega), ← rd_get (by omega), hu]
  rw [← e, hti] at hsn
  have hx := wt_range hl (i := i) (by omega)
  have hle := h1.le
  refine ⟨_, hsn, ?_⟩
  have hset : ∀ (r : List Int) (k : Nat) (x : Int), k < r.length → (r.set k x).sum = r.sum - rd r (k : Int) + x := by
   intro r
   induction r with
   | nil => exact fun k x hk => absurd hk (Nat.not_lt_zero _)
   | cons y r ih =>
    intro k x hk
    cases k with
    | zero =>
     have : rd (y :: r) ((0 : Nat) : Int) = y := rfl
     rw [this, List.set_cons_zero, List.sum_cons, List.sum_cons]
     omega
    | succ k =>
     have e4 : rd (y :: r) ((k + 1 : Nat) : Int) = rd r (k : Int) := by simp [rd, List.getD]
     rw [e4, List.set_cons_succ, List.sum_cons, List.sum_cons, ih k x (by simpa using hk)]
     omega
  have hs : sumTo l (i + 1) = sumTo l i + wt l i := rfl
  unfold bpNext
  by_cases hlt : u < ws.length
  ·have hm := h1.pos _ (rd_mem (a := ws) (n := (u : Int)) (by omega) (by omega))
   rw [if_pos hlt, w64 (by omega) (by omega), hset _ _ _ hlt, h2, hs]
   omega
  ·obtain rfl : u = ws.length := by omega
   have e3 : rd (ws ++ [0]) (ws.length : Int) = 0 := by simp [rd, List.getD]
   rw [if_neg (Nat.lt_irrefl _), e3, w64 (by omega) (by omega), hset _ _ _ (by simp), e3, List.sum_append, h2, hs]
   simp
theorem sum_le {b : Int} : ∀ (v : List Int), (∀ x ∈ v, x ≤ b) → v.sum ≤ (v.length : Int) * b
 | [], _ => by simp
 | x :: v, h => by
  have h1 := h x (List.mem_cons_self ..)
  have h2 := sum_le v (fun y hy => h y (List.mem_cons_of_mem _ hy))
  rw [List.sum_cons, List.length_cons, Int.natCast_add, Int.add_mul]
  omega
theorem plan_total {l : List S45} {b : Int} (hl : l.all parcOk = true) (hl8 : l.length ≤ 8) {q : List Int} (hq : q ∈ allP l b) : (wv l q).sum = sumTo l l.length ∧ sumTo l l.length ≤ ((wv l q).length : Int) * b := by
 obtain ⟨m1, m2, m3, _, _⟩ := allP_move (b := b) hl hl8 hq
 obtain ⟨ws, h1, h2⟩ := pre_total hl hl8 m2 (by omega) q.length (Nat.le_refl _)
 rw [List.take_length] at h1
 have e : wv l q = ws := by
  unfold wv
  rw [h1.wts 9 (by omega)]
  rfl
 rw [e] at m3 ⊢
 rw [m1] at h2
 exact ⟨h2, by rw [← h2]; exact sum_le ws m3⟩
end Go.Proofs.Ytmninaoedoonbaa.Bg
end
section
namespace Go.Proofs.Ytmninaoedoonbaa.Bg
open Go.RowKit Go.Proofs.Ytmninaoedoonbaa.G Go.Proofs.YtmninaoedoonbaaW.PrintWords Go.Proofs.YtmninaoedoonbaaW.PrintLast Go.Proofs.YtmninaoedoonbaaW.PrintMore
def tr (p : List Int) (m j : Nat) : List Int := ((List.range m).filter fun i : Nat => decide (rd p (i : Int) = (j : Int))).map fun i : Nat => (i : Int)
theorem tr_succ (p : List Int) (m j : Nat) : tr p (m + 1) j = if rd p (m : Int) = (j : Int) then tr p m j ++ [(m : Int)] else tr p m j := by
 unfold tr
 rw [List.range_succ, List.filter_append, List.map_append]
 by_cases h : rd p (m : Int) = (j : Int)
 ·rw [if_pos h]
  simp [h]
 ·rw [if_neg h]
  simp [h]
theorem tr_len (p : List Int) (j : Nat) : ∀ m, (tr p m j).length ≤ m
 | 0 => by simp [tr]
 | m + 1 => by
  rw [tr_succ]
  have := tr_len p j m
  split
  ·simp; omega
  ·omega
def trs (p : List Int) (m n : Nat) : List (List Int) := (List.range n).map (tr p m)
theorem trs_len (p : List Int) (m n : Nat) : (trs p m n).length = n := by simp [trs]
theorem trs_get {p : List Int} {m n j : Nat} (h : j < n) : rd_L3 (trs p m n) (j : Int) = tr p m j := by simp [rd_L3, trs, List.getD, h]
theorem trs_set {p : List Int} {m n j : Nat} (_h : j < n) (hj : rd p (m : Int) = (j : Int)) : (trs p m n).set j (tr p m j ++ [(m : Int)]) = trs p (m + 1) n := by
 apply List.ext_getElem
 ·simp [trs]
 ·intro i h1 h2
  have hi : i < n := by simpa [trs] using h2
  rw [List.getElem_set]
  by_cases e : j = i
  ·subst e
   rw [if_pos rfl]
   simp [trs, tr_succ, hj]
  ·rw [if_neg e]
   have : ¬ rd p (m : Int) = (i : Int) := by omega
   simp [trs, tr_succ, this]
theorem impl_trips (p : List Int) (n : Nat) (hp : p.length ≤ 8) (hr : ∀ i, i < p.length → 0 ≤ rd p (i : Int) ∧ rd p (i : Int) < (n : Int)) : ∀ (d i k : Nat), i + d = p.length → d < k → impl_tripsOf.l0 k (trs p i n) p (p.length : Int) (i : Int) = some (trs p p.length n) := by
 intro d
 induction d with
 | zero =>
  intro i k hi hk
  obtain ⟨k, rfl⟩ : ∃ m, k = m + 1 := ⟨k - 1, by omega⟩
  rw [impl_tripsOf.l0, if_neg (by omega), show i = p.length by omega]
 | succ d ih =>
  intro i k hi hk
  obtain ⟨k, rfl⟩ : ∃ m, k = m + 1 := ⟨k - 1, by omega⟩
  have h := hr i (by omega)
  obtain ⟨j, hj⟩ := Int.eq_ofNat_of_zero_le h.1
  have hjn : j < n := by omega
  have hl := tr_len p j i
  have e : wrap64 ((i : Int) + 1) = ((i + 1 : Nat) : Int) := by
   have := w64 (x := (i : Int) + 1) (by omega) (by omega)
   omega
  rw [impl_tripsOf.l0, if_pos (by omega), if_pos (by omega), if_pos (by omega), if_pos h.1, if_pos (by rw [trs_len]; omega), hj, trs_get hjn, if_pos (by omega), e, Int.toNat_natCast, trs_set hjn hj]
  exact ih (i + 1) k (by omega) (by omega)
theorem spec_l1 (p : List Int) (hp : p.length ≤ 8) (out : List (List Int)) (ho : out.length ≤ 8) (j : Nat) (n : Int) (x22 : Int) : ∀ (d i k : Nat), i + d = p.length →
  spec_TripsOfPlan.l1 (k + d + 1) p out (j : Int) (tr p i j) n x22 p (p.length : Int) (i : Int) = spec_TripsOfPlan.l0 k p (out ++ [tr p p.length j]) n (wrap64 (x22 + 1)) := by
 intro d
 induction d with
 | zero =>
  intro i k hi
  rw [spec_TripsOfPlan.l1, if_neg (by omega), if_pos (by omega), show i = p.length by omega]
 | succ d ih =>
  intro i k hi
  have hl := tr_len p j i
  have e : wrap64 ((i : Int) + 1) = ((i + 1 : Nat) : Int) := by
   have := w64 (x := (i : Int) + 1) (by omega) (by omega)
   omega
  have h2 := ih (i + 1) k (by omega)
  rw [tr_succ] at h2
  rw [show k + (d + 1) + 1 = (k + d + 1) + 1 by omega, spec_TripsOfPlan.l1, if_pos (by omega), if_pos (by omega), if_pos (by omega), e]
  by_cases h : rd p (i : Int) = (j : Int)
  ·rw [if_pos h] at h2 ⊢
   rw [if_pos (by omega)]
   exact h2
  ·rw [if_neg h] at h2 ⊢
   exact h2
theorem trs_snoc (p : List Int) (m n : Nat) : trs p m (n + 1) = trs p m n ++ [tr p m n] := by simp [trs, List.range_succ]
theorem spec_l0 (p : List Int) (hp : p.length ≤ 8) (n : Nat) (hn : n ≤ 8) : ∀ (d j k : Nat), j + d = n → d * 12 < k → spec_TripsOfPlan.l0 k p (trs p p.length j) (n : Int) (j : Int) = some (trs p p.length n, true) := by
 intro d
 induction d with
 | zero =>
  intro j k hj hk
  obtain ⟨k, rfl⟩ : ∃ m, k = m + 1 := ⟨k - 1, by omega⟩
  rw [spec_TripsOfPlan.l0, if_neg (by omega), show j = n by omega]
 | succ d ih =>
  intro j k hj hk
  obtain ⟨k, rfl⟩ : ∃ m, k = (m + p.length + 1) + 1 := ⟨k - p.length - 2, by omega⟩
  have e : wrap64 ((j : Int) + 1) = ((j + 1 : Nat) : Int) := by
   have := w64 (x := (j : Int) + 1) (by omega) (by omega)
   omega
  have h1 := spec_l1 p hp (trs p p.length j) (by rw [trs_len]; omega) j (n : Int) (j : Int) p.length 0 k (by omega)
  rw [show tr p 0 j = [] from rfl, show ((0 : Nat) : Int) = 0 from rfl] at h1
  rw [spec_TripsOfPlan.l0, if_pos (by omega), h1, e, ← trs_snoc]
  exact ih (j + 1) k (by omega) (by omega)
theorem TripsOfPlan_both (l : List S45) (b : Int) (p : List Int) : ∃ v : List (List Int) × Bool, Ev (fun k => spec_TripsOfPlan.f k l b p) v ∧ Ev (fun k => impl_TripsOfPlan.f k l b p) v ∧ v.1.length ≤ 8 ∧ ∀ r ∈ v.1, r.length ≤ 8 := by
 obtain ⟨t, ⟨K, h⟩, ht, hf⟩ := asked_both l b p
 have h : ∀ k, K ≤ k → spec_bgBoth.f k l b p = some t := h
 cases t with
 | false =>
  refine ⟨([], false), ⟨K, fun k hk => by simp [spec_TripsOfPlan.f, h k hk]⟩, ?_, by simp, fun r hr => by cases hr⟩
  rcases hf rfl with e | ⟨e, K2, h2⟩
  ·exact ⟨0, fun k _ => by simp [impl_TripsOfPlan.f, fitBag_val, e]⟩
  ·have h2 : ∀ k, K2 ≤ k → impl_isBagPlan.f k l b p = some false := h2
   exact ⟨K2, fun k hk => by simp [impl_TripsOfPlan.f, fitBag_val, e, h2 k hk]⟩
 | true =>
  obtain ⟨e, ⟨K2, h2⟩, hlen, hpl⟩ := ht rfl
  have h2 : ∀ k, K2 ≤ k → impl_isBagPlan.f k l b p = some true := h2
  obtain ⟨hl1, hl8, hb1, hb2, hall⟩ := fits_facts e
  obtain ⟨v, hv, hvb, w1, w2⟩ := weights_both hall hlen hl1 hl8 hpl
  have hm := plan_max hpl (p.length - 1) (by omega)
  rw [show p.length - 1 + 1 = p.length by omega] at hm
  have hle := cI_le p p.length
  have hpos := plan_pos hpl (by omega)
  have hr : ∀ i, i < p.length → 0 ≤ rd p (i : Int) ∧ rd p (i : Int) < (cI p p.length : Int) := fun i hi => by
   have h5 := hpl i hi
   have h6 := cI_mono p (i + 1) (p.length - (i + 1))
   rw [show i + 1 + (p.length - (i + 1)) = p.length by omega] at h6
   have h7 : cI p (i + 1) = if rd p (i : Int) = (cI p i : Int) then cI p i + 1 else cI p i := rfl
   split at h7 <;> omega
  have hz : trs p 0 (cI p p.length) = List.replicate (cI p p.length) [] := by
   apply List.ext_getElem
   ·simp [trs]
   ·intro i h1 h2
    simp [trs, tr]
  refine ⟨(trs p p.length (cI p p.length), true), ⟨K + 120, fun k hk => ?_⟩, ⟨K2 + 20, fun k hk => ?_⟩, by simp [trs_len]; omega, fun r hr => ?_⟩
  ·show spec_TripsOfPlan.f k l b p = _
   unfold spec_TripsOfPlan.f
   have h8 := spec_l0 p (by omega) (cI p p.length) (by omega) (cI p p.length) 0 k (by omega) (by omega)
   rw [h k (by omega), Option.bind_some, if_pos rfl, w2 k (by omega), Option.bind_some, hv]
   exact h8
  ·show impl_TripsOfPlan.f k l b p = _
   unfold impl_TripsOfPlan.f impl_tripsOf.f slices_Max_int_int.f
   have h8 := impl_trips p (cI p p.length) (by omega) hr p.length 0 k (by omega) (by omega)
   rw [hz] at h8
   rw [fitBag_val, e, Option.bind_some, if_pos rfl, h2 k (by omega), Option.bind_some, if_pos rfl, if_pos (by omega), Option.bind_some, hm, w64 (by omega) (by omega), if_pos (by omega), if_pos (by omega), show ((cI p p.length : Int) - 1 + 1).toNat = cI p p.length by omega]
   rw [show ((0 : Nat) : Int) = 0 from rfl] at h8
   rw [h8, Option.bind_some]
  ·simp only [trs, List.mem_map] at hr
   obtain ⟨j, _, rfl⟩ := hr
   have := tr_len p j p.length
   omega
end Go.Proofs.Ytmninaoedoonbaa.Bg
end
section
namespace Go.Proofs.Ytmninaoedoonbaa.Bg
open Go.RowKit Go.Proofs.Ytmninaoedoonbaa.G Go.Proofs.YtmninaoedoonbaaW.PrintWords Go.Proofs.YtmninaoedoonbaaW.PrintLast Go.Proofs.YtmninaoedoonbaaW.PrintMore
theorem isPlan_val {l : List S45} {b : Int} (hf : fits l b = true) {q : List Int} (hq : q ∈ allP l b) : Ev (fun k => impl_isBagPlan.f k l b q) true := by
 obtain ⟨hl1, hl8, hb1, hb2, hall⟩ := fits_facts hf
 obtain ⟨m1, m2, m3, _, _⟩ := allP_move (b := b) hall hl8 hq
 obtain ⟨K2, h2⟩ := named_ev q (by omega)
 have h2 : ∀ k, K2 ≤ k → impl_named.f k q = some (nm q) := h2
 obtain ⟨a1, a2, a3, a4⟩ := wv_both hall m1 hl1 hl8 m2
 have hpos := plan_pos m2 (by omega)
 have hmax : maxTo (wv l q) ((wv l q).length - 1) ≤ b := hw_le (by omega) m3
 refine ⟨K2 + 20, fun k hk => ?_⟩
 show impl_isBagPlan.f k l b q = _
 unfold impl_isBagPlan.f
 rw [if_pos (by omega), h2 k (by omega), Option.bind_some, (equal_k (nm q) q (by rw [nm_len]; omega) k (by rw [nm_len]; omega)).1, plan_nm m2, Option.bind_some, if_pos (by simp), a3 k (by omega), Option.bind_some]
 unfold slices_Max_int_int.f
 rw [if_pos (by omega), Option.bind_some]
 exact congrArg some (decide_eq_true hmax)
def lv (l : List S45) (q : List Int) : Int := (impl_lengthOf.f 101 l q).getD 0
theorem lv_val {l : List S45} {q : List Int} (hl : l.all parcOk = true) (hn : q.length = l.length) (h1 : 1 ≤ l.length) (h8 : l.length ≤ 8) (h : Plan q) : ∀ k, 100 < k → impl_lengthOf.f k l q = some (lv l q) := by
 obtain ⟨s, m, e, _, _⟩ := lengths_both hl hn h1 h8 h
 intro k hk
 have : lv l q = s := by
  unfold lv
  rw [e 101 (by omega)]
  rfl
 rw [this]
 exact e k hk
theorem plan_says {l : List S45} {b : Int} (hf : fits l b = true) {q : List Int} (hq : q ∈ allP l b) :
  Ev (fun k => impl_IsBagPlan.f k l b q) (true, true) ∧ Ev (fun k => impl_LengthOfPlan.f k l b q) (lv l q, true) ∧ ∃ T : List (List Int), T.length = (wv l q).length ∧ Ev (fun k => impl_TripsOfPlan.f k l b q) (T, true) := by
 obtain ⟨hl1, hl8, hb1, hb2, hall⟩ := fits_facts hf
 obtain ⟨m1, m2, m3, _, _⟩ := allP_move (b := b) hall hl8 hq
 obtain ⟨a1, a2, a3, a4⟩ := wv_both hall m1 hl1 hl8 m2
 obtain ⟨K, h⟩ := isPlan_val hf hq
 have h : ∀ k, K ≤ k → impl_isBagPlan.f k l b q = some true := h
 obtain ⟨V, G, hV, _, e1, _⟩ := trips_both hall m1 hl1 hl8 m2
 have e2 := lv_val hall m1 hl1 hl8 m2
 refine ⟨⟨K, fun k hk => by simp [impl_IsBagPlan.f, fitBag_val, hf, h k hk]⟩, ⟨K + 102, fun k hk => ?_⟩, V, by omega, ⟨K + 102, fun k hk => ?_⟩⟩
 ·show impl_LengthOfPlan.f k l b q = _
  simp [impl_LengthOfPlan.f, fitBag_val, hf, h k (by omega), e2 k (by omega)]
 ·show impl_TripsOfPlan.f k l b q = _
  simp [impl_TripsOfPlan.f, fitBag_val, hf, h k (by omega), e1 k (by omega)]
theorem aFirst_l0 (a b : List Int) (hn : a.length ≤ 1000000) (i0 : Nat) (h1 : i0 < a.length) (h2 : i0 < b.length) (ht : a.take i0 = b.take i0) (hlt : rd a (i0 : Int) < rd b (i0 : Int)) : ∀ (d i k : Nat), i + d = i0 → d < k → laws_aFirst.l0 k b a (a.length : Int) (i : Int) = some true := by
 intro d
 induction d with
 | zero =>
  intro i k hi hk
  obtain ⟨k, rfl⟩ : ∃ m, k = m + 1 := ⟨k - 1, by omega⟩
  obtain rfl : i = i0 := by omega
  rw [laws_aFirst.l0, if_pos (by omega), if_pos (by omega), if_pos (by omega), if_neg (by omega), if_pos (by omega), if_neg (by omega), decide_eq_true hlt]
 | succ d ih =>
  intro i k hi hk
  obtain ⟨k, rfl⟩ : ∃ m, k = m + 1 := ⟨k - 1, by omega⟩
  have e : rd a (i : Int) = rd b (i : Int) := by
   have g : (a.take i0)[i]? = (b.take i0)[i]? := by rw [ht]
   rw [List.getElem?_take_of_lt (by omega), List.getElem?_take_of_lt (by omega)] at g
   simp only [rd, List.getD, Int.toNat_natCast, g]
  rw [laws_aFirst.l0, if_pos (by omega), if_pos (by omega), if_pos (by omega), if_neg (by omega), if_pos (by omega), if_pos e, w64 (by omega) (by omega), show ((i : Int) + 1) = ((i + 1 : Nat) : Int) by omega]
  exact ih (i + 1) k (by omega) (by omega)
theorem aFirst_ahead {a b : List Int} (hn : a.length ≤ 1000000) (h : Ahead a b) (k : Nat) (hk : a.length < k) : laws_aFirst.f k a b = some true := by
 obtain ⟨i, h1, h2, h3, h4⟩ := h
 unfold laws_aFirst.f
 exact aFirst_l0 a b hn i h1 h2 h3 h4 i 0 k (by omega) (by omega)
theorem aFirst_same (a : List Int) (hn : a.length ≤ 1000000) : ∀ (d i k : Nat), i + d = a.length → d < k → laws_aFirst.l0 k a a (a.length : Int) (i : Int) = some true := by
 intro d
 induction d with
 | zero =>
  intro i k hi hk
  obtain ⟨k, rfl⟩ : ∃ m, k = m + 1 := ⟨k - 1, by omega⟩
  rw [laws_aFirst.l0, if_neg (by omega)]
 | succ d ih =>
  intro i k hi hk
  obtain ⟨k, rfl⟩ : ∃ m, k = m + 1 := ⟨k - 1, by omega⟩
  rw [laws_aFirst.l0, if_pos (by omega), if_pos (by omega), if_pos (by omega), if_neg (by omega), if_pos (by omega), if_pos rfl, w64 (by omega) (by omega), show ((i : Int) + 1) = ((i + 1 : Nat) : Int) by omega]
  exact ih (i + 1) k (by omega) (by omega)
theorem aFirst_some (a b : List Int) (hn : a.length ≤ 1000000) : ∀ (d i k : Nat), i + d = a.length → i ≤ b.length → d < k → ∃ t, laws_aFirst.l0 k b a (a.length : Int) (i : Int) = some t := by
 intro d
 induction d with
 | zero =>
  intro i k hi hb hk
  obtain ⟨k, rfl⟩ : ∃ m, k = m + 1 := ⟨k - 1, by omega⟩
  exact ⟨true, by rw [laws_aFirst.l0, if_neg (by omega)]⟩
 | succ d ih =>
  intro i k hi hb hk
  obtain ⟨k, rfl⟩ : ∃ m, k = m + 1 := ⟨k - 1, by omega⟩
  rw [laws_aFirst.l0, if_pos (by omega), if_pos (by omega), if_pos (by omega)]
  by_cases hc : (i : Int) = (b.length : Int)
  ·exact ⟨false, by rw [if_pos hc]⟩
  ·rw [if_neg hc, if_pos (by omega)]
   by_cases he : rd a (i : Int) = rd b (i : Int)
   ·rw [if_pos he, w64 (by omega) (by omega), show ((i : Int) + 1) = ((i + 1 : Nat) : Int) by omega]
    exact ih (i + 1) k (by omega) (by omega) (by omega)
   ·exact ⟨_, by rw [if_neg he]⟩
theorem light_le {l : List S45} {b few : Int} (hf : fits l b = true) {q : List Int} (hq : q ∈ allP l b) (hfew : few = ((wv l q).length : Int)) {v : Int} {k : Nat} (hk : 9 ≤ k) (hv : impl_LightestBag.f k l few = some (v, true)) : v ≤ b := by
 obtain ⟨hl1, hl8, hb1, hb2, hall⟩ := fits_facts hf
 obtain ⟨m1, m2, m3, _, _⟩ := allP_move (b := b) hall hl8 hq
 obtain ⟨a1, a2, _, _⟩ := wv_both hall m1 hl1 hl8 m2
 have hpos := plan_pos m2 (by omega)
 have hcle := cI_le q q.length
 obtain ⟨t1, _⟩ := plan_total hall hl8 hq
 have hok : okP l = true := by
  unfold fits at hf
  exact (Bool.and_eq_true_iff.1 hf).1
 have hle : ∀ x ∈ wv l q, x ≤ sumTo l l.length := by
  rw [← t1]
  have key : ∀ (r : List Int), (∀ x ∈ r, 1 ≤ x ∧ x ≤ 8000) → 0 ≤ r.sum ∧ ∀ x ∈ r, x ≤ r.sum := by
   intro r
   induction r with
   | nil => exact fun _ => ⟨Int.le_refl _, fun x hx => (by cases hx)⟩
   | cons y r ih =>
    intro h
    obtain ⟨i1, i2⟩ := ih fun x hx => h x (List.mem_cons_of_mem _ hx)
    have hy := h y (List.mem_cons_self ..)
    rw [List.sum_cons]
    refine ⟨by omega, fun x hx => ?_⟩
    rcases List.mem_cons.1 hx with rfl | hx
    ·omega
    ·have := i2 x hx
     omega
  exact (key _ a2).2
 have hin := allP_all (b := sumTo l l.length) hall hl8 m2 m1 hle
 have h1 := (light_min hok (by omega) (by omega) hk hv).2.1 q hin (by omega)
 have h2 := hw_le (v := wv l q) (by omega) m3
 omega
end Go.Proofs.Ytmninaoedoonbaa.Bg
end
section
namespace Go.Proofs.Ytmninaoedoonbaa.Bg
open Go.RowKit Go.Proofs.Ytmninaoedoonbaa.G Go.Proofs.YtmninaoedoonbaaW.PrintWords Go.Proofs.YtmninaoedoonbaaW.PrintLast Go.Proofs.YtmninaoedoonbaaW.PrintMore
structure Best (l : List S45) (b : Int) (val : List Int → Int) (s : BpSt) : Prop where
 one : 1 ≤ s.count
 mem : s.best ∈ allP l b
 is : s.least = val s.best
 le : ∀ q ∈ allP l b, s.least ≤ val q
 first : ∀ q ∈ allP l b, val q = s.least → q = s.best ∨ Ahead s.best q
theorem short_all {l : List S45} {b : Int} (hf : fits l b = true) : ∃ s : BpSt, (∀ k, 100 < k → bpGo (fun p => impl_lengthOf.f k l p) l b l.length [] [] ⟨0, 0, []⟩ = some s) ∧ Best l b (lv l) s := by
 obtain ⟨hl1, hl8, hb1, hb2, hall⟩ := fits_facts hf
 obtain ⟨s, h1, _⟩ := short_both (fits_room hf)
 obtain ⟨s2, g1, g2, g3, g4, g5, g6⟩ := best_first (num := fun p => impl_lengthOf.f 101 l p) (val := lv l) (fits_room hf) (fun p hp => by
  obtain ⟨m1, m2⟩ := allP_mem (fits_room hf) hp
  exact lv_val hall m1 hl1 hl8 m2 101 (by omega))
 have e := h1 101 (by omega)
 rw [g1] at e
 obtain rfl := Option.some.inj e
 exact ⟨s2, h1, g2, g3, g4, g5, g6⟩
theorem few_all {l : List S45} {b : Int} (hf : fits l b = true) : ∃ s : BpSt, bpGo (fun p => impl_countTrips.f l p) l b l.length [] [] ⟨0, 0, []⟩ = some s ∧ Best l b (fun q => ((wv l q).length : Int)) s := by
 obtain ⟨hl1, hl8, hb1, hb2, hall⟩ := fits_facts hf
 obtain ⟨s, g1, g2, g3, g4, g5, g6⟩ := best_first (num := fun p => impl_countTrips.f l p) (val := fun q => ((wv l q).length : Int)) (fits_room hf) (fun p hp => by
  obtain ⟨m1, m2⟩ := allP_mem (fits_room hf) hp
  rw [(wv_both hall m1 hl1 hl8 m2).1]
  exact countTrips_val l m2 (by omega) (by omega))
 exact ⟨s, g1, g2, g3, g4, g5, g6⟩
theorem searches {l : List S45} {b : Int} (hf : fits l b = true) : ∃ s t : BpSt, Best l b (lv l) s ∧ Best l b (fun q => ((wv l q).length : Int)) t ∧
  Ev (fun k => impl_FirstShortestPlan.f k l b) (s.best, true) ∧ Ev (fun k => impl_LeastLength.f k l b) (s.least, true) ∧ Ev (fun k => impl_CountShortestPlans.f k l b) (s.count, true) ∧ impl_FirstFewestPlan.f l b = some (t.best, true) ∧ impl_FewestTrips.f l b = some (t.least, true) := by
 obtain ⟨s, h1, h2⟩ := short_all hf
 obtain ⟨t, g1, g2⟩ := few_all hf
 have h8 := (fits_room hf).max
 exact ⟨s, t, h2, g2, ⟨101, fun k hk => by simp [impl_FirstShortestPlan.f, fitBag_val, hf, h8, h1 k (by omega)]⟩, ⟨101, fun k hk => by simp [impl_LeastLength.f, fitBag_val, hf, h8, h1 k (by omega)]⟩, ⟨101, fun k hk => by simp [impl_CountShortestPlans.f, fitBag_val, hf, h8, h1 k (by omega)]⟩,
  by simp [impl_FirstFewestPlan.f, fitBag_val, hf, h8, g1], by simp [impl_FewestTrips.f, fitBag_val, hf, h8, g1]⟩
theorem bound_le {l : List S45} {b : Int} (hf : fits l b = true) {q : List Int} (hq : q ∈ allP l b) : (sumTo l l.length + b - 1).tdiv b ≤ ((wv l q).length : Int) ∧ ((wv l q).length : Int) ≤ (l.length : Int) := by
 obtain ⟨hl1, hl8, hb1, hb2, hall⟩ := fits_facts hf
 obtain ⟨m1, m2⟩ := allP_mem (fits_room hf) hq
 obtain ⟨_, h⟩ := plan_total hall hl8 hq
 have hS := sumTo_range hall l.length (Nat.le_refl _)
 have ha := (wv_both hall m1 hl1 hl8 m2).1
 have hc := cI_le q q.length
 refine ⟨?_, by omega⟩
 rw [Int.tdiv_eq_ediv_of_nonneg (by omega)]
 have : (sumTo l l.length + b - 1) / b < ((wv l q).length : Int) + 1 := by
  refine Int.ediv_lt_of_lt_mul (by omega) ?_
  rw [Int.add_mul]
  omega
 omega
end Go.Proofs.Ytmninaoedoonbaa.Bg
end
section
namespace Go.Proofs.Ytmninaoedoonbaa.Pz
open Go.RowKit Go.Proofs.Ytmninaoedoonbaa.G Go.Proofs.YtmninaoedoonbaaW.PrintWords Go.Proofs.YtmninaoedoonbaaW.PrintLast Go.Proofs.YtmninaoedoonbaaW.PrintMore Go.Proofs.Ytmninaoedoonbaa.Bg
theorem Gv.yes {α : Type} {c : Prop} [Decidable c] {f g : Nat → Option α} {P : α → Prop} (hc : c) (h : Gv f P) : Gv (fun k => if c then f k else g k) P := by
 simp only [if_pos hc]
 exact h
theorem Gv.no {α : Type} {c : Prop} [Decidable c] {f g : Nat → Option α} {P : α → Prop} (hc : ¬ c) (h : Gv g P) : Gv (fun k => if c then f k else g k) P := by
 simp only [if_neg hc]
 exact h
def okQ (p : S45) : Prop := 1 ≤ p.f0 ∧ p.f0 ≤ 9 ∧ 1 ≤ p.f1 ∧ p.f1 ≤ 9
theorem at_up' {N M i : Int} (h : at_ N i) (hm : N ≤ M) : at_ M i := ⟨h.1, Int.le_trans h.2 hm⟩
theorem sureP_l0 {l : List Int} (hb : byt l) : ∀ (d : Nat) (N i s : Int) (acc : List S45), N + 4 * (d : Int) ≤ 900000000 → at_ N i → acc.length + d ≤ 10 → (∀ p ∈ acc, okQ p) → Gv (fun k => spec_l1Cur_sureParcels.l0 k acc (d : Int) l i s) (fun r => r.1.length = acc.length + d ∧ (∀ p ∈ r.1, okQ p) ∧ at_ (N + 4 * (d : Int)) r.2.1) := by
 intro d
 induction d with
 | zero =>
  intro N i s acc hN hi ha hp
  refine Gv.step (fun k => by rw [spec_l1Cur_sureParcels.l0]) ?_
  refine Gv.no (by omega) ?_
  exact Gv.some ⟨rfl, hp, at_up' hi (by omega)⟩
 | succ d ih =>
  intro N i s acc hN hi ha hp
  refine Gv.step (fun k => by rw [spec_l1Cur_sureParcels.l0]) ?_
  refine Gv.yes (by omega) ?_
  refine Gv.bind (pick_gv hb s 9 (by omega) hi) ?_
  rintro ⟨c, i1, s1⟩ ⟨c0, _, c2, h1⟩
  dsimp only at c0 c2 h1 ⊢
  have c3 := c2 (by decide)
  refine Gv.bind (pick_gv (N := N + 2) hb s1 9 (by omega) h1) ?_
  rintro ⟨e, i2, s2⟩ ⟨e0, _, e2, h2⟩
  dsimp only at e0 e2 h2 ⊢
  have e3 := e2 (by decide)
  refine Gv.yes (by omega) ?_
  rw [wr_in (x := 1 + c) (by omega) (by omega), wr_in (x := 1 + e) (by omega) (by omega), wr_in (x := ((d + 1 : Nat) : Int) - 1) (by omega) (by omega), show ((d + 1 : Nat) : Int) - 1 = (d : Int) by omega]
  refine Gv.imp (ih (N + 4) i2 s2 _ (by omega) (at_up' h2 (by omega)) (by rw [List.length_append, List.length_singleton]; omega) ?_) ?_
  ·intro p hpm
   rcases List.mem_append.1 hpm with h | h
   ·exact hp p h
   ·obtain rfl := List.mem_singleton.1 h
    exact ⟨by dsimp only; omega, by dsimp only; omega, by dsimp only; omega, by dsimp only; omega⟩
  ·rintro r ⟨r0, r1, r2⟩
   rw [List.length_append, List.length_singleton] at r0
   exact ⟨by omega, r1, at_up' r2 (by omega)⟩
theorem sureP_gv {l : List Int} (hb : byt l) {N i : Int} (s m : Int) (hm : 1 ≤ m ∧ m ≤ 9) (hN : N ≤ 800000000) (hi : at_ N i) : Gv (fun k => spec_l1Cur_sureParcels.f k l i s m) (fun r => 1 ≤ r.1.length ∧ (r.1.length : Int) ≤ m ∧ (∀ p ∈ r.1, okQ p) ∧ at_ (N + 50) r.2.1) := by
 unfold spec_l1Cur_sureParcels.f
 refine Gv.bind (pick_gv hb s m (by omega) hi) ?_
 rintro ⟨c, i1, s1⟩ ⟨c0, _, c2, h1⟩
 dsimp only at c0 c2 h1 ⊢
 have c3 := c2 hm.1
 obtain ⟨d, hd⟩ : ∃ d : Nat, 1 + c = (d : Int) := ⟨(1 + c).toNat, by omega⟩
 rw [wr_in (x := 1 + c) (by omega) (by omega), hd]
 refine Gv.imp (sureP_l0 hb d (N + 2) i1 s1 [] (by omega) h1 (by simp; omega) (fun p hp => (by cases hp))) ?_
 rintro r ⟨r0, r1, r2⟩
 have r0 : r.1.length = d := by rw [r0]; simp
 exact ⟨by omega, by omega, r1, at_up' r2 (by omega)⟩
theorem parcels_l0 {l : List Int} (hb : byt l) : ∀ (d : Nat) (N i s : Int) (acc : List S45), N + 2 * ((d : Int) + 1) ≤ 900000000 → at_ N i → acc.length ≤ 9 → 9 ≤ acc.length + d → Gv (fun k => spec_l1Cur_parcels.l0 k acc l i s) (fun r => r.1.length ≤ 20 ∧ at_ (N + 2 * ((d : Int) + 1)) r.2.1) := by
 intro d
 induction d with
 | zero =>
  intro N i s acc hN hi ha hd
  refine Gv.step (fun k => by rw [spec_l1Cur_parcels.l0]) ?_
  refine Gv.bind (pick_gv hb s 2 (by omega) hi) ?_
  rintro ⟨c, i1, s1⟩ ⟨c0, _, c2, h1⟩
  dsimp only at c0 c2 h1 ⊢
  have c3 := c2 (by decide)
  rw [wr_in (x := 8 + c) (by omega) (by omega)]
  refine Gv.no (by omega) ?_
  exact Gv.some ⟨by dsimp only; omega, at_up' h1 (by omega)⟩
 | succ d ih =>
  intro N i s acc hN hi ha hd
  refine Gv.step (fun k => by rw [spec_l1Cur_parcels.l0]) ?_
  refine Gv.bind (pick_gv hb s 2 (by omega) hi) ?_
  rintro ⟨c, i1, s1⟩ ⟨c0, _, c2, h1⟩
  dsimp only at c0 c2 h1 ⊢
  have c3 := c2 (by decide)
  rw [wr_in (x := 8 + c) (by omega) (by omega)]
  split
  ·refine Gv.yes (by omega) ?_
   refine Gv.imp (ih (N + 2) i1 s1 _ (by omega) h1 (by rw [List.length_append, List.length_singleton]; omega) (by rw [List.length_append, List.length_singleton]; omega)) ?_
   intro r r0
   exact ⟨r0.1, at_up' r0.2 (by omega)⟩
  ·exact Gv.some ⟨by dsimp only; omega, at_up' h1 (by omega)⟩
theorem parcels_gv {l : List Int} (hb : byt l) {N i : Int} (s : Int) (hN : N ≤ 700000000) (hi : at_ N i) : Gv (fun k => spec_l1Cur_parcels.f k l i s) (fun r => r.1.length ≤ 20 ∧ at_ (N + 100) r.2.1) := by
 unfold spec_l1Cur_parcels.f
 refine Gv.bind (sureP_gv hb s 5 (by decide) (by omega) hi) ?_
 rintro ⟨p, i1, s1⟩ ⟨p0, p1, p2, h1⟩
 dsimp only at p0 p1 p2 h1 ⊢
 refine Gv.bind (pick_gv (N := N + 50) hb s1 20 (by omega) h1) ?_
 rintro ⟨c, i2, s2⟩ ⟨_, _, _, h2⟩
 dsimp only at h2 ⊢
 split
 ·exact Gv.some ⟨by simp, at_up' h2 (by omega)⟩
 ·split
  ·refine Gv.bind (among_gv (N := N + 50 + 2) hb s2 _ (by omega) h2 (by decide)) ?_
   rintro ⟨a, i3, s3⟩ ⟨_, h3⟩
   dsimp only at h3 ⊢
   refine Gv.bind (among_gv (N := N + 50 + 2 + 2) hb s3 _ (by omega) h3 (by decide)) ?_
   rintro ⟨e, i4, s4⟩ ⟨_, h4⟩
   dsimp only at h4 ⊢
   refine Gv.yes (by omega) ?_
   exact Gv.some ⟨by dsimp only; rw [List.length_append, List.length_singleton]; omega, at_up' h4 (by omega)⟩
  ·split
   ·refine Gv.imp (parcels_l0 hb 9 (N + 50 + 2) i2 s2 p (by omega) h2 (by omega) (by omega)) ?_
    intro r r0
    exact ⟨r0.1, at_up' r0.2 (by omega)⟩
   ·exact Gv.some ⟨by dsimp only; omega, at_up' h2 (by omega)⟩
theorem bag_gv {l : List Int} (hb : byt l) {N i : Int} (s : Int) (hN : N ≤ 1000000000) (hi : at_ N i) : Gv (fun _ => spec_l1Cur_bag.f l i s) (fun r => at_ (N + 2) r.2.1) := by
 unfold spec_l1Cur_bag.f
 refine Gv.bind (among_gv hb s _ hN hi (by decide)) ?_
 rintro ⟨a, i1, s1⟩ ⟨_, h1⟩
 dsimp only at h1 ⊢
 exact Gv.some h1
theorem shortest_gv {l : List Int} (hb : byt l) : Gv (fun k => spec_DrawFirstShortestPlan.f k l) (fun _ => True) := by
 unfold spec_DrawFirstShortestPlan.f
 refine Gv.bind (P := fun _ => True) ?_ (fun r _ => Gv.some trivial)
 unfold spec_DrawFewestTrips.f
 refine Gv.bind (parcels_gv (N := 0) hb 0 (by omega) ⟨Int.le_refl _, Int.le_refl _⟩) ?_
 rintro ⟨p, i1, s1⟩ ⟨_, h1⟩
 dsimp only at h1 ⊢
 refine Gv.bind (bag_gv hb s1 (by omega) h1) ?_
 rintro ⟨a, i2, s2⟩ _
 exact Gv.some trivial
theorem packed_l0 {l : List Int} (hb : byt l) (p : List S45) (b : Int) (hp : p.length ≤ 20) : ∀ (d : Nat) (N i s : Int) (acc : List Int), N + 4 * (d : Int) ≤ 900000000 → at_ N i → acc.length + d ≤ 100 → d ≤ p.length → Gv (fun k => spec_l1Cur_packed.l0 k p b acc (p.length : Int) ((p.length : Int) - (d : Int)) l i s) (fun _ => True) := by
 intro d
 induction d with
 | zero =>
  intro N i s acc hN hi ha hd
  refine Gv.step (fun k => by rw [spec_l1Cur_packed.l0]) ?_
  refine Gv.no (by omega) ?_
  exact Gv.some trivial
 | succ d ih =>
  intro N i s acc hN hi ha hd
  refine Gv.step (fun k => by rw [spec_l1Cur_packed.l0]) ?_
  refine Gv.yes (by omega) ?_
  refine Gv.bind (pick_gv hb s 3 (by omega) hi) ?_
  rintro ⟨c, i1, s1⟩ ⟨_, _, _, h1⟩
  dsimp only at h1 ⊢
  refine Gv.bind (pick_gv (N := N + 2) hb s1 20 (by omega) h1) ?_
  rintro ⟨e, i2, s2⟩ ⟨_, _, _, h2⟩
  dsimp only at h2 ⊢
  refine Gv.yes (by omega) ?_
  have e3 : wrap64 ((p.length : Int) - ((d + 1 : Nat) : Int) + 1) = (p.length : Int) - (d : Int) := by rw [wr_in (by omega) (by omega)]; omega
  rw [e3]
  exact ih (N + 4) i2 s2 _ (by omega) (at_up' h2 (by omega)) (by rw [List.length_append, List.length_singleton]; omega) (by omega)
theorem pack_some {α : Type} {x : Option (List Int)} {y : List Int → Option (List Int)} {v : List Int × Bool} (f : List Int → α) (h : (x.bind fun t => (y t).bind fun q => some (q, true)) = some v) : (x.bind fun t => (y t).bind fun q => some (f q)) = some (f v.1) := by
 obtain ⟨t, h1, h2⟩ := Option.bind_eq_some_iff.1 h
 obtain ⟨q, h3, h4⟩ := Option.bind_eq_some_iff.1 h2
 obtain rfl := Option.some.inj h4
 rw [h1, Option.bind_some, h3, Option.bind_some]
theorem packed_gv {l : List Int} (hb : byt l) : Gv (fun k => spec_l1Cur_packed.f k l 0 0) (fun _ => True) := by
 unfold spec_l1Cur_packed.f
 refine Gv.bind (parcels_gv (N := 0) hb 0 (by omega) ⟨Int.le_refl _, Int.le_refl _⟩) ?_
 rintro ⟨p, i1, s1⟩ ⟨hp, h1⟩
 dsimp only at hp h1 ⊢
 refine Gv.bind (bag_gv hb s1 (by omega) h1) ?_
 rintro ⟨b, i2, s2⟩ h2
 dsimp only at h2 ⊢
 refine Gv.bind (P := fun t => t = fits p b) (Gv.ev (bgAsked_ev p b) rfl) ?_
 rintro t rfl
 have other : ∀ (N i s : Int), N ≤ 1000 → at_ N i → Gv (fun k => spec_l1Cur_packed.j0 k p b true l i s) (fun _ => True) := by
  intro N i s hN hi
  refine Gv.step (fun k => by rw [spec_l1Cur_packed.j0]) ?_
  refine Gv.yes rfl ?_
  have := packed_l0 hb p b hp p.length N i s [] (by omega) hi (by simp; omega) (Nat.le_refl _)
  rw [Int.sub_self] at this
  exact this
 by_cases hf : fits p b = true
 ·refine Gv.yes hf ?_
  refine Gv.bind (one_gv (N := 0 + 100 + 2) hb s2 4 (by omega) h2) ?_
  rintro ⟨o, i3, s3⟩ h3
  dsimp only at h3 ⊢
  cases o with
  | true => exact other _ _ _ (by omega) h3
  | false =>
   obtain ⟨g1, g8, _, _, _⟩ := fits_facts hf
   refine Gv.step (fun k => by rw [spec_l1Cur_packed.j0]) ?_
   refine Gv.no (by decide) ?_
   by_cases h6 : (p.length : Int) < 6
   ·refine Gv.yes h6 ?_
    refine Gv.bind (P := fun t => t = allP p b) (Gv.ev ⟨9, fun k hk => bgAll_val (fits_room hf) k (by omega)⟩ rfl) ?_
    rintro t rfl
    obtain ⟨q, Q, hq⟩ := allP_ne (fits_room hf)
    have hl := allP_len (fits_room hf)
    have hne : 0 < (allP p b).length := by rw [hq]; simp
    refine Gv.bind (pick_gv (N := 0 + 100 + 2 + 2) hb s3 250 (by omega) h3) ?_
    rintro ⟨c, i4, s4⟩ ⟨c0, _, _, _⟩
    dsimp only at c0 ⊢
    have m1 := Int.emod_nonneg c (show ((allP p b).length : Int) ≠ 0 by omega)
    have m2 := Int.emod_lt_of_pos c (show 0 < ((allP p b).length : Int) by omega)
    rw [Int.tmod_eq_emod_of_nonneg c0]
    refine Gv.no (by omega) ?_
    refine Gv.yes m1 ?_
    refine Gv.yes m2 ?_
    exact Gv.some trivial
   ·refine Gv.no h6 ?_
    refine Gv.bind (one_gv (N := 0 + 100 + 2 + 2) hb s3 2 (by omega) h3) ?_
    rintro ⟨o, i4, s4⟩ h4
    dsimp only at h4 ⊢
    obtain ⟨K0, h0⟩ := bgAsked_ev p b
    have h0 : ∀ k, K0 ≤ k → spec_bgAsked.f k p b = some (fits p b) := h0
    cases o with
    | false =>
     obtain ⟨v, ⟨K, hv⟩, _, _⟩ := PackInOrder_both p b
     have hv : ∀ k, K ≤ k → spec_PackInOrder.f k p b = some v := hv
     refine ⟨(p, b, v.1, i4, s4), ⟨K + K0, fun k hk => ?_⟩, trivial⟩
     have e := hv k (by omega)
     unfold spec_PackInOrder.f at e
     rw [h0 k (by omega), hf, Option.bind_some, if_pos rfl] at e
     exact pack_some (fun q => (p, b, q, i4, s4)) e
    | true =>
     obtain ⟨v, ⟨K, hv⟩, _, _⟩ := PackFarthestFirst_both p b
     have hv : ∀ k, K ≤ k → spec_PackFarthestFirst.f k p b = some v := hv
     refine ⟨(p, b, v.1, i4, s4), ⟨K + K0, fun k hk => ?_⟩, trivial⟩
     have e := hv k (by omega)
     unfold spec_PackFarthestFirst.f at e
     rw [h0 k (by omega), hf, Option.bind_some, if_pos rfl] at e
     exact pack_some (fun q => (p, b, q, i4, s4)) e
 ·refine Gv.no hf ?_
  exact other _ _ _ (by omega) h2
theorem trips_gv {l : List Int} (hb : byt l) : Gv (fun k => spec_DrawTripsOfPlan.f k l) (fun _ => True) := by
 unfold spec_DrawTripsOfPlan.f
 refine Gv.bind (P := fun _ => True) ?_ (fun r _ => Gv.some trivial)
 unfold spec_DrawIsBagPlan.f
 refine Gv.bind (packed_gv hb) ?_
 intro r _
 exact Gv.some trivial
end Go.Proofs.Ytmninaoedoonbaa.Pz
end
section
namespace Go.Proofs.Ytmninaoedoonbaa.Bg
open Go.RowKit Go.Proofs.Ytmninaoedoonbaa.G Go.Proofs.YtmninaoedoonbaaW.PrintWords Go.Proofs.YtmninaoedoonbaaW.PrintLast Go.Proofs.YtmninaoedoonbaaW.PrintMore
theorem packs {l : List S45} {b : Int} (hf : fits l b = true) : ∃ xo xr, Ev (fun k => impl_PackInOrder.f k l b) (xo, true) ∧ xo ∈ allP l b ∧ Ev (fun k => impl_PackFarthestFirst.f k l b) (xr, true) ∧ xr ∈ allP l b := by
 obtain ⟨h1, h8, _, _, _⟩ := fits_facts hf
 obtain ⟨e1, _, _⟩ := packed_val l b (line 0 l.length) h1 h8 (fun i hi => line_mem hi) (by rw [line_len]; exact h8)
 obtain ⟨P, hP, hPl, hPn⟩ := pk2_line l b l.length l.length 0 [] [] (Nat.zero_add _) rfl (fun i hi => absurd hi (Nat.not_lt_zero _)) rfl
 rw [List.drop_zero, List.nil_append] at hP
 have hin := pack_in hf (List.Perm.refl (line 0 l.length))
 rw [hP, plan_nm hPl] at hin
 rw [hP] at e1
 have hz : insI (cfH l) l.length 0 (line 0 l.length) = insI (cfH l) (l.length - 1) 1 (line 0 l.length) := by
  obtain ⟨m, hm⟩ : ∃ m, l.length = m + 1 := ⟨l.length - 1, by omega⟩
  rw [hm]
  rfl
 obtain ⟨r, o1, ⟨o2, o3⟩, _, _⟩ := order_both l h8 l.length 0 [] (Nat.zero_add _) rfl (fun x hx => by cases hx)
 have hperm := order_perm l l.length 0 [] (Nat.zero_add _) rfl
 rw [o1] at hperm
 rw [List.nil_append, List.drop_zero] at hperm o1
 rw [hz] at o1
 obtain ⟨e2, _, _⟩ := packed_val l b r h1 h8 o3 (by omega)
 have hlen : (pk2 l b r [] (List.replicate l.length 0)).length = l.length := by rw [pk2_len]; simp
 obtain ⟨K3, e3⟩ := named_ev (pk2 l b r [] (List.replicate l.length 0)) (by omega)
 have e3 : ∀ k, K3 ≤ k → impl_named.f k (pk2 l b r [] (List.replicate l.length 0)) = some _ := e3
 refine ⟨P, _, ⟨20, fun k hk => ?_⟩, hin, ⟨K3, fun k hk => ?_⟩, pack_in hf hperm⟩
 ·show impl_PackInOrder.f k l b = _
  unfold impl_PackInOrder.f
  have := pack_l0 l b l.length (by omega) l.length 0 k (Nat.zero_add _) (by omega)
  rw [show line 0 0 = [] from rfl, List.nil_append] at this
  rw [fitBag_val, hf, Option.bind_some, if_pos rfl, if_pos (by omega), if_pos (by omega), Option.bind_some, Int.toNat_natCast, List.length_replicate]
  rw [show ((0 : Nat) : Int) = 0 from rfl] at this
  rw [this, e1, Option.bind_some]
 ·show impl_PackFarthestFirst.f k l b = _
  unfold impl_PackFarthestFirst.f
  rw [fitBag_val, hf, Option.bind_some, if_pos rfl, if_pos ⟨h1, by omega⟩, upTo_line, o1, e2, Option.bind_some, e3 k hk, Option.bind_some]
end Go.Proofs.Ytmninaoedoonbaa.Bg
end
section
set_option linter.unusedSimpArgs false
set_option linter.unusedVariables false
namespace Go.Proofs.Ytmninaoedoonbaa.Bg
open Go.RowKit Go.Proofs.Ytmninaoedoonbaa.G Go.Proofs.YtmninaoedoonbaaW.PrintWords Go.Proofs.YtmninaoedoonbaaW.PrintLast Go.Proofs.YtmninaoedoonbaaW.PrintMore
theorem Ev.same {α : Type} {g : Nat → Option α} {a b : α} (h1 : Ev g a) (h2 : Ev g b) : a = b := by
 obtain ⟨K1, h1⟩ := h1
 obtain ⟨K2, h2⟩ := h2
 exact Option.some.inj ((h1 (K1 + K2) (by omega)).symm.trans (h2 (K1 + K2) (by omega)))
theorem aSame_l0 (l : List Int) (hn : l.length ≤ 1000000) : ∀ (d i k : Nat), i + d = l.length → d < k → laws_aSame.l0 k l l (l.length : Int) (i : Int) = some true := by
 intro d
 induction d with
 | zero =>
  intro i k hi hk
  obtain ⟨k, rfl⟩ : ∃ m, k = m + 1 := ⟨k - 1, by omega⟩
  rw [laws_aSame.l0, if_neg (by omega)]
 | succ d ih =>
  intro i k hi hk
  obtain ⟨k, rfl⟩ : ∃ m, k = m + 1 := ⟨k - 1, by omega⟩
  rw [laws_aSame.l0, if_pos (by omega), if_pos (by omega), if_pos (by omega), if_pos (by omega), if_pos rfl, w64 (by omega) (by omega), show ((i : Int) + 1) = ((i + 1 : Nat) : Int) by omega]
  exact ih (i + 1) k (by omega) (by omega)
theorem aSame_k (l : List Int) (hn : l.length ≤ 1000000) (k : Nat) (hk : l.length < k) : laws_aSame.f k l l = some true := by
 have := aSame_l0 l hn l.length 0 k (by omega) (by omega)
 rw [laws_aSame.f, if_pos rfl]
 exact this
theorem are_both (l : List S45) : Ev (fun k => spec_AreParcels.f k l) (okP l) := by
 obtain ⟨K, h⟩ := bgGood_ev l
 have h : ∀ k, K ≤ k → spec_bgGood.f k l = some (okP l) := h
 exact ⟨K, fun k hk => by simp [spec_AreParcels.f, h k hk]⟩
theorem bound_val {l : List S45} {b : Int} (hf : fits l b = true) : Ev (fun k => impl_TripsBound.f k l b) ((sumTo l l.length + b - 1).tdiv b, true) := by
 obtain ⟨h1, h8, hb1, hb2, hall⟩ := fits_facts hf
 have hS := sumTo_range hall l.length (Nat.le_refl _)
 refine ⟨20, fun k hk => ?_⟩
 show impl_TripsBound.f k l b = _
 have e : impl_weightOf.f k l = some (sumTo l l.length) := (sum_val hall h8 l.length 0 k (by omega) (by omega)).1
 have hd := Int.tdiv_nonneg (a := sumTo l l.length + b - 1) (b := b) (by omega) (by omega)
 have hd2 : (sumTo l l.length + b - 1).tdiv b ≤ sumTo l l.length + b - 1 := by
  rw [Int.tdiv_eq_ediv_of_nonneg (by omega)]
  exact Int.ediv_le_self _ (by omega)
 unfold impl_TripsBound.f
 rw [fitBag_val, hf, Option.bind_some, if_pos rfl, e, Option.bind_some, if_neg (by omega), w64 (x := sumTo l l.length + b) (by omega) (by omega), w64 (x := sumTo l l.length + b - 1) (by omega) (by omega), w64 (by omega) (by omega)]
theorem light_some {l : List S45} {t : Int} (hok : okP l = true) (h1 : 1 ≤ t) (h8 : t ≤ 8) (k : Nat) (hk : 20 ≤ k) : ∃ v, impl_LightestBag.f k l t = some (v, true) := by
 have hF := okP_fit hok
 obtain ⟨s, hs⟩ := foldB_some (lbNum k l t) (fun p => if ((wv l p).length : Int) > t then 1000000 else hw (wv l p)) (allP l (sumTo l l.length)) ⟨0, 0, []⟩ (fun p hp => by
  obtain ⟨m1, m2⟩ := allP_mem hF hp
  exact lbNum_val hF.all m1 hF.one hF.max m2 t k (by omega))
 have e : impl_weightOf.f k l = some (sumTo l l.length) := (sum_val hF.all hF.max l.length 0 k (by omega) (by have := hF.max; omega)).1
 have e2 : bpGo (lbNum k l t) l (sumTo l l.length) l.length [] [] ⟨0, 0, []⟩ = some s := by
  rw [bpGo_fold]
  exact hs
 refine ⟨s.least, ?_⟩
 unfold impl_LightestBag.f
 have hw : impl_within.f t 1 8 = some true := by
  rw [within_is']
  simp
  omega
 rw [areParcels_val, hok, Option.bind_some, if_pos rfl, hw, Option.bind_some, if_pos rfl, e, Option.bind_some, if_pos hF.max, e2, Option.bind_some]
theorem row_all {l : List S45} {b : Int} (hf : fits l b = true) {s t : BpSt} (hs : Best l b (lv l) s) (ht : Best l b (fun q => ((wv l q).length : Int)) t) {q : List Int} (hq : q ∈ allP l b) (i : Nat) (h0 : i = 0 → q = s.best) (h1 : i = 1 → q = t.best) :
  ∃ K, ∀ k, K ≤ k → ∃ len T tp tf, Row k l b s.best t.best s.least t.least i q len T tp tf := by
 obtain ⟨⟨K1, e1⟩, ⟨K2, e2⟩, T, hT, ⟨K3, e3⟩⟩ := plan_says hf hq
 have l1 : s.best.length ≤ 1000000 := by
  have := (allP_mem (fits_room hf) hs.mem).1
  have := (fits_room hf).max
  omega
 have l2 : t.best.length ≤ 1000000 := by
  have := (allP_mem (fits_room hf) ht.mem).1
  have := (fits_room hf).max
  omega
 have first : ∀ (x : BpSt) (c : Prop), x.best.length ≤ 1000000 → (c → q = x.best ∨ Ahead x.best q) → ∀ k, 1000001 < k → ∃ tp, laws_aFirst.f k x.best q = some tp ∧ (c → tp = true) := by
  intro x c hx h k hk
  by_cases hc : c
  ·rcases h hc with rfl | ha
   ·exact ⟨true, aFirst_same _ hx _ 0 k (Nat.zero_add _) (by omega), fun _ => rfl⟩
   ·exact ⟨true, aFirst_ahead hx ha k (by omega), fun _ => rfl⟩
  ·obtain ⟨tp, h⟩ := aFirst_some x.best q hx x.best.length 0 k (Nat.zero_add _) (Nat.zero_le _) (by omega)
   exact ⟨tp, h, fun h => absurd h hc⟩
 refine ⟨K1 + K2 + K3 + 1000002, fun k hk => ?_⟩
 obtain ⟨tp, p1, p2⟩ := first s (lv l q = s.least) l1 (hs.first q hq) k (by omega)
 obtain ⟨tf, f1, f2⟩ := first t ((T.length : Int) = t.least) l2 (fun h => ht.first q hq (by omega)) k (by omega)
 have hle := ht.le q hq
 refine ⟨lv l q, T, tp, tf, e1 k (by omega), e2 k (by omega), e3 k (by omega), hs.le q hq, by omega, fun h => ?_, fun h => ?_, p1, f1, p2, f2⟩
 ·rw [h0 h]
  exact hs.is.symm
 ·have := ht.is
  rw [← h1 h] at this
  omega
theorem one_all (pl : List S45) (bag : Int) : ∃ ok xp xf xo xr least cnt few bnd, ∃ K, ∀ k, K ≤ k → ∀ l0, spec_DrawFirstShortestPlan.f k l0 = some (pl, bag) → RunA k l0 pl bag ok xp xf xo xr least cnt few bnd (okP pl) ∧ ∃ lb, ok = true → RunB k pl bag xp xf xo xr least cnt few bnd lb := by
 obtain ⟨v1, ⟨Ka, a1⟩, a2, a3⟩ := FirstShortestPlan_both pl bag
 obtain ⟨v2, ⟨Kb, b1⟩, b2⟩ := LeastLength_both pl bag
 obtain ⟨v3, ⟨Kc, c1⟩, c2⟩ := CountShortestPlans_both pl bag
 obtain ⟨v4, ⟨Kd, d1⟩, d2, d3⟩ := FirstFewestPlan_both pl bag
 obtain ⟨v5, ⟨Ke, e1⟩, e2⟩ := FewestTrips_both pl bag
 obtain ⟨v6, ⟨Kf, f1⟩, f2, f3⟩ := PackInOrder_both pl bag
 obtain ⟨v7, ⟨Kg, g1⟩, g2, g3⟩ := PackFarthestFirst_both pl bag
 obtain ⟨v8, ⟨Kh, h1⟩, h2⟩ := TripsBound_both pl bag
 obtain ⟨Ki, i1⟩ := are_both pl
 have key : ∃ ok xp xf xo xr least cnt few bnd, v1 = (xp, ok) ∧ v2 = (least, ok) ∧ v3 = (cnt, ok) ∧ v4 = (xf, ok) ∧ v5 = (few, ok) ∧ v6 = (xo, ok) ∧ v7 = (xr, ok) ∧ v8 = (bnd, ok) ∧ (ok = true → okP pl = true) ∧ ∃ K, ∀ k, K ≤ k → ∃ lb, ok = true → RunB k pl bag xp xf xo xr least cnt few bnd lb := by
  cases hf : fits pl bag with
  | false =>
   refine ⟨false, [], [], [], [], 0, 0, 0, 0, Ev.same a2 ⟨0, fun k _ => by simp [impl_FirstShortestPlan.f, fitBag_val, hf]⟩, Ev.same b2 ⟨0, fun k _ => by simp [impl_LeastLength.f, fitBag_val, hf]⟩, Ev.same c2 ⟨0, fun k _ => by simp [impl_CountShortestPlans.f, fitBag_val, hf]⟩,
    Option.some.inj (d2.symm.trans (by simp [impl_FirstFewestPlan.f, fitBag_val, hf])), Option.some.inj (e2.symm.trans (by simp [impl_FewestTrips.f, fitBag_val, hf])), Ev.same f2 ⟨0, fun k _ => by simp [impl_PackInOrder.f, fitBag_val, hf]⟩, Ev.same g2 ⟨0, fun k _ => by simp [impl_PackFarthestFirst.f, fitBag_val, hf]⟩, Ev.same h2 ⟨0, fun k _ => by simp [impl_TripsBound.f, fitBag_val, hf]⟩, fun h => (by cases h), 0, fun k _ => ⟨0, fun h => (by cases h)⟩⟩
  | true =>
   obtain ⟨s, t, hs, ht, s1, s2, s3, s4, s5⟩ := searches hf
   obtain ⟨xo, xr, p1, p2, p3, p4⟩ := packs hf
   have hok : okP pl = true := by
    unfold fits at hf
    exact (Bool.and_eq_true_iff.1 hf).1
   have hb := bound_le hf ht.mem
   have hl8 := (fits_room hf).max
   have htis := ht.is
   have htis : t.least = ((wv pl t.best).length : Int) := htis
   have hone : 1 ≤ t.least := by
    obtain ⟨m1, m2⟩ := allP_mem (fits_room hf) ht.mem
    obtain ⟨q1, q8, _, _, hall⟩ := fits_facts hf
    have := (wv_both hall m1 q1 q8 m2).1
    have := plan_pos m2 (by omega)
    omega
   obtain ⟨K0, r0⟩ := row_all hf hs ht hs.mem 0 (fun _ => rfl) (fun h => by omega)
   obtain ⟨K1, r1⟩ := row_all hf hs ht ht.mem 1 (fun h => by omega) (fun _ => rfl)
   obtain ⟨K2, r2⟩ := row_all hf hs ht p2 2 (fun h => by omega) (fun h => by omega)
   obtain ⟨K3, r3⟩ := row_all hf hs ht p4 3 (fun h => by omega) (fun h => by omega)
   refine ⟨true, s.best, t.best, xo, xr, s.least, s.count, t.least, _, Ev.same a2 s1, Ev.same b2 s2, Ev.same c2 s3, Option.some.inj (d2.symm.trans s4), Option.some.inj (e2.symm.trans s5), Ev.same f2 p1, Ev.same g2 p3, Ev.same h2 (bound_val hf), fun _ => hok, K0 + K1 + K2 + K3 + 20, fun k hk => ?_⟩
   obtain ⟨lb, hlb⟩ := light_some hok hone (by omega) k (by omega)
   refine ⟨lb, fun _ => ⟨by omega, by omega, hs.one, fun i hi => ?_, hlb, light_le hf ht.mem htis (by omega) hlb⟩⟩
   match i, hi with
   | 0, _ => exact r0 k (by omega)
   | 1, _ => exact r1 k (by omega)
   | 2, _ => exact r2 k (by omega)
   | 3, _ => exact r3 k (by omega)
 obtain ⟨ok, xp, xf, xo, xr, least, cnt, few, bnd, rfl, rfl, rfl, rfl, rfl, rfl, rfl, rfl, him, Kz, hz⟩ := key
 obtain ⟨K1, a2⟩ := a2
 obtain ⟨K2, b2⟩ := b2
 obtain ⟨K3, c2⟩ := c2
 obtain ⟨K6, f2⟩ := f2
 obtain ⟨K7, g2⟩ := g2
 obtain ⟨K8, h2⟩ := h2
 refine ⟨ok, xp, xf, xo, xr, least, cnt, few, bnd, Ka + Kb + Kc + Kd + Ke + Kf + Kg + Kh + Ki + Kz + K1 + K2 + K3 + K6 + K7 + K8 + 2000, fun k hk l0 hd => ⟨⟨hd, a2 k (by omega), a1 k (by omega), b2 k (by omega), b1 k (by omega), c2 k (by omega), c1 k (by omega), d2, d1 k (by omega), e2, e1 k (by omega), f2 k (by omega), f1 k (by omega), g2 k (by omega), g1 k (by omega), h2 k (by omega), h1 k (by omega), aSame_k xp (by dsimp only at a3; omega) k (by dsimp only at a3; omega), aSame_k xf (by dsimp only at d3; omega) k (by dsimp only at d3; omega), aSame_k xo (by dsimp only at f3; omega) k (by dsimp only at f3; omega), aSame_k xr (by dsimp only at g3; omega) k (by dsimp only at g3; omega), areParcels_val pl, i1 k (by omega), him⟩, hz k (by omega)⟩⟩
end Go.Proofs.Ytmninaoedoonbaa.Bg
end
section
set_option linter.unusedSimpArgs false
set_option linter.unusedVariables false
namespace Go.Proofs.Ytmninaoedoonbaa.Bg
open Go.RowKit Go.Proofs.Ytmninaoedoonbaa.G Go.Proofs.YtmninaoedoonbaaW.PrintWords Go.Proofs.YtmninaoedoonbaaW.PrintLast Go.Proofs.YtmninaoedoonbaaW.PrintMore
theorem tr_mem {p : List Int} {m j : Nat} {x : Int} (h : x ∈ tr p m j) : 0 ≤ x ∧ x < (m : Int) ∧ rd p x = (j : Int) := by
 simp only [tr, List.mem_map, List.mem_filter, List.mem_range, decide_eq_true_eq] at h
 obtain ⟨i, ⟨h1, h2⟩, rfl⟩ := h
 exact ⟨by omega, by omega, h2⟩
theorem mem_tr {p : List Int} {m : Nat} {i : Nat} {j : Nat} (h : i < m) (hj : rd p (i : Int) = (j : Int)) : (i : Int) ∈ tr p m j := by
 simp only [tr, List.mem_map, List.mem_filter, List.mem_range, decide_eq_true_eq]
 exact ⟨i, ⟨h, hj⟩, rfl⟩
theorem tr_sorted (p : List Int) (m j : Nat) : (tr p m j).Pairwise (fun a b => a < b) := by
 unfold tr
 rw [List.pairwise_map]
 refine List.Pairwise.imp ?_ (List.Pairwise.filter _ List.pairwise_lt_range)
 intro a b h
 omega
theorem rises_l0 {t : List Int} (hs : t.Pairwise (fun a b => a < b)) (hn : t.length ≤ 1000000) : ∀ (d i k : Nat), i + d = t.length → 1 ≤ i → d < k → laws_aRises.l0 k t (i : Int) = some true := by
 intro d
 induction d with
 | zero =>
  intro i k hi h1 hk
  obtain ⟨k, rfl⟩ : ∃ m, k = m + 1 := ⟨k - 1, by omega⟩
  rw [laws_aRises.l0, if_neg (by omega)]
 | succ d ih =>
  intro i k hi h1 hk
  obtain ⟨k, rfl⟩ : ∃ m, k = m + 1 := ⟨k - 1, by omega⟩
  obtain ⟨u, rfl⟩ : ∃ u, i = u + 1 := ⟨i - 1, by omega⟩
  have e : wrap64 (((u + 1 : Nat) : Int) - 1) = (u : Int) := by
   have := w64 (x := ((u + 1 : Nat) : Int) - 1) (by omega) (by omega)
   omega
  have e2 : wrap64 (((u + 1 : Nat) : Int) + 1) = ((u + 1 + 1 : Nat) : Int) := by
   have := w64 (x := ((u + 1 : Nat) : Int) + 1) (by omega) (by omega)
   omega
  have hlt := List.pairwise_iff_getElem.1 hs u (u + 1) (by omega) (by omega) (by omega)
  rw [laws_aRises.l0, e, if_pos (by omega), if_pos (by omega), if_pos (by omega), if_pos (by omega), if_neg (by rw [rd_get (by omega), rd_get (by omega)]; omega), e2]
  exact ih (u + 1 + 1) k (by omega) (by omega) (by omega)
theorem rises_k {t : List Int} (hs : t.Pairwise (fun a b => a < b)) (hn : t.length ≤ 1000000) (k : Nat) (hk : t.length + 1 < k) : laws_aRises.f k t = some true := by
 unfold laws_aRises.f
 by_cases h : 1 ≤ t.length
 ·exact rises_l0 hs hn (t.length - 1) 1 k (by omega) (by omega) (by omega)
 ·obtain ⟨k, rfl⟩ : ∃ m, k = m + 1 := ⟨k - 1, by omega⟩
  rw [laws_aRises.l0, if_neg (by omega)]
theorem aRows_l0 (T : List (List Int)) (hn : T.length ≤ 1000000) (hr : ∀ r ∈ T, r.length ≤ 1000) : ∀ (d i k : Nat), i + d = T.length → d + 1001 < k → laws_aRows.l0 k T T (T.length : Int) (i : Int) = some true := by
 intro d
 induction d with
 | zero =>
  intro i k hi hk
  obtain ⟨k, rfl⟩ : ∃ m, k = m + 1 := ⟨k - 1, by omega⟩
  rw [laws_aRows.l0, if_neg (by omega)]
 | succ d ih =>
  intro i k hi hk
  obtain ⟨k, rfl⟩ : ∃ m, k = m + 1 := ⟨k - 1, by omega⟩
  have e2 : wrap64 ((i : Int) + 1) = ((i + 1 : Nat) : Int) := by
   have := w64 (x := (i : Int) + 1) (by omega) (by omega)
   omega
  have hl : (rd_L3 T (i : Int)).length ≤ 1000 := by
   rw [rdL_get (by omega)]
   exact hr _ (List.getElem_mem (by omega))
  rw [laws_aRows.l0, if_pos (by omega), if_pos (by omega), if_pos (by omega), if_pos (by omega), aSame_k _ (by omega) k (by omega), Option.bind_some, if_pos rfl, e2]
  exact ih (i + 1) k (by omega) (by omega)
theorem aRows_k (T : List (List Int)) (hn : T.length ≤ 1000) (hr : ∀ r ∈ T, r.length ≤ 1000) (k : Nat) (hk : 3000 < k) : laws_aRows.f k T T = some true := by
 have := aRows_l0 T (by omega) hr T.length 0 k (by omega) (by omega)
 rw [laws_aRows.f, if_pos rfl]
 exact this
def nW (l : List S45) (t : List Int) (u : Nat) : Int := ((t.take u).map fun x => (rd_T45 l x).f1).sum
def mH (l : List S45) (t : List Int) (u : Nat) : Int := farOf l (t.take u)
theorem nW_succ (l : List S45) (t : List Int) {u : Nat} (h : u < t.length) : nW l t (u + 1) = nW l t u + (rd_T45 l (rd t (u : Int))).f1 := by
 unfold nW
 rw [List.take_succ_eq_append_getElem h, List.map_append, List.sum_append, rd_get h]
 simp
theorem mH_succ (l : List S45) (t : List Int) {u : Nat} (h : u < t.length) : mH l t (u + 1) = if (rd_T45 l (rd t (u : Int))).f0 > mH l t u then (rd_T45 l (rd t (u : Int))).f0 else mH l t u := by
 unfold mH
 rw [List.take_succ_eq_append_getElem h, farOf_snoc, rd_get h]
 show mx _ (house l t[u]) = if house l t[u] > _ then house l t[u] else _
 unfold mx
 split <;> rfl
theorem nW_tr (l : List S45) (p : List Int) (j : Nat) : ∀ m, nW l (tr p m j) (tr p m j).length = sW l p (j : Int) m
 | 0 => rfl
 | m + 1 => by
  have ih := nW_tr l p j m
  unfold nW at ih ⊢
  rw [List.take_length] at ih ⊢
  simp only [sW]
  rw [tr_succ]
  by_cases h : rd p (m : Int) = (j : Int)
  ·rw [if_pos h, if_pos h, List.map_append, List.sum_append, ih]
   simp [wt]
  ·rw [if_neg h, if_neg h, ih, Int.add_zero]
theorem nW_range {l : List S45} (hl : l.all parcOk = true) {t : List Int} (ht : ∀ x ∈ t, 0 ≤ x ∧ x < (l.length : Int)) : ∀ u, u ≤ t.length → 0 ≤ nW l t u ∧ nW l t u ≤ 1000 * (u : Int)
 | 0, _ => ⟨Int.le_refl _, Int.le_refl _⟩
 | u + 1, h => by
  obtain ⟨i1, i2⟩ := nW_range hl ht u (by omega)
  have hx := ht (rd t (u : Int)) (rd_mem (by omega) (by omega))
  obtain ⟨n, hn⟩ : ∃ n : Nat, rd t (u : Int) = (n : Int) := ⟨(rd t (u : Int)).toNat, by omega⟩
  have hp := parc_get hl (i := n) (by omega)
  rw [nW_succ l t (by omega), hn]
  omega
theorem farOf_le (l : List S45) (c : Int) : ∀ (t : List Int), farOf l t ≤ c ↔ 0 ≤ c ∧ ∀ x ∈ t, house l x ≤ c := by
 have key : ∀ (t : List Int) (a : Int), t.foldl (fun a i => mx a (house l i)) a ≤ c ↔ a ≤ c ∧ ∀ x ∈ t, house l x ≤ c := by
  intro t
  induction t with
  | nil => intro a; simp
  | cons x t ih =>
   intro a
   rw [List.foldl_cons, ih, mx_le]
   simp only [List.mem_cons, forall_eq_or_imp]
   rw [and_assoc]
 exact fun t => key t 0
theorem mH_range {l : List S45} (hl : l.all parcOk = true) {t : List Int} (ht : ∀ x ∈ t, 0 ≤ x ∧ x < (l.length : Int)) : farOf l t ≤ 100 ∧ 0 ≤ farOf l t := by
 refine ⟨(farOf_le l 100 t).2 ⟨by omega, fun x hx => ?_⟩, ?_⟩
 ·have hx := ht x hx
  obtain ⟨n, hn⟩ : ∃ n : Nat, x = (n : Int) := ⟨x.toNat, by omega⟩
  have hp := parc_get hl (i := n) (by omega)
  rw [hn]
  unfold house
  omega
 ·have := (farOf_le l (farOf l t) t).1 (Int.le_refl _)
  omega
def alS (T : List (List Int)) : Nat → Int
 | 0 => 0
 | j + 1 => wrap64 (alS T j + ((rd_L3 T (j : Int)).length : Int))
def suS (l : List S45) (T : List (List Int)) : Nat → Int
 | 0 => 0
 | j + 1 => wrap64 (suS l T j + wrap64 (2 * farOf l (rd_L3 T (j : Int))))
def faS (l : List S45) (T : List (List Int)) : Nat → Int
 | 0 => 0
 | j + 1 => if farOf l (rd_L3 T (j : Int)) > faS l T j then farOf l (rd_L3 T (j : Int)) else faS l T j
theorem faS_le (l : List S45) (T : List (List Int)) (c : Int) : ∀ j, faS l T j ≤ c ↔ 0 ≤ c ∧ ∀ i, i < j → farOf l (rd_L3 T (i : Int)) ≤ c
 | 0 => ⟨fun h => ⟨h, fun i hi => absurd hi (Nat.not_lt_zero _)⟩, fun h => h.1⟩
 | j + 1 => by
  have ih := faS_le l T c j
  simp only [faS]
  have key : (if farOf l (rd_L3 T (j : Int)) > faS l T j then farOf l (rd_L3 T (j : Int)) else faS l T j) ≤ c ↔ faS l T j ≤ c ∧ farOf l (rd_L3 T (j : Int)) ≤ c := by split <;> omega
  rw [key, ih]
  constructor
  ·intro h
   refine ⟨h.1.1, fun i hi => ?_⟩
   by_cases e : i = j
   ·rw [e]
    exact h.2
   ·exact h.1.2 i (by omega)
  ·intro h
   exact ⟨⟨h.1, fun i hi => h.2 i (by omega)⟩, h.2 j (by omega)⟩
theorem lenT_l0 (l : List S45) (V : List (List Int)) (hin : ∀ t ∈ V, t.length ≤ 8 ∧ ∀ x ∈ t, 0 ≤ x ∧ x < (l.length : Int)) (hV : V.length ≤ 8) : ∀ (d j k : Nat), j + d = V.length → d * 11 < k → impl_lengthOf.l0 k l (suS l V j) V (V.length : Int) (j : Int) = some (suS l V V.length) := by
 intro d
 induction d with
 | zero =>
  intro j k hj hk
  obtain ⟨k, rfl⟩ : ∃ m, k = m + 1 := ⟨k - 1, by omega⟩
  rw [impl_lengthOf.l0, if_neg (by omega), show j = V.length by omega]
 | succ d ih =>
  intro j k hj hk
  have hjV : j < V.length := by omega
  have hrV := rdL_get hjV
  have hin1 := hin _ (List.getElem_mem hjV)
  have hstep : suS l V (j + 1) = wrap64 (suS l V j + wrap64 (2 * farOf l V[j])) := by rw [suS, hrV]
  have inner : ∀ (e i k : Nat), i + e = V[j].length → e + 1 + d * 11 < k → impl_lengthOf.l1 k l (suS l V j) (farOf l (V[j].take i)) V (V.length : Int) (j : Int) V[j] (V[j].length : Int) (i : Int) = some (suS l V V.length) := by
   intro e
   induction e with
   | zero =>
    intro i k hi hk
    obtain ⟨k, rfl⟩ : ∃ m, k = m + 1 := ⟨k - 1, by omega⟩
    rw [impl_lengthOf.l1, if_neg (by omega), List.take_of_length_le (by omega), w64 (x := (j : Int) + 1) (by omega) (by omega), ← hstep, show (j : Int) + 1 = ((j + 1 : Nat) : Int) by omega]
    exact ih (j + 1) k (by omega) (by omega)
   | succ e ihe =>
    intro i k hi hk
    obtain ⟨k, rfl⟩ : ∃ m, k = m + 1 := ⟨k - 1, by omega⟩
    have hr := rd_get (l := V[j]) (i := i) (by omega)
    have hb := hin1.2 V[j][i] (List.getElem_mem (by omega))
    rw [impl_lengthOf.l1, hr, if_pos (by omega), if_pos (by omega), if_pos (by omega), if_pos hb.1, if_pos hb.2, w64 (x := (i : Int) + 1) (by omega) (by omega), show (rd_T45 l V[j][i]).f0 = house l V[j][i] from rfl, ← farOf_snoc, ← List.take_succ_eq_append_getElem (by omega)]
    exact ihe (i + 1) k (by omega) (by omega)
  obtain ⟨k, rfl⟩ : ∃ m, k = m + 1 := ⟨k - 1, by omega⟩
  rw [impl_lengthOf.l0, if_pos (by omega), if_pos (by omega), if_pos (by omega), hrV]
  exact inner V[j].length 0 k (by omega) (by omega)
theorem tripsOf_val {p : List Int} (h : Plan p) (h1 : 1 ≤ p.length) (h8 : p.length ≤ 8) : ∀ k, 20 < k → impl_tripsOf.f k p = some (trs p p.length (cI p p.length)) := by
 intro k hk
 have hm := plan_max h (p.length - 1) (by omega)
 rw [show p.length - 1 + 1 = p.length by omega] at hm
 have hle := cI_le p p.length
 have hpos := plan_pos h (by omega)
 have hr : ∀ i, i < p.length → 0 ≤ rd p (i : Int) ∧ rd p (i : Int) < (cI p p.length : Int) := fun i hi => by
  have h5 := h i hi
  have h6 := cI_mono p (i + 1) (p.length - (i + 1))
  rw [show i + 1 + (p.length - (i + 1)) = p.length by omega] at h6
  have h7 : cI p (i + 1) = if rd p (i : Int) = (cI p i : Int) then cI p i + 1 else cI p i := rfl
  split at h7 <;> omega
 have hz : trs p 0 (cI p p.length) = List.replicate (cI p p.length) [] := by
  apply List.ext_getElem
  ·simp [trs]
  ·intro i h1 h2
   simp [trs, tr]
 have h8' := impl_trips p (cI p p.length) (by omega) hr p.length 0 k (by omega) (by omega)
 rw [hz] at h8'
 unfold impl_tripsOf.f slices_Max_int_int.f
 rw [if_pos (by omega), Option.bind_some, hm, w64 (by omega) (by omega), if_pos (by omega), if_pos (by omega), show ((cI p p.length : Int) - 1 + 1).toNat = cI p p.length by omega]
 exact h8'
def cT (p : List Int) (m : Nat) : Nat → Nat
 | 0 => 0
 | j + 1 => cT p m j + (tr p m j).length
theorem cT_succ (p : List Int) (m : Nat) (h0 : 0 ≤ rd p (m : Int)) : ∀ j, cT p (m + 1) j = cT p m j + if rd p (m : Int) < (j : Int) then 1 else 0
 | 0 => by simp only [cT]; rw [if_neg (by omega)]
 | j + 1 => by
  simp only [cT]
  rw [cT_succ p m h0 j, tr_succ]
  by_cases h : rd p (m : Int) = (j : Int)
  ·rw [if_pos h, if_neg (by omega), if_pos (by omega), List.length_append, List.length_singleton]
   omega
  ·rw [if_neg h]
   by_cases h2 : rd p (m : Int) < (j : Int)
   ·rw [if_pos h2, if_pos (by omega)]
    omega
   ·rw [if_neg h2, if_neg (by omega)]
    omega
theorem cT_all (p : List Int) (c : Nat) : ∀ m : Nat, (∀ i : Nat, i < m → 0 ≤ rd p (i : Int) ∧ rd p (i : Int) < (c : Int)) → cT p m c = m
 | 0, _ => by
  have : ∀ j, cT p 0 j = 0 := by
   intro j
   induction j with
   | zero => rfl
   | succ j ih => simp only [cT]; rw [ih]; rfl
  exact this c
 | m + 1, h => by
  rw [cT_succ p m (h m (by omega)).1, if_pos (h m (by omega)).2, cT_all p c m fun i hi => h i (by omega)]
theorem alS_cT {p : List Int} {m c : Nat} (hm : m ≤ 8) : ∀ j, j ≤ c → c ≤ 8 → alS (trs p m c) j = (cT p m j : Int) ∧ cT p m j ≤ 8 * j
 | 0, _, _ => ⟨rfl, Nat.le_refl _⟩
 | j + 1, h, h8 => by
  obtain ⟨i1, i2⟩ := alS_cT hm j (by omega) h8
  have hl := tr_len p j m
  simp only [alS, cT]
  rw [i1, trs_get (by omega), w64 (by omega) (by omega)]
  omega
theorem trips_run {l : List S45} {b : Int} (hf : fits l b = true) {p : List Int} (hp : Plan p) (hn : p.length = l.length) (hw : ∀ x ∈ wv l p, x ≤ b) {len half : Int} (hlen : Ev (fun k => impl_lengthOf.f k l p) len) (hhalf : Ev (fun k => impl_LengthWithoutBack.f k l b p) (half, true)) (hbag : Ev (fun k => impl_isBagPlan.f k l b p) true) :
  ∀ k, 1000 ≤ k → RunE k l b p (trs p p.length (cI p p.length)) (wv l p) len half (alS (trs p p.length (cI p p.length))) (suS l (trs p p.length (cI p p.length))) (faS l (trs p p.length (cI p p.length))) := by
 obtain ⟨hl1, hl8, hb1, hb2, hall⟩ := fits_facts hf
 obtain ⟨a1, a2, _, _⟩ := wv_both hall hn hl1 hl8 hp
 have hle := cI_le p p.length
 have hr : ∀ i, i < p.length → 0 ≤ rd p (i : Int) ∧ rd p (i : Int) < (cI p p.length : Int) := fun i hi => by
  have h5 := hp i hi
  have h6 := cI_mono p (i + 1) (p.length - (i + 1))
  rw [show i + 1 + (p.length - (i + 1)) = p.length by omega] at h6
  have h7 : cI p (i + 1) = if rd p (i : Int) = (cI p i : Int) then cI p i + 1 else cI p i := rfl
  split at h7 <;> omega
 have hTl : (trs p p.length (cI p p.length)).length = cI p p.length := trs_len _ _ _
 have hin : ∀ t ∈ trs p p.length (cI p p.length), t.length ≤ 8 ∧ ∀ x ∈ t, 0 ≤ x ∧ x < (l.length : Int) := by
  intro t ht
  simp only [trs, List.mem_map] at ht
  obtain ⟨j, _, rfl⟩ := ht
  exact ⟨by have := tr_len p j p.length; omega, fun x hx => by have := tr_mem hx; omega⟩
 have hsum : suS l (trs p p.length (cI p p.length)) (trs p p.length (cI p p.length)).length = len := by
  refine Ev.same ⟨200, fun k hk => ?_⟩ hlen
  show impl_lengthOf.f k l p = _
  unfold impl_lengthOf.f
  rw [tripsOf_val hp (by omega) (by omega) k (by omega), Option.bind_some]
  exact lenT_l0 l _ hin (by omega) (trs p p.length (cI p p.length)).length 0 k (by omega) (by omega)
 have hfa : half = wrap64 (len - faS l (trs p p.length (cI p p.length)) (trs p p.length (cI p p.length)).length) := by
  obtain ⟨K1, h1⟩ := hlen
  obtain ⟨K2, h2⟩ := hbag
  have h2 : ∀ k, K2 ≤ k → impl_isBagPlan.f k l b p = some true := h2
  have e1 := lv_val hall hn hl1 hl8 hp
  have elen : lv l p = len := Ev.same ⟨101, fun k hk => e1 k (by omega)⟩ ⟨K1, h1⟩
  obtain ⟨m, f1, f2⟩ := far_l0 l p (lv l p) hl8 e1 l.length 0 0 (by omega)
  have em : m = faS l (trs p p.length (cI p p.length)) (trs p p.length (cI p p.length)).length := by
   have key : ∀ c, m ≤ c ↔ faS l (trs p p.length (cI p p.length)) (trs p p.length (cI p p.length)).length ≤ c := by
    intro c
    rw [f2 c, faS_le]
    constructor
    ·intro h
     refine ⟨h.1, fun i hi => ?_⟩
     rw [trs_get (by omega), farOf_le]
     refine ⟨h.1, fun x hx => ?_⟩
     have hx := tr_mem hx
     obtain ⟨n, hn⟩ : ∃ n : Nat, x = (n : Int) := ⟨x.toNat, by omega⟩
     rw [hn]
     exact h.2 n (by omega) (by omega)
    ·intro h
     refine ⟨h.1, fun j _ hj => ?_⟩
     have hrj := hr j (by omega)
     obtain ⟨n, hn⟩ : ∃ n : Nat, rd p (j : Int) = (n : Int) := ⟨(rd p (j : Int)).toNat, by omega⟩
     have h3 := h.2 n (by omega)
     rw [trs_get (by omega), farOf_le] at h3
     exact h3.2 _ (mem_tr (by omega) hn)
   have x1 := (key m).1 (Int.le_refl _)
   have x2 := (key _).2 (Int.le_refl (faS l (trs p p.length (cI p p.length)) (trs p p.length (cI p p.length)).length))
   omega
  rw [← em, ← elen]
  have : ((half, true) : Int × Bool) = (wrap64 (lv l p - m), true) := Ev.same hhalf ⟨K2 + 1000, fun k hk => by
   obtain ⟨k, rfl⟩ : ∃ m, k = m + 1 := ⟨k - 1, by omega⟩
   have f1 := f1 k (by omega)
   show impl_LengthWithoutBack.f (k + 1) l b p = _
   simp only [impl_LengthWithoutBack.f, fitBag_val, hf, Option.bind_some, if_true, h2 (k + 1) (by omega), impl_LengthWithoutBack.j0, Bool.not_true, Bool.false_eq_true, if_false]
   first | exact f1 | (simp; exact f1) | simpa using f1⟩
  exact congrArg Prod.fst this
 intro k hk
 refine ⟨⟨rfl, rfl, rfl⟩, by omega, by omega, fun j hj => ?_, ?_, hsum, hfa⟩
 ·have hjc : j < cI p p.length := by omega
  have hget : rd_L3 (trs p p.length (cI p p.length)) (j : Int) = tr p p.length j := trs_get hjc
  have hlen := tr_len p j p.length
  have hel : ∀ x ∈ tr p p.length j, 0 ≤ x ∧ x < (l.length : Int) := fun x hx => by have := tr_mem hx; omega
  have hfar := mH_range hall hel
  have hmt : mH l (tr p p.length j) (tr p p.length j).length = farOf l (tr p p.length j) := by rw [mH, List.take_length]
  rw [hget]
  refine ⟨nW l (tr p p.length j), mH l (tr p p.length j), rfl, rfl, by omega, fun u hu => ?_, rises_k (tr_sorted p p.length j) (by omega) k (by omega), ?_, ?_, by simp only [alS]; rw [hget], by simp only [suS]; rw [hget, hmt], by simp only [faS]; rw [hget, hmt]⟩
  ·have hx := tr_mem (rd_mem (a := tr p p.length j) (n := (u : Int)) (by omega) (by omega))
   have hrg := nW_range hall hel u (by omega)
   have hrg2 := nW_range hall hel (u + 1) (by omega)
   refine ⟨_, rfl, hx.1, by omega, by omega, hx.2.2, ?_, mH_succ l _ hu⟩
   rw [nW_succ l _ hu] at hrg2 ⊢
   rw [w64 (by omega) (by omega)]
  ·rw [wv_sum hall hl8 hp hn (by omega), nW_tr]
  ·rw [nW_tr, ← wv_sum hall hl8 hp hn (j := j) (by omega)]
   exact hw _ (rd_mem (by omega) (by omega))
 ·rw [hTl, (alS_cT (by omega) (cI p p.length) (Nat.le_refl _) (by omega)).1, cT_all p (cI p p.length) p.length hr]
  omega
end Go.Proofs.Ytmninaoedoonbaa.Bg
end
section
set_option linter.unusedSimpArgs false
set_option linter.unusedVariables false
namespace Go.Proofs.Ytmninaoedoonbaa.Bg
open Go.RowKit Go.Proofs.Ytmninaoedoonbaa.G Go.Proofs.YtmninaoedoonbaaW.PrintWords Go.Proofs.YtmninaoedoonbaaW.PrintLast Go.Proofs.YtmninaoedoonbaaW.PrintMore Go.Proofs.Ytmninaoedoonbaa.Pz
theorem two_all (dl : List S45) (wt : Int) (p : List Int) : ∃ T W len half is good f, ∃ K, ∀ k, K ≤ k → ∀ l1, spec_DrawTripsOfPlan.f k l1 = some (dl, wt, p) → RunD k l1 dl wt p T W len half is good f ∧ (f = true → ∃ al su fa, RunE k dl wt p T W len half al su fa) := by
 obtain ⟨v1, ⟨Ka, a1⟩, a2, a3, a4⟩ := TripsOfPlan_both dl wt p
 obtain ⟨v2, ⟨Kb, b1⟩, b2, b3⟩ := WeightsOfTrips_both dl wt p
 obtain ⟨v3, ⟨Kc, c1⟩, c2⟩ := LengthOfPlan_both dl wt p
 obtain ⟨v4, ⟨Kd, d1⟩, d2⟩ := LengthWithoutBack_both dl wt p
 obtain ⟨v5, ⟨Ke, e1⟩, e2⟩ := IsBagPlan_both dl wt p
 have key : ∃ T W len half is good f, v1 = (T, f) ∧ v2 = (W, f) ∧ v3 = (len, f) ∧ v4 = (half, f) ∧ v5 = (is, good) ∧ f = (good && is) ∧ ∀ k, 1000 ≤ k → f = true → ∃ al su fa, RunE k dl wt p T W len half al su fa := by
  cases hf : fits dl wt with
  | false =>
   exact ⟨[], [], 0, 0, false, false, false, Ev.same a2 ⟨0, fun k _ => by simp [impl_TripsOfPlan.f, fitBag_val, hf]⟩, Ev.same b2 ⟨0, fun k _ => by simp [impl_WeightsOfTrips.f, fitBag_val, hf]⟩, Ev.same c2 ⟨0, fun k _ => by simp [impl_LengthOfPlan.f, fitBag_val, hf]⟩,
    Ev.same d2 ⟨1, fun k hk => by
     obtain ⟨k, rfl⟩ : ∃ m, k = m + 1 := ⟨k - 1, by omega⟩
     simp [impl_LengthWithoutBack.f, fitBag_val, hf, impl_LengthWithoutBack.j0]⟩, Ev.same e2 ⟨0, fun k _ => by simp [impl_IsBagPlan.f, fitBag_val, hf]⟩, rfl, fun k _ h => (by cases h)⟩
  | true =>
   obtain ⟨t, _, ⟨K2, h2⟩, ht⟩ := plan_both dl wt p hf
   have h2 : ∀ k, K2 ≤ k → impl_isBagPlan.f k dl wt p = some t := h2
   cases t with
   | false =>
    exact ⟨[], [], 0, 0, false, true, false, Ev.same a2 ⟨K2, fun k hk => by simp [impl_TripsOfPlan.f, fitBag_val, hf, h2 k hk]⟩, Ev.same b2 ⟨K2, fun k hk => by simp [impl_WeightsOfTrips.f, fitBag_val, hf, h2 k hk]⟩, Ev.same c2 ⟨K2, fun k hk => by simp [impl_LengthOfPlan.f, fitBag_val, hf, h2 k hk]⟩,
     Ev.same d2 ⟨K2 + 1, fun k hk => by
      obtain ⟨k, rfl⟩ : ∃ m, k = m + 1 := ⟨k - 1, by omega⟩
      simp [impl_LengthWithoutBack.f, fitBag_val, hf, h2 (k + 1) (by omega), impl_LengthWithoutBack.j0]⟩, Ev.same e2 ⟨K2, fun k hk => by simp [impl_IsBagPlan.f, fitBag_val, hf, h2 k hk]⟩, rfl, fun k _ h => (by cases h)⟩
   | true =>
    obtain ⟨hn, hp⟩ := ht rfl
    obtain ⟨hl1, hl8, hb1, hb2, hall⟩ := fits_facts hf
    obtain ⟨w1, w2, w3, _⟩ := wv_both hall hn hl1 hl8 hp
    have hlv := lv_val hall hn hl1 hl8 hp
    have hpos := plan_pos hp (by omega)
    have hnm := plan_nm hp
    have hwv : ∀ x ∈ wv dl p, x ≤ wt := by
     have e := h2 (K2 + 1000) (by omega)
     unfold impl_isBagPlan.f at e
     obtain ⟨Kn, hn2⟩ := named_ev p (by omega)
     have hn2 : ∀ k, Kn ≤ k → impl_named.f k p = some (nm p) := hn2
     have e := h2 (K2 + Kn + 1000) (by omega)
     unfold impl_isBagPlan.f at e
     rw [if_pos (by omega), hn2 _ (by omega), Option.bind_some, (equal_k (nm p) p (by rw [nm_len]; omega) _ (by rw [nm_len]; omega)).1, hnm, Option.bind_some, if_pos (by simp), w3 _ (by omega), Option.bind_some] at e
     unfold slices_Max_int_int.f at e
     rw [if_pos (by omega), Option.bind_some] at e
     have e := of_decide_eq_true (Option.some.inj e)
     intro x hx
     exact Int.le_trans (hw_ge hx) e
    have eW : v2 = (wv dl p, true) := Ev.same b2 ⟨K2 + 20, fun k hk => by simp [impl_WeightsOfTrips.f, fitBag_val, hf, h2 k (by omega), w3 k (by omega)]⟩
    have eT : v1 = (trs p p.length (cI p p.length), true) := Ev.same a2 ⟨K2 + 30, fun k hk => by simp [impl_TripsOfPlan.f, fitBag_val, hf, h2 k (by omega), tripsOf_val hp (by omega) (by omega) k (by omega)]⟩
    have eL : v3 = (lv dl p, true) := Ev.same c2 ⟨K2 + 102, fun k hk => by simp [impl_LengthOfPlan.f, fitBag_val, hf, h2 k (by omega), hlv k (by omega)]⟩
    have eI : v5 = (true, true) := Ev.same e2 ⟨K2, fun k hk => by simp [impl_IsBagPlan.f, fitBag_val, hf, h2 k hk]⟩
    obtain ⟨half, q⟩ := v4
    have eH : q = true := by
     obtain ⟨m, f1, _⟩ := far_l0 dl p (lv dl p) hl8 hlv dl.length 0 0 (by omega)
     have := Ev.same d2 ⟨K2 + 1000, fun k hk => by
      obtain ⟨k, rfl⟩ : ∃ m, k = m + 1 := ⟨k - 1, by omega⟩
      have f1 := f1 k (by omega)
      show impl_LengthWithoutBack.f (k + 1) dl wt p = _
      simp only [impl_LengthWithoutBack.f, fitBag_val, hf, Option.bind_some, if_true, h2 (k + 1) (by omega), impl_LengthWithoutBack.j0, Bool.not_true, Bool.false_eq_true, if_false]
      first | exact f1 | (simp; exact f1) | simpa using f1⟩
     exact congrArg Prod.snd this
    subst eH
    exact ⟨_, _, _, half, true, true, true, eT, eW, eL, rfl, eI, rfl, fun k hk _ => ⟨_, _, _, trips_run hf hp hn hwv ⟨101, fun k hk => hlv k (by omega)⟩ d2 ⟨K2, h2⟩ k hk⟩⟩
 obtain ⟨T, W, len, half, is, good, f, rfl, rfl, rfl, rfl, rfl, hfg, hz⟩ := key
 obtain ⟨K1, a2⟩ := a2
 obtain ⟨K2, b2⟩ := b2
 obtain ⟨K3, c2⟩ := c2
 obtain ⟨K4, d2⟩ := d2
 obtain ⟨K5, e2⟩ := e2
 refine ⟨T, W, len, half, is, good, f, Ka + Kb + Kc + Kd + Ke + K1 + K2 + K3 + K4 + K5 + 4000, fun k hk l1 hd => ⟨⟨hd, a2 k (by omega), a1 k (by omega), b2 k (by omega), b1 k (by omega), c2 k (by omega), c1 k (by omega), d2 k (by omega), d1 k (by omega), e2 k (by omega), e1 k (by omega), aRows_k T (by have : T.length ≤ 8 := a3; omega) (fun r hr => by have : r.length ≤ 8 := a4 r hr; omega) k (by omega), aSame_k W (by have : W.length ≤ 1000 := b3; omega) k (by have : W.length ≤ 1000 := b3; omega), hfg⟩, hz k (by omega)⟩⟩
theorem big_val (l0 l1 : List Int) : ∃ b, laws_big.f l0 l1 = some b := by
 unfold laws_big.f
 split
 ·exact ⟨_, rfl⟩
 ·exact ⟨_, rfl⟩
theorem bp_pure : BpPure := by
 intro l0 l1 hw0 hw1 hw2 hw3
 have hb0 := byt_of hw1
 have hb1 := byt_of hw3
 obtain ⟨b, hbig⟩ := big_val l0 l1
 cases b with
 | true => exact .inl hbig
 | false =>
  obtain ⟨⟨pl, bag⟩, ⟨Ka, ha⟩, _⟩ := shortest_gv hb0
  obtain ⟨⟨dl, wt, p⟩, ⟨Kb, hb⟩, _⟩ := trips_gv hb1
  obtain ⟨ok, xp, xf, xo, xr, least, cnt, few, bnd, Kc, hc⟩ := one_all pl bag
  obtain ⟨T, W, len, half, is, good, f, Kd, hd⟩ := two_all dl wt p
  obtain ⟨k, hk⟩ : ∃ k, k = Ka + Kb + Kc + Kd := ⟨_, rfl⟩
  obtain ⟨h1, lb, h2⟩ := hc k (by omega) l0 (ha k (by omega))
  obtain ⟨h3, h4⟩ := hd k (by omega) l1 (hb k (by omega))
  exact .inr ⟨hbig, k, pl, bag, ok, xp, xf, xo, xr, least, cnt, few, bnd, okP pl, h1, lb, h2, dl, wt, p, T, W, len, half, is, good, f, h3, h4⟩
end Go.Proofs.Ytmninaoedoonbaa.Bg
end
section
namespace Go.Proofs.Ytmninaoedoonbaa.Pure
open Go.RowKit Go.Proofs.Ytmninaoedoonbaa.G
theorem FnBagsPlanned : laws_FnBagsPlanned.Pure := Go.Proofs.Ytmninaoedoonbaa.Bg.bp_pure
end Go.Proofs.Ytmninaoedoonbaa.Pure
end
section
namespace Go.Proofs.Ytmninaoedoonbaa.Facts
open Go
set_option maxRecDepth 100000
def signs : List Char := [Char.ofNat 104, Char.ofNat 97, Char.ofNat 114, Char.ofNat 110, Char.ofNat 101, Char.ofNat 115, Char.ofNat 115, Char.ofNat 32, Char.ofNat 98, Char.ofNat 55, Char.ofNat 98, Char.ofNat 49, Char.ofNat 97, Char.ofNat 97, Char.ofNat 56, Char.ofNat 57, Char.ofNat 99, Char.ofNat 50, Char.ofNat 56, Char.ofNat 51, Char.ofNat 101, Char.ofNat 98, Char.ofNat 98, Char.ofNat 99, Char.ofNat 51, Char.ofNat 102, Char.ofNat 49, Char.ofNat 48, Char.ofNat 48, Char.ofNat 53, Char.ofNat 97, Char.ofNat 100, Char.ofNat 49, Char.ofNat 55, Char.ofNat 100, Char.ofNat 98, Char.ofNat 99, Char.ofNat 51, Char.ofNat 98, Char.ofNat 48, Char.ofNat 54, Char.ofNat 53, Char.ofNat 101, Char.ofNat 102, Char.ofNat 52, Char.ofNat 101, Char.ofNat 51, Char.ofNat 101, Char.ofNat 102, Char.ofNat 98, Char.ofNat 97, Char.ofNat 55, Char.ofNat 53, Char.ofNat 54, Char.ofNat 51, Char.ofNat 98, Char.ofNat 48, Char.ofNat 55, Char.ofNat 54, Char.ofNat 101, Char.ofNat 51, Char.ofNat 55, Char.ofNat 51, Char.ofNat 98, Char.ofNat 100, Char.ofNat 98, Char.ofNat 54, Char.ofNat 52, Char.ofNat 97, Char.ofNat 99, Char.ofNat 98, Char.ofNat 101, Char.ofNat 32, Char.ofNat 99, Char.ofNat 117, Char.ofNat 116, Char.ofNat 32, Char.ofNat 97, Char.ofNat 116, Char.ofNat 32, Char.ofNat 108, Char.ofNat 111, Char.ofNat 111, Char.ofNat 112, Char.ofNat 46, Char.ofNat 101, Char.ofNat 120, Char.ofNat 97, Char.ofNat 109, Char.ofNat 112, Char.ofNat 108, Char.ofNat 101, Char.ofNat 47, Char.ofNat 103, Char.ofNat 48, Char.ofNat 49, Char.ofNat 51, Char.ofNat 51, Char.ofNat 54, Char.ofNat 47, Char.ofNat 108, Char.ofNat 97, Char.ofNat 119, Char.ofNat 115, Char.ofNat 46, Char.ofNat 70, Char.ofNat 110, Char.ofNat 66, Char.ofNat 97, Char.ofNat 103, Char.ofNat 115, Char.ofNat 80, Char.ofNat 108, Char.ofNat 97, Char.ofNat 110, Char.ofNat 110, Char.ofNat 101, Char.ofNat 100]
theorem order : Try.prog.initOrder = String.ofList signs := by kernel_rfl
theorem orderL : Try.prog.initOrder.toList = signs := by rw [order, String.toList_ofList]
def rest : List (List Char) := [[Char.ofNat 97, Char.ofNat 116], [Char.ofNat 108, Char.ofNat 111, Char.ofNat 111, Char.ofNat 112, Char.ofNat 46, Char.ofNat 101, Char.ofNat 120, Char.ofNat 97, Char.ofNat 109, Char.ofNat 112, Char.ofNat 108, Char.ofNat 101, Char.ofNat 47, Char.ofNat 103, Char.ofNat 48, Char.ofNat 49, Char.ofNat 51, Char.ofNat 51, Char.ofNat 54, Char.ofNat 47, Char.ofNat 108, Char.ofNat 97, Char.ofNat 119, Char.ofNat 115, Char.ofNat 46, Char.ofNat 70, Char.ofNat 110, Char.ofNat 66, Char.ofNat 97, Char.ofNat 103, Char.ofNat 115, Char.ofNat 80, Char.ofNat 108, Char.ofNat 97, Char.ofNat 110, Char.ofNat 110, Char.ofNat 101, Char.ofNat 100]]
theorem wordsOf : behindMainWord (wordsSigns signs) = "cut".toList :: rest := by kernel_rfl
theorem mayEnter_of {P : Program} {c : List Char} {r : List (List Char)} (h : behindMainWord (wordsSigns P.initOrder.toList) = c :: r) (hc : c = "cut".toList) (h1 : stripLifts liftWords (c :: r) = ([], c :: r)) (h3 : P.laysLater = false) (h4 : P.bearsReflect = false) (h5 : P.doorFits [] = true) : P.mayEnter = true := by
 unfold Program.mayEnter
 rw [h]
 subst hc
 simp only [h1]
 simp [h3, h4, h5]
theorem make_of {P : Program} {c : List Char} {r : List (List Char)} (h : behindMainWord (wordsSigns P.initOrder.toList) = c :: r) (hc : c = "cut".toList) : P.make = some .cut := by
 unfold Program.make
 rw [h]
 subst hc
 simp
theorem strip : stripLifts liftWords ("cut".toList :: rest) = ([], "cut".toList :: rest) := by kernel_rfl
theorem laysLater : Try.prog.laysLater = false := by kernel_rfl
theorem bearsReflect : Try.prog.bearsReflect = false := by kernel_rfl
theorem doorRows : Try.prog.doorRows = [] := by kernel_rfl
theorem doorFits : Try.prog.doorFits [] = true := by
 unfold Program.doorFits
 rw [doorRows]
 kernel_rfl
theorem mayEnter : Try.prog.mayEnter = true := mayEnter_of (by rw [orderL]; exact wordsOf) rfl strip laysLater bearsReflect doorFits
theorem lifts : Try.prog.liftsFinal = false := by
 unfold Program.liftsFinal Program.headLifts
 rw [orderL, wordsOf]
 kernel_rfl
theorem make : Try.prog.make = some .cut := make_of (by rw [orderL]; exact wordsOf) rfl
theorem laidOut : laidOutB Try.prog = true := by kernel_rfl
theorem mapsRowed : Go.mapsRowed Try.prog = true := by kernel_rfl
theorem stops : Try.prog.stops = [] := by kernel_rfl
theorem stopKnobs : Try.prog.stopKnobs = [] := by kernel_rfl
theorem stopsHeard : Try.prog.stopsHeard = true := by kernel_rfl
theorem plainKeys : Try.prog.plainKeys = true := by kernel_rfl
end Go.Proofs.Ytmninaoedoonbaa.Facts
end
section
namespace Go.Proofs.Ytmninaoedoonbaa.Open
open Go.RowKit Go.Proofs.YtmninaoedoonbaaW.PrintWords Go.Proofs.YtmninaoedoonbaaW.PrintLast Go.Proofs.YtmninaoedoonbaaW.PrintMore Go.Deep Go.Joins Go.ChangeShapes
variable {P : Program} {t e : TypeId} {α β γ : Type}
def Opens (P : Program) (d : Kd α) (t : TypeId) (wf : α → Prop) : Prop :=
 ∀ {H : Type} (enc : TypeId × Value → H) (w : World) (base : Nat) (spare : Nat → Bool) (held : Bool) (fuel : Nat) (cs : List Value) (x : DataW H × List MemPlace),
  DataW.trod enc P w base spare held fuel t cs = some x → ∃ a : α, d.K w a cs ∧ wf a
theorem slice_eq {a b : Option Addr} {n m c c' : Nat} (h : [Value.slice a n c] = [Value.slice b m c']) : b = a ∧ m = n ∧ c' = c := by
 simp only [List.cons.injEq, Value.slice.injEq, and_true] at h
 exact ⟨h.1.symm, h.2.1.symm, h.2.2.symm⟩
theorem opens_int {k : IntKind} (ht : P.underlying t = some (.int k)) : Opens P (Kd.int k) t (fun n => (Lit.int k n).wf = true) := by
 intro H enc w base spare held fuel cs x h
 obtain ⟨n, rfl, _, hw⟩ := DataW.trod_int ht h
 exact ⟨n, rfl, hw⟩
theorem opens_slice {d : Kd α} {wf : α → Prop} (ht : P.underlying t = some (.slice e)) (hc : P.cellsOf e = d.sz) (h : Opens P d e wf) : Opens P (Kd.slice e d) t (fun xs => xs.length ≤ maxLen ∧ ∀ x ∈ xs, wf x) := by
 intro H enc w base spare held fuel cs x hx
 rcases open_slice ht hx with ⟨rfl, _⟩ | ⟨a, len, cap, m, n, D, Pl, rfl, hb, hl, hm, hmm, rfl, hel⟩
 ·exact ⟨[], ⟨none, 0, rfl, Nat.le_refl _, rfl, by simp, fun h0 => absurd h0 (by simp)⟩, by simp, fun x hx => by cases hx⟩
 ·have hlm : len ≤ m := by rw [hmm]; split <;> omega
  have key : ∀ k, k ≤ len → ∃ xs : List α, xs.length = k ∧ (∀ j p, xs[j]? = some p → ∃ c, c.length = d.sz ∧ d.K w p c ∧ ∀ i u, c[i]? = some u → w.cell? (a.add (j * d.sz + i)) = some u) ∧ ∀ x ∈ xs, wf x := by
   intro k
   induction k with
   | zero => intro _; exact ⟨[], rfl, fun j p hj => by simp at hj, fun x hx => by cases hx⟩
   | succ k ih =>
    intro hk
    obtain ⟨xs, hlen, hxs, hwf⟩ := ih (by omega)
    obtain ⟨cs', hcs, htr⟩ := hel k (by omega)
    obtain ⟨y, hK, hwy⟩ := h enc w base spare held n cs' _ htr
    refine ⟨xs ++ [y], by simp [hlen], fun j p hj => ?_, fun x hx => ?_⟩
    ·rcases Nat.lt_or_ge j xs.length with hjl | hjl
     ·rw [List.getElem?_append_left hjl] at hj
      exact hxs j p hj
     ·have hj' : j = xs.length := by
       have := (List.getElem?_eq_some_iff.1 hj).1
       rw [List.length_append, List.length_singleton] at this
       omega
      subst hj'
      obtain rfl : y = p := by simpa using hj
      refine ⟨cs', d.K_len hK, hK, fun i u hu => ?_⟩
      obtain ⟨_, _, hcell⟩ := World.cells?_some hcs
      have := hcell i (by rw [hc, ← d.K_len hK]; exact (List.getElem?_eq_some_iff.1 hu).1)
      rw [hc, Addr.add_add, hu] at this
      rw [hlen]
      exact this
    ·rcases List.mem_append.1 hx with hx | hx
     ·exact hwf x hx
     ·rw [List.mem_singleton.1 hx]
      exact hwy
  obtain ⟨xs, hlen, hxs, hwf⟩ := key len (Nat.le_refl _)
  have hml : maxLen = 9223372036854775807 := rfl
  exact ⟨xs, ⟨some a, cap, by rw [hlen], by omega, rfl, by omega, fun _ => ⟨a, rfl, hxs⟩⟩, by omega, hwf⟩
end Go.Proofs.Ytmninaoedoonbaa.Open
end
