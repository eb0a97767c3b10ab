/- Texts of this seat's proofs: contracts of its functions and plain laws about them, with no condition beyond those that each theorem states. -/
import Derived.Test.YtagbpiofphgjlaaQf653b09a
import Derived.Test.YtagbpiofphgjlaaQe9280fc4
import Derived.Test.YtagbpiofphgjlaaQd9409066
import Derived.Test.YtagbpiofphgjlaaQ54974e0c
import Derived.Test.YtagbpiofphgjlaaQ65372d46
import Derived.Test.YtagbpiofphgjlaaQ823a73ae
import Derived.Test.YtagbpiofphgjlaaQ7eae4345
import Derived.Test.YtagbpiofphgjlaaQ549bd6a6
import Derived.Test.YtagbpiofphgjlaaQ42a34a7f
namespace Go.Proofs.Ytagbpiofphgjlaa.Bg
open Go.RowKit Go.Proofs.Ytagbpiofphgjlaa.G Go.Proofs.YtagbpiofphgjlaaW.PrintWords Go.Proofs.YtagbpiofphgjlaaW.PrintLast Go.Proofs.YtagbpiofphgjlaaW.PrintMore
def wt (l : List S61) (i : Nat) : Int := (rd_T61 l (i : Int)).f1
def plLoop (f : List Int → List Int → List (List Int)) (bag x : Int) (p ws : List Int) : Nat → Nat → List (List Int)
  | 0, _ => []
  | m + 1, t => (if rd (bpNext ws t x) (t : Int) ≤ bag then f (p ++ [(t : Int)]) (bpNext ws t x) else []) ++ plLoop f bag x p ws m (t + 1)
def plGo (l : List S61) (bag : Int) : Nat → List Int → List Int → List (List Int)
  | 0, p, _ => [p]
  | d + 1, p, ws => plLoop (plGo l bag d) bag (wt l p.length) p ws (ws.length + 1) 0
def foldB (num : List Int → Option Int) (s : BpSt) : List (List Int) → Option BpSt
  | [] => some s
  | p :: ps => (bpLeaf num p s).bind fun s' => foldB num s' ps
theorem foldB_app (num : List Int → Option Int) : ∀ (a b : List (List Int)) (s : BpSt), foldB num s (a ++ b) = (foldB num s a).bind fun s' => foldB num s' b
  | [], b, s => rfl
  | p :: a, b, s => by
    simp only [List.cons_append, foldB]
    cases bpLeaf num p s with
    | none => rfl
    | some s' =>
      rw [Option.bind_some, Option.bind_some]
      exact foldB_app num a b s'
theorem bpLoop_fold (num : List Int → Option Int) (f : List Int → List Int → BpSt → Option BpSt) (g : List Int → List Int → List (List Int)) (h : ∀ p ws s, f p ws s = foldB num s (g p ws)) (bag x : Int) (p ws : List Int) : ∀ (m t : Nat) (s : BpSt), bpLoop f bag x p ws m t s = foldB num s (plLoop g bag x p ws m t)
  | 0, t, s => rfl
  | m + 1, t, s => by
    simp only [bpLoop, plLoop]
    by_cases hc : rd (bpNext ws t x) (t : Int) ≤ bag
    · rw [if_pos hc, if_pos hc, foldB_app, h]
      cases foldB num s (g (p ++ [(t : Int)]) (bpNext ws t x)) with
      | none => rfl
      | some s' =>
        rw [Option.bind_some, Option.bind_some]
        exact bpLoop_fold num f g h bag x p ws m (t + 1) s'
    · rw [if_neg hc, if_neg hc, List.nil_append]
      exact bpLoop_fold num f g h bag x p ws m (t + 1) s
theorem bpGo_fold (num : List Int → Option Int) (l : List S61) (bag : Int) : ∀ (d : Nat) (p ws : List Int) (s : BpSt), bpGo num l bag d p ws s = foldB num s (plGo l bag d p ws)
  | 0, p, ws, s => by
    simp only [bpGo, plGo, foldB]
    cases bpLeaf num p s with
    | none => rfl
    | some s' => rfl
  | d + 1, p, ws, s => by
    simp only [bpGo, plGo]
    exact bpLoop_fold num _ _ (bpGo_fold num l bag d) bag _ p ws _ 0 s
theorem cI_app (p q : List Int) : ∀ i, i ≤ p.length → cI (p ++ q) i = cI p i
  | 0, _ => rfl
  | i + 1, h => by
    simp only [cI]
    rw [cI_app p q i (by omega), rd_left (by omega) (by omega)]
theorem rd_last (p : List Int) (t : Int) : rd (p ++ [t]) (p.length : Int) = t := by simp [rd, List.getD]
theorem bpNext_len (ws : List Int) (t : Nat) (x : Int) : (bpNext ws t x).length = if t < ws.length then ws.length else ws.length + 1 := by
  unfold bpNext
  rw [List.length_set]
  split <;> simp
theorem bpNext_rd {ws : List Int} {t : Nat} {x : Int} (h : t < ws.length) : rd (bpNext ws t x) (t : Int) = wrap64 (rd ws (t : Int) + x) := by
  unfold bpNext
  rw [if_pos h]
  simp [rd, List.getD, h]
theorem bpNext_rdn (ws : List Int) (x : Int) : rd (bpNext ws ws.length x) (ws.length : Int) = wrap64 (0 + x) := by
  unfold bpNext
  rw [if_neg (Nat.lt_irrefl _)]
  simp [rd, List.getD]
theorem w_snoc (l : List S61) (p ws : List Int) (t : Nat) (hp : p.length < l.length) (hl : l.length ≤ 1000) (ht : t ≤ ws.length) (hws : ws.length ≤ 1000) : ∀ (d i k : Nat) (out : List Int), i + d = p.length → spec_bgWeights.l0 k l out p (p.length : Int) (i : Int) = some ws →
    spec_bgWeights.l0 (k + 1) l out (p ++ [(t : Int)]) ((p ++ [(t : Int)]).length : Int) (i : Int) = some (bpNext ws t (wt l p.length)) := by
  intro d
  induction d with
  | zero =>
    intro i k out hi h
    obtain rfl : i = p.length := by omega
    cases k with
    | zero => cases h
    | succ k =>
      rw [spec_bgWeights.l0, if_neg (by omega)] at h
      obtain rfl := Option.some.inj h
      have hlen : (p ++ [(t : Int)]).length = p.length + 1 := by simp
      have hend : ∀ o : List Int, spec_bgWeights.l0 (k + 1) l o (p ++ [(t : Int)]) ((p ++ [(t : Int)]).length : Int) (wrap64 ((p.length : Int) + 1)) = some o := fun o => by
        rw [w64 (by omega) (by omega), spec_bgWeights.l0, if_neg (by omega)]
      rw [spec_bgWeights.l0, rd_last, if_pos (by omega), if_pos (by omega), if_pos (by omega)]
      by_cases hn : t = out.length
      · subst hn
        rw [if_pos rfl, if_pos (by omega), Option.bind_some, if_pos (by omega), if_pos (by simp; omega), if_pos (by omega), hend]
        unfold bpNext
        rw [if_neg (Nat.lt_irrefl _), Int.toNat_natCast]
        rfl
      · rw [if_neg (by omega), if_pos (by omega), if_pos (by omega), if_pos (by omega), hend]
        unfold bpNext
        rw [if_pos (by omega), Int.toNat_natCast]
        rfl
  | succ d ih =>
    intro i k out hi h
    cases k with
    | zero => cases h
    | succ k =>
      have hlen : (p ++ [(t : Int)]).length = p.length + 1 := by simp
      have e : wrap64 ((i : Int) + 1) = ((i + 1 : Nat) : Int) := by rw [w64 (by omega) (by omega)]; rfl
      rw [spec_bgWeights.l0, if_pos (by omega), if_pos (by omega), if_pos (by omega), e] at h
      rw [spec_bgWeights.l0, rd_left (by omega) (by omega), if_pos (by omega), if_pos (by omega), if_pos (by omega), e]
      by_cases hn : rd p (i : Int) = (out.length : Int)
      · rw [if_pos hn] at h ⊢
        by_cases hm : out.length < 17592186044416
        · rw [if_pos hm, Option.bind_some] at h ⊢
          by_cases h0 : 0 ≤ rd p (i : Int)
          · rw [if_pos h0] at h ⊢
            by_cases h1 : rd p (i : Int) < ((out ++ [0]).length : Int)
            · rw [if_pos h1, if_pos (by omega)] at h ⊢
              exact ih (i + 1) k _ (by omega) h
            · rw [if_neg h1] at h
              cases h
          · rw [if_neg h0] at h
            cases h
        · rw [if_neg hm] at h
          cases h
      · rw [if_neg hn] at h ⊢
        by_cases h0 : 0 ≤ rd p (i : Int)
        · rw [if_pos h0] at h ⊢
          by_cases h1 : rd p (i : Int) < (out.length : Int)
          · rw [if_pos h1, if_pos (by omega)] at h ⊢
            exact ih (i + 1) k _ (by omega) h
          · rw [if_neg h1] at h
            cases h
        · rw [if_neg h0] at h
          cases h
structure Pre (l : List S61) (p ws : List Int) : Prop where
  plan : Plan p
  len : ws.length = cI p p.length
  wts : ∀ k, p.length < k → spec_bgWeights.f k l p = some ws
  pos : ∀ x ∈ ws, 0 ≤ x ∧ x ≤ 1000 * (p.length : Int)
theorem Pre.nil (l : List S61) : Pre l [] [] := ⟨fun i hi => absurd hi (Nat.not_lt_zero _), rfl, fun k hk => by
  obtain ⟨k, rfl⟩ : ∃ m, k = m + 1 := ⟨k - 1, by have : 0 < k := hk; omega⟩
  rfl, fun x hx => by cases hx⟩
theorem Pre.le {l : List S61} {p ws : List Int} (h : Pre l p ws) : ws.length ≤ p.length := by rw [h.len]; exact cI_le _ _
theorem Pre.snoc {l : List S61} {p ws : List Int} (h : Pre l p ws) (hl : l.all parcOk = true) (hl8 : l.length ≤ 8) (hp : p.length < l.length) {t : Nat} (ht : t ≤ ws.length) : Pre l (p ++ [(t : Int)]) (bpNext ws t (wt l p.length)) := by
  have hle := h.le
  have hx := parc_get hl (i := p.length) hp
  have hlen : (p ++ [(t : Int)]).length = p.length + 1 := by simp
  have hc : cI (p ++ [(t : Int)]) (p.length + 1) = if t < ws.length then ws.length else ws.length + 1 := by
    simp only [cI]
    rw [cI_app p _ _ (Nat.le_refl _), rd_last, ← h.len]
    split <;> split <;> omega
  refine ⟨fun i hi => ?_, ?_, fun k hk => ?_, fun x hx' => ?_⟩
  · by_cases e : i = p.length
    · subst e
      rw [rd_last, cI_app p _ _ (Nat.le_refl _), ← h.len]
      omega
    · rw [rd_left (by omega) (by omega), cI_app p _ _ (by omega)]
      exact h.plan i (by omega)
  · rw [bpNext_len, hlen, hc]
  · obtain ⟨k, rfl⟩ : ∃ m, k = m + 1 := ⟨k - 1, by omega⟩
    unfold spec_bgWeights.f
    exact w_snoc l p ws t hp (by omega) ht (by omega) p.length 0 k [] (by omega) (h.wts k (by omega))
  · rw [hlen]
    unfold bpNext at hx'
    have hx1 : 1 ≤ wt l p.length ∧ wt l p.length ≤ 1000 := ⟨hx.1, hx.2.1⟩
    rcases List.mem_or_eq_of_mem_set hx' with hm | rfl
    · split at hm
      · have := h.pos x hm
        omega
      · rcases List.mem_append.1 hm with hm | hm
        · have := h.pos x hm
          omega
        · rw [List.mem_singleton.1 hm]
          omega
    · by_cases hq : t < ws.length
      · rw [if_pos hq]
        have := h.pos _ (rd_mem (a := ws) (n := (t : Int)) (by omega) (by omega))
        rw [w64 (by omega) (by omega)]
        omega
      · rw [if_neg hq]
        obtain rfl : t = ws.length := by omega
        have e : rd (ws ++ [0]) (ws.length : Int) = 0 := rd_last ws 0
        rw [e, w64 (by omega) (by omega)]
        omega
theorem room_iff {l : List S61} {p ws : List Int} {bag : Int} (hl : l.all parcOk = true) (hp : p.length < l.length) (hb : wt l p.length ≤ bag) {t : Nat} (ht : t ≤ ws.length) : (t = ws.length ∨ wrap64 (rd ws (t : Int) + wt l p.length) ≤ bag) ↔ rd (bpNext ws t (wt l p.length)) (t : Int) ≤ bag := by
  have hx := parc_get hl (i := p.length) hp
  have hx1 : 1 ≤ wt l p.length ∧ wt l p.length ≤ 1000 := ⟨hx.1, hx.2.1⟩
  by_cases e : t = ws.length
  · subst e
    have e2 : wrap64 (0 + wt l p.length) = wt l p.length := by rw [w64 (by omega) (by omega), Int.zero_add]
    rw [bpNext_rdn, e2]
    exact ⟨fun _ => hb, fun _ => .inl rfl⟩
  · rw [bpNext_rd (by omega)]
    exact ⟨fun h => h.resolve_left e, .inr⟩
theorem plLoop_len (f : List Int → List Int → List (List Int)) (bag x : Int) (p ws : List Int) (N : Nat) (h : ∀ t, t ≤ ws.length → (f (p ++ [(t : Int)]) (bpNext ws t x)).length ≤ N) : ∀ m t, t + m = ws.length + 1 → (plLoop f bag x p ws m t).length ≤ m * N
  | 0, _, _ => by simp [plLoop]
  | m + 1, t, ht => by
    have ih := plLoop_len f bag x p ws N h m (t + 1) (by omega)
    have h1 := h t (by omega)
    simp only [plLoop, List.length_append]
    rw [Nat.succ_mul]
    split
    · omega
    · simp only [List.length_nil]
      omega
theorem plGo_len (l : List S61) (bag : Int) : ∀ (d : Nat) (p ws : List Int), ws.length + d ≤ 8 → (plGo l bag d p ws).length ≤ 9 ^ d
  | 0, p, ws, _ => by simp [plGo]
  | d + 1, p, ws, h => by
    simp only [plGo]
    refine Nat.le_trans (plLoop_len _ bag _ p ws (9 ^ d) (fun t ht => plGo_len l bag d _ _ ?_) (ws.length + 1) 0 (by omega)) ?_
    · rw [bpNext_len]
      split <;> omega
    · rw [Nat.pow_succ, Nat.mul_comm]
      exact Nat.mul_le_mul_left _ (by omega)
theorem lkLoop_val (f : List Int → List (List Int) → Option (List (List Int))) (g : List Int → List Int → List (List Int)) (bag x : Int) (p ws : List Int) (N : Nat)
    (hg : ∀ t, t ≤ ws.length → (g (p ++ [(t : Int)]) (bpNext ws t x)).length ≤ N) (hf : ∀ t, t ≤ ws.length → ∀ out : List (List Int), out.length + N ≤ 1000000000 → f (p ++ [(t : Int)]) out = some (out ++ g (p ++ [(t : Int)]) (bpNext ws t x)))
    (hc : ∀ t, t ≤ ws.length → ((t = ws.length ∨ wrap64 (rd ws (t : Int) + x) ≤ bag) ↔ rd (bpNext ws t x) (t : Int) ≤ bag)) : ∀ (m t : Nat) (out : List (List Int)), t + m = ws.length + 1 → out.length + m * N ≤ 1000000000 → lkLoop f bag x p ws m t out = some (out ++ plLoop g bag x p ws m t)
  | 0, _, out, _, _ => by simp [lkLoop, plLoop]
  | m + 1, t, out, ht, ho => by
    rw [Nat.succ_mul] at ho
    have hlen := hg t (by omega)
    simp only [lkLoop, plLoop]
    by_cases h : rd (bpNext ws t x) (t : Int) ≤ bag
    · rw [if_pos ((hc t (by omega)).2 h), if_pos h, hf t (by omega) out (by omega), Option.bind_some, lkLoop_val f g bag x p ws N hg hf hc m (t + 1) _ (by omega) (by rw [List.length_append]; omega), List.append_assoc]
    · rw [if_neg (fun h2 => h ((hc t (by omega)).1 h2)), if_neg h, lkLoop_val f g bag x p ws N hg hf hc m (t + 1) _ (by omega) (by omega), List.nil_append]
theorem pow9 {d : Nat} (h : d ≤ 8) : 9 ^ d ≤ 43046721 := Nat.le_trans (Nat.pow_le_pow_right (by omega) h) (by decide)
theorem lkGo_val {l : List S61} {bag : Int} (hl : l.all parcOk = true) (hl8 : l.length ≤ 8) (hb : ∀ i, i < l.length → wt l i ≤ bag) (k : Nat) (hk : 8 < k) : ∀ (d : Nat) (p ws : List Int), Pre l p ws → p.length + d = l.length → ∀ out : List (List Int), out.length + 9 ^ d ≤ 1000000000 → lkGo k l bag d p out = some (out ++ plGo l bag d p ws)
  | 0, p, ws, h, hd, out, ho => by
    simp only [lkGo, plGo]
    rw [if_pos (by omega)]
  | d + 1, p, ws, h, hd, out, ho => by
    have hle := h.le
    simp only [lkGo, plGo]
    rw [h.wts k (by omega), Option.bind_some, if_pos ⟨hle, by omega⟩]
    refine lkLoop_val (lkGo k l bag d) (plGo l bag d) bag (wt l p.length) p ws (9 ^ d) (fun t ht => plGo_len l bag d _ _ (by rw [bpNext_len]; split <;> omega)) (fun t ht o ho => lkGo_val hl hl8 hb k hk d _ _ (h.snoc hl hl8 (by omega) ht) (by simp; omega) o ho) (fun t ht => room_iff hl (by omega) (hb _ (by omega)) ht) (ws.length + 1) 0 out (by omega) ?_
    rw [Nat.pow_succ, Nat.mul_comm] at ho
    have : (ws.length + 1) * 9 ^ d ≤ 9 * 9 ^ d := Nat.mul_le_mul_right _ (by omega)
    omega
theorem plLoop_mem {f : List Int → List Int → List (List Int)} {bag x : Int} {p ws q : List Int} : ∀ {m t : Nat}, q ∈ plLoop f bag x p ws m t → ∃ u, t ≤ u ∧ u < t + m ∧ q ∈ f (p ++ [(u : Int)]) (bpNext ws u x)
  | 0, _, h => by cases h
  | m + 1, t, h => by
    simp only [plLoop] at h
    rcases List.mem_append.1 h with h | h
    · split at h
      · exact ⟨t, Nat.le_refl _, by omega, h⟩
      · cases h
    · obtain ⟨u, h1, h2, h3⟩ := plLoop_mem h
      exact ⟨u, by omega, by omega, h3⟩
theorem plGo_mem {l : List S61} {bag : Int} (hl : l.all parcOk = true) (hl8 : l.length ≤ 8) : ∀ (d : Nat) (p ws q : List Int), Pre l p ws → p.length + d = l.length → q ∈ plGo l bag d p ws → q.length = l.length ∧ ∃ wq, Pre l q wq
  | 0, p, ws, q, h, hd, hq => by
    simp only [plGo, List.mem_singleton] at hq
    subst hq
    exact ⟨by omega, ws, h⟩
  | d + 1, p, ws, q, h, hd, hq => by
    simp only [plGo] at hq
    obtain ⟨u, h1, h2, h3⟩ := plLoop_mem hq
    exact plGo_mem hl hl8 d _ _ q (h.snoc hl hl8 (by omega) (by omega)) (by simp; omega) h3
def allP (l : List S61) (bag : Int) : List (List Int) := plGo l bag l.length [] []
structure Fit (l : List S61) (bag : Int) : Prop where
  all : l.all parcOk = true
  one : 1 ≤ l.length
  max : l.length ≤ 8
  room : ∀ i, i < l.length → wt l i ≤ bag
theorem bgAll_val {l : List S61} {bag : Int} (h : Fit l bag) (k : Nat) (hk : 8 < k) : spec_bgAll.f k l bag = some (allP l bag) := by
  have := pow9 h.max
  have := lkGo_val h.all h.max h.room k hk l.length [] [] (Pre.nil l) (Nat.zero_add _) [] (by simp only [List.length_nil]; omega)
  rwa [List.nil_append] at this
theorem allP_mem {l : List S61} {bag : Int} (h : Fit l bag) {q : List Int} (hq : q ∈ allP l bag) : q.length = l.length ∧ Plan q := by
  obtain ⟨h1, _, h2⟩ := plGo_mem h.all h.max l.length [] [] q (Pre.nil l) (Nat.zero_add _) hq
  exact ⟨h1, h2.plan⟩
theorem allP_len {l : List S61} {bag : Int} (h : Fit l bag) : (allP l bag).length ≤ 43046721 := Nat.le_trans (plGo_len l bag l.length [] [] (by simp; exact h.max)) (pow9 h.max)
theorem countTrips_val (l : List S61) {p : List Int} (h : Plan p) (h1 : 1 ≤ p.length) (h8 : p.length ≤ 8) : impl_countTrips.f l p = some (cI p p.length : Int) := by
  have hm := plan_max h (p.length - 1) (by omega)
  rw [show p.length - 1 + 1 = p.length by omega] at hm
  have hle := cI_le p p.length
  unfold impl_countTrips.f slices_Max_int_int.f
  rw [if_pos (by omega), Option.bind_some, hm, w64 (by omega) (by omega)]
  congr 1
  omega
end Go.Proofs.Ytagbpiofphgjlaa.Bg
