/- Texts of this seat's proofs: contracts of its functions and plain laws about them, with no condition beyond those that each theorem states. -/
import Derived.Deep.Slices
import Derived.Deep.Strs
import Derived.Lib.SmallJoins
import Derived.OpenShut
import Derived.ProofKit
import Derived.Test.YtcloklakffgbmaaQ069c3342
namespace Go.Proofs.Ytcloklakffgbmaa.Open
open Go.RowKit Go.Proofs.YtcloklakffgbmaaW.PrintWords Go.Proofs.YtcloklakffgbmaaW.PrintLast Go.Proofs.YtcloklakffgbmaaW.PrintMore Go.Deep Go.Joins Go.ChangeShapes
variable {P : Program} {t e : TypeId} {α β γ : Type}
def Opens (P : Program) (d : Kd α) (t : TypeId) (wf : α → Prop) : Prop :=
 ∀ {H : Type} (enc : TypeId × Value → H) (w : World) (base : Nat) (spare : Nat → Bool) (held : Bool) (fuel : Nat) (cs : List Value) (x : DataW H × List MemPlace),
  DataW.trod enc P w base spare held fuel t cs = some x → ∃ a : α, d.K w a cs ∧ wf a
theorem opens_int {k : IntKind} (ht : P.underlying t = some (.int k)) : Opens P (Kd.int k) t (fun n => (Lit.int k n).wf = true) := by
 intro H enc w base spare held fuel cs x h
 obtain ⟨n, rfl, _, hw⟩ := DataW.trod_int ht h
 exact ⟨n, rfl, hw⟩
theorem opens_iso {d : Kd α} {wf : α → Prop} {f : β → α} (g : α → β) (hg : ∀ a, f (g a) = a) (h : Opens P d t wf) : Opens P (Kd.iso d f) t (fun b => wf (f b)) := by
 intro H enc w base spare held fuel cs x hx
 obtain ⟨a, hK, hw⟩ := h enc w base spare held fuel cs x hx
 exact ⟨g a, (by show d.K w (f (g a)) cs; rw [hg]; exact hK), by show wf (f (g a)); rw [hg]; exact hw⟩
theorem opens_slice {d : Kd α} {wf : α → Prop} (ht : P.underlying t = some (.slice e)) (hc : P.cellsOf e = d.sz) (h : Opens P d e wf) : Opens P (Kd.slice e d) t (fun xs => xs.length ≤ maxLen ∧ ∀ x ∈ xs, wf x) := by
 intro H enc w base spare held fuel cs x hx
 rcases open_slice ht hx with ⟨rfl, _⟩ | ⟨a, len, cap, m, n, D, Pl, rfl, hb, hl, hm, hmm, rfl, hel⟩
 ·exact ⟨[], ⟨none, 0, rfl, Nat.le_refl _, rfl, by simp, fun h0 => absurd h0 (by simp)⟩, by simp, fun x hx => by cases hx⟩
 ·have hlm : len ≤ m := by rw [hmm]; split <;> omega
  have key : ∀ k, k ≤ len → ∃ xs : List α, xs.length = k ∧ (∀ j p, xs[j]? = some p → ∃ c, c.length = d.sz ∧ d.K w p c ∧ ∀ i u, c[i]? = some u → w.cell? (a.add (j * d.sz + i)) = some u) ∧ ∀ x ∈ xs, wf x := by
   intro k
   induction k with
   | zero => intro _; exact ⟨[], rfl, fun j p hj => by simp at hj, fun x hx => by cases hx⟩
   | succ k ih =>
    intro hk
    obtain ⟨xs, hlen, hxs, hwf⟩ := ih (by omega)
    obtain ⟨cs', hcs, htr⟩ := hel k (by omega)
    obtain ⟨y, hK, hwy⟩ := h enc w base spare held n cs' _ htr
    refine ⟨xs ++ [y], by simp [hlen], fun j p hj => ?_, fun x hx => ?_⟩
    ·rcases Nat.lt_or_ge j xs.length with hjl | hjl
     ·rw [List.getElem?_append_left hjl] at hj
      exact hxs j p hj
     ·have hj' : j = xs.length := by
       have := (List.getElem?_eq_some_iff.1 hj).1
       rw [List.length_append, List.length_singleton] at this
       omega
      subst hj'
      obtain rfl : y = p := by simpa using hj
      refine ⟨cs', d.K_len hK, hK, fun i u hu => ?_⟩
      obtain ⟨_, _, hcell⟩ := World.cells?_some hcs
      have := hcell i (by rw [hc, ← d.K_len hK]; exact (List.getElem?_eq_some_iff.1 hu).1)
      rw [hc, Addr.add_add, hu] at this
      rw [hlen]
      exact this
    ·rcases List.mem_append.1 hx with hx | hx
     ·exact hwf x hx
     ·rw [List.mem_singleton.1 hx]
      exact hwy
  obtain ⟨xs, hlen, hxs, hwf⟩ := key len (Nat.le_refl _)
  have hml : maxLen = 9223372036854775807 := rfl
  exact ⟨xs, ⟨some a, cap, by rw [hlen], by omega, rfl, by omega, fun _ => ⟨a, rfl, hxs⟩⟩, by omega, hwf⟩
theorem opens_pair2 {f0 f1 : Field} {a : Kd α} {b : Kd β} {wa : α → Prop} {wb : β → Prop} (ht : P.underlying t = some (.struct #[f0, f1])) (o0 : f0.offset = 0) (o1 : f1.offset = a.sz)
  (z0 : P.cellsOf f0.type = a.sz) (z1 : P.cellsOf f1.type = b.sz ∧ P.cellsOf t = a.sz + b.sz) (h0 : Opens P a f0.type wa) (h1 : Opens P b f1.type wb) : Opens P (Kd.pair a b) t (fun x => wa x.1 ∧ wb x.2) := by
 intro H enc w base spare held fuel cs x hx
 obtain ⟨y0, y1, n, rfl, hl, g0, g1⟩ := trod_struct2 ht hx
 obtain ⟨p, k0, w0⟩ := h0 enc w base spare held _ _ _ g0
 obtain ⟨q, k1, w1⟩ := h1 enc w base spare held _ _ _ g1
 rw [o0, z0] at k0
 rw [o1, z1.1] at k1
 refine ⟨(p, q), ⟨_, _, ?_, k0, k1⟩, w0, w1⟩
 rw [z1.2] at hl
 rw [List.drop_zero, List.take_of_length_le (l := cs.drop a.sz) (by rw [List.length_drop]; omega), List.take_append_drop]
theorem opens_pair3 {f0 f1 f2 : Field} {a : Kd α} {b : Kd β} {c : Kd γ} {wa : α → Prop} {wb : β → Prop} {wc : γ → Prop} (ht : P.underlying t = some (.struct #[f0, f1, f2])) (o0 : f0.offset = 0) (o1 : f1.offset = a.sz) (o2 : f2.offset = a.sz + b.sz)
  (z0 : P.cellsOf f0.type = a.sz) (z1 : P.cellsOf f1.type = b.sz) (z2 : P.cellsOf f2.type = c.sz ∧ P.cellsOf t = a.sz + (b.sz + c.sz)) (h0 : Opens P a f0.type wa) (h1 : Opens P b f1.type wb) (h2 : Opens P c f2.type wc) : Opens P (Kd.pair a (Kd.pair b c)) t (fun x => wa x.1 ∧ wb x.2.1 ∧ wc x.2.2) := by
 intro H enc w base spare held fuel cs x hx
 obtain ⟨y0, y1, y2, n, rfl, hl, g0, g1, g2⟩ := trod_struct3 ht hx
 obtain ⟨p, k0, w0⟩ := h0 enc w base spare held _ _ _ g0
 obtain ⟨q, k1, w1⟩ := h1 enc w base spare held _ _ _ g1
 obtain ⟨r, k2, w2⟩ := h2 enc w base spare held _ _ _ g2
 rw [o0, z0] at k0
 rw [o1, z1] at k1
 rw [o2, z2.1] at k2
 refine ⟨(p, q, r), ⟨_, _, ?_, k0, _, _, rfl, k1, k2⟩, w0, w1, w2⟩
 rw [z2.2] at hl
 rw [List.drop_zero, ← List.drop_drop, List.take_of_length_le (l := (cs.drop a.sz).drop b.sz) (by rw [List.length_drop, List.length_drop]; omega), List.take_append_drop, List.take_append_drop]
end Go.Proofs.Ytcloklakffgbmaa.Open
