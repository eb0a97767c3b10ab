/- Texts of this seat's proofs: contracts of its functions and plain laws about them, with no condition beyond those that each theorem states. -/
import Derived.Deep.Slices
import Derived.Deep.Strs
import Derived.Lib.SmallJoins
import Derived.OpenShut
import Derived.ProofKit
import Derived.Test.YtcloklakffgbmaaQ069c3342
namespace Go.Proofs.Ytcloklakffgbmaa.Open
open Go.RowKit Go.Proofs.YtcloklakffgbmaaW.PrintWords Go.Proofs.YtcloklakffgbmaaW.PrintLast Go.Proofs.YtcloklakffgbmaaW.PrintMore Go.Deep Go.Joins Go.ChangeShapes
variable {P : Program} {t e : TypeId} {α β γ : Type}
def Opens (P : Program) (d : Kd α) (t : TypeId) (wf : α → Prop) : Prop :=
  ∀ {H : Type} (enc : TypeId × Value → H) (w : World) (base : Nat) (spare : Nat → Bool) (held : Bool) (fuel : Nat) (cs : List Value) (x : DataW H × List MemPlace),
    DataW.trod enc P w base spare held fuel t cs = some x → ∃ a : α, d.K w a cs ∧ wf a
theorem opens_int {k : IntKind} (ht : P.underlying t = some (.int k)) : Opens P (Kd.int k) t (fun n => (Lit.int k n).wf = true) := by
  intro H enc w base spare held fuel cs x h
  obtain ⟨n, rfl, _, hw⟩ := DataW.trod_int ht h
  exact ⟨n, rfl, hw⟩
theorem opens_iso {d : Kd α} {wf : α → Prop} {f : β → α} (g : α → β) (hg : ∀ a, f (g a) = a) (h : Opens P d t wf) : Opens P (Kd.iso d f) t (fun b => wf (f b)) := by
  intro H enc w base spare held fuel cs x hx
  obtain ⟨a, hK, hw⟩ := h enc w base spare held fuel cs x hx
  exact ⟨g a, (by show d.K w (f (g a)) cs; rw [hg]; exact hK), by show wf (f (g a)); rw [hg]; exact hw⟩
theorem opens_pair2 {f0 f1 : Field} {a : Kd α} {b : Kd β} {wa : α → Prop} {wb : β → Prop} (ht : P.underlying t = some (.struct #[f0, f1])) (o0 : f0.offset = 0) (o1 : f1.offset = a.sz)
    (z0 : P.cellsOf f0.type = a.sz) (z1 : P.cellsOf f1.type = b.sz ∧ P.cellsOf t = a.sz + b.sz) (h0 : Opens P a f0.type wa) (h1 : Opens P b f1.type wb) : Opens P (Kd.pair a b) t (fun x => wa x.1 ∧ wb x.2) := by
  intro H enc w base spare held fuel cs x hx
  obtain ⟨y0, y1, n, rfl, hl, g0, g1⟩ := trod_struct2 ht hx
  obtain ⟨p, k0, w0⟩ := h0 enc w base spare held _ _ _ g0
  obtain ⟨q, k1, w1⟩ := h1 enc w base spare held _ _ _ g1
  rw [o0, z0] at k0
  rw [o1, z1.1] at k1
  refine ⟨(p, q), ⟨_, _, ?_, k0, k1⟩, w0, w1⟩
  rw [z1.2] at hl
  rw [List.drop_zero, List.take_of_length_le (l := cs.drop a.sz) (by rw [List.length_drop]; omega), List.take_append_drop]
end Go.Proofs.Ytcloklakffgbmaa.Open
