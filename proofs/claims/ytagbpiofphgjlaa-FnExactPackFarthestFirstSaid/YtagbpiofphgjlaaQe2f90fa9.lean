/- Texts of this seat's proofs: contracts of its functions and plain laws about them, with no condition beyond those that each theorem states. -/
import Derived.Test.YtagbpiofphgjlaaQ742fc60f
namespace Go.Proofs.Ytagbpiofphgjlaa.G
open Go.RowKit Go.Proofs.YtagbpiofphgjlaaW.PrintWords Go.Proofs.YtagbpiofphgjlaaW.PrintLast Go.Proofs.YtagbpiofphgjlaaW.PrintMore
attribute [local go_sem] max2_int min2_int max_two min_two max_three min_three max_four min_four
set_option linter.unusedVariables false
set_option linter.unusedSimpArgs false
set_option maxHeartbeats 2000000 in
set_option maxRecDepth 100000 in
theorem pk_room (gl gi : Nat) (A0 : Option Addr) (c0 : Nat) (l0 : List S61) (i : Nat) (W : World) (x : Int) (hr0 : Kd.C k61 W A0 l0.length l0) (hi : i < l0.length)
    (h0 : W.cell? ⟨gl, 0, none⟩ = some (.slice A0 l0.length c0)) (h1 : W.cell? ⟨gi, 0, none⟩ = some (.int .i64 (i : Int))) :
    Calls Try.prog 129 (#[.int .i64 x] ++ #[.pointer (some ⟨gl, 0, none⟩), .pointer (some ⟨gi, 0, none⟩)]) W fun e w' => e = .returned (.bool (decide (x ≥ (rd_T61 l0 (i : Int)).f1))) ∧ Below W.heap.size W w' := by
  obtain ⟨ad, rfl, hx0, hx1⟩ := at_T61 hr0 (i : Int) (by omega) (by omega)
  rw [Int.toNat_natCast] at hx1
  generalize (rd_T61 l0 (i : Int)).f1 = y at *
  have hlen : l0.length ≤ 9223372036854775807 := hr0.2.1
  have c1 : (i : Int) < (l0.length : Int) := by omega
  clear hx0 hr0
  show Calls Try.prog 129 #[.int .i64 x, .pointer (some ⟨gl, 0, none⟩), .pointer (some ⟨gi, 0, none⟩)] W _
  go_enter Try.func129, Try.ntmps129
  go_wp2
  go_ret
  exact ⟨rfl, by first | exact Below.refl _ _ | exact below_drew (Below.refl _ _)⟩
end Go.Proofs.Ytagbpiofphgjlaa.G
