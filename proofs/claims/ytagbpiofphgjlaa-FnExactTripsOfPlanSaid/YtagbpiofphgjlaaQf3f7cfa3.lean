/- Texts of this seat's proofs: contracts of its functions and plain laws about them, with no condition beyond those that each theorem states. -/
import Derived.Test.YtagbpiofphgjlaaQ375386e9
namespace Go.Proofs.Ytagbpiofphgjlaa.G
open Go.RowKit Go.Proofs.YtagbpiofphgjlaaW.PrintWords Go.Proofs.YtagbpiofphgjlaaW.PrintLast Go.Proofs.YtagbpiofphgjlaaW.PrintMore
attribute [local go_sem] max2_int min2_int max_two min_two max_three min_three max_four min_four
set_option linter.unusedVariables false
set_option linter.unusedSimpArgs false
def maxTo (l : List Int) : Nat → Int
  | 0 => rd l 0
  | n + 1 => if maxTo l n < rd l ((n + 1 : Nat) : Int) then rd l ((n + 1 : Nat) : Int) else maxTo l n
def slices_Max_int_int.f (l0 : List Int) : Option (Int) := if 1 ≤ l0.length then some (maxTo l0 (l0.length - 1)) else none
set_option maxHeartbeats 2000000 in
set_option maxRecDepth 100000 in
theorem slices_Max_int_int.calls (A0 : Option Addr) (c0 : Nat) (l0 : List Int) (r : Int) (w : World) (hr0 : Kd.C (Kd.int .i64) w A0 l0.length l0) (hc0 : l0.length ≤ c0) (h : slices_Max_int_int.f l0 = some r) :
    Calls Try.prog 106 #[.slice A0 l0.length c0] w fun e w' => e = .returned (.int .i64 r) ∧ Drawn0 w w' := by
  unfold slices_Max_int_int.f at h
  have HR := Aside0.mk hr0
  have HC := Aside0.mk hc0
  clear hr0 hc0
  by_cases c1 : 1 ≤ l0.length
  · rw [if_pos c1] at h
    obtain rfl := Option.some.inj h
    clear h
    have HL := Aside0.mk c1
    have c2 : decide ((l0.length : Int) < 1) = false := decide_eq_false (by omega)
    have q101 : (0 : Int) < (l0.length : Int) := by omega
    obtain ⟨ad101, e101, hx101_0⟩ := Kd.at_int HR.out 0 (by omega) q101
    clear c1
    cases e101
    have hx0 : w.cell? ad101 = some (.int .i64 (rd l0 0)) := hx101_0
    clear hx101_0
    go_enter Try.func106, Try.ntmps106
    go_wp2
    go_loopg [3, 4] (l0.length - 1) (fun gg v3 v4 wr => ∃ kk : Nat, kk + 1 + gg = l0.length ∧ v3 = .int .i64 (maxTo l0 kk) ∧ v4 = .int .i64 ((kk + 1 : Nat) : Int) ∧ Drawn0 w wr)
    case atStart => exact ⟨0, by omega, rfl, rfl, by repeat (first | exact Drawn0.refl _ | apply Drawn0.step)⟩
    case round =>
      obtain ⟨kk, hkk, rfl, rfl, ⟨m1, rfl⟩⟩ := hrel
      have hlen : l0.length ≤ 9223372036854775807 := HR.out.2.1
      by_cases hlt : kk + 1 < l0.length
      · obtain ⟨ad, e, hx⟩ := Kd.at_int HR.out ((kk + 1 : Nat) : Int) (by omega) (by omega)
        cases e
        have c3b0 : decide (((kk + 1 : Nat) : Int) < (l0.length : Int)) = true := decide_eq_true (by omega)
        have q0 : (0 ≤ ((kk + 1 : Nat) : Int)) = True := eq_true (by omega)
        have q1 : (((kk + 1 : Nat) : Int) < (l0.length : Int)) = True := eq_true (by omega)
        have e1 : wrap64 (((kk + 1 : Nat) : Int) + 1) = ((kk + 1 + 1 : Nat) : Int) := by unfold wrap64; omega
        generalize hz : ((kk + 1 : Nat) : Int) = z at *
        have hM : maxTo l0 (kk + 1) = if maxTo l0 kk < rd l0 z then rd l0 z else maxTo l0 kk := by simp only [maxTo, hz]
        go_wp2
        all_goals
          go_roundg (gk - 1)
          (case measure => omega)
          (case rel => exact ⟨kk + 1, by omega, by rw [hM]; first | rfl | (rw [if_pos (by omega)]; done) | (rw [if_neg (by omega)]; done), by first | rfl | (congr 1; omega), by repeat (first | exact ⟨⟨m1, rfl⟩⟩ | exact ⟨m1, rfl⟩ | apply Drawn0.step)⟩)
      · have c3b0 : decide (((kk + 1 : Nat) : Int) < (l0.length : Int)) = false := decide_eq_false (by omega)
        obtain rfl : kk = l0.length - 1 := by omega
        go_wp2
        go_ret
        exact ⟨rfl, by repeat (first | exact ⟨⟨m1, rfl⟩⟩ | exact ⟨m1, rfl⟩ | apply Drawn0.step)⟩
  · rw [if_neg c1] at h
    cases h
end Go.Proofs.Ytagbpiofphgjlaa.G
