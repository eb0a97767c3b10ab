/- Texts of this seat's proofs: contracts of its functions and plain laws about them, with no condition beyond those that each theorem states. -/
import Derived.Test.YtmninaoedoonbaaQ5865e9cb
import Derived.Test.YtmninaoedoonbaaQa47db134
import Derived.Test.YtmninaoedoonbaaQ331824f3
import Derived.Test.YtmninaoedoonbaaQ4ea981c7
import Derived.Great.BuildSlice
import Derived.Laws.Bits64b
set_option maxHeartbeats 8000000
set_option maxRecDepth 100000
section
namespace Go.Proofs.Ytmninaoedoonbaa.G
open Go.RowKit Go.Proofs.YtmninaoedoonbaaW.PrintWords Go.Proofs.YtmninaoedoonbaaW.PrintLast Go.Proofs.YtmninaoedoonbaaW.PrintMore
attribute [local go_sem] max2_int min2_int max_two min_two max_three min_three max_four min_four
set_option linter.unusedVariables false
set_option linter.unusedSimpArgs false
def spec_LengthWithoutBack.f (k : Nat) (l0 : List (S45)) (a1 : Int) (l2 : List Int) : Option (Int × Bool) := (spec_bgBoth.f k l0 a1 l2).bind fun t101 => (if t101 = true then ((spec_bgLength.f k l0 l2).bind fun bt102 => (some (wrap64 (bt102.1 - bt102.2), true))) else (some (0, false)))
theorem spec_LengthWithoutBack.calls (k : Nat) (A0 : Option Addr) (c0 : Nat) (l0 : List (S45)) (a1 : Int) (A2 : Option Addr) (c2 : Nat) (l2 : List Int) (r1 : Int) (r2 : Bool) (w : World) (hr0 : Kd.C k45 w A0 l0.length l0) (hc0 : l0.length ≤ c0) (hr2 : Kd.C (Kd.int .i64) w A2 l2.length l2) (hc2 : l2.length ≤ c2) (h : spec_LengthWithoutBack.f k l0 a1 l2 = some (r1, r2)) :
  Calls Try.prog 36 #[.slice A0 l0.length c0, .int .i64 a1, .slice A2 l2.length c2] w fun e w' => e = .returned (.tuple #[.int .i64 r1, .bool r2]) ∧ Below w.heap.size w w' := by
 have HR0 := am hr0
 have HC0 := am hc0
 clear hr0 hc0
 have HR2 := am hr2
 have HC2 := am hc2
 clear hr2 hc2
 have HB := am (Below.refl w.heap.size w)
 have H : ((spec_bgBoth.f k l0 a1 l2).bind fun t101 => (if t101 = true then ((spec_bgLength.f k l0 l2).bind fun bt102 => (some (wrap64 (bt102.1 - bt102.2), true))) else (some (0, false)))) = some (r1, r2) := h
 clear h
 replace H := bH H
 obtain ⟨t101, A40, H⟩ := H
 replace H : (if t101 = true then ((spec_bgLength.f k l0 l2).bind fun bt102 => (some (wrap64 (bt102.1 - bt102.2), true))) else (some (0, false))) = some (r1, r2) := H
 have A4 := am A40
 clear A40
 by_cases c5 : t101 = true
 ·subst c5
  have H1 : ((spec_bgLength.f k l0 l2).bind fun bt102 => (some (wrap64 (bt102.1 - bt102.2), true))) = some (r1, r2) := by rw [if_pos rfl] at H; exact H
  clear H
  have H := H1
  clear H1
  replace H := bH H
  obtain ⟨⟨t102, t103⟩, A60, H⟩ := H
  replace H : (some (wrap64 (t102 - t103), true)) = some (r1, r2) := H
  have A6 := am A60
  clear A60
  simp only [Option.some.injEq, Prod.mk.injEq] at H
  obtain ⟨rfl, rfl⟩ := H
  go_enter Try.func36, Try.ntmps36
  go_wp2_with (first | ((with_reducible refine gate_callee (f := 67) rfl ?_); refine uGo (some 13) Try.func67 #[.slice A0 l0.length c0, .int .i64 a1, .slice A2 l2.length c2] ?_; (with_reducible refine (spec_bgBoth.calls k _ _ l0 a1 _ _ l2 true _ ?side1 ?side2 ?side3 ?side4 A4.out).mono ?_); (case side1 => repeat (first | exact HR0.out | (with_reducible refine cA ?_ _) | (with_reducible refine cN ?_ _) | (with_reducible refine cD ?_))); (case side2 => exact HC0.out); (case side3 => repeat (first | exact HR2.out | (with_reducible refine cA ?_ _) | (with_reducible refine cN ?_ _) | (with_reducible refine cD ?_))); (case side4 => exact HC2.out); rintro e w7 ⟨rfl, hb⟩; refine ⟨_, rfl, ?_⟩; replace HB := uS hb; (try clear hb); (try clear hb2); (try clear hk); (try clear hi)) | ((with_reducible refine gate_callee (f := 69) rfl ?_); refine uGo (some 18) Try.func69 #[.slice A0 l0.length c0, .slice A2 l2.length c2] ?_; (with_reducible refine (spec_bgLength.calls k _ _ l0 _ _ l2 t102 t103 _ ?side1 ?side2 ?side3 ?side4 A6.out).mono ?_); (case side1 => repeat (first | exact (Kd.C_below HR0.out HB.out) | (with_reducible refine cA ?_ _) | (with_reducible refine cN ?_ _) | (with_reducible refine cD ?_))); (case side2 => exact HC0.out); (case side3 => repeat (first | exact (Kd.C_below HR2.out HB.out) | (with_reducible refine cA ?_ _) | (with_reducible refine cN ?_ _) | (with_reducible refine cD ?_))); (case side4 => exact HC2.out); rintro e w8 ⟨rfl, hb⟩; refine ⟨_, rfl, ?_⟩; replace HB := uS hb; (try clear hb); (try clear hb2); (try clear hk); (try clear hi)))
  go_ret2
  exact ⟨uA, by exact uW⟩
 ·replace c5 := Bool.eq_false_iff.mpr c5
  subst c5
  have H1 : (some (0, false)) = some (r1, r2) := by rw [if_neg (show ¬ (false = true) by decide)] at H; exact H
  clear H
  have H := H1
  clear H1
  simp only [Option.some.injEq, Prod.mk.injEq] at H
  obtain ⟨rfl, rfl⟩ := H
  go_enter Try.func36, Try.ntmps36
  go_wp2_with (first | ((with_reducible refine gate_callee (f := 67) rfl ?_); refine uGo (some 13) Try.func67 #[.slice A0 l0.length c0, .int .i64 a1, .slice A2 l2.length c2] ?_; (with_reducible refine (spec_bgBoth.calls k _ _ l0 a1 _ _ l2 false _ ?side1 ?side2 ?side3 ?side4 A4.out).mono ?_); (case side1 => repeat (first | exact HR0.out | (with_reducible refine cA ?_ _) | (with_reducible refine cN ?_ _) | (with_reducible refine cD ?_))); (case side2 => exact HC0.out); (case side3 => repeat (first | exact HR2.out | (with_reducible refine cA ?_ _) | (with_reducible refine cN ?_ _) | (with_reducible refine cD ?_))); (case side4 => exact HC2.out); rintro e w9 ⟨rfl, hb⟩; refine ⟨_, rfl, ?_⟩; replace HB := uS hb; (try clear hb); (try clear hb2); (try clear hk); (try clear hi)))
  go_ret2
  exact ⟨uA, by exact uW⟩
def spec_IsBagPlan.f (k : Nat) (l0 : List (S45)) (a1 : Int) (l2 : List Int) : Option (Bool × Bool) := (spec_bgAsked.f k l0 a1).bind fun t101 => (if t101 = true then ((spec_bgPlan.f k l0 a1 l2).bind fun t102 => (some (t102, true))) else (some (false, false)))
theorem spec_IsBagPlan.calls (k : Nat) (A0 : Option Addr) (c0 : Nat) (l0 : List (S45)) (a1 : Int) (A2 : Option Addr) (c2 : Nat) (l2 : List Int) (r1 : Bool) (r2 : Bool) (w : World) (hr0 : Kd.C k45 w A0 l0.length l0) (hc0 : l0.length ≤ c0) (hr2 : Kd.C (Kd.int .i64) w A2 l2.length l2) (hc2 : l2.length ≤ c2) (h : spec_IsBagPlan.f k l0 a1 l2 = some (r1, r2)) :
  Calls Try.prog 37 #[.slice A0 l0.length c0, .int .i64 a1, .slice A2 l2.length c2] w fun e w' => e = .returned (.tuple #[.bool r1, .bool r2]) ∧ Below w.heap.size w w' := by
 have HR0 := am hr0
 have HC0 := am hc0
 clear hr0 hc0
 have HR2 := am hr2
 have HC2 := am hc2
 clear hr2 hc2
 have HB := am (Below.refl w.heap.size w)
 have H : ((spec_bgAsked.f k l0 a1).bind fun t101 => (if t101 = true then ((spec_bgPlan.f k l0 a1 l2).bind fun t102 => (some (t102, true))) else (some (false, false)))) = some (r1, r2) := h
 clear h
 replace H := bH H
 obtain ⟨t101, A40, H⟩ := H
 replace H : (if t101 = true then ((spec_bgPlan.f k l0 a1 l2).bind fun t102 => (some (t102, true))) else (some (false, false))) = some (r1, r2) := H
 have A4 := am A40
 clear A40
 by_cases c5 : t101 = true
 ·subst c5
  have H1 : ((spec_bgPlan.f k l0 a1 l2).bind fun t102 => (some (t102, true))) = some (r1, r2) := by rw [if_pos rfl] at H; exact H
  clear H
  have H := H1
  clear H1
  replace H := bH H
  obtain ⟨t102, A60, H⟩ := H
  replace H : (some (t102, true)) = some (r1, r2) := H
  have A6 := am A60
  clear A60
  simp only [Option.some.injEq, Prod.mk.injEq] at H
  obtain ⟨rfl, rfl⟩ := H
  go_enter Try.func37, Try.ntmps37
  go_wp2_with (first | ((with_reducible refine gate_callee (f := 44) rfl ?_); refine uGo (some 10) Try.func44 #[.slice A0 l0.length c0, .int .i64 a1] ?_; (with_reducible refine (spec_bgAsked.calls k _ _ l0 a1 true _ ?side1 ?side2 A4.out).mono ?_); (case side1 => repeat (first | exact HR0.out | (with_reducible refine cA ?_ _) | (with_reducible refine cN ?_ _) | (with_reducible refine cD ?_))); (case side2 => exact HC0.out); rintro e w7 ⟨rfl, hb⟩; refine ⟨_, rfl, ?_⟩; replace HB := uS hb; (try clear hb); (try clear hb2); (try clear hk); (try clear hi)) | ((with_reducible refine gate_callee (f := 70) rfl ?_); refine uGo (some 15) Try.func70 #[.slice A0 l0.length c0, .int .i64 a1, .slice A2 l2.length c2] ?_; (with_reducible refine (spec_bgPlan.calls k _ _ l0 a1 _ _ l2 t102 _ ?side1 ?side2 ?side3 ?side4 A6.out).mono ?_); (case side1 => repeat (first | exact (Kd.C_below HR0.out HB.out) | (with_reducible refine cA ?_ _) | (with_reducible refine cN ?_ _) | (with_reducible refine cD ?_))); (case side2 => exact HC0.out); (case side3 => repeat (first | exact (Kd.C_below HR2.out HB.out) | (with_reducible refine cA ?_ _) | (with_reducible refine cN ?_ _) | (with_reducible refine cD ?_))); (case side4 => exact HC2.out); rintro e w8 ⟨rfl, hb⟩; refine ⟨_, rfl, ?_⟩; replace HB := uS hb; (try clear hb); (try clear hb2); (try clear hk); (try clear hi)))
  go_ret2
  exact ⟨uA, by exact uW⟩
 ·replace c5 := Bool.eq_false_iff.mpr c5
  subst c5
  have H1 : (some (false, false)) = some (r1, r2) := by rw [if_neg (show ¬ (false = true) by decide)] at H; exact H
  clear H
  have H := H1
  clear H1
  simp only [Option.some.injEq, Prod.mk.injEq] at H
  obtain ⟨rfl, rfl⟩ := H
  go_enter Try.func37, Try.ntmps37
  go_wp2_with (first | ((with_reducible refine gate_callee (f := 44) rfl ?_); refine uGo (some 10) Try.func44 #[.slice A0 l0.length c0, .int .i64 a1] ?_; (with_reducible refine (spec_bgAsked.calls k _ _ l0 a1 false _ ?side1 ?side2 A4.out).mono ?_); (case side1 => repeat (first | exact HR0.out | (with_reducible refine cA ?_ _) | (with_reducible refine cN ?_ _) | (with_reducible refine cD ?_))); (case side2 => exact HC0.out); rintro e w9 ⟨rfl, hb⟩; refine ⟨_, rfl, ?_⟩; replace HB := uS hb; (try clear hb); (try clear hb2); (try clear hk); (try clear hi)))
  go_ret2
  exact ⟨uA, by exact uW⟩
def laws_aRows.l0 : Nat → List (List Int) → List (List Int) → Int → Int → Option (Bool)
 | 0, _, _, _, _ => none
 | k + 1, x0, x1, x12, x13 => if x13 < x12 then (if 0 ≤ x13 then (if x13 < (x0.length : Int) then (if x13 < (x1.length : Int) then ((laws_aSame.f k (rd_L3 x0 x13) (rd_L3 x1 x13)).bind fun t103 => (if t103 = true then (laws_aRows.l0 k x0 x1 x12 (wrap64 (x13 + 1))) else (some false))) else (none)) else (none)) else (none)) else (some true)
def laws_aRows.f (k : Nat) (l0 : List (List Int)) (l1 : List (List Int)) : Option (Bool) := if (l0.length : Int) = (l1.length : Int) then (laws_aRows.l0 k l0 l1 (l0.length : Int) 0) else (some false)
theorem laws_aRows.calls (k : Nat) (A0 : Option Addr) (c0 : Nat) (l0 : List (List Int)) (A1 : Option Addr) (c1 : Nat) (l1 : List (List Int)) (r : Bool) (w : World) (hr0 : Kd.C (Kd.slice 3 (Kd.int .i64)) w A0 l0.length l0) (hc0 : l0.length ≤ c0) (hr1 : Kd.C (Kd.slice 3 (Kd.int .i64)) w A1 l1.length l1) (hc1 : l1.length ≤ c1) (h : laws_aRows.f k l0 l1 = some r) :
  Calls Try.prog 38 #[.slice A0 l0.length c0, .slice A1 l1.length c1] w fun e w' => e = .returned (.bool r) ∧ Drawn0 w w' := by
 have HR0 := am hr0
 have HC0 := am hc0
 clear hr0 hc0
 have HR1 := am hr1
 have HC1 := am hc1
 clear hr1 hc1
 have H : (if (l0.length : Int) = (l1.length : Int) then (laws_aRows.l0 k l0 l1 (l0.length : Int) 0) else (some false)) = some r := h
 clear h
 by_cases c3 : (l0.length : Int) = (l1.length : Int)
 ·rw [if_pos c3] at H
  have c3b0 : ((l0.length : Int) == (l1.length : Int)) = true := beq_iff_eq.mpr c3
  have c3b1 : ((l0.length : Int) != (l1.length : Int)) = false := bne_eq_false_iff_eq.mpr c3
  have c3b2 : (l0.length == l1.length) = true := by first | simpa using c3 | (simp at c3 ⊢; omega)
  clear c3
  have H' := am H
  clear H
  go_enter Try.func38, Try.ntmps38
  go_wp2
  repeat (go_quiet (fail); try go_wp2)
  go_loopg [13] k (fun kq v13 w' => ∃ (x13_1 : Int), v13 = .int .i64 x13_1 ∧ Aside0 (laws_aRows.l0 kq l0 l1 (l0.length : Int) x13_1 = some r) ∧ Aside0 (kq ≤ k) ∧ Drawn0 w w')
  case atStart => exact ⟨(0), (by first | rfl | (simp; done) | (simp [*]; done)), H', ⟨Nat.le_refl _⟩, by repeat (first | exact Drawn0.refl _ | apply Drawn0.step)⟩
  case round =>
   clear H'
   try clear c1
   try clear p2
   try clear c3
   try clear c3b0
   try clear c3b1
   try clear c3b2
   obtain ⟨x13_1, rfl, HA, HK1, ⟨m1, rfl⟩⟩ := hrel
   cases gk with
   | zero => exact absurd HA.out (by simp [laws_aRows.l0])
   | succ k1 =>
    have H := HA.out
    clear HA
    simp only [laws_aRows.l0] at H
    by_cases c4 : x13_1 < (l0.length : Int)
    ·rw [if_pos c4] at H
     have c4b0 : decide (x13_1 < (l0.length : Int)) = true := decide_eq_true c4
     clear c4
     by_cases c5 : 0 ≤ x13_1
     ·rw [if_pos c5] at H
      have c5b0 : decide (0 ≤ x13_1) = true := decide_eq_true c5
      clear c5
      by_cases c6 : x13_1 < (l0.length : Int)
      ·rw [if_pos c6] at H
       have c6b0 : decide (x13_1 < (l0.length : Int)) = true := decide_eq_true c6
       clear c6
       by_cases c7 : x13_1 < (l1.length : Int)
       ·rw [if_pos c7] at H
        have c7b0 : decide (x13_1 < (l1.length : Int)) = true := decide_eq_true c7
        clear c7
        replace H := bH H
        obtain ⟨t103, A80, H⟩ := H
        replace H : (if t103 = true then (laws_aRows.l0 k1 l0 l1 (l0.length : Int) (wrap64 (x13_1 + 1))) else (some false)) = some r := H
        have A8 := am A80
        clear A80
        by_cases c9 : t103 = true
        ·subst c9
         have H1 : (laws_aRows.l0 k1 l0 l1 (l0.length : Int) (wrap64 (x13_1 + 1))) = some r := by rw [if_pos rfl] at H; exact H
         clear H
         have H := H1
         clear H1
         have H' := am H
         clear H
         have p101 : 0 ≤ (x13_1 : Int) := of_decide_eq_true (by first | (with_reducible assumption) | assumption)
         have q101 : x13_1 < (l0.length : Int) := of_decide_eq_true (by first | (with_reducible assumption) | assumption)
         obtain ⟨ad101, A101_0, c101_0, e101, hx101_0, hl101_0, hi101_0⟩ := at_L3 HR0.out x13_1 p101 q101
         cases e101
         have HR101_0 := am hi101_0
         have HC101_0 := am hl101_0
         clear hi101_0 hl101_0
         replace p101 := eq_true p101
         replace q101 := eq_true q101
         have p102 : 0 ≤ (x13_1 : Int) := of_decide_eq_true (by first | (with_reducible assumption) | assumption)
         have q102 : x13_1 < (l1.length : Int) := of_decide_eq_true (by first | (with_reducible assumption) | assumption)
         obtain ⟨ad102, A102_0, c102_0, e102, hx102_0, hl102_0, hi102_0⟩ := at_L3 HR1.out x13_1 p102 q102
         cases e102
         have HR102_0 := am hi102_0
         have HC102_0 := am hl102_0
         clear hi102_0 hl102_0
         replace p102 := eq_true p102
         replace q102 := eq_true q102
         go_wp2_with (first | (go_at_call 22; (with_reducible refine (laws_aSame.calls k1 _ _ (rd_L3 l0 x13_1) _ _ (rd_L3 l1 x13_1) true _ ?side1 ?side2 ?side3 ?side4 A8.out).mono ?_); (case side1 => repeat (first | exact HR101_0.out | (with_reducible refine cA ?_ _) | (with_reducible refine cN ?_ _) | (with_reducible refine cD ?_))); (case side2 => exact HC101_0.out); (case side3 => repeat (first | exact HR102_0.out | (with_reducible refine cA ?_ _) | (with_reducible refine cN ?_ _) | (with_reducible refine cD ?_))); (case side4 => exact HC102_0.out); rintro e w' ⟨rfl, ⟨nd, rfl⟩⟩; (try first | exact ⟨rfl, _, World.drewN_drewN _ _ _⟩ | exact ⟨rfl, _, Eq.trans (World.drewN_drewN _ _ _) (congrArg (World.drewN _) (Nat.add_assoc _ _ _))⟩)))
         repeat (go_quiet (first | (go_at_call 22; (with_reducible refine (laws_aSame.calls k1 _ _ (rd_L3 l0 x13_1) _ _ (rd_L3 l1 x13_1) true _ ?side1 ?side2 ?side3 ?side4 A8.out).mono ?_); (case side1 => repeat (first | exact HR101_0.out | (with_reducible refine cA ?_ _) | (with_reducible refine cN ?_ _) | (with_reducible refine cD ?_))); (case side2 => exact HC101_0.out); (case side3 => repeat (first | exact HR102_0.out | (with_reducible refine cA ?_ _) | (with_reducible refine cN ?_ _) | (with_reducible refine cD ?_))); (case side4 => exact HC102_0.out); rintro e w' ⟨rfl, ⟨nd, rfl⟩⟩; (try first | exact ⟨rfl, _, World.drewN_drewN _ _ _⟩ | exact ⟨rfl, _, Eq.trans (World.drewN_drewN _ _ _) (congrArg (World.drewN _) (Nat.add_assoc _ _ _))⟩))); try go_wp2_with (first | (go_at_call 22; (with_reducible refine (laws_aSame.calls k1 _ _ (rd_L3 l0 x13_1) _ _ (rd_L3 l1 x13_1) true _ ?side1 ?side2 ?side3 ?side4 A8.out).mono ?_); (case side1 => repeat (first | exact HR101_0.out | (with_reducible refine cA ?_ _) | (with_reducible refine cN ?_ _) | (with_reducible refine cD ?_))); (case side2 => exact HC101_0.out); (case side3 => repeat (first | exact HR102_0.out | (with_reducible refine cA ?_ _) | (with_reducible refine cN ?_ _) | (with_reducible refine cD ?_))); (case side4 => exact HC102_0.out); rintro e w' ⟨rfl, ⟨nd, rfl⟩⟩; (try first | exact ⟨rfl, _, World.drewN_drewN _ _ _⟩ | exact ⟨rfl, _, Eq.trans (World.drewN_drewN _ _ _) (congrArg (World.drewN _) (Nat.add_assoc _ _ _))⟩))))
         go_roundg k1
         case measure => have := HK1.out; omega
         case rel => exact ⟨(wrap64 (x13_1 + 1)), (by first | rfl | (simp; done) | (simp [*]; done)), H', ⟨by have := HK1.out; omega⟩, by repeat (first | exact Drawn0.refl _ | apply Drawn0.step)⟩
        ·replace c9 := Bool.eq_false_iff.mpr c9
         subst c9
         have H1 : (some false) = some r := by rw [if_neg (show ¬ (false = true) by decide)] at H; exact H
         clear H
         have H := H1
         clear H1
         obtain rfl := Option.some.inj H
         have p101 : 0 ≤ (x13_1 : Int) := of_decide_eq_true (by first | (with_reducible assumption) | assumption)
         have q101 : x13_1 < (l0.length : Int) := of_decide_eq_true (by first | (with_reducible assumption) | assumption)
         obtain ⟨ad101, A101_0, c101_0, e101, hx101_0, hl101_0, hi101_0⟩ := at_L3 HR0.out x13_1 p101 q101
         cases e101
         have HR101_0 := am hi101_0
         have HC101_0 := am hl101_0
         clear hi101_0 hl101_0
         replace p101 := eq_true p101
         replace q101 := eq_true q101
         have p102 : 0 ≤ (x13_1 : Int) := of_decide_eq_true (by first | (with_reducible assumption) | assumption)
         have q102 : x13_1 < (l1.length : Int) := of_decide_eq_true (by first | (with_reducible assumption) | assumption)
         obtain ⟨ad102, A102_0, c102_0, e102, hx102_0, hl102_0, hi102_0⟩ := at_L3 HR1.out x13_1 p102 q102
         cases e102
         have HR102_0 := am hi102_0
         have HC102_0 := am hl102_0
         clear hi102_0 hl102_0
         replace p102 := eq_true p102
         replace q102 := eq_true q102
         go_wp2_with (first | (go_at_call 22; (with_reducible refine (laws_aSame.calls k1 _ _ (rd_L3 l0 x13_1) _ _ (rd_L3 l1 x13_1) false _ ?side1 ?side2 ?side3 ?side4 A8.out).mono ?_); (case side1 => repeat (first | exact HR101_0.out | (with_reducible refine cA ?_ _) | (with_reducible refine cN ?_ _) | (with_reducible refine cD ?_))); (case side2 => exact HC101_0.out); (case side3 => repeat (first | exact HR102_0.out | (with_reducible refine cA ?_ _) | (with_reducible refine cN ?_ _) | (with_reducible refine cD ?_))); (case side4 => exact HC102_0.out); rintro e w' ⟨rfl, ⟨nd, rfl⟩⟩; (try first | exact ⟨rfl, _, World.drewN_drewN _ _ _⟩ | exact ⟨rfl, _, Eq.trans (World.drewN_drewN _ _ _) (congrArg (World.drewN _) (Nat.add_assoc _ _ _))⟩)))
         repeat (go_quiet (first | (go_at_call 22; (with_reducible refine (laws_aSame.calls k1 _ _ (rd_L3 l0 x13_1) _ _ (rd_L3 l1 x13_1) false _ ?side1 ?side2 ?side3 ?side4 A8.out).mono ?_); (case side1 => repeat (first | exact HR101_0.out | (with_reducible refine cA ?_ _) | (with_reducible refine cN ?_ _) | (with_reducible refine cD ?_))); (case side2 => exact HC101_0.out); (case side3 => repeat (first | exact HR102_0.out | (with_reducible refine cA ?_ _) | (with_reducible refine cN ?_ _) | (with_reducible refine cD ?_))); (case side4 => exact HC102_0.out); rintro e w' ⟨rfl, ⟨nd, rfl⟩⟩; (try first | exact ⟨rfl, _, World.drewN_drewN _ _ _⟩ | exact ⟨rfl, _, Eq.trans (World.drewN_drewN _ _ _) (congrArg (World.drewN _) (Nat.add_assoc _ _ _))⟩))); try go_wp2_with (first | (go_at_call 22; (with_reducible refine (laws_aSame.calls k1 _ _ (rd_L3 l0 x13_1) _ _ (rd_L3 l1 x13_1) false _ ?side1 ?side2 ?side3 ?side4 A8.out).mono ?_); (case side1 => repeat (first | exact HR101_0.out | (with_reducible refine cA ?_ _) | (with_reducible refine cN ?_ _) | (with_reducible refine cD ?_))); (case side2 => exact HC101_0.out); (case side3 => repeat (first | exact HR102_0.out | (with_reducible refine cA ?_ _) | (with_reducible refine cN ?_ _) | (with_reducible refine cD ?_))); (case side4 => exact HC102_0.out); rintro e w' ⟨rfl, ⟨nd, rfl⟩⟩; (try first | exact ⟨rfl, _, World.drewN_drewN _ _ _⟩ | exact ⟨rfl, _, Eq.trans (World.drewN_drewN _ _ _) (congrArg (World.drewN _) (Nat.add_assoc _ _ _))⟩))))
         go_ret
         exact ⟨by first | rfl | (simp; done) | (simp [*]; done), by repeat (first | exact Drawn0.refl _ | apply Drawn0.step)⟩
       ·rw [if_neg c7] at H
        exact absurd H (by simp)
      ·rw [if_neg c6] at H
       exact absurd H (by simp)
     ·rw [if_neg c5] at H
      exact absurd H (by simp)
    ·rw [if_neg c4] at H
     have c4b0 : decide (x13_1 < (l0.length : Int)) = false := decide_eq_false c4
     clear c4
     obtain rfl := Option.some.inj H
     go_wp2
     repeat (go_quiet (fail); try go_wp2)
     go_ret
     exact ⟨by first | rfl | (simp; done) | (simp [*]; done), by repeat (first | exact Drawn0.refl _ | apply Drawn0.step)⟩
 ·rw [if_neg c3] at H
  have c3b0 : ((l0.length : Int) == (l1.length : Int)) = false := beq_eq_false_iff_ne.mpr c3
  have c3b1 : ((l0.length : Int) != (l1.length : Int)) = true := bne_iff_ne.mpr c3
  have c3b2 : (l0.length == l1.length) = false := by first | simpa using c3 | (simp at c3 ⊢; omega)
  obtain rfl := Option.some.inj H
  go_enter Try.func38, Try.ntmps38
  go_wp2
  repeat (go_quiet (fail); try go_wp2)
  go_ret
  exact ⟨by first | rfl | (simp; done) | (simp [*]; done), by repeat (first | exact Drawn0.refl _ | apply Drawn0.step)⟩
def laws_aRises.l0 : Nat → List Int → Int → Option (Bool)
 | 0, _, _ => none
 | k + 1, x0, x3 => if x3 < (x0.length : Int) then (if 0 ≤ (wrap64 (x3 - 1)) then (if (wrap64 (x3 - 1)) < (x0.length : Int) then (if 0 ≤ x3 then (if (rd x0 (wrap64 (x3 - 1))) ≥ (rd x0 x3) then (some false) else (laws_aRises.l0 k x0 (wrap64 (x3 + 1)))) else (none)) else (none)) else (none)) else (some true)
def laws_aRises.f (k : Nat) (l0 : List Int) : Option (Bool) := laws_aRises.l0 k l0 1
theorem laws_aRises.calls (k : Nat) (A0 : Option Addr) (c0 : Nat) (l0 : List Int) (r : Bool) (w : World) (hr0 : Kd.C (Kd.int .i64) w A0 l0.length l0) (hc0 : l0.length ≤ c0) (h : laws_aRises.f k l0 = some r) :
  Calls Try.prog 39 #[.slice A0 l0.length c0] w fun e w' => e = .returned (.bool r) ∧ Drawn0 w w' := by
 have HR0 := am hr0
 have HC0 := am hc0
 clear hr0 hc0
 have H : (laws_aRises.l0 k l0 1) = some r := h
 clear h
 have H' := am H
 clear H
 go_enter Try.func39, Try.ntmps39
 go_wp2
 repeat (go_quiet (fail); try go_wp2)
 go_loopg [3] k (fun kq v3 w' => ∃ (x3_1 : Int), v3 = .int .i64 x3_1 ∧ Aside0 (laws_aRises.l0 kq l0 x3_1 = some r) ∧ Aside0 (kq ≤ k) ∧ Drawn0 w w')
 case atStart => exact ⟨(1), (by first | rfl | (simp; done) | (simp [*]; done)), H', ⟨Nat.le_refl _⟩, by repeat (first | exact Drawn0.refl _ | apply Drawn0.step)⟩
 case round =>
  clear H'
  obtain ⟨x3_1, rfl, HA, HK1, ⟨m1, rfl⟩⟩ := hrel
  cases gk with
  | zero => exact absurd HA.out (by simp [laws_aRises.l0])
  | succ k1 =>
   have H := HA.out
   clear HA
   simp only [laws_aRises.l0] at H
   by_cases c2 : x3_1 < (l0.length : Int)
   ·rw [if_pos c2] at H
    have c2b0 : decide (x3_1 < (l0.length : Int)) = true := decide_eq_true c2
    clear c2
    obtain ⟨ji3, hji3⟩ : ∃ j_ : Int, (wrap64 (x3_1 - 1)) = j_ := ⟨_, rfl⟩
    replace H : (if 0 ≤ (ji3) then (if (ji3) < (l0.length : Int) then (if 0 ≤ x3_1 then (if (rd l0 (ji3)) ≥ (rd l0 x3_1) then (some false) else (laws_aRises.l0 k1 l0 (wrap64 (x3_1 + 1)))) else (none)) else (none)) else (none)) = some r := by first | (rw [hji3] at H; exact H) | (simp only [hji3] at H ⊢; exact H)
    have hji3w : (IntKind.i64.wrap (x3_1 - 1)) = ji3 := (i64_w _).trans hji3
    by_cases c4 : 0 ≤ (ji3)
    ·rw [if_pos c4] at H
     have c4b0 : decide (0 ≤ (ji3)) = true := decide_eq_true c4
     clear c4
     by_cases c5 : (ji3) < (l0.length : Int)
     ·rw [if_pos c5] at H
      have c5b0 : decide ((ji3) < (l0.length : Int)) = true := decide_eq_true c5
      clear c5
      by_cases c6 : 0 ≤ x3_1
      ·rw [if_pos c6] at H
       have c6b0 : decide (0 ≤ x3_1) = true := decide_eq_true c6
       clear c6
       by_cases c7 : (rd l0 (ji3)) ≥ (rd l0 x3_1)
       ·rw [if_pos c7] at H
        have c7b0 : decide ((rd l0 x3_1) ≤ (rd l0 (ji3))) = true := decide_eq_true c7
        clear c7
        obtain rfl := Option.some.inj H
        have p101 : 0 ≤ ((ji3) : Int) := of_decide_eq_true (by first | (with_reducible assumption) | assumption)
        have q101 : (ji3) < (l0.length : Int) := of_decide_eq_true (by first | (with_reducible assumption) | assumption)
        obtain ⟨ad101, e101, hx101_0⟩ := Kd.at_int HR0.out (ji3) p101 q101
        cases e101
        replace p101 := eq_true p101
        replace q101 := eq_true q101
        have p102 : 0 ≤ (x3_1 : Int) := of_decide_eq_true (by first | (with_reducible assumption) | assumption)
        have q102 : x3_1 < (l0.length : Int) := of_decide_eq_true (by first | (with_reducible assumption) | assumption)
        obtain ⟨ad102, e102, hx102_0⟩ := Kd.at_int HR0.out x3_1 p102 q102
        obtain rfl : ad101 = ad102 := (by injection e102)
        replace p102 := eq_true p102
        replace q102 := eq_true q102
        go_wp2
        repeat (go_quiet (fail); try go_wp2)
        go_ret
        exact ⟨by first | rfl | (simp; done) | (simp only [← hji3] <;> (first | rfl | simp)) | (simp [*]; done), by repeat (first | exact Drawn0.refl _ | apply Drawn0.step)⟩
       ·rw [if_neg c7] at H
        have c7b0 : decide ((rd l0 x3_1) ≤ (rd l0 (ji3))) = false := decide_eq_false c7
        clear c7
        have H' := am H
        clear H
        have p101 : 0 ≤ ((ji3) : Int) := of_decide_eq_true (by first | (with_reducible assumption) | assumption)
        have q101 : (ji3) < (l0.length : Int) := of_decide_eq_true (by first | (with_reducible assumption) | assumption)
        obtain ⟨ad101, e101, hx101_0⟩ := Kd.at_int HR0.out (ji3) p101 q101
        cases e101
        replace p101 := eq_true p101
        replace q101 := eq_true q101
        have p102 : 0 ≤ (x3_1 : Int) := of_decide_eq_true (by first | (with_reducible assumption) | assumption)
        have q102 : x3_1 < (l0.length : Int) := of_decide_eq_true (by first | (with_reducible assumption) | assumption)
        obtain ⟨ad102, e102, hx102_0⟩ := Kd.at_int HR0.out x3_1 p102 q102
        obtain rfl : ad101 = ad102 := (by injection e102)
        replace p102 := eq_true p102
        replace q102 := eq_true q102
        go_wp2
        repeat (go_quiet (fail); try go_wp2)
        go_roundg k1
        case measure => have := HK1.out; omega
        case rel => exact ⟨(wrap64 (x3_1 + 1)), (by first | rfl | (simp; done) | (simp [*]; done)), H', ⟨by have := HK1.out; omega⟩, by repeat (first | exact Drawn0.refl _ | apply Drawn0.step)⟩
      ·rw [if_neg c6] at H
       exact absurd H (by simp)
     ·rw [if_neg c5] at H
      exact absurd H (by simp)
    ·rw [if_neg c4] at H
     exact absurd H (by simp)
   ·rw [if_neg c2] at H
    have c2b0 : decide (x3_1 < (l0.length : Int)) = false := decide_eq_false c2
    clear c2
    obtain rfl := Option.some.inj H
    go_wp2
    repeat (go_quiet (fail); try go_wp2)
    go_ret
    exact ⟨by first | rfl | (simp; done) | (simp [*]; done), by repeat (first | exact Drawn0.refl _ | apply Drawn0.step)⟩
def spec_FirstFewestPlan.f (k : Nat) (l0 : List (S45)) (a1 : Int) : Option (List Int × Bool) := (spec_bgAsked.f k l0 a1).bind fun t101 => (if t101 = true then ((spec_bgFewest.f k l0 a1).bind fun bt102 => (some (bt102.1, true))) else (some (([] : List Int), false)))
theorem spec_FirstFewestPlan.calls (k : Nat) (A0 : Option Addr) (c0 : Nat) (l0 : List (S45)) (a1 : Int) (r1 : List Int) (r2 : Bool) (w : World) (hr0 : Kd.C k45 w A0 l0.length l0) (hc0 : l0.length ≤ c0) (h : spec_FirstFewestPlan.f k l0 a1 = some (r1, r2)) :
  Calls Try.prog 13 #[.slice A0 l0.length c0, .int .i64 a1] w fun e w' => ∃ v0_ : Value, e = .returned (.tuple #[v0_, .bool r2]) ∧ Kd.R (Kd.int .i64) 3 w' w.heap.size (fun _ => True) v0_ r1 ∧ Below w.heap.size w w' := by
 have HR0 := am hr0
 have HC0 := am hc0
 clear hr0 hc0
 have HB := am (Below.refl w.heap.size w)
 have H : ((spec_bgAsked.f k l0 a1).bind fun t101 => (if t101 = true then ((spec_bgFewest.f k l0 a1).bind fun bt102 => (some (bt102.1, true))) else (some (([] : List Int), false)))) = some (r1, r2) := h
 clear h
 replace H := bH H
 obtain ⟨t101, A30, H⟩ := H
 replace H : (if t101 = true then ((spec_bgFewest.f k l0 a1).bind fun bt102 => (some (bt102.1, true))) else (some (([] : List Int), false))) = some (r1, r2) := H
 have A3 := am A30
 clear A30
 by_cases c4 : t101 = true
 ·subst c4
  have H1 : ((spec_bgFewest.f k l0 a1).bind fun bt102 => (some (bt102.1, true))) = some (r1, r2) := by rw [if_pos rfl] at H; exact H
  clear H
  have H := H1
  clear H1
  replace H := bH H
  obtain ⟨⟨t102, t103⟩, A50, H⟩ := H
  replace H : (some (t102, true)) = some (r1, r2) := H
  have A5 := am A50
  clear A50
  simp only [Option.some.injEq, Prod.mk.injEq] at H
  obtain ⟨rfl, rfl⟩ := H
  go_enter Try.func13, Try.ntmps13
  go_wp2_with (first | ((with_reducible refine gate_callee (f := 44) rfl ?_); refine uGo (some 10) Try.func44 #[.slice A0 l0.length c0, .int .i64 a1] ?_; (with_reducible refine (spec_bgAsked.calls k _ _ l0 a1 true _ ?side1 ?side2 A3.out).mono ?_); (case side1 => repeat (first | exact HR0.out | (with_reducible refine cA ?_ _) | (with_reducible refine cN ?_ _) | (with_reducible refine cD ?_))); (case side2 => exact HC0.out); rintro e w6 ⟨rfl, hb⟩; refine ⟨_, rfl, ?_⟩; replace HB := uS hb; (try clear hb); (try clear hb2); (try clear hk); (try clear hi)) | ((with_reducible refine gate_callee (f := 47) rfl ?_); refine uGo (some 15) Try.func47 #[.slice A0 l0.length c0, .int .i64 a1] ?_; (with_reducible refine (spec_bgFewest.calls k _ _ l0 a1 t102 t103 _ ?side1 ?side2 A5.out).mono ?_); (case side1 => repeat (first | exact (Kd.C_below HR0.out HB.out) | (with_reducible refine cA ?_ _) | (with_reducible refine cN ?_ _) | (with_reducible refine cD ?_))); (case side2 => exact HC0.out); rintro e w7 ⟨v104, rfl, ho0, hb⟩; refine ⟨_, rfl, ?_⟩; have HO105 := am (Kd.R_lower ho0 (below_size uW)); replace HB := uS hb; (try clear hb); (try clear hb2); (try clear hk); (try clear hi); (try clear ho0)))
  go_ret2
  exact ⟨_, uA, by (with_reducible repeat (first | apply rA | apply rN | apply rD)); exact HO105.out, by exact uW⟩
 ·replace c4 := Bool.eq_false_iff.mpr c4
  subst c4
  have H1 : (some (([] : List Int), false)) = some (r1, r2) := by rw [if_neg (show ¬ (false = true) by decide)] at H; exact H
  clear H
  have H := H1
  clear H1
  simp only [Option.some.injEq, Prod.mk.injEq] at H
  obtain ⟨rfl, rfl⟩ := H
  go_enter Try.func13, Try.ntmps13
  go_wp2_with (first | ((with_reducible refine gate_callee (f := 44) rfl ?_); refine uGo (some 10) Try.func44 #[.slice A0 l0.length c0, .int .i64 a1] ?_; (with_reducible refine (spec_bgAsked.calls k _ _ l0 a1 false _ ?side1 ?side2 A3.out).mono ?_); (case side1 => repeat (first | exact HR0.out | (with_reducible refine cA ?_ _) | (with_reducible refine cN ?_ _) | (with_reducible refine cD ?_))); (case side2 => exact HC0.out); rintro e w8 ⟨rfl, hb⟩; refine ⟨_, rfl, ?_⟩; replace HB := uS hb; (try clear hb); (try clear hb2); (try clear hk); (try clear hi)))
  go_ret2
  exact ⟨_, uA, uN, by exact uW⟩
def impl_FewestTrips.f (l0 : List (S45)) (a1 : Int) : Option (Int × Bool) := (impl_fitBag.f l0 a1).bind fun t => if t = true then (if l0.length ≤ 8 then (bpGo (fun p => impl_countTrips.f l0 p) l0 a1 l0.length [] [] ⟨0, 0, []⟩).bind fun s => some (s.least, true) else none) else some (0, false)
theorem impl_FewestTrips.calls (A0 : Option Addr) (c0 : Nat) (l0 : List (S45)) (a1 : Int) (r1 : Int) (r2 : Bool) (w : World) (hr0 : Kd.C k45 w A0 l0.length l0) (hc0 : l0.length ≤ c0) (h : impl_FewestTrips.f l0 a1 = some (r1, r2)) :
  Calls Try.prog 14 #[.slice A0 l0.length c0, .int .i64 a1] w fun e w' => e = .returned (.tuple #[.int .i64 r1, .bool r2]) ∧ Below w.heap.size w w' := by
 unfold impl_FewestTrips.f at h
 obtain ⟨t, ht, hh⟩ := Option.bind_eq_some_iff.1 h
 clear h
 have HR := am hr0
 have HC := am hc0
 have eg := enters_of Try.func46 (by kernel_rfl) rfl
 clear hr0 hc0
 have key := fun W hW => impl_fitBag.calls A0 c0 l0 a1 t W hW HC.out ht
 clear ht
 cases t with
 | false =>
  rw [if_neg (by decide)] at hh
  obtain ⟨rfl, rfl⟩ : r1 = 0 ∧ r2 = false := by simpa [eq_comm] using hh
  clear hh
  go_enter Try.func14, Try.ntmps14
  go_wp2_with fail
  refine (key _ HR.out).mono ?_
  rintro e w1 ⟨rfl, hb1⟩
  go_wp2
  go_ret2
  exact ⟨rfl, hb1⟩
 | true =>
  rw [if_pos rfl] at hh
  by_cases hl : l0.length ≤ 8
  ·rw [if_pos hl] at hh
   obtain ⟨s, hs, hh⟩ := Option.bind_eq_some_iff.1 hh
   obtain ⟨rfl, rfl⟩ : r1 = s.least ∧ r2 = true := by simpa [eq_comm] using hh
   clear hh
   have HS := am hs
   clear hs
   go_enter Try.func14, Try.ntmps14
   go_wp2_with fail
   refine (key _ HR.out).mono ?_
   rintro e w1 ⟨rfl, hb1⟩
   have HB := am hb1
   clear hb1 key
   go_wp2_with fail
   refine (bp_call (fun p => impl_countTrips.f l0 p) 46 #[] eg A0 c0 l0 a1 w1 (Kd.C_below HR.out HB.out) HC.out hl (fun W p A c x hW hC hc _ hx => (impl_countTrips.calls A0 c0 l0 A c p x W (Kd.C_below HR.out (HB.out.trans (hW.mono HB.out.size))) HC.out hC hc hx).mono fun e w' h => ⟨h.1, h.2.below⟩) s HS.out).mono ?_
   rintro e w2 ⟨v, rfl, ho, hb2⟩
   obtain ⟨Ab, cb, rfl⟩ := Kd.R_slice ho
   have HO := am ho
   have HB2 := am hb2
   clear ho hb2
   go_wp2
   go_ret2
   exact ⟨rfl, HB.out.trans (HB2.out.mono HB.out.size)⟩
  ·rw [if_neg hl] at hh
   cases hh
def impl_LeastLength.f (k : Nat) (l0 : List (S45)) (a1 : Int) : Option (Int × Bool) := (impl_fitBag.f l0 a1).bind fun t => if t = true then (if l0.length ≤ 8 then (bpGo (fun p => impl_lengthOf.f k l0 p) l0 a1 l0.length [] [] ⟨0, 0, []⟩).bind fun s => some (s.least, true) else none) else some (0, false)
theorem impl_LeastLength.calls (k : Nat) (A0 : Option Addr) (c0 : Nat) (l0 : List (S45)) (a1 : Int) (r1 : Int) (r2 : Bool) (w : World) (hr0 : Kd.C k45 w A0 l0.length l0) (hc0 : l0.length ≤ c0) (h : impl_LeastLength.f k l0 a1 = some (r1, r2)) :
  Calls Try.prog 8 #[.slice A0 l0.length c0, .int .i64 a1] w fun e w' => e = .returned (.tuple #[.int .i64 r1, .bool r2]) ∧ Below w.heap.size w w' := by
 unfold impl_LeastLength.f at h
 obtain ⟨t, ht, hh⟩ := Option.bind_eq_some_iff.1 h
 clear h
 have HR := am hr0
 have HC := am hc0
 have eg := enters_of Try.func43 (by kernel_rfl) rfl
 clear hr0 hc0
 have key := fun W hW => impl_fitBag.calls A0 c0 l0 a1 t W hW HC.out ht
 clear ht
 cases t with
 | false =>
  rw [if_neg (by decide)] at hh
  obtain ⟨rfl, rfl⟩ : r1 = 0 ∧ r2 = false := by simpa [eq_comm] using hh
  clear hh
  go_enter Try.func8, Try.ntmps8
  go_wp2_with fail
  refine (key _ HR.out).mono ?_
  rintro e w1 ⟨rfl, hb1⟩
  go_wp2
  go_ret2
  exact ⟨rfl, hb1⟩
 | true =>
  rw [if_pos rfl] at hh
  by_cases hl : l0.length ≤ 8
  ·rw [if_pos hl] at hh
   obtain ⟨s, hs, hh⟩ := Option.bind_eq_some_iff.1 hh
   obtain ⟨rfl, rfl⟩ : r1 = s.least ∧ r2 = true := by simpa [eq_comm] using hh
   clear hh
   have HS := am hs
   clear hs
   go_enter Try.func8, Try.ntmps8
   go_wp2_with fail
   refine (key _ HR.out).mono ?_
   rintro e w1 ⟨rfl, hb1⟩
   have HB := am hb1
   clear hb1 key
   go_wp2_with fail
   refine (bp_call (fun p => impl_lengthOf.f k l0 p) 43 #[] eg A0 c0 l0 a1 w1 (Kd.C_below HR.out HB.out) HC.out hl (fun W p A c x hW hC hc _ hx => (impl_lengthOf.calls k A0 c0 l0 A c p x W (Kd.C_below HR.out (HB.out.trans (hW.mono HB.out.size))) HC.out hC hc hx).mono fun e w' h => ⟨h.1, h.2⟩) s HS.out).mono ?_
   rintro e w2 ⟨v, rfl, ho, hb2⟩
   obtain ⟨Ab, cb, rfl⟩ := Kd.R_slice ho
   have HO := am ho
   have HB2 := am hb2
   clear ho hb2
   go_wp2
   go_ret2
   exact ⟨rfl, HB.out.trans (HB2.out.mono HB.out.size)⟩
  ·rw [if_neg hl] at hh
   cases hh
structure Held (p : World → Prop) (W : World) : Prop where mk :: (out : p W)
class Stay (p : World → Prop) : Prop where step : ∀ {W W' : World}, p W → Below W.heap.size W W' → p W'
instance stay_C {α : Type} {d : Kd α} {A : Option Addr} {n : Nat} {xs : List α} : Stay (fun W => Kd.C d W A n xs) := ⟨fun h hb => Kd.C_below h hb⟩
instance stay_box {g : Nat} {o : Obj} : Stay (fun W => W.heap[g]? = some o) := ⟨fun h hb => blk_below h hb⟩
instance stay_cell {a : Addr} {v : Value} : Stay (fun W => W.cell? a = some v) := ⟨fun h hb => (hb.cell (World.block_lt_of_cell? _ _ h)).trans h⟩
instance stay_held {p : World → Prop} [hp : Stay p] : Stay (fun W => Held p W) := ⟨fun h hb => ⟨hp.step h.out hb⟩⟩
instance stay_old {w : World} : Stay (fun W => Below w.heap.size w W) := ⟨fun h hb => below_step h hb⟩
instance stay_and {p q : World → Prop} [hp : Stay p] [hq : Stay q] : Stay (fun W => p W ∧ q W) := ⟨fun h hb => ⟨hp.step h.1 hb, hq.step h.2 hb⟩⟩
theorem Held.below {p : World → Prop} {W W' : World} (h : Held p W) [hp : Stay p] (hb : Below W.heap.size W W') : Held p W' := ⟨hp.step h.out hb⟩
theorem Held.push {p q : World → Prop} {W : World} (h : Held p W) (hq : q W) : Held (fun W => q W ∧ p W) W := ⟨hq, h.out⟩
theorem Held.row {α : Type} {d : Kd α} {A : Option Addr} {n : Nat} {xs : List α} {p : World → Prop} {W : World} (h : Held p W) (hh : Kd.C d W A n xs) : Held (fun W => Kd.C d W A n xs ∧ p W) W := ⟨hh, h.out⟩
theorem wr64 {x : Int} (h0 : -9223372036854775808 ≤ x) (h1 : x ≤ 9223372036854775807) : wrap64 x = x := by unfold wrap64; omega
theorem built4 {P : Program} {ops : Array Oper} {rest : List Oper} {o : Oper} {a : Act} {Q : Exit → Act → World → Prop} {W : World} (hgd : o.guard = none) {t e : TypeId} {b : Nat} {p1 p2 p3 p4 : Operand} {v1 v2 v3 v4 : Value}
  (ho : o.op = .buildSlice t 4 #[(0, p1), (1, p2), (2, p3), (3, p4)]) (hu : P.underlying t = some (.slice e)) (hinfo : (P.info? e).map (fun i => (i.zero, i.size, i.bytes)) = some (some (.slice none 0 0), 1, b))
  (e1 : a.eval p1 = v1) (e2 : a.eval p2 = v2) (e3 : a.eval p3 = v3) (e4 : a.eval p4 = v4) (h1 : v1.cells = #[v1]) (h2 : v2.cells = #[v2]) (h3 : v3.cells = #[v3]) (h4 : v4.cells = #[v4])
  (h : wpList P ops Q rest (a.put o.dst (.slice (some ⟨W.heap.size, 0, none⟩) 4 4)) (W.alloc (.cells #[v1, v2, v3, v4] e))) : wpList P ops Q (o :: rest) a W := by
 obtain ⟨i, hi, hz⟩ := Option.map_eq_some_iff.1 hinfo
 simp only [Prod.mk.injEq] at hz
 obtain ⟨hz, hs, hb⟩ := hz
 refine wpList_buildSlice hgd t e 4 _ ho #[v1, v2, v3, v4] i _ hu hi hz (by rw [hs]; decide) (by rw [hs]; decide) ?_ h
 have hp : (Array.map (fun (x : Nat × Operand) => match x with | (i, x) => (i, a.eval x)) #[(0, p1), (1, p2), (2, p3), (3, p4)]).toList = (([v1, v2, v3, v4]).zipIdx 0).map fun x => (x.2, x.1) := by
  simp [e1, e2, e3, e4, List.zipIdx]
 rw [hp, hs]
 exact Great.fill_flat [v1, v2, v3, v4] _ (fun v hv => by
  simp only [List.mem_cons, List.not_mem_nil, or_false] at hv
  rcases hv with rfl | rfl | rfl | rfl <;> assumption) (by simp)
theorem rows4_event {P : Program} {ops : Array Oper} {rest : List Oper} {o : Oper} {a : Act} {Q : Exit → Act → World → Prop} {W : World} (hgd : o.guard = none) {p1 p2 p3 p4 : Operand} {A1 A2 A3 A4 : Option Addr} {c1 c2 c3 c4 : Nat} {x1 x2 x3 x4 : List Int} {b : Nat}
  (ho : o.op = .buildSlice 34 4 #[(0, p1), (1, p2), (2, p3), (3, p4)]) (hu : P.underlying 34 = some (.slice 27)) (hinfo : (P.info? 27).map (fun i => (i.zero, i.size, i.bytes)) = some (some (.slice none 0 0), 1, b))
  (e1 : a.eval p1 = .slice A1 x1.length c1) (e2 : a.eval p2 = .slice A2 x2.length c2) (e3 : a.eval p3 = .slice A3 x3.length c3) (e4 : a.eval p4 = .slice A4 x4.length c4)
  (h1 : Kd.C (Kd.int .i64) W A1 x1.length x1) (l1 : x1.length ≤ c1) (h2 : Kd.C (Kd.int .i64) W A2 x2.length x2) (l2 : x2.length ≤ c2) (h3 : Kd.C (Kd.int .i64) W A3 x3.length x3) (l3 : x3.length ≤ c3) (h4 : Kd.C (Kd.int .i64) W A4 x4.length x4) (l4 : x4.length ≤ c4)
  (h : ∀ (ad : Addr) w1, Below W.heap.size W w1 → Kd.C (Kd.slice 3 (Kd.int .i64)) w1 (some ad) 4 [x1, x2, x3, x4] → wpList P ops Q rest (a.put o.dst (.slice (some ad) 4 4)) w1) : wpList P ops Q (o :: rest) a W := by
 have hb : Below W.heap.size W (W.alloc (.cells #[.slice A1 x1.length c1, .slice A2 x2.length c2, .slice A3 x3.length c3, .slice A4 x4.length c4] 27)) := below_alloc (Below.refl _ _) _
 have hn := blk_new W (.cells #[.slice A1 x1.length c1, .slice A2 x2.length c2, .slice A3 x3.length c3, .slice A4 x4.length c4] 27 (0, 0))
 refine built4 hgd ho hu hinfo e1 e2 e3 e4 rfl rfl rfl rfl (h _ _ hb ⟨rfl, by omega, fun _ => ⟨_, rfl, fun j p hj => ?_⟩⟩)
 have key : ∀ (x : List Int) (A : Option Addr) (c : Nat), Kd.C (Kd.int .i64) W A x.length x → x.length ≤ c →
   (W.alloc (.cells #[.slice A1 x1.length c1, .slice A2 x2.length c2, .slice A3 x3.length c3, .slice A4 x4.length c4] 27)).cell? (Addr.add ⟨W.heap.size, 0, none⟩ (j * 1 + 0)) = some (.slice A x.length c) →
   ∃ cs : List Value, cs.length = (Kd.slice 3 (Kd.int .i64)).sz ∧ (Kd.slice 3 (Kd.int .i64)).K (W.alloc (.cells #[.slice A1 x1.length c1, .slice A2 x2.length c2, .slice A3 x3.length c3, .slice A4 x4.length c4] 27)) x cs ∧ ∀ i u, cs[i]? = some u → (W.alloc (.cells #[.slice A1 x1.length c1, .slice A2 x2.length c2, .slice A3 x3.length c3, .slice A4 x4.length c4] 27)).cell? (Addr.add ⟨W.heap.size, 0, none⟩ (j * (Kd.slice 3 (Kd.int .i64)).sz + i)) = some u := by
  intro x A c hx hc hcell
  refine ⟨[.slice A x.length c], rfl, ⟨A, c, rfl, hc, Kd.C_below hx hb⟩, fun i u hu => ?_⟩
  match i, hu with
  | 0, hu => obtain rfl := Option.some.inj hu; exact hcell
  | i + 1, hu => cases hu
 match j, hj with
 | 0, hj => obtain rfl := Option.some.inj hj; exact key _ _ _ h1 l1 (blk_cell hn 0)
 | 1, hj => obtain rfl := Option.some.inj hj; exact key _ _ _ h2 l2 (blk_cell hn 1)
 | 2, hj => obtain rfl := Option.some.inj hj; exact key _ _ _ h3 l3 (blk_cell hn 2)
 | 3, hj => obtain rfl := Option.some.inj hj; exact key _ _ _ h4 l4 (blk_cell hn 3)
 | j + 4, hj => cases hj
structure RunA (k : Nat) (l0 : List Int) (pl : List S45) (bag : Int) (ok : Bool) (xp xf xo xr : List Int) (least cnt few bnd : Int) (are : Bool) : Prop where
 draw : spec_DrawFirstShortestPlan.f k l0 = some (pl, bag)
 i1 : impl_FirstShortestPlan.f k pl bag = some (xp, ok)
 s1 : spec_FirstShortestPlan.f k pl bag = some (xp, ok)
 i2 : impl_LeastLength.f k pl bag = some (least, ok)
 s2 : spec_LeastLength.f k pl bag = some (least, ok)
 i3 : impl_CountShortestPlans.f k pl bag = some (cnt, ok)
 s3 : spec_CountShortestPlans.f k pl bag = some (cnt, ok)
 i4 : impl_FirstFewestPlan.f pl bag = some (xf, ok)
 s4 : spec_FirstFewestPlan.f k pl bag = some (xf, ok)
 i5 : impl_FewestTrips.f pl bag = some (few, ok)
 s5 : spec_FewestTrips.f k pl bag = some (few, ok)
 i6 : impl_PackInOrder.f k pl bag = some (xo, ok)
 s6 : spec_PackInOrder.f k pl bag = some (xo, ok)
 i7 : impl_PackFarthestFirst.f k pl bag = some (xr, ok)
 s7 : spec_PackFarthestFirst.f k pl bag = some (xr, ok)
 i8 : impl_TripsBound.f k pl bag = some (bnd, ok)
 s8 : spec_TripsBound.f k pl bag = some (bnd, ok)
 e1 : laws_aSame.f k xp xp = some true
 e2 : laws_aSame.f k xf xf = some true
 e3 : laws_aSame.f k xo xo = some true
 e4 : laws_aSame.f k xr xr = some true
 a1 : impl_AreParcels.f pl = some are
 a2 : spec_AreParcels.f k pl = some are
 imp : ok = true → are = true
structure Row (k : Nat) (pl : List S45) (bag : Int) (xp xf : List Int) (least few : Int) (i : Nat) (x : List Int) (len : Int) (T : List (List Int)) (tp tf : Bool) : Prop where
 is : impl_IsBagPlan.f k pl bag x = some (true, true)
 hlen : impl_LengthOfPlan.f k pl bag x = some (len, true)
 trips : impl_TripsOfPlan.f k pl bag x = some (T, true)
 le : least ≤ len
 hfew : few ≤ (T.length : Int)
 first : i = 0 → len = least
 second : i = 1 → (T.length : Int) = few
 fp : laws_aFirst.f k xp x = some tp
 ff : laws_aFirst.f k xf x = some tf
 ap : len = least → tp = true
 af : (T.length : Int) = few → tf = true
structure RunB (k : Nat) (pl : List S45) (bag : Int) (xp xf xo xr : List Int) (least cnt few bnd lb : Int) : Prop where
 bound : bnd ≤ few
 le : few ≤ (pl.length : Int)
 cnt : 1 ≤ cnt
 row : ∀ i : Nat, i < 4 → ∃ len T tp tf, Row k pl bag xp xf least few i (rd_L3 [xp, xf, xo, xr] (i : Int)) len T tp tf
 light : impl_LightestBag.f k pl few = some (lb, true)
 lle : lb ≤ bag
structure RunD (k : Nat) (l1 : List Int) (dl : List S45) (wt : Int) (p : List Int) (T : List (List Int)) (W : List Int) (len half : Int) (is good f : Bool) : Prop where
 draw : spec_DrawTripsOfPlan.f k l1 = some (dl, wt, p)
 i1 : impl_TripsOfPlan.f k dl wt p = some (T, f)
 s1 : spec_TripsOfPlan.f k dl wt p = some (T, f)
 i2 : impl_WeightsOfTrips.f k dl wt p = some (W, f)
 s2 : spec_WeightsOfTrips.f k dl wt p = some (W, f)
 i3 : impl_LengthOfPlan.f k dl wt p = some (len, f)
 s3 : spec_LengthOfPlan.f k dl wt p = some (len, f)
 i4 : impl_LengthWithoutBack.f k dl wt p = some (half, f)
 s4 : spec_LengthWithoutBack.f k dl wt p = some (half, f)
 i5 : impl_IsBagPlan.f k dl wt p = some (is, good)
 s5 : spec_IsBagPlan.f k dl wt p = some (is, good)
 e1 : laws_aRows.f k T T = some true
 e2 : laws_aSame.f k W W = some true
 fg : f = (good && is)
structure One (dl : List S45) (p : List Int) (j : Nat) (t : List Int) (nn mm : Nat → Int) (u : Nat) (x : Int) : Prop where
 is : rd t (u : Int) = x
 lo : 0 ≤ x
 hi : x < (dl.length : Int)
 hp : x < (p.length : Int)
 own : rd p x = (j : Int)
 nstep : nn (u + 1) = wrap64 (nn u + (rd_T45 dl x).f1)
 mstep : mm (u + 1) = if (rd_T45 dl x).f0 > mm u then (rd_T45 dl x).f0 else mm u
structure Trip (k : Nat) (dl : List S45) (wt : Int) (p W : List Int) (al su fa : Nat → Int) (j : Nat) (t : List Int) (nn mm : Nat → Int) : Prop where
 n0 : nn 0 = 0
 m0 : mm 0 = 0
 small : t.length ≤ 1000
 each : ∀ u, u < t.length → ∃ x, One dl p j t nn mm u x
 rises : laws_aRises.f k t = some true
 w : rd W (j : Int) = nn t.length
 le : nn t.length ≤ wt
 astep : al (j + 1) = wrap64 (al j + (t.length : Int))
 sstep : su (j + 1) = wrap64 (su j + wrap64 (2 * mm t.length))
 fstep : fa (j + 1) = if mm t.length > fa j then mm t.length else fa j
structure RunE (k : Nat) (dl : List S45) (wt : Int) (p : List Int) (T : List (List Int)) (W : List Int) (len half : Int) (al su fa : Nat → Int) : Prop where
 start : al 0 = 0 ∧ su 0 = 0 ∧ fa 0 = 0
 small : T.length ≤ 1000
 lenW : W.length = T.length
 each : ∀ j, j < T.length → ∃ nn mm, Trip k dl wt p W al su fa j (rd_L3 T (j : Int)) nn mm
 all : al T.length = (dl.length : Int)
 sum : su T.length = len
 hhalf : half = wrap64 (len - fa T.length)
def BpPure : Prop := ∀ (l0 l1 : List Int), l0.length ≤ maxLen → (∀ x ∈ l0, (Lit.int .u8 x).wf = true) → l1.length ≤ maxLen → (∀ x ∈ l1, (Lit.int .u8 x).wf = true) → laws_big.f l0 l1 = some true ∨ (laws_big.f l0 l1 = some false ∧ ∃ (k : Nat), ∃ (pl : List S45), ∃ (bag : Int), ∃ (ok : Bool), ∃ (xp xf xo xr : List Int), ∃ (least cnt few bnd : Int), ∃ (are : Bool), (RunA k l0 pl bag ok xp xf xo xr least cnt few bnd are) ∧ ∃ (lb : Int), (ok = true → RunB k pl bag xp xf xo xr least cnt few bnd lb) ∧ ∃ (dl : List S45), ∃ (wt : Int), ∃ (p : List Int), ∃ (T : List (List Int)), ∃ (W : List Int), ∃ (len half : Int), ∃ (is good f : Bool), (RunD k l1 dl wt p T W len half is good f) ∧ (f = true → ∃ al su fa, RunE k dl wt p T W len half al su fa))
def planned_1 : {Q : Prop // Aside0 Q → ∀ (A0 : Option Addr) (c0 : Nat) (l0 : List Int) (A1 : Option Addr) (c1 : Nat) (l1 : List Int) (w : World) (hr0 : Kd.C (Kd.int .u8) w A0 l0.length l0) (hc0 : l0.length ≤ c0) (hr1 : Kd.C (Kd.int .u8) w A1 l1.length l1) (hc1 : l1.length ≤ c1) (k : Nat) (pl : List S45) (bag : Int) (ok : Bool) (xp xf xo xr : List Int) (least cnt few bnd : Int) (are : Bool) (big : laws_big.f l0 l1 = some false) (ra : RunA k l0 pl bag ok xp xf xo xr least cnt few bnd are) (lb : Int) (rb : ok = true → RunB k pl bag xp xf xo xr least cnt few bnd lb) (dl : List S45) (wt : Int) (p : List Int) (T : List (List Int)) (W : List Int) (len half : Int) (is good f : Bool) (rd_ : RunD k l1 dl wt p T W len half is good f) (re : f = true → ∃ al su fa, RunE k dl wt p T W len half al su fa), Calls Try.prog 3 #[.slice A0 l0.length c0, .slice A1 l1.length c1] w fun e w' => e = .returned (.bool true) ∧ Below w.heap.size w w'} := ⟨_, fun q_ => by
 intro A0 c0 l0 A1 c1 l1 w hr0 hc0 hr1 hc1 k pl bag ok xp xf xo xr least cnt few bnd are big ra lb rb dl wt p T W len half is good f rd_ re
 have hu34 := Try.underlying34
 have hu24 := Try.underlying24
 have hu27 := Try.underlying27
 have HC0 := Aside0.mk hc0
 have HC1 := Aside0.mk hc1
 have HBIG := Aside0.mk big
 have HA := Aside0.mk ra
 have HL := Aside0.mk (((Held.mk (p := fun W => Below w.heap.size w W) (Below.refl _ w)).push (q := fun W => Kd.C (Kd.int .u8) W A0 l0.length l0) hr0).push (q := fun W => Kd.C (Kd.int .u8) W A1 l1.length l1) hr1)
 clear hr0 hc0 hr1 hc1 big ra
 have HRB := Aside0.mk rb
 have HD := Aside0.mk rd_
 have HRE := Aside0.mk re
 clear rb rd_ re
 go_enter Try.func3, Try.ntmps3
 go_wp2_with fail
 refine (laws_big.calls A0 c0 l0 A1 c1 l1 false _ HL.out.out.2.1 HC0.out HL.out.out.1 HC1.out HBIG.out).mono ?_
 rintro e w1 ⟨rfl, hd⟩
 have HL_ := Aside0.mk (HL.out.below hd.below)
 clear HL
 have HL := HL_
 clear HL_
 clear hd
 go_wp2_with fail
 refine (spec_DrawFirstShortestPlan.calls k A0 c0 l0 pl bag _ HL.out.out.2.1 HC0.out HA.out.draw).mono ?_
 rintro e w2 ⟨v, rfl, ho, hb⟩
 obtain ⟨Apl, cpl, rfl⟩ := Kd.R_slice ho
 have LEpl := Aside0.mk (Kd.R_reads' ho).2.1
 have HL_ := Aside0.mk ((HL.out.below hb).row (Kd.R_reads' ho).2.2)
 clear HL
 have HL := HL_
 clear HL_
 clear ho hb
 go_wp2_with fail
 refine (impl_FirstShortestPlan.calls k _ _ pl bag xp ok _ HL.out.out.1 LEpl.out HA.out.i1).mono ?_
 rintro e w3 ⟨v, rfl, ho, hb⟩
 obtain ⟨Axp, cxp, rfl⟩ := Kd.R_slice ho
 have LExp := Aside0.mk (Kd.R_reads' ho).2.1
 have HL_ := Aside0.mk ((HL.out.below hb).row (Kd.R_reads' ho).2.2)
 clear HL
 have HL := HL_
 clear HL_
 clear ho hb
 go_wp2_with fail
 refine (spec_FirstShortestPlan.calls k _ _ pl bag xp ok _ HL.out.out.2.1 LEpl.out HA.out.s1).mono ?_
 rintro e w4 ⟨v, rfl, ho, hb⟩
 obtain ⟨Ayp, cyp, rfl⟩ := Kd.R_slice ho
 have LEyp := Aside0.mk (Kd.R_reads' ho).2.1
 have HL_ := Aside0.mk ((HL.out.below hb).row (Kd.R_reads' ho).2.2)
 clear HL
 have HL := HL_
 clear HL_
 clear ho hb
 go_wp2_with fail
 refine (impl_LeastLength.calls k _ _ pl bag least ok _ HL.out.out.2.2.1 LEpl.out HA.out.i2).mono ?_
 rintro e w5 ⟨rfl, hb⟩
 have HL_ := Aside0.mk (HL.out.below hb)
 clear HL
 have HL := HL_
 clear HL_
 clear hb
 go_wp2_with fail
 refine (spec_LeastLength.calls k _ _ pl bag least ok _ HL.out.out.2.2.1 LEpl.out HA.out.s2).mono ?_
 rintro e w6 ⟨rfl, hb⟩
 have HL_ := Aside0.mk (HL.out.below hb)
 clear HL
 have HL := HL_
 clear HL_
 clear hb
 go_wp2_with fail
 refine (impl_CountShortestPlans.calls k _ _ pl bag cnt ok _ HL.out.out.2.2.1 LEpl.out HA.out.i3).mono ?_
 rintro e w7 ⟨rfl, hb⟩
 have HL_ := Aside0.mk (HL.out.below hb)
 clear HL
 have HL := HL_
 clear HL_
 clear hb
 go_wp2_with fail
 refine (spec_CountShortestPlans.calls k _ _ pl bag cnt ok _ HL.out.out.2.2.1 LEpl.out HA.out.s3).mono ?_
 rintro e w8 ⟨rfl, hb⟩
 have HL_ := Aside0.mk (HL.out.below hb)
 clear HL
 have HL := HL_
 clear HL_
 clear hb
 go_wp2_with fail
 refine (impl_FirstFewestPlan.calls _ _ pl bag xf ok _ HL.out.out.2.2.1 LEpl.out HA.out.i4).mono ?_
 rintro e w9 ⟨v, rfl, ho, hb⟩
 obtain ⟨Axf, cxf, rfl⟩ := Kd.R_slice ho
 have LExf := Aside0.mk (Kd.R_reads' ho).2.1
 have HL_ := Aside0.mk ((HL.out.below hb).row (Kd.R_reads' ho).2.2)
 clear HL
 have HL := HL_
 clear HL_
 clear ho hb
 go_wp2_with fail
 refine (spec_FirstFewestPlan.calls k _ _ pl bag xf ok _ HL.out.out.2.2.2.1 LEpl.out HA.out.s4).mono ?_
 rintro e w10 ⟨v, rfl, ho, hb⟩
 obtain ⟨Ayf, cyf, rfl⟩ := Kd.R_slice ho
 have LEyf := Aside0.mk (Kd.R_reads' ho).2.1
 have HL_ := Aside0.mk ((HL.out.below hb).row (Kd.R_reads' ho).2.2)
 clear HL
 have HL := HL_
 clear HL_
 clear ho hb
 rename_i u0_ u1_ u2_ u3_ u4_
 revert A0 c0 l0 A1 c1 l1 w k pl bag ok xp xf xo xr least cnt few bnd are lb dl wt p T W len half is good f hu34 hu24 hu27 HC0 HC1 HBIG HA HRB HD HRE u0_ w1 w2 Apl cpl LEpl w3 Axp cxp LExp w4 Ayp cyp LEyp w5 w6 w7 w8 w9 Axf cxf LExf u1_ u2_ u3_ u4_ w10 Ayf cyf LEyf HL
 exact q_.out⟩
def planned_2 : {Q : Prop // Aside0 Q → planned_1.1} := ⟨_, fun q_ => by
 intro A0 c0 l0 A1 c1 l1 w k pl bag ok xp xf xo xr least cnt few bnd are lb dl wt p T W len half is good f hu34 hu24 hu27 HC0 HC1 HBIG HA HRB HD HRE u0_ w1 w2 Apl cpl LEpl w3 Axp cxp LExp w4 Ayp cyp LEyp w5 w6 w7 w8 w9 Axf cxf LExf u1_ u2_ u3_ u4_ w10 Ayf cyf LEyf HL
 go_wp2_with fail
 refine (impl_FewestTrips.calls _ _ pl bag few ok _ HL.out.out.2.2.2.2.1 LEpl.out HA.out.i5).mono ?_
 rintro e w11 ⟨rfl, hb⟩
 have HL_ := Aside0.mk (HL.out.below hb)
 clear HL
 have HL := HL_
 clear HL_
 clear hb
 go_wp2_with fail
 refine (spec_FewestTrips.calls k _ _ pl bag few ok _ HL.out.out.2.2.2.2.1 LEpl.out HA.out.s5).mono ?_
 rintro e w12 ⟨rfl, hb⟩
 have HL_ := Aside0.mk (HL.out.below hb)
 clear HL
 have HL := HL_
 clear HL_
 clear hb
 go_wp2_with fail
 refine (impl_PackInOrder.calls k _ _ pl bag xo ok _ HL.out.out.2.2.2.2.1 LEpl.out HA.out.i6).mono ?_
 rintro e w13 ⟨v, rfl, ho, hb⟩
 obtain ⟨Axo, cxo, rfl⟩ := Kd.R_slice ho
 have LExo := Aside0.mk (Kd.R_reads' ho).2.1
 have HL_ := Aside0.mk ((HL.out.below hb).row (Kd.R_reads' ho).2.2)
 clear HL
 have HL := HL_
 clear HL_
 clear ho hb
 go_wp2_with fail
 refine (spec_PackInOrder.calls k _ _ pl bag xo ok _ HL.out.out.2.2.2.2.2.1 LEpl.out HA.out.s6).mono ?_
 rintro e w14 ⟨v, rfl, ho, hb⟩
 obtain ⟨Ayo, cyo, rfl⟩ := Kd.R_slice ho
 have LEyo := Aside0.mk (Kd.R_reads' ho).2.1
 have HL_ := Aside0.mk ((HL.out.below hb).row (Kd.R_reads' ho).2.2)
 clear HL
 have HL := HL_
 clear HL_
 clear ho hb
 go_wp2_with fail
 refine (impl_PackFarthestFirst.calls k _ _ pl bag xr ok _ HL.out.out.2.2.2.2.2.2.1 LEpl.out HA.out.i7).mono ?_
 rintro e w15 ⟨v, rfl, ho, hb⟩
 obtain ⟨Axr, cxr, rfl⟩ := Kd.R_slice ho
 have LExr := Aside0.mk (Kd.R_reads' ho).2.1
 have HL_ := Aside0.mk ((HL.out.below hb).row (Kd.R_reads' ho).2.2)
 clear HL
 have HL := HL_
 clear HL_
 clear ho hb
 go_wp2_with fail
 refine (spec_PackFarthestFirst.calls k _ _ pl bag xr ok _ HL.out.out.2.2.2.2.2.2.2.1 LEpl.out HA.out.s7).mono ?_
 rintro e w16 ⟨v, rfl, ho, hb⟩
 obtain ⟨Ayr, cyr, rfl⟩ := Kd.R_slice ho
 have LEyr := Aside0.mk (Kd.R_reads' ho).2.1
 have HL_ := Aside0.mk ((HL.out.below hb).row (Kd.R_reads' ho).2.2)
 clear HL
 have HL := HL_
 clear HL_
 clear ho hb
 go_wp2_with fail
 refine (impl_TripsBound.calls k _ _ pl bag bnd ok _ HL.out.out.2.2.2.2.2.2.2.2.1 LEpl.out HA.out.i8).mono ?_
 rintro e w17 ⟨rfl, hb⟩
 have HL_ := Aside0.mk (HL.out.below hb)
 clear HL
 have HL := HL_
 clear HL_
 clear hb
 go_wp2_with fail
 refine (spec_TripsBound.calls k _ _ pl bag bnd ok _ HL.out.out.2.2.2.2.2.2.2.2.1 LEpl.out HA.out.s8).mono ?_
 rintro e w18 ⟨rfl, hb⟩
 have HL_ := Aside0.mk (HL.out.below hb)
 clear HL
 have HL := HL_
 clear HL_
 clear hb
 rename_i u0_p1 u1_p1 u2_p1 u3_p1
 revert A0 c0 l0 A1 c1 l1 w k pl bag ok xp xf xo xr least cnt few bnd are lb dl wt p T W len half is good f hu34 hu24 hu27 HC0 HC1 HBIG HA HRB HD HRE u0_ w1 w2 Apl cpl LEpl w3 Axp cxp LExp w4 Ayp cyp LEyp w5 w6 w7 w8 w9 Axf cxf LExf w10 Ayf cyf LEyf w11 w12 w13 Axo cxo LExo w14 Ayo cyo LEyo w15 Axr cxr LExr w16 Ayr cyr LEyr w17 u0_p1 u1_p1 u2_p1 u3_p1 w18 HL
 exact q_.out⟩
def planned_3 : {Q : Prop // Aside0 Q → planned_2.1} := ⟨_, fun q_ => by
 intro A0 c0 l0 A1 c1 l1 w k pl bag ok xp xf xo xr least cnt few bnd are lb dl wt p T W len half is good f hu34 hu24 hu27 HC0 HC1 HBIG HA HRB HD HRE u0_ w1 w2 Apl cpl LEpl w3 Axp cxp LExp w4 Ayp cyp LEyp w5 w6 w7 w8 w9 Axf cxf LExf w10 Ayf cyf LEyf w11 w12 w13 Axo cxo LExo w14 Ayo cyo LEyo w15 Axr cxr LExr w16 Ayr cyr LEyr w17 u0_p1 u1_p1 u2_p1 u3_p1 w18 HL
 go_upto_region 20 with fail
 go_cut [316] from 185 to 316 (fun s316 wx => s316 = .bool false ∧ Aside0 (Held (fun W => Kd.C (Kd.int .i64) W Axr xr.length xr ∧ Kd.C (Kd.int .i64) W Axo xo.length xo ∧ Kd.C (Kd.int .i64) W Axf xf.length xf ∧ Kd.C (Kd.int .i64) W Axp xp.length xp ∧ Kd.C k45 W Apl pl.length pl ∧ Kd.C (Kd.int .u8) W A1 l1.length l1 ∧ Below w.heap.size w W) wx))
 case first =>
  have n0 : (ok != ok) = false := bne_self_eq_false _
  have n1 : (least != least) = false := bne_self_eq_false _
  have n2 : (cnt != cnt) = false := bne_self_eq_false _
  have n3 : (few != few) = false := bne_self_eq_false _
  have n4 : (bnd != bnd) = false := bne_self_eq_false _
  have n5 : (are != are) = false := bne_self_eq_false _
  have him := HA.out.imp
  go_wp2_with fail
  refine (laws_aSame.calls k _ _ xp _ _ xp true _ HL.out.out.2.2.2.2.2.2.2.1 LExp.out HL.out.out.2.2.2.2.2.2.1 LEyp.out HA.out.e1).mono ?_
  rintro e w19 ⟨rfl, hd⟩
  have HL_ := Aside0.mk (HL.out.below hd.below)
  clear HL
  have HL := HL_
  clear HL_
  clear hd
  go_wp2_with fail
  refine (laws_aSame.calls k _ _ xf _ _ xf true _ HL.out.out.2.2.2.2.2.1 LExf.out HL.out.out.2.2.2.2.1 LEyf.out HA.out.e2).mono ?_
  rintro e w20 ⟨rfl, hd⟩
  have HL_ := Aside0.mk (HL.out.below hd.below)
  clear HL
  have HL := HL_
  clear HL_
  clear hd
  go_wp2_with fail
  refine (laws_aSame.calls k _ _ xo _ _ xo true _ HL.out.out.2.2.2.1 LExo.out HL.out.out.2.2.1 LEyo.out HA.out.e3).mono ?_
  rintro e w21 ⟨rfl, hd⟩
  have HL_ := Aside0.mk (HL.out.below hd.below)
  clear HL
  have HL := HL_
  clear HL_
  clear hd
  go_wp2_with fail
  refine (laws_aSame.calls k _ _ xr _ _ xr true _ HL.out.out.2.1 LExr.out HL.out.out.1 LEyr.out HA.out.e4).mono ?_
  rintro e w22 ⟨rfl, hd⟩
  have HL_ := Aside0.mk (HL.out.below hd.below)
  clear HL
  have HL := HL_
  clear HL_
  clear hd
  cases ok
  ·
   go_wp2_with fail
   refine (impl_AreParcels.calls _ _ pl are _ HL.out.out.2.2.2.2.2.2.2.2.1 LEpl.out HA.out.a1).mono ?_
   rintro e w23 ⟨rfl, hb⟩
   have HL_ := Aside0.mk (HL.out.below hb)
   clear HL
   have HL := HL_
   clear HL_
   clear hb
   go_wp2_with fail
   refine (spec_AreParcels.calls k _ _ pl are _ HL.out.out.2.2.2.2.2.2.2.2.1 LEpl.out HA.out.a2).mono ?_
   rintro e w24 ⟨rfl, hb⟩
   have HL_ := Aside0.mk (HL.out.below hb)
   clear HL
   have HL := HL_
   clear HL_
   clear hb
   go_wp2_with fail
   go_meet
   exact ⟨rfl, ⟨⟨HL.out.out.2.1, HL.out.out.2.2.2.1, HL.out.out.2.2.2.2.2.1, HL.out.out.2.2.2.2.2.2.2.1, HL.out.out.2.2.2.2.2.2.2.2.1, HL.out.out.2.2.2.2.2.2.2.2.2.1, HL.out.out.2.2.2.2.2.2.2.2.2.2.2⟩⟩⟩
  ·
   obtain rfl := him rfl
   go_wp2_with fail
   refine (impl_AreParcels.calls _ _ pl true _ HL.out.out.2.2.2.2.2.2.2.2.1 LEpl.out HA.out.a1).mono ?_
   rintro e w25 ⟨rfl, hb⟩
   have HL_ := Aside0.mk (HL.out.below hb)
   clear HL
   have HL := HL_
   clear HL_
   clear hb
   go_wp2_with fail
   refine (impl_AreParcels.calls _ _ pl true _ HL.out.out.2.2.2.2.2.2.2.2.1 LEpl.out HA.out.a1).mono ?_
   rintro e w26 ⟨rfl, hb⟩
   have HL_ := Aside0.mk (HL.out.below hb)
   clear HL
   have HL := HL_
   clear HL_
   clear hb
   go_wp2_with fail
   refine (spec_AreParcels.calls k _ _ pl true _ HL.out.out.2.2.2.2.2.2.2.2.1 LEpl.out HA.out.a2).mono ?_
   rintro e w27 ⟨rfl, hb⟩
   have HL_ := Aside0.mk (HL.out.below hb)
   clear HL
   have HL := HL_
   clear HL_
   clear hb
   go_wp2_with fail
   go_meet
   exact ⟨rfl, ⟨⟨HL.out.out.2.1, HL.out.out.2.2.2.1, HL.out.out.2.2.2.2.2.1, HL.out.out.2.2.2.2.2.2.2.1, HL.out.out.2.2.2.2.2.2.2.2.1, HL.out.out.2.2.2.2.2.2.2.2.2.1, HL.out.out.2.2.2.2.2.2.2.2.2.2.2⟩⟩⟩
 obtain ⟨rfl, HL2⟩ := hcut
 clear HL
 have HL := HL2
 clear HL2
 rename_i u0_p2 u1_p2 u2_p2 u3_p2
 revert A0 c0 l0 A1 c1 l1 w k pl bag ok xp xf xo xr least cnt few bnd are lb dl wt p T W len half is good f hu34 hu24 hu27 HC0 HC1 HBIG HA HRB HD HRE u0_ w1 w2 Apl cpl LEpl w3 Axp cxp LExp w4 Ayp cyp LEyp w5 w6 w7 w8 w9 Axf cxf LExf w10 Ayf cyf LEyf w11 w12 w13 Axo cxo LExo w14 Ayo cyo LEyo w15 Axr cxr LExr w16 Ayr cyr LEyr w17 w18 u0_p2 u1_p2 u2_p2 u3_p2 wc u185 u186 u187 u188 u189 u190 u191 u192 u193 u194 u195 u196 u197 u198 u199 u200 u201 u202 u203 u204 u205 u206 u207 u208 u209 u210 u211 u212 u213 u214 u215 u216 u217 u218 u219 u220 u221 u222 u223 u224 u225 u226 u227 u228 u229 u230 u231 u232 u233 u234 u235 u236 u237 u238 u239 u240 u241 u242 u243 u244 u245 u246 u247 u248 u249 u250 u251 u252 u253 u254 u255 u256 u257 u258 u259 u260 u261 u262 u263 u264 u265 u266 u267 u268 u269 u270 u271 u272 u273 u274 u275 u276 u277 u278 u279 u280 u281 u282 u283 u284 u285 u286 u287 u288 u289 u290 u291 u292 u293 u294 u295 u296 u297 u298 u299 u300 u301 u302 u303 u304 u305 u306 u307 u308 u309 u310 u311 u312 u313 u314 u315 HL
 exact q_.out⟩
def planned_4 : {Q : Prop × Prop // Aside0 (Q.1) → Aside0 (Q.2) → planned_3.1} := ⟨(_, _), fun q0_ q1_ => by
 intro A0 c0 l0 A1 c1 l1 w k pl bag ok xp xf xo xr least cnt few bnd are lb dl wt p T W len half is good f hu34 hu24 hu27 HC0 HC1 HBIG HA HRB HD HRE u0_ w1 w2 Apl cpl LEpl w3 Axp cxp LExp w4 Ayp cyp LEyp w5 w6 w7 w8 w9 Axf cxf LExf w10 Ayf cyf LEyf w11 w12 w13 Axo cxo LExo w14 Ayo cyo LEyo w15 Axr cxr LExr w16 Ayr cyr LEyr w17 w18 u0_p2 u1_p2 u2_p2 u3_p2 wc u185 u186 u187 u188 u189 u190 u191 u192 u193 u194 u195 u196 u197 u198 u199 u200 u201 u202 u203 u204 u205 u206 u207 u208 u209 u210 u211 u212 u213 u214 u215 u216 u217 u218 u219 u220 u221 u222 u223 u224 u225 u226 u227 u228 u229 u230 u231 u232 u233 u234 u235 u236 u237 u238 u239 u240 u241 u242 u243 u244 u245 u246 u247 u248 u249 u250 u251 u252 u253 u254 u255 u256 u257 u258 u259 u260 u261 u262 u263 u264 u265 u266 u267 u268 u269 u270 u271 u272 u273 u274 u275 u276 u277 u278 u279 u280 u281 u282 u283 u284 u285 u286 u287 u288 u289 u290 u291 u292 u293 u294 u295 u296 u297 u298 u299 u300 u301 u302 u303 u304 u305 u306 u307 u308 u309 u310 u311 u312 u313 u314 u315 HL
 go_upto_if 317 with fail
 go_cut [39, 40, 41, 42, 43, 44, 45, 46, 47, 48] from 318 to 443 (fun s39 s40 s41 s42 s43 s44 s45 s46 s47 s48 wx => Aside0 (Held (fun W => Kd.C (Kd.int .u8) W A1 l1.length l1 ∧ Below w.heap.size w W) wx))
 case first =>
  cases ok
  ·go_wp2_with fail
   go_meet
   exact ⟨⟨HL.out.out.2.2.2.2.2.1, HL.out.out.2.2.2.2.2.2⟩⟩
  ·
   rename_i u0_p3h0 u1_p3h0 u2_p3h0 u3_p3h0 u4_p3h0 u5_p3h0
   revert A0 c0 l0 A1 c1 l1 w k pl bag xp xf xo xr least cnt few bnd are lb dl wt p T W len half is good f hu34 hu24 hu27 HC0 HC1 HBIG HD HRE u0_ w1 w2 Apl cpl LEpl w3 Axp cxp LExp w4 Ayp cyp LEyp w5 w6 w7 w8 w9 Axf cxf LExf w10 Ayf cyf LEyf w11 w12 w13 Axo cxo LExo w14 Ayo cyo LEyo w15 Axr cxr LExr w16 Ayr cyr LEyr w17 w18 wc u185 u186 u187 u188 u189 u190 u191 u192 u193 u194 u195 u196 u197 u198 u199 u200 u201 u202 u203 u204 u205 u206 u207 u208 u209 u210 u211 u212 u213 u214 u215 u216 u217 u218 u219 u220 u221 u222 u223 u224 u225 u226 u227 u228 u229 u230 u231 u232 u233 u234 u235 u236 u237 u238 u239 u240 u241 u242 u243 u244 u245 u246 u247 u248 u249 u250 u251 u252 u253 u254 u255 u256 u257 u258 u259 u260 u261 u262 u263 u264 u265 u266 u267 u268 u269 u270 u271 u272 u273 u274 u275 u276 u277 u278 u279 u280 u281 u282 u283 u284 u285 u286 u287 u288 u289 u290 u291 u292 u293 u294 u295 u296 u297 u298 u299 u300 u301 u302 u303 u304 u305 u306 u307 u308 u309 u310 u311 u312 u313 u314 u315 HL u0_p3h0 u1_p3h0 u2_p3h0 u3_p3h0 u4_p3h0 HA HRB u5_p3h0
   exact q0_.out
 clear HL
 have HL := hcut
 clear hcut
 rename_i u0_p3 u1_p3 u2_p3
 revert A0 c0 l0 A1 c1 l1 w k pl bag ok xp xf xo xr least cnt few bnd are lb dl wt p T W len half is good f hu34 hu24 hu27 HC0 HC1 HBIG HA HRB HD HRE u0_ w1 w2 Apl cpl LEpl w3 Axp cxp LExp w4 Ayp cyp LEyp w5 w6 w7 w8 w9 Axf cxf LExf w10 Ayf cyf LEyf w11 w12 w13 Axo cxo LExo w14 Ayo cyo LEyo w15 Axr cxr LExr w16 Ayr cyr LEyr w17 w18 u0_p3 u185 u186 u187 u188 u189 u190 u191 u192 u193 u194 u195 u196 u197 u198 u199 u200 u201 u202 u203 u204 u205 u206 u207 u208 u209 u210 u211 u212 u213 u214 u215 u216 u217 u218 u219 u220 u221 u222 u223 u224 u225 u226 u227 u228 u229 u230 u231 u232 u233 u234 u235 u236 u237 u238 u239 u240 u241 u242 u243 u244 u245 u246 u247 u248 u249 u250 u251 u252 u253 u254 u255 u256 u257 u258 u259 u260 u261 u262 u263 u264 u265 u266 u267 u268 u269 u270 u271 u272 u273 u274 u275 u276 u277 u278 u279 u280 u281 u282 u283 u284 u285 u286 u287 u288 u289 u290 u291 u292 u293 u294 u295 u296 u297 u298 u299 u300 u301 u302 u303 u304 u305 u306 u307 u308 u309 u310 u311 u312 u313 u314 u315 u1_p3 u2_p3 wc u4 u39 u40 u41 u42 u43 u44 u45 u46 u47 u48 u318 u319 u320 u321 u322 u323 u324 u325 u326 u327 u328 u329 u330 u331 u332 u333 u334 u335 u336 u337 u338 u339 u340 u341 u342 u343 u344 u345 u346 u347 u348 u349 u350 u351 u352 u353 u354 u355 u356 u357 u358 u359 u360 u361 u362 u363 u364 u365 u366 u367 u368 u369 u370 u371 u372 u373 u374 u375 u376 u377 u378 u379 u380 u381 u382 u383 u384 u385 u386 u387 u388 u389 u390 u391 u392 u393 u394 u395 u396 u397 u398 u399 u400 u401 u402 u403 u404 u405 u406 u407 u408 u409 u410 u411 u412 u413 u414 u415 u416 u417 u418 u419 u420 u421 u422 u423 u424 u425 u426 u427 u428 u429 u430 u431 u432 u433 u434 u435 u436 u437 u438 u439 u440 u441 u442 u443 HL
 exact q1_.out⟩
def planned_4a : {Q : Prop × Prop // Aside0 (Q.1) → Aside0 (Q.2) → planned_4.1.1} := ⟨(_, _), fun q0_ q1_ => by
 intro A0 c0 l0 A1 c1 l1 w k pl bag xp xf xo xr least cnt few bnd are lb dl wt p T W len half is good f hu34 hu24 hu27 HC0 HC1 HBIG HD HRE u0_ w1 w2 Apl cpl LEpl w3 Axp cxp LExp w4 Ayp cyp LEyp w5 w6 w7 w8 w9 Axf cxf LExf w10 Ayf cyf LEyf w11 w12 w13 Axo cxo LExo w14 Ayo cyo LEyo w15 Axr cxr LExr w16 Ayr cyr LEyr w17 w18 wc u185 u186 u187 u188 u189 u190 u191 u192 u193 u194 u195 u196 u197 u198 u199 u200 u201 u202 u203 u204 u205 u206 u207 u208 u209 u210 u211 u212 u213 u214 u215 u216 u217 u218 u219 u220 u221 u222 u223 u224 u225 u226 u227 u228 u229 u230 u231 u232 u233 u234 u235 u236 u237 u238 u239 u240 u241 u242 u243 u244 u245 u246 u247 u248 u249 u250 u251 u252 u253 u254 u255 u256 u257 u258 u259 u260 u261 u262 u263 u264 u265 u266 u267 u268 u269 u270 u271 u272 u273 u274 u275 u276 u277 u278 u279 u280 u281 u282 u283 u284 u285 u286 u287 u288 u289 u290 u291 u292 u293 u294 u295 u296 u297 u298 u299 u300 u301 u302 u303 u304 u305 u306 u307 u308 u309 u310 u311 u312 u313 u314 u315 HL u0_p3h0 u1_p3h0 u2_p3h0 u3_p3h0 u4_p3h0 HA HRB u5_p3h0
 have rb := HRB.out rfl
 have HB1 := Aside0.mk rb
 clear rb
 have d1 : decide (few < bnd) = false := decide_eq_false (by have := HB1.out.bound; omega)
 have d2 : decide (few > (pl.length : Int)) = false := decide_eq_false (by have := HB1.out.le; omega)
 have d3 : decide (cnt < 1) = false := decide_eq_false (by have := HB1.out.cnt; omega)
 go_wp2_with (first
  | ((with_reducible refine gate_dst (N := 335) rfl ?_); refine rows4_event rfl (x1 := xp) (x2 := xf) (x3 := xo) (x4 := xr) rfl hu34 info27 rfl rfl rfl rfl HL.out.out.2.2.2.1 LExp.out HL.out.out.2.2.1 LExf.out HL.out.out.2.1 LExo.out HL.out.out.1 LExr.out ?_; intro gR w28 hb hrr; have HL_ := Aside0.mk ((HL.out.below hb).row hrr); clear HL; have HL := HL_; clear HL_ hb hrr)
  | fail)
 clear d1 d2 d3
 go_loopg [39, 40, 41, 42, 43, 44, 45, 46, 337] 4 (fun gg s39 s40 s41 s42 s43 s44 s45 s46 s337 wr => ∃ i : Nat, s337 = .int .i64 (i : Int) ∧ i + gg = 4 ∧ Aside0 (Held (fun W => Kd.C (Kd.slice 3 (Kd.int .i64)) W (some gR) 4 [xp, xf, xo, xr] ∧ Kd.C (Kd.int .i64) W Axf xf.length xf ∧ Kd.C (Kd.int .i64) W Axp xp.length xp ∧ Kd.C k45 W Apl pl.length pl ∧ Kd.C (Kd.int .u8) W A1 l1.length l1 ∧ Below w.heap.size w W) wr))
 case atStart => exact ⟨0, rfl, by omega, ⟨⟨HL.out.out.1, HL.out.out.2.2.2.1, HL.out.out.2.2.2.2.1, HL.out.out.2.2.2.2.2.1, HL.out.out.2.2.2.2.2.2.1, HL.out.out.2.2.2.2.2.2.2⟩⟩⟩
 case round =>
  obtain ⟨i, rfl, hg, HL2⟩ := hrel
  clear HL
  have HL := HL2
  clear HL2
  by_cases hlt : i < 4
  ·
   rename_i u0_h4ah0 u1_h4ah0 u2_h4ah0 u3_h4ah0 u4_h4ah0 u5_h4ah0
   revert A0 c0 l0 A1 c1 l1 w k pl bag xp xf xo xr least cnt few bnd are lb dl wt p T W len half is good f hu34 hu24 hu27 HC0 HC1 HBIG HD HRE u0_ w1 w2 Apl cpl LEpl w3 Axp cxp LExp w4 Ayp cyp LEyp w5 w6 w7 w8 w9 Axf cxf LExf w10 Ayf cyf LEyf w11 w12 w13 Axo cxo LExo w14 Ayo cyo LEyo w15 Axr cxr LExr w16 Ayr cyr LEyr w17 w18 wc u185 u186 u187 u188 u189 u190 u191 u192 u193 u194 u195 u196 u197 u198 u199 u200 u201 u202 u203 u204 u205 u206 u207 u208 u209 u210 u211 u212 u213 u214 u215 u216 u217 u218 u219 u220 u221 u222 u223 u224 u225 u226 u227 u228 u229 u230 u231 u232 u233 u234 u235 u236 u237 u238 u239 u240 u241 u242 u243 u244 u245 u246 u247 u248 u249 u250 u251 u252 u253 u254 u255 u256 u257 u258 u259 u260 u261 u262 u263 u264 u265 u266 u267 u268 u269 u270 u271 u272 u273 u274 u275 u276 u277 u278 u279 u280 u281 u282 u283 u284 u285 u286 u287 u288 u289 u290 u291 u292 u293 u294 u295 u296 u297 u298 u299 u300 u301 u302 u303 u304 u305 u306 u307 u308 u309 u310 u311 u312 u313 u314 u315 u0_p3h0 u1_p3h0 u2_p3h0 u3_p3h0 u4_p3h0 HA u5_p3h0 HB1 u0_h4ah0 u1_h4ah0 gR w28 HRB gk wr u4 u39 u40 u41 u42 u43 u44 u45 u46 u338 u339 u340 u341 u342 u343 u344 u345 u346 u347 u348 u349 u350 u351 u352 u353 u354 u355 u356 u357 u358 u359 u360 u361 u362 u363 u364 u365 u366 u367 u368 u369 u370 u371 u372 u373 u374 u375 u376 u377 u378 u379 u380 u381 u382 u383 u384 u385 u386 u387 u388 u389 u390 u391 u392 u393 u394 u395 u396 u397 u398 u399 u400 u401 u402 u403 u404 u405 u406 u407 u408 u409 u410 u411 u412 u413 u414 u415 u416 u417 u418 u419 u420 u421 u422 u423 u424 u425 u426 u427 u428 u429 u430 u2_h4ah0 u3_h4ah0 u4_h4ah0 u5_h4ah0 i hg HL hlt
   exact q0_.out
  ·have q2 : decide ((i : Int) < 4) = false := decide_eq_false (by omega)
   have q1 : ((i : Int) < 4) = False := eq_false (by omega)
   have q0 : (i < 4) = False := eq_false hlt
   rename_i u0_h4ah1 u1_h4ah1 u2_h4ah1 u3_h4ah1 u4_h4ah1 u5_h4ah1
   revert A0 c0 l0 A1 c1 l1 w k pl bag xp xf xo xr least cnt few bnd are lb dl wt p T W len half is good f hu34 hu24 hu27 HC0 HC1 HBIG HD HRE u0_ w1 w2 Apl cpl LEpl w3 Axp cxp LExp w4 Ayp cyp LEyp w5 w6 w7 w8 w9 Axf cxf LExf w10 Ayf cyf LEyf w11 w12 w13 Axo cxo LExo w14 Ayo cyo LEyo w15 Axr cxr LExr w16 Ayr cyr LEyr w17 w18 wc u185 u186 u187 u188 u189 u190 u191 u192 u193 u194 u195 u196 u197 u198 u199 u200 u201 u202 u203 u204 u205 u206 u207 u208 u209 u210 u211 u212 u213 u214 u215 u216 u217 u218 u219 u220 u221 u222 u223 u224 u225 u226 u227 u228 u229 u230 u231 u232 u233 u234 u235 u236 u237 u238 u239 u240 u241 u242 u243 u244 u245 u246 u247 u248 u249 u250 u251 u252 u253 u254 u255 u256 u257 u258 u259 u260 u261 u262 u263 u264 u265 u266 u267 u268 u269 u270 u271 u272 u273 u274 u275 u276 u277 u278 u279 u280 u281 u282 u283 u284 u285 u286 u287 u288 u289 u290 u291 u292 u293 u294 u295 u296 u297 u298 u299 u300 u301 u302 u303 u304 u305 u306 u307 u308 u309 u310 u311 u312 u313 u314 u315 u0_p3h0 u1_p3h0 u2_p3h0 u3_p3h0 u4_p3h0 HA u5_p3h0 HB1 u0_h4ah1 u1_h4ah1 gR w28 HRB gk wr u4 u39 u40 u41 u42 u43 u44 u45 u46 u338 u339 u340 u341 u342 u343 u344 u345 u346 u347 u348 u349 u350 u351 u352 u353 u354 u355 u356 u357 u358 u359 u360 u361 u362 u363 u364 u365 u366 u367 u368 u369 u370 u371 u372 u373 u374 u375 u376 u377 u378 u379 u380 u381 u382 u383 u384 u385 u386 u387 u388 u389 u390 u391 u392 u393 u394 u395 u396 u397 u398 u399 u400 u401 u402 u403 u404 u405 u406 u407 u408 u409 u410 u411 u412 u413 u414 u415 u416 u417 u418 u419 u420 u421 u422 u423 u424 u425 u426 u427 u428 u429 u430 u2_h4ah1 u3_h4ah1 u4_h4ah1 u5_h4ah1 i hg HL hlt q2 q1 q0
   exact q1_.out
⟩
def planned_4aa : {Q : Prop × Prop × Prop // Aside0 (Q.1) → Aside0 (Q.2.1) → Aside0 (Q.2.2) → planned_4a.1.1} := ⟨(_, _, _), fun q0_ q1_ q2_ => by
 intro A0 c0 l0 A1 c1 l1 w k pl bag xp xf xo xr least cnt few bnd are lb dl wt p T W len half is good f hu34 hu24 hu27 HC0 HC1 HBIG HD HRE u0_ w1 w2 Apl cpl LEpl w3 Axp cxp LExp w4 Ayp cyp LEyp w5 w6 w7 w8 w9 Axf cxf LExf w10 Ayf cyf LEyf w11 w12 w13 Axo cxo LExo w14 Ayo cyo LEyo w15 Axr cxr LExr w16 Ayr cyr LEyr w17 w18 wc u185 u186 u187 u188 u189 u190 u191 u192 u193 u194 u195 u196 u197 u198 u199 u200 u201 u202 u203 u204 u205 u206 u207 u208 u209 u210 u211 u212 u213 u214 u215 u216 u217 u218 u219 u220 u221 u222 u223 u224 u225 u226 u227 u228 u229 u230 u231 u232 u233 u234 u235 u236 u237 u238 u239 u240 u241 u242 u243 u244 u245 u246 u247 u248 u249 u250 u251 u252 u253 u254 u255 u256 u257 u258 u259 u260 u261 u262 u263 u264 u265 u266 u267 u268 u269 u270 u271 u272 u273 u274 u275 u276 u277 u278 u279 u280 u281 u282 u283 u284 u285 u286 u287 u288 u289 u290 u291 u292 u293 u294 u295 u296 u297 u298 u299 u300 u301 u302 u303 u304 u305 u306 u307 u308 u309 u310 u311 u312 u313 u314 u315 u0_p3h0 u1_p3h0 u2_p3h0 u3_p3h0 u4_p3h0 HA u5_p3h0 HB1 u0_h4ah0 u1_h4ah0 gR w28 HRB gk wr u4 u39 u40 u41 u42 u43 u44 u45 u46 u338 u339 u340 u341 u342 u343 u344 u345 u346 u347 u348 u349 u350 u351 u352 u353 u354 u355 u356 u357 u358 u359 u360 u361 u362 u363 u364 u365 u366 u367 u368 u369 u370 u371 u372 u373 u374 u375 u376 u377 u378 u379 u380 u381 u382 u383 u384 u385 u386 u387 u388 u389 u390 u391 u392 u393 u394 u395 u396 u397 u398 u399 u400 u401 u402 u403 u404 u405 u406 u407 u408 u409 u410 u411 u412 u413 u414 u415 u416 u417 u418 u419 u420 u421 u422 u423 u424 u425 u426 u427 u428 u429 u430 u2_h4ah0 u3_h4ah0 u4_h4ah0 u5_h4ah0 i hg HL hlt
 obtain ⟨ad1, Ax, cx, e1, hx1, lex, hrx⟩ := at_L3 HL.out.out.1 (i : Int) (by omega) (by omega)
 cases e1
 obtain ⟨len, T, tp, tf, hrow⟩ := HB1.out.row i hlt
 have LEx := Aside0.mk lex
 have HX := Aside0.mk hrow
 clear lex hrow
 generalize rd_L3 [xp, xf, xo, xr] (i : Int) = x at hx1 hrx LEx HX
 simp only [Int.toNat_natCast] at hx1
 have HL_ := Aside0.mk (HL.out.row hrx)
 clear HL
 have HL := HL_
 clear HL_
 clear hrx
 have a0 : (0 ≤ (i : Int)) = True := eq_true (by omega)
 have a1 : ((i : Int) < 4) = True := eq_true (by omega)
 have a2 : decide ((i : Int) < 4) = true := decide_eq_true (by omega)
 have a3 : (i < 4) = True := eq_true hlt
 go_wp2_with fail
 refine (impl_IsBagPlan.calls k _ _ pl bag _ _ x true true _ HL.out.out.2.2.2.2.1 LEpl.out HL.out.out.1 LEx.out HX.out.is).mono ?_
 rintro e w29 ⟨rfl, hb⟩
 have HL_ := Aside0.mk (HL.out.below hb)
 clear HL
 have HL := HL_
 clear HL_
 clear hb
 clear hx1
 go_wp2_with fail
 refine (impl_LengthOfPlan.calls k _ _ pl bag _ _ x len true _ HL.out.out.2.2.2.2.1 LEpl.out HL.out.out.1 LEx.out HX.out.hlen).mono ?_
 rintro e w30 ⟨rfl, hb⟩
 have HL_ := Aside0.mk (HL.out.below hb)
 clear HL
 have HL := HL_
 clear HL_
 clear hb
 go_wp2_with fail
 refine (impl_TripsOfPlan.calls k _ _ pl bag _ _ x T true _ HL.out.out.2.2.2.2.1 LEpl.out HL.out.out.1 LEx.out HX.out.trips).mono ?_
 rintro e w31 ⟨v, rfl, ho, hb⟩
 obtain ⟨AT, cT, rfl⟩ := Kd.S_slice ho
 have LET := Aside0.mk (Kd.S_reads' ho).2.1
 have HL_ := Aside0.mk ((HL.out.below hb).row (Kd.S_reads' ho).2.2)
 clear HL
 have HL := HL_
 clear HL_
 clear ho hb
 have b0 : decide (len < least) = false := decide_eq_false (by have := HX.out.le; omega)
 have b1 : decide ((T.length : Int) < few) = false := decide_eq_false (by have := HX.out.hfew; omega)
 by_cases hi0 : (i : Int) = 0
 ·
  rename_i u0_h4aah0 u1_h4aah0 u2_h4aah0 u3_h4aah0 u4_h4aah0 u5_h4aah0 u6_h4aah0 u7_h4aah0
  revert A0 c0 l0 A1 c1 l1 w k pl bag xp xf xo xr least cnt few bnd are lb dl wt p u0_h4aah0 W u1_h4aah0 half is good f hu34 hu24 hu27 HC0 HC1 HBIG HD HRE u0_ w1 w2 Apl cpl LEpl w3 Axp cxp LExp w4 Ayp cyp LEyp w5 w6 w7 w8 w9 Axf cxf LExf w10 Ayf cyf LEyf w11 w12 w13 Axo cxo LExo w14 Ayo cyo LEyo w15 Axr cxr LExr w16 Ayr cyr LEyr w17 w18 wc u185 u186 u187 u188 u189 u190 u191 u192 u193 u194 u195 u196 u197 u198 u199 u200 u201 u202 u203 u204 u205 u206 u207 u208 u209 u210 u211 u212 u213 u214 u215 u216 u217 u218 u219 u220 u221 u222 u223 u224 u225 u226 u227 u228 u229 u230 u231 u232 u233 u234 u235 u236 u237 u238 u239 u240 u241 u242 u243 u244 u245 u246 u247 u248 u249 u250 u251 u252 u253 u254 u255 u256 u257 u258 u259 u260 u261 u262 u263 u264 u265 u266 u267 u268 u269 u270 u271 u272 u273 u274 u275 u276 u277 u278 u279 u280 u281 u282 u283 u284 u285 u286 u287 u288 u289 u290 u291 u292 u293 u294 u295 u296 u297 u298 u299 u300 u301 u302 u303 u304 u305 u306 u307 u308 u309 u310 u311 u312 u313 u314 u315 u0_p3h0 u1_p3h0 u2_p3h0 u3_p3h0 u4_p3h0 HA u5_p3h0 HB1 u0_h4ah0 u1_h4ah0 gR w28 HRB gk wr u4 u39 u40 u41 u42 u43 u44 u45 u46 u338 u339 u340 u341 u342 u343 u344 u345 u346 u347 u348 u349 u350 u351 u352 u353 u354 u355 u356 u357 u358 u359 u360 u361 u362 u363 u364 u365 u366 u367 u368 u369 u370 u371 u372 u373 u374 u375 u376 u377 u378 u379 u380 u381 u382 u383 u384 u385 u386 u387 u388 u389 u390 u391 u392 u393 u394 u395 u396 u397 u398 u399 u400 u401 u402 u403 u404 u405 u406 u407 u408 u409 u410 u411 u412 u413 u414 u415 u416 u417 u418 u419 u420 u421 u422 u423 u424 u425 u426 u427 u428 u429 u430 u2_h4ah0 u3_h4ah0 u4_h4ah0 u5_h4ah0 i hg hlt Ax cx len T tp tf x LEx HX a0 a1 a2 a3 u2_h4aah0 u3_h4aah0 w29 w30 u4_h4aah0 u5_h4aah0 u6_h4aah0 u7_h4aah0 w31 AT cT LET HL b0 b1 hi0
  exact q0_.out
 by_cases hi1 : (i : Int) = 1
 ·
  rename_i u0_h4aah1 u1_h4aah1 u2_h4aah1 u3_h4aah1 u4_h4aah1 u5_h4aah1 u6_h4aah1 u7_h4aah1
  revert A0 c0 l0 A1 c1 l1 w k pl bag xp xf xo xr least cnt few bnd are lb dl wt p u0_h4aah1 W u1_h4aah1 half is good f hu34 hu24 hu27 HC0 HC1 HBIG HD HRE u0_ w1 w2 Apl cpl LEpl w3 Axp cxp LExp w4 Ayp cyp LEyp w5 w6 w7 w8 w9 Axf cxf LExf w10 Ayf cyf LEyf w11 w12 w13 Axo cxo LExo w14 Ayo cyo LEyo w15 Axr cxr LExr w16 Ayr cyr LEyr w17 w18 wc u185 u186 u187 u188 u189 u190 u191 u192 u193 u194 u195 u196 u197 u198 u199 u200 u201 u202 u203 u204 u205 u206 u207 u208 u209 u210 u211 u212 u213 u214 u215 u216 u217 u218 u219 u220 u221 u222 u223 u224 u225 u226 u227 u228 u229 u230 u231 u232 u233 u234 u235 u236 u237 u238 u239 u240 u241 u242 u243 u244 u245 u246 u247 u248 u249 u250 u251 u252 u253 u254 u255 u256 u257 u258 u259 u260 u261 u262 u263 u264 u265 u266 u267 u268 u269 u270 u271 u272 u273 u274 u275 u276 u277 u278 u279 u280 u281 u282 u283 u284 u285 u286 u287 u288 u289 u290 u291 u292 u293 u294 u295 u296 u297 u298 u299 u300 u301 u302 u303 u304 u305 u306 u307 u308 u309 u310 u311 u312 u313 u314 u315 u0_p3h0 u1_p3h0 u2_p3h0 u3_p3h0 u4_p3h0 HA u5_p3h0 HB1 u0_h4ah0 u1_h4ah0 gR w28 HRB gk wr u4 u39 u40 u41 u42 u43 u44 u45 u46 u338 u339 u340 u341 u342 u343 u344 u345 u346 u347 u348 u349 u350 u351 u352 u353 u354 u355 u356 u357 u358 u359 u360 u361 u362 u363 u364 u365 u366 u367 u368 u369 u370 u371 u372 u373 u374 u375 u376 u377 u378 u379 u380 u381 u382 u383 u384 u385 u386 u387 u388 u389 u390 u391 u392 u393 u394 u395 u396 u397 u398 u399 u400 u401 u402 u403 u404 u405 u406 u407 u408 u409 u410 u411 u412 u413 u414 u415 u416 u417 u418 u419 u420 u421 u422 u423 u424 u425 u426 u427 u428 u429 u430 u2_h4ah0 u3_h4ah0 u4_h4ah0 u5_h4ah0 i hg hlt Ax cx len T tp tf x LEx HX a0 a1 a2 a3 u2_h4aah1 u3_h4aah1 w29 w30 u4_h4aah1 u5_h4aah1 u6_h4aah1 u7_h4aah1 w31 AT cT LET HL b0 b1 hi0 hi1
  exact q1_.out
 ·
  rename_i u0_h4aah2 u1_h4aah2 u2_h4aah2 u3_h4aah2 u4_h4aah2 u5_h4aah2 u6_h4aah2 u7_h4aah2
  revert A0 c0 l0 A1 c1 l1 w k pl bag xp xf xo xr least cnt few bnd are lb dl wt p u0_h4aah2 W u1_h4aah2 half is good f hu34 hu24 hu27 HC0 HC1 HBIG HD HRE u0_ w1 w2 Apl cpl LEpl w3 Axp cxp LExp w4 Ayp cyp LEyp w5 w6 w7 w8 w9 Axf cxf LExf w10 Ayf cyf LEyf w11 w12 w13 Axo cxo LExo w14 Ayo cyo LEyo w15 Axr cxr LExr w16 Ayr cyr LEyr w17 w18 wc u185 u186 u187 u188 u189 u190 u191 u192 u193 u194 u195 u196 u197 u198 u199 u200 u201 u202 u203 u204 u205 u206 u207 u208 u209 u210 u211 u212 u213 u214 u215 u216 u217 u218 u219 u220 u221 u222 u223 u224 u225 u226 u227 u228 u229 u230 u231 u232 u233 u234 u235 u236 u237 u238 u239 u240 u241 u242 u243 u244 u245 u246 u247 u248 u249 u250 u251 u252 u253 u254 u255 u256 u257 u258 u259 u260 u261 u262 u263 u264 u265 u266 u267 u268 u269 u270 u271 u272 u273 u274 u275 u276 u277 u278 u279 u280 u281 u282 u283 u284 u285 u286 u287 u288 u289 u290 u291 u292 u293 u294 u295 u296 u297 u298 u299 u300 u301 u302 u303 u304 u305 u306 u307 u308 u309 u310 u311 u312 u313 u314 u315 u0_p3h0 u1_p3h0 u2_p3h0 u3_p3h0 u4_p3h0 HA u5_p3h0 HB1 u0_h4ah0 u1_h4ah0 gR w28 HRB gk wr u4 u39 u40 u41 u42 u43 u44 u45 u46 u338 u339 u340 u341 u342 u343 u344 u345 u346 u347 u348 u349 u350 u351 u352 u353 u354 u355 u356 u357 u358 u359 u360 u361 u362 u363 u364 u365 u366 u367 u368 u369 u370 u371 u372 u373 u374 u375 u376 u377 u378 u379 u380 u381 u382 u383 u384 u385 u386 u387 u388 u389 u390 u391 u392 u393 u394 u395 u396 u397 u398 u399 u400 u401 u402 u403 u404 u405 u406 u407 u408 u409 u410 u411 u412 u413 u414 u415 u416 u417 u418 u419 u420 u421 u422 u423 u424 u425 u426 u427 u428 u429 u430 u2_h4ah0 u3_h4ah0 u4_h4ah0 u5_h4ah0 i hg hlt Ax cx len T tp tf x LEx HX a0 a1 a2 a3 u2_h4aah2 u3_h4aah2 w29 w30 u4_h4aah2 u5_h4aah2 u6_h4aah2 u7_h4aah2 w31 AT cT LET HL b0 b1 hi0 hi1
  exact q2_.out
⟩
theorem planned_4aaa : planned_4aa.1.1 := by
 intro A0 c0 l0 A1 c1 l1 w k pl bag xp xf xo xr least cnt few bnd are lb dl wt p u0_h4aah0 W u1_h4aah0 half is good f hu34 hu24 hu27 HC0 HC1 HBIG HD HRE u0_ w1 w2 Apl cpl LEpl w3 Axp cxp LExp w4 Ayp cyp LEyp w5 w6 w7 w8 w9 Axf cxf LExf w10 Ayf cyf LEyf w11 w12 w13 Axo cxo LExo w14 Ayo cyo LEyo w15 Axr cxr LExr w16 Ayr cyr LEyr w17 w18 wc u185 u186 u187 u188 u189 u190 u191 u192 u193 u194 u195 u196 u197 u198 u199 u200 u201 u202 u203 u204 u205 u206 u207 u208 u209 u210 u211 u212 u213 u214 u215 u216 u217 u218 u219 u220 u221 u222 u223 u224 u225 u226 u227 u228 u229 u230 u231 u232 u233 u234 u235 u236 u237 u238 u239 u240 u241 u242 u243 u244 u245 u246 u247 u248 u249 u250 u251 u252 u253 u254 u255 u256 u257 u258 u259 u260 u261 u262 u263 u264 u265 u266 u267 u268 u269 u270 u271 u272 u273 u274 u275 u276 u277 u278 u279 u280 u281 u282 u283 u284 u285 u286 u287 u288 u289 u290 u291 u292 u293 u294 u295 u296 u297 u298 u299 u300 u301 u302 u303 u304 u305 u306 u307 u308 u309 u310 u311 u312 u313 u314 u315 u0_p3h0 u1_p3h0 u2_p3h0 u3_p3h0 u4_p3h0 HA u5_p3h0 HB1 u0_h4ah0 u1_h4ah0 gR w28 HRB gk wr u4 u39 u40 u41 u42 u43 u44 u45 u46 u338 u339 u340 u341 u342 u343 u344 u345 u346 u347 u348 u349 u350 u351 u352 u353 u354 u355 u356 u357 u358 u359 u360 u361 u362 u363 u364 u365 u366 u367 u368 u369 u370 u371 u372 u373 u374 u375 u376 u377 u378 u379 u380 u381 u382 u383 u384 u385 u386 u387 u388 u389 u390 u391 u392 u393 u394 u395 u396 u397 u398 u399 u400 u401 u402 u403 u404 u405 u406 u407 u408 u409 u410 u411 u412 u413 u414 u415 u416 u417 u418 u419 u420 u421 u422 u423 u424 u425 u426 u427 u428 u429 u430 u2_h4ah0 u3_h4ah0 u4_h4ah0 u5_h4ah0 i hg hlt Ax cx len T tp tf x LEx HX a0 a1 a2 a3 u2_h4aah0 u3_h4aah0 w29 w30 u4_h4aah0 u5_h4aah0 u6_h4aah0 u7_h4aah0 w31 AT cT LET HL b0 b1 hi0
 have hi1 : ¬ (i : Int) = 1 := by omega
 have hle := HX.out.first (by omega)
 obtain rfl : tp = true := HX.out.ap hle
 have ni0 : ((i : Int) == 0) = true := beq_iff_eq.mpr hi0
 have mi0 : ((i : Int) = 0) = True := eq_true hi0
 have ki0 : decide ((i : Int) = 0) = true := decide_eq_true hi0
 have ni1 : ((i : Int) == 1) = false := beq_eq_false_iff_ne.mpr hi1
 have mi1 : ((i : Int) = 1) = False := eq_false hi1
 have ki1 : decide ((i : Int) = 1) = false := decide_eq_false hi1
 have ql : (len != least) = false := by rw [hle]; exact bne_self_eq_false _
 have HI0 := Aside0.mk hi0
 have HI1 := Aside0.mk hi1
 clear hi0 hi1 hle
 cases tf
 ·
  have hnt : ¬ (T.length : Int) = few := fun h => by cases HX.out.af h
  have ntt : ((T.length : Int) == few) = false := beq_eq_false_iff_ne.mpr hnt
  have mtt : ((T.length : Int) = few) = False := eq_false hnt
  have ktt : decide ((T.length : Int) = few) = false := decide_eq_false hnt
  clear hnt
  go_wp2_with fail
  refine (laws_aFirst.calls k _ _ xp _ _ x true _ HL.out.out.2.2.2.2.1 LExp.out HL.out.out.2.1 LEx.out HX.out.fp).mono ?_
  rintro e w32 ⟨rfl, hd⟩
  have HL_ := Aside0.mk (HL.out.below hd.below)
  clear HL
  have HL := HL_
  clear HL_
  clear hd
  go_wp2_with fail
  refine (laws_aFirst.calls k _ _ xf _ _ x false _ HL.out.out.2.2.2.1 LExf.out HL.out.out.2.1 LEx.out HX.out.ff).mono ?_
  rintro e w33 ⟨rfl, hd⟩
  have HL_ := Aside0.mk (HL.out.below hd.below)
  clear HL
  have HL := HL_
  clear HL_
  clear hd
  go_wp2_with fail
  go_roundg (4 - (i + 1))
  case measure => omega
  case rel => exact ⟨i + 1, by first | rfl | (rw [wr64 (by omega) (by omega)]; rfl), by omega, ⟨⟨HL.out.out.2.2.1, HL.out.out.2.2.2.1, HL.out.out.2.2.2.2.1, HL.out.out.2.2.2.2.2.1, HL.out.out.2.2.2.2.2.2.1, HL.out.out.2.2.2.2.2.2.2⟩⟩⟩
 ·
  go_wp2_with fail
  refine (laws_aFirst.calls k _ _ xp _ _ x true _ HL.out.out.2.2.2.2.1 LExp.out HL.out.out.2.1 LEx.out HX.out.fp).mono ?_
  rintro e w34 ⟨rfl, hd⟩
  have HL_ := Aside0.mk (HL.out.below hd.below)
  clear HL
  have HL := HL_
  clear HL_
  clear hd
  go_wp2_with fail
  refine (laws_aFirst.calls k _ _ xf _ _ x true _ HL.out.out.2.2.2.1 LExf.out HL.out.out.2.1 LEx.out HX.out.ff).mono ?_
  rintro e w35 ⟨rfl, hd⟩
  have HL_ := Aside0.mk (HL.out.below hd.below)
  clear HL
  have HL := HL_
  clear HL_
  clear hd
  go_wp2_with fail
  go_roundg (4 - (i + 1))
  case measure => omega
  case rel => exact ⟨i + 1, by first | rfl | (rw [wr64 (by omega) (by omega)]; rfl), by omega, ⟨⟨HL.out.out.2.2.1, HL.out.out.2.2.2.1, HL.out.out.2.2.2.2.1, HL.out.out.2.2.2.2.2.1, HL.out.out.2.2.2.2.2.2.1, HL.out.out.2.2.2.2.2.2.2⟩⟩⟩
theorem planned_4aab : planned_4aa.1.2.1 := by
 intro A0 c0 l0 A1 c1 l1 w k pl bag xp xf xo xr least cnt few bnd are lb dl wt p u0_h4aah1 W u1_h4aah1 half is good f hu34 hu24 hu27 HC0 HC1 HBIG HD HRE u0_ w1 w2 Apl cpl LEpl w3 Axp cxp LExp w4 Ayp cyp LEyp w5 w6 w7 w8 w9 Axf cxf LExf w10 Ayf cyf LEyf w11 w12 w13 Axo cxo LExo w14 Ayo cyo LEyo w15 Axr cxr LExr w16 Ayr cyr LEyr w17 w18 wc u185 u186 u187 u188 u189 u190 u191 u192 u193 u194 u195 u196 u197 u198 u199 u200 u201 u202 u203 u204 u205 u206 u207 u208 u209 u210 u211 u212 u213 u214 u215 u216 u217 u218 u219 u220 u221 u222 u223 u224 u225 u226 u227 u228 u229 u230 u231 u232 u233 u234 u235 u236 u237 u238 u239 u240 u241 u242 u243 u244 u245 u246 u247 u248 u249 u250 u251 u252 u253 u254 u255 u256 u257 u258 u259 u260 u261 u262 u263 u264 u265 u266 u267 u268 u269 u270 u271 u272 u273 u274 u275 u276 u277 u278 u279 u280 u281 u282 u283 u284 u285 u286 u287 u288 u289 u290 u291 u292 u293 u294 u295 u296 u297 u298 u299 u300 u301 u302 u303 u304 u305 u306 u307 u308 u309 u310 u311 u312 u313 u314 u315 u0_p3h0 u1_p3h0 u2_p3h0 u3_p3h0 u4_p3h0 HA u5_p3h0 HB1 u0_h4ah0 u1_h4ah0 gR w28 HRB gk wr u4 u39 u40 u41 u42 u43 u44 u45 u46 u338 u339 u340 u341 u342 u343 u344 u345 u346 u347 u348 u349 u350 u351 u352 u353 u354 u355 u356 u357 u358 u359 u360 u361 u362 u363 u364 u365 u366 u367 u368 u369 u370 u371 u372 u373 u374 u375 u376 u377 u378 u379 u380 u381 u382 u383 u384 u385 u386 u387 u388 u389 u390 u391 u392 u393 u394 u395 u396 u397 u398 u399 u400 u401 u402 u403 u404 u405 u406 u407 u408 u409 u410 u411 u412 u413 u414 u415 u416 u417 u418 u419 u420 u421 u422 u423 u424 u425 u426 u427 u428 u429 u430 u2_h4ah0 u3_h4ah0 u4_h4ah0 u5_h4ah0 i hg hlt Ax cx len T tp tf x LEx HX a0 a1 a2 a3 u2_h4aah1 u3_h4aah1 w29 w30 u4_h4aah1 u5_h4aah1 u6_h4aah1 u7_h4aah1 w31 AT cT LET HL b0 b1 hi0 hi1
 have hle := HX.out.second (by omega)
 obtain rfl : tf = true := HX.out.af hle
 have ni0 : ((i : Int) == 0) = false := beq_eq_false_iff_ne.mpr hi0
 have mi0 : ((i : Int) = 0) = False := eq_false hi0
 have ki0 : decide ((i : Int) = 0) = false := decide_eq_false hi0
 have ni1 : ((i : Int) == 1) = true := beq_iff_eq.mpr hi1
 have mi1 : ((i : Int) = 1) = True := eq_true hi1
 have ki1 : decide ((i : Int) = 1) = true := decide_eq_true hi1
 have qt : ((T.length : Int) != few) = false := by rw [hle]; exact bne_self_eq_false _
 have HI0 := Aside0.mk hi0
 have HI1 := Aside0.mk hi1
 clear hi0 hi1 hle
 cases tp
 ·
  have hnl : ¬ len = least := fun h => by cases HX.out.ap h
  have nll : (len == least) = false := beq_eq_false_iff_ne.mpr hnl
  have mll : (len = least) = False := eq_false hnl
  have kll : decide (len = least) = false := decide_eq_false hnl
  clear hnl
  go_wp2_with fail
  refine (laws_aFirst.calls k _ _ xp _ _ x false _ HL.out.out.2.2.2.2.1 LExp.out HL.out.out.2.1 LEx.out HX.out.fp).mono ?_
  rintro e w36 ⟨rfl, hd⟩
  have HL_ := Aside0.mk (HL.out.below hd.below)
  clear HL
  have HL := HL_
  clear HL_
  clear hd
  go_wp2_with fail
  refine (laws_aFirst.calls k _ _ xf _ _ x true _ HL.out.out.2.2.2.1 LExf.out HL.out.out.2.1 LEx.out HX.out.ff).mono ?_
  rintro e w37 ⟨rfl, hd⟩
  have HL_ := Aside0.mk (HL.out.below hd.below)
  clear HL
  have HL := HL_
  clear HL_
  clear hd
  go_wp2_with fail
  go_roundg (4 - (i + 1))
  case measure => omega
  case rel => exact ⟨i + 1, by first | rfl | (rw [wr64 (by omega) (by omega)]; rfl), by omega, ⟨⟨HL.out.out.2.2.1, HL.out.out.2.2.2.1, HL.out.out.2.2.2.2.1, HL.out.out.2.2.2.2.2.1, HL.out.out.2.2.2.2.2.2.1, HL.out.out.2.2.2.2.2.2.2⟩⟩⟩
 ·
  go_wp2_with fail
  refine (laws_aFirst.calls k _ _ xp _ _ x true _ HL.out.out.2.2.2.2.1 LExp.out HL.out.out.2.1 LEx.out HX.out.fp).mono ?_
  rintro e w38 ⟨rfl, hd⟩
  have HL_ := Aside0.mk (HL.out.below hd.below)
  clear HL
  have HL := HL_
  clear HL_
  clear hd
  go_wp2_with fail
  refine (laws_aFirst.calls k _ _ xf _ _ x true _ HL.out.out.2.2.2.1 LExf.out HL.out.out.2.1 LEx.out HX.out.ff).mono ?_
  rintro e w39 ⟨rfl, hd⟩
  have HL_ := Aside0.mk (HL.out.below hd.below)
  clear HL
  have HL := HL_
  clear HL_
  clear hd
  go_wp2_with fail
  go_roundg (4 - (i + 1))
  case measure => omega
  case rel => exact ⟨i + 1, by first | rfl | (rw [wr64 (by omega) (by omega)]; rfl), by omega, ⟨⟨HL.out.out.2.2.1, HL.out.out.2.2.2.1, HL.out.out.2.2.2.2.1, HL.out.out.2.2.2.2.2.1, HL.out.out.2.2.2.2.2.2.1, HL.out.out.2.2.2.2.2.2.2⟩⟩⟩
theorem planned_4aac : planned_4aa.1.2.2 := by
 intro A0 c0 l0 A1 c1 l1 w k pl bag xp xf xo xr least cnt few bnd are lb dl wt p u0_h4aah2 W u1_h4aah2 half is good f hu34 hu24 hu27 HC0 HC1 HBIG HD HRE u0_ w1 w2 Apl cpl LEpl w3 Axp cxp LExp w4 Ayp cyp LEyp w5 w6 w7 w8 w9 Axf cxf LExf w10 Ayf cyf LEyf w11 w12 w13 Axo cxo LExo w14 Ayo cyo LEyo w15 Axr cxr LExr w16 Ayr cyr LEyr w17 w18 wc u185 u186 u187 u188 u189 u190 u191 u192 u193 u194 u195 u196 u197 u198 u199 u200 u201 u202 u203 u204 u205 u206 u207 u208 u209 u210 u211 u212 u213 u214 u215 u216 u217 u218 u219 u220 u221 u222 u223 u224 u225 u226 u227 u228 u229 u230 u231 u232 u233 u234 u235 u236 u237 u238 u239 u240 u241 u242 u243 u244 u245 u246 u247 u248 u249 u250 u251 u252 u253 u254 u255 u256 u257 u258 u259 u260 u261 u262 u263 u264 u265 u266 u267 u268 u269 u270 u271 u272 u273 u274 u275 u276 u277 u278 u279 u280 u281 u282 u283 u284 u285 u286 u287 u288 u289 u290 u291 u292 u293 u294 u295 u296 u297 u298 u299 u300 u301 u302 u303 u304 u305 u306 u307 u308 u309 u310 u311 u312 u313 u314 u315 u0_p3h0 u1_p3h0 u2_p3h0 u3_p3h0 u4_p3h0 HA u5_p3h0 HB1 u0_h4ah0 u1_h4ah0 gR w28 HRB gk wr u4 u39 u40 u41 u42 u43 u44 u45 u46 u338 u339 u340 u341 u342 u343 u344 u345 u346 u347 u348 u349 u350 u351 u352 u353 u354 u355 u356 u357 u358 u359 u360 u361 u362 u363 u364 u365 u366 u367 u368 u369 u370 u371 u372 u373 u374 u375 u376 u377 u378 u379 u380 u381 u382 u383 u384 u385 u386 u387 u388 u389 u390 u391 u392 u393 u394 u395 u396 u397 u398 u399 u400 u401 u402 u403 u404 u405 u406 u407 u408 u409 u410 u411 u412 u413 u414 u415 u416 u417 u418 u419 u420 u421 u422 u423 u424 u425 u426 u427 u428 u429 u430 u2_h4ah0 u3_h4ah0 u4_h4ah0 u5_h4ah0 i hg hlt Ax cx len T tp tf x LEx HX a0 a1 a2 a3 u2_h4aah2 u3_h4aah2 w29 w30 u4_h4aah2 u5_h4aah2 u6_h4aah2 u7_h4aah2 w31 AT cT LET HL b0 b1 hi0 hi1
 have ni0 : ((i : Int) == 0) = false := beq_eq_false_iff_ne.mpr hi0
 have mi0 : ((i : Int) = 0) = False := eq_false hi0
 have ki0 : decide ((i : Int) = 0) = false := decide_eq_false hi0
 have ni1 : ((i : Int) == 1) = false := beq_eq_false_iff_ne.mpr hi1
 have mi1 : ((i : Int) = 1) = False := eq_false hi1
 have ki1 : decide ((i : Int) = 1) = false := decide_eq_false hi1
 have HI0 := Aside0.mk hi0
 have HI1 := Aside0.mk hi1
 clear hi0 hi1
 cases tp
 ·
  cases tf
  ·
   have hnl : ¬ len = least := fun h => by cases HX.out.ap h
   have nll : (len == least) = false := beq_eq_false_iff_ne.mpr hnl
   have mll : (len = least) = False := eq_false hnl
   have kll : decide (len = least) = false := decide_eq_false hnl
   clear hnl
   have hnt : ¬ (T.length : Int) = few := fun h => by cases HX.out.af h
   have ntt : ((T.length : Int) == few) = false := beq_eq_false_iff_ne.mpr hnt
   have mtt : ((T.length : Int) = few) = False := eq_false hnt
   have ktt : decide ((T.length : Int) = few) = false := decide_eq_false hnt
   clear hnt
   go_wp2_with fail
   refine (laws_aFirst.calls k _ _ xp _ _ x false _ HL.out.out.2.2.2.2.1 LExp.out HL.out.out.2.1 LEx.out HX.out.fp).mono ?_
   rintro e w40 ⟨rfl, hd⟩
   have HL_ := Aside0.mk (HL.out.below hd.below)
   clear HL
   have HL := HL_
   clear HL_
   clear hd
   go_wp2_with fail
   refine (laws_aFirst.calls k _ _ xf _ _ x false _ HL.out.out.2.2.2.1 LExf.out HL.out.out.2.1 LEx.out HX.out.ff).mono ?_
   rintro e w41 ⟨rfl, hd⟩
   have HL_ := Aside0.mk (HL.out.below hd.below)
   clear HL
   have HL := HL_
   clear HL_
   clear hd
   go_wp2_with fail
   go_roundg (4 - (i + 1))
   case measure => omega
   case rel => exact ⟨i + 1, by first | rfl | (rw [wr64 (by omega) (by omega)]; rfl), by omega, ⟨⟨HL.out.out.2.2.1, HL.out.out.2.2.2.1, HL.out.out.2.2.2.2.1, HL.out.out.2.2.2.2.2.1, HL.out.out.2.2.2.2.2.2.1, HL.out.out.2.2.2.2.2.2.2⟩⟩⟩
  ·
   have hnl : ¬ len = least := fun h => by cases HX.out.ap h
   have nll : (len == least) = false := beq_eq_false_iff_ne.mpr hnl
   have mll : (len = least) = False := eq_false hnl
   have kll : decide (len = least) = false := decide_eq_false hnl
   clear hnl
   go_wp2_with fail
   refine (laws_aFirst.calls k _ _ xp _ _ x false _ HL.out.out.2.2.2.2.1 LExp.out HL.out.out.2.1 LEx.out HX.out.fp).mono ?_
   rintro e w42 ⟨rfl, hd⟩
   have HL_ := Aside0.mk (HL.out.below hd.below)
   clear HL
   have HL := HL_
   clear HL_
   clear hd
   go_wp2_with fail
   refine (laws_aFirst.calls k _ _ xf _ _ x true _ HL.out.out.2.2.2.1 LExf.out HL.out.out.2.1 LEx.out HX.out.ff).mono ?_
   rintro e w43 ⟨rfl, hd⟩
   have HL_ := Aside0.mk (HL.out.below hd.below)
   clear HL
   have HL := HL_
   clear HL_
   clear hd
   go_wp2_with fail
   go_roundg (4 - (i + 1))
   case measure => omega
   case rel => exact ⟨i + 1, by first | rfl | (rw [wr64 (by omega) (by omega)]; rfl), by omega, ⟨⟨HL.out.out.2.2.1, HL.out.out.2.2.2.1, HL.out.out.2.2.2.2.1, HL.out.out.2.2.2.2.2.1, HL.out.out.2.2.2.2.2.2.1, HL.out.out.2.2.2.2.2.2.2⟩⟩⟩
 ·
  cases tf
  ·
   have hnt : ¬ (T.length : Int) = few := fun h => by cases HX.out.af h
   have ntt : ((T.length : Int) == few) = false := beq_eq_false_iff_ne.mpr hnt
   have mtt : ((T.length : Int) = few) = False := eq_false hnt
   have ktt : decide ((T.length : Int) = few) = false := decide_eq_false hnt
   clear hnt
   go_wp2_with fail
   refine (laws_aFirst.calls k _ _ xp _ _ x true _ HL.out.out.2.2.2.2.1 LExp.out HL.out.out.2.1 LEx.out HX.out.fp).mono ?_
   rintro e w44 ⟨rfl, hd⟩
   have HL_ := Aside0.mk (HL.out.below hd.below)
   clear HL
   have HL := HL_
   clear HL_
   clear hd
   go_wp2_with fail
   refine (laws_aFirst.calls k _ _ xf _ _ x false _ HL.out.out.2.2.2.1 LExf.out HL.out.out.2.1 LEx.out HX.out.ff).mono ?_
   rintro e w45 ⟨rfl, hd⟩
   have HL_ := Aside0.mk (HL.out.below hd.below)
   clear HL
   have HL := HL_
   clear HL_
   clear hd
   go_wp2_with fail
   go_roundg (4 - (i + 1))
   case measure => omega
   case rel => exact ⟨i + 1, by first | rfl | (rw [wr64 (by omega) (by omega)]; rfl), by omega, ⟨⟨HL.out.out.2.2.1, HL.out.out.2.2.2.1, HL.out.out.2.2.2.2.1, HL.out.out.2.2.2.2.2.1, HL.out.out.2.2.2.2.2.2.1, HL.out.out.2.2.2.2.2.2.2⟩⟩⟩
  ·
   go_wp2_with fail
   refine (laws_aFirst.calls k _ _ xp _ _ x true _ HL.out.out.2.2.2.2.1 LExp.out HL.out.out.2.1 LEx.out HX.out.fp).mono ?_
   rintro e w46 ⟨rfl, hd⟩
   have HL_ := Aside0.mk (HL.out.below hd.below)
   clear HL
   have HL := HL_
   clear HL_
   clear hd
   go_wp2_with fail
   refine (laws_aFirst.calls k _ _ xf _ _ x true _ HL.out.out.2.2.2.1 LExf.out HL.out.out.2.1 LEx.out HX.out.ff).mono ?_
   rintro e w47 ⟨rfl, hd⟩
   have HL_ := Aside0.mk (HL.out.below hd.below)
   clear HL
   have HL := HL_
   clear HL_
   clear hd
   go_wp2_with fail
   go_roundg (4 - (i + 1))
   case measure => omega
   case rel => exact ⟨i + 1, by first | rfl | (rw [wr64 (by omega) (by omega)]; rfl), by omega, ⟨⟨HL.out.out.2.2.1, HL.out.out.2.2.2.1, HL.out.out.2.2.2.2.1, HL.out.out.2.2.2.2.2.1, HL.out.out.2.2.2.2.2.2.1, HL.out.out.2.2.2.2.2.2.2⟩⟩⟩
theorem planned_4ab : planned_4a.1.2 := by
 intro A0 c0 l0 A1 c1 l1 w k pl bag xp xf xo xr least cnt few bnd are lb dl wt p T W len half is good f hu34 hu24 hu27 HC0 HC1 HBIG HD HRE u0_ w1 w2 Apl cpl LEpl w3 Axp cxp LExp w4 Ayp cyp LEyp w5 w6 w7 w8 w9 Axf cxf LExf w10 Ayf cyf LEyf w11 w12 w13 Axo cxo LExo w14 Ayo cyo LEyo w15 Axr cxr LExr w16 Ayr cyr LEyr w17 w18 wc u185 u186 u187 u188 u189 u190 u191 u192 u193 u194 u195 u196 u197 u198 u199 u200 u201 u202 u203 u204 u205 u206 u207 u208 u209 u210 u211 u212 u213 u214 u215 u216 u217 u218 u219 u220 u221 u222 u223 u224 u225 u226 u227 u228 u229 u230 u231 u232 u233 u234 u235 u236 u237 u238 u239 u240 u241 u242 u243 u244 u245 u246 u247 u248 u249 u250 u251 u252 u253 u254 u255 u256 u257 u258 u259 u260 u261 u262 u263 u264 u265 u266 u267 u268 u269 u270 u271 u272 u273 u274 u275 u276 u277 u278 u279 u280 u281 u282 u283 u284 u285 u286 u287 u288 u289 u290 u291 u292 u293 u294 u295 u296 u297 u298 u299 u300 u301 u302 u303 u304 u305 u306 u307 u308 u309 u310 u311 u312 u313 u314 u315 u0_p3h0 u1_p3h0 u2_p3h0 u3_p3h0 u4_p3h0 HA u5_p3h0 HB1 u0_h4ah1 u1_h4ah1 gR w28 HRB gk wr u4 u39 u40 u41 u42 u43 u44 u45 u46 u338 u339 u340 u341 u342 u343 u344 u345 u346 u347 u348 u349 u350 u351 u352 u353 u354 u355 u356 u357 u358 u359 u360 u361 u362 u363 u364 u365 u366 u367 u368 u369 u370 u371 u372 u373 u374 u375 u376 u377 u378 u379 u380 u381 u382 u383 u384 u385 u386 u387 u388 u389 u390 u391 u392 u393 u394 u395 u396 u397 u398 u399 u400 u401 u402 u403 u404 u405 u406 u407 u408 u409 u410 u411 u412 u413 u414 u415 u416 u417 u418 u419 u420 u421 u422 u423 u424 u425 u426 u427 u428 u429 u430 u2_h4ah1 u3_h4ah1 u4_h4ah1 u5_h4ah1 i hg HL hlt q2 q1 q0
 go_wp2_with fail
 refine (impl_LightestBag.calls k _ _ pl few lb true _ HL.out.out.2.2.2.1 LEpl.out HB1.out.light).mono ?_
 rintro e w48 ⟨rfl, hb⟩
 have HL_ := Aside0.mk (HL.out.below hb)
 clear HL
 have HL := HL_
 clear HL_
 clear hb
 have d1 : decide (lb > bag) = false := decide_eq_false (by have := HB1.out.lle; omega)
 go_wp2_with fail
 go_meet
 exact ⟨⟨HL.out.out.2.2.2.2.1, HL.out.out.2.2.2.2.2⟩⟩
def planned_5 : {Q : Prop // Aside0 Q → planned_4.1.2} := ⟨_, fun q_ => by
 intro A0 c0 l0 A1 c1 l1 w k pl bag ok xp xf xo xr least cnt few bnd are lb dl wt p T W len half is good f hu34 hu24 hu27 HC0 HC1 HBIG HA HRB HD HRE u0_ w1 w2 Apl cpl LEpl w3 Axp cxp LExp w4 Ayp cyp LEyp w5 w6 w7 w8 w9 Axf cxf LExf w10 Ayf cyf LEyf w11 w12 w13 Axo cxo LExo w14 Ayo cyo LEyo w15 Axr cxr LExr w16 Ayr cyr LEyr w17 w18 u0_p3 u185 u186 u187 u188 u189 u190 u191 u192 u193 u194 u195 u196 u197 u198 u199 u200 u201 u202 u203 u204 u205 u206 u207 u208 u209 u210 u211 u212 u213 u214 u215 u216 u217 u218 u219 u220 u221 u222 u223 u224 u225 u226 u227 u228 u229 u230 u231 u232 u233 u234 u235 u236 u237 u238 u239 u240 u241 u242 u243 u244 u245 u246 u247 u248 u249 u250 u251 u252 u253 u254 u255 u256 u257 u258 u259 u260 u261 u262 u263 u264 u265 u266 u267 u268 u269 u270 u271 u272 u273 u274 u275 u276 u277 u278 u279 u280 u281 u282 u283 u284 u285 u286 u287 u288 u289 u290 u291 u292 u293 u294 u295 u296 u297 u298 u299 u300 u301 u302 u303 u304 u305 u306 u307 u308 u309 u310 u311 u312 u313 u314 u315 u1_p3 u2_p3 wc u4 u39 u40 u41 u42 u43 u44 u45 u46 u47 u48 u318 u319 u320 u321 u322 u323 u324 u325 u326 u327 u328 u329 u330 u331 u332 u333 u334 u335 u336 u337 u338 u339 u340 u341 u342 u343 u344 u345 u346 u347 u348 u349 u350 u351 u352 u353 u354 u355 u356 u357 u358 u359 u360 u361 u362 u363 u364 u365 u366 u367 u368 u369 u370 u371 u372 u373 u374 u375 u376 u377 u378 u379 u380 u381 u382 u383 u384 u385 u386 u387 u388 u389 u390 u391 u392 u393 u394 u395 u396 u397 u398 u399 u400 u401 u402 u403 u404 u405 u406 u407 u408 u409 u410 u411 u412 u413 u414 u415 u416 u417 u418 u419 u420 u421 u422 u423 u424 u425 u426 u427 u428 u429 u430 u431 u432 u433 u434 u435 u436 u437 u438 u439 u440 u441 u442 u443 HL
 clear HA HRB
 go_wp2_with fail
 refine (spec_DrawTripsOfPlan.calls k A1 c1 l1 dl wt p _ HL.out.out.1 HC1.out HD.out.draw).mono ?_
 rintro e w49 ⟨v, u, rfl, ho, ho2, hb⟩
 obtain ⟨Adl, cdl, rfl⟩ := Kd.R_slice ho
 obtain ⟨Ap, cp, rfl⟩ := Kd.R_slice ho2
 have LEdl := Aside0.mk (Kd.R_reads' ho).2.1
 have LEp := Aside0.mk (Kd.R_reads' ho2).2.1
 have HL_ := Aside0.mk (((HL.out.below hb).row (Kd.R_reads' ho).2.2).row (Kd.R_reads' ho2).2.2)
 clear HL
 have HL := HL_
 clear HL_
 clear ho ho2 hb
 go_wp2_with fail
 refine (impl_TripsOfPlan.calls k _ _ dl wt _ _ p T f _ HL.out.out.2.1 LEdl.out HL.out.out.1 LEp.out HD.out.i1).mono ?_
 rintro e w50 ⟨v, rfl, ho, hb⟩
 obtain ⟨AT, cT, rfl⟩ := Kd.S_slice ho
 have LET := Aside0.mk (Kd.S_reads' ho).2.1
 have HL_ := Aside0.mk ((HL.out.below hb).row (Kd.S_reads' ho).2.2)
 clear HL
 have HL := HL_
 clear HL_
 clear ho hb
 go_wp2_with fail
 refine (spec_TripsOfPlan.calls k _ _ dl wt _ _ p T f _ HL.out.out.2.2.1 LEdl.out HL.out.out.2.1 LEp.out HD.out.s1).mono ?_
 rintro e w51 ⟨v, rfl, ho, hb⟩
 obtain ⟨AT2, cT2, rfl⟩ := Kd.S_slice ho
 have LET2 := Aside0.mk (Kd.S_reads' ho).2.1
 have HL_ := Aside0.mk ((HL.out.below hb).row (Kd.S_reads' ho).2.2)
 clear HL
 have HL := HL_
 clear HL_
 clear ho hb
 go_wp2_with fail
 refine (impl_WeightsOfTrips.calls k _ _ dl wt _ _ p W f _ HL.out.out.2.2.2.1 LEdl.out HL.out.out.2.2.1 LEp.out HD.out.i2).mono ?_
 rintro e w52 ⟨v, rfl, ho, hb⟩
 obtain ⟨AW, cW, rfl⟩ := Kd.R_slice ho
 have LEW := Aside0.mk (Kd.R_reads' ho).2.1
 have HL_ := Aside0.mk ((HL.out.below hb).row (Kd.R_reads' ho).2.2)
 clear HL
 have HL := HL_
 clear HL_
 clear ho hb
 go_wp2_with fail
 refine (spec_WeightsOfTrips.calls k _ _ dl wt _ _ p W f _ HL.out.out.2.2.2.2.1 LEdl.out HL.out.out.2.2.2.1 LEp.out HD.out.s2).mono ?_
 rintro e w53 ⟨v, rfl, ho, hb⟩
 obtain ⟨AW2, cW2, rfl⟩ := Kd.R_slice ho
 have LEW2 := Aside0.mk (Kd.R_reads' ho).2.1
 have HL_ := Aside0.mk ((HL.out.below hb).row (Kd.R_reads' ho).2.2)
 clear HL
 have HL := HL_
 clear HL_
 clear ho hb
 go_wp2_with fail
 refine (impl_LengthOfPlan.calls k _ _ dl wt _ _ p len f _ HL.out.out.2.2.2.2.2.1 LEdl.out HL.out.out.2.2.2.2.1 LEp.out HD.out.i3).mono ?_
 rintro e w54 ⟨rfl, hb⟩
 have HL_ := Aside0.mk (HL.out.below hb)
 clear HL
 have HL := HL_
 clear HL_
 clear hb
 go_wp2_with fail
 refine (spec_LengthOfPlan.calls k _ _ dl wt _ _ p len f _ HL.out.out.2.2.2.2.2.1 LEdl.out HL.out.out.2.2.2.2.1 LEp.out HD.out.s3).mono ?_
 rintro e w55 ⟨rfl, hb⟩
 have HL_ := Aside0.mk (HL.out.below hb)
 clear HL
 have HL := HL_
 clear HL_
 clear hb
 go_wp2_with fail
 refine (impl_LengthWithoutBack.calls k _ _ dl wt _ _ p half f _ HL.out.out.2.2.2.2.2.1 LEdl.out HL.out.out.2.2.2.2.1 LEp.out HD.out.i4).mono ?_
 rintro e w56 ⟨rfl, hb⟩
 have HL_ := Aside0.mk (HL.out.below hb)
 clear HL
 have HL := HL_
 clear HL_
 clear hb
 go_wp2_with fail
 refine (spec_LengthWithoutBack.calls k _ _ dl wt _ _ p half f _ HL.out.out.2.2.2.2.2.1 LEdl.out HL.out.out.2.2.2.2.1 LEp.out HD.out.s4).mono ?_
 rintro e w57 ⟨rfl, hb⟩
 have HL_ := Aside0.mk (HL.out.below hb)
 clear HL
 have HL := HL_
 clear HL_
 clear hb
 go_wp2_with fail
 refine (impl_IsBagPlan.calls k _ _ dl wt _ _ p is good _ HL.out.out.2.2.2.2.2.1 LEdl.out HL.out.out.2.2.2.2.1 LEp.out HD.out.i5).mono ?_
 rintro e w58 ⟨rfl, hb⟩
 have HL_ := Aside0.mk (HL.out.below hb)
 clear HL
 have HL := HL_
 clear HL_
 clear hb
 go_wp2_with fail
 refine (spec_IsBagPlan.calls k _ _ dl wt _ _ p is good _ HL.out.out.2.2.2.2.2.1 LEdl.out HL.out.out.2.2.2.2.1 LEp.out HD.out.s5).mono ?_
 rintro e w59 ⟨rfl, hb⟩
 have HL_ := Aside0.mk (HL.out.below hb)
 clear HL
 have HL := HL_
 clear HL_
 clear hb
 rename_i u0_p4 u1_p4 u2_p4 u3_p4
 revert A0 c0 l0 A1 c1 l1 w k pl bag ok xp xf xo xr least cnt few bnd are lb dl wt p T W len half is good f hu34 hu24 hu27 HC0 HC1 HBIG HD HRE u0_ w1 w2 Apl cpl LEpl w3 Axp cxp LExp w4 Ayp cyp LEyp w5 w6 w7 w8 w9 Axf cxf LExf w10 Ayf cyf LEyf w11 w12 w13 Axo cxo LExo w14 Ayo cyo LEyo w15 Axr cxr LExr w16 Ayr cyr LEyr w17 w18 u0_p3 u185 u186 u187 u188 u189 u190 u191 u192 u193 u194 u195 u196 u197 u198 u199 u200 u201 u202 u203 u204 u205 u206 u207 u208 u209 u210 u211 u212 u213 u214 u215 u216 u217 u218 u219 u220 u221 u222 u223 u224 u225 u226 u227 u228 u229 u230 u231 u232 u233 u234 u235 u236 u237 u238 u239 u240 u241 u242 u243 u244 u245 u246 u247 u248 u249 u250 u251 u252 u253 u254 u255 u256 u257 u258 u259 u260 u261 u262 u263 u264 u265 u266 u267 u268 u269 u270 u271 u272 u273 u274 u275 u276 u277 u278 u279 u280 u281 u282 u283 u284 u285 u286 u287 u288 u289 u290 u291 u292 u293 u294 u295 u296 u297 u298 u299 u300 u301 u302 u303 u304 u305 u306 u307 u308 u309 u310 u311 u312 u313 u314 u315 wc u4 u39 u40 u41 u42 u43 u44 u45 u46 u47 u48 u318 u319 u320 u321 u322 u323 u324 u325 u326 u327 u328 u329 u330 u331 u332 u333 u334 u335 u336 u337 u338 u339 u340 u341 u342 u343 u344 u345 u346 u347 u348 u349 u350 u351 u352 u353 u354 u355 u356 u357 u358 u359 u360 u361 u362 u363 u364 u365 u366 u367 u368 u369 u370 u371 u372 u373 u374 u375 u376 u377 u378 u379 u380 u381 u382 u383 u384 u385 u386 u387 u388 u389 u390 u391 u392 u393 u394 u395 u396 u397 u398 u399 u400 u401 u402 u403 u404 u405 u406 u407 u408 u409 u410 u411 u412 u413 u414 u415 u416 u417 u418 u419 u420 u421 u422 u423 u424 u425 u426 u427 u428 u429 u430 u431 u432 u433 u434 u435 u436 u437 u438 u439 u440 u441 u442 u443 w49 Adl cdl Ap cp LEdl LEp w50 AT cT LET w51 AT2 cT2 LET2 w52 AW cW LEW w53 AW2 cW2 LEW2 w54 w55 w56 w57 w58 u0_p4 u1_p4 u2_p4 u3_p4 w59 HL
 exact q_.out⟩
def planned_6 : {Q : Prop // Aside0 Q → planned_5.1} := ⟨_, fun q_ => by
 intro A0 c0 l0 A1 c1 l1 w k pl bag ok xp xf xo xr least cnt few bnd are lb dl wt p T W len half is good f hu34 hu24 hu27 HC0 HC1 HBIG HD HRE u0_ w1 w2 Apl cpl LEpl w3 Axp cxp LExp w4 Ayp cyp LEyp w5 w6 w7 w8 w9 Axf cxf LExf w10 Ayf cyf LEyf w11 w12 w13 Axo cxo LExo w14 Ayo cyo LEyo w15 Axr cxr LExr w16 Ayr cyr LEyr w17 w18 u0_p3 u185 u186 u187 u188 u189 u190 u191 u192 u193 u194 u195 u196 u197 u198 u199 u200 u201 u202 u203 u204 u205 u206 u207 u208 u209 u210 u211 u212 u213 u214 u215 u216 u217 u218 u219 u220 u221 u222 u223 u224 u225 u226 u227 u228 u229 u230 u231 u232 u233 u234 u235 u236 u237 u238 u239 u240 u241 u242 u243 u244 u245 u246 u247 u248 u249 u250 u251 u252 u253 u254 u255 u256 u257 u258 u259 u260 u261 u262 u263 u264 u265 u266 u267 u268 u269 u270 u271 u272 u273 u274 u275 u276 u277 u278 u279 u280 u281 u282 u283 u284 u285 u286 u287 u288 u289 u290 u291 u292 u293 u294 u295 u296 u297 u298 u299 u300 u301 u302 u303 u304 u305 u306 u307 u308 u309 u310 u311 u312 u313 u314 u315 wc u4 u39 u40 u41 u42 u43 u44 u45 u46 u47 u48 u318 u319 u320 u321 u322 u323 u324 u325 u326 u327 u328 u329 u330 u331 u332 u333 u334 u335 u336 u337 u338 u339 u340 u341 u342 u343 u344 u345 u346 u347 u348 u349 u350 u351 u352 u353 u354 u355 u356 u357 u358 u359 u360 u361 u362 u363 u364 u365 u366 u367 u368 u369 u370 u371 u372 u373 u374 u375 u376 u377 u378 u379 u380 u381 u382 u383 u384 u385 u386 u387 u388 u389 u390 u391 u392 u393 u394 u395 u396 u397 u398 u399 u400 u401 u402 u403 u404 u405 u406 u407 u408 u409 u410 u411 u412 u413 u414 u415 u416 u417 u418 u419 u420 u421 u422 u423 u424 u425 u426 u427 u428 u429 u430 u431 u432 u433 u434 u435 u436 u437 u438 u439 u440 u441 u442 u443 w49 Adl cdl Ap cp LEdl LEp w50 AT cT LET w51 AT2 cT2 LET2 w52 AW cW LEW w53 AW2 cW2 LEW2 w54 w55 w56 w57 w58 u0_p4 u1_p4 u2_p4 u3_p4 w59 HL
 go_upto_region 48 with fail
 go_cut [592] from 520 to 592 (fun s592 wx => s592 = .bool false ∧ Aside0 (Held (fun Wd => Kd.C (Kd.int .i64) Wd AW W.length W ∧ Kd.C (Kd.slice 3 (Kd.int .i64)) Wd AT T.length T ∧ Kd.C (Kd.int .i64) Wd Ap p.length p ∧ Kd.C k45 Wd Adl dl.length dl ∧ Below w.heap.size w Wd) wx))
 case first =>
  have hfg := Aside0.mk HD.out.fg
  have n0 : (f != f) = false := bne_self_eq_false _
  have n1 : (len != len) = false := bne_self_eq_false _
  have n2 : (half != half) = false := bne_self_eq_false _
  have n3 : (good != good) = false := bne_self_eq_false _
  have n4 : (is != is) = false := bne_self_eq_false _
  go_wp2_with fail
  refine (laws_aRows.calls k _ _ T _ _ T true _ HL.out.out.2.2.2.1 LET.out HL.out.out.2.2.1 LET2.out HD.out.e1).mono ?_
  rintro e w60 ⟨rfl, hd⟩
  have HL_ := Aside0.mk (HL.out.below hd.below)
  clear HL
  have HL := HL_
  clear HL_
  clear hd
  go_wp2_with fail
  refine (laws_aSame.calls k _ _ W _ _ W true _ HL.out.out.2.1 LEW.out HL.out.out.1 LEW2.out HD.out.e2).mono ?_
  rintro e w61 ⟨rfl, hd⟩
  have HL_ := Aside0.mk (HL.out.below hd.below)
  clear HL
  have HL := HL_
  clear HL_
  clear hd
  cases good
  ·obtain rfl : f = false := hfg.out
   go_wp2_with fail
   go_meet
   exact ⟨rfl, ⟨⟨HL.out.out.2.1, HL.out.out.2.2.2.1, HL.out.out.2.2.2.2.1, HL.out.out.2.2.2.2.2.1, HL.out.out.2.2.2.2.2.2.2⟩⟩⟩
  ·cases is
   ·obtain rfl : f = false := hfg.out
    go_wp2_with fail
    go_meet
    exact ⟨rfl, ⟨⟨HL.out.out.2.1, HL.out.out.2.2.2.1, HL.out.out.2.2.2.2.1, HL.out.out.2.2.2.2.2.1, HL.out.out.2.2.2.2.2.2.2⟩⟩⟩
   ·obtain rfl : f = true := hfg.out
    go_wp2_with fail
    go_meet
    exact ⟨rfl, ⟨⟨HL.out.out.2.1, HL.out.out.2.2.2.1, HL.out.out.2.2.2.2.1, HL.out.out.2.2.2.2.2.1, HL.out.out.2.2.2.2.2.2.2⟩⟩⟩
 obtain ⟨rfl, HL2⟩ := hcut
 clear HL
 have HL := HL2
 clear HL2
 rename_i u0_p5 u1_p5 u2_p5 u3_p5 u4_p5
 revert A0 c0 l0 A1 c1 l1 w k pl bag ok xp xf xo xr least cnt few bnd are lb dl wt p T W len half is good f hu34 hu24 hu27 HC0 HC1 HBIG HD HRE u0_ w1 w2 Apl cpl LEpl w3 Axp cxp LExp w4 Ayp cyp LEyp w5 w6 w7 w8 w9 Axf cxf LExf w10 Ayf cyf LEyf w11 w12 w13 Axo cxo LExo w14 Ayo cyo LEyo w15 Axr cxr LExr w16 Ayr cyr LEyr w17 w18 u0_p3 u185 u186 u187 u188 u189 u190 u191 u192 u193 u194 u195 u196 u197 u198 u199 u200 u201 u202 u203 u204 u205 u206 u207 u208 u209 u210 u211 u212 u213 u214 u215 u216 u217 u218 u219 u220 u221 u222 u223 u224 u225 u226 u227 u228 u229 u230 u231 u232 u233 u234 u235 u236 u237 u238 u239 u240 u241 u242 u243 u244 u245 u246 u247 u248 u249 u250 u251 u252 u253 u254 u255 u256 u257 u258 u259 u260 u261 u262 u263 u264 u265 u266 u267 u268 u269 u270 u271 u272 u273 u274 u275 u276 u277 u278 u279 u280 u281 u282 u283 u284 u285 u286 u287 u288 u289 u290 u291 u292 u293 u294 u295 u296 u297 u298 u299 u300 u301 u302 u303 u304 u305 u306 u307 u308 u309 u310 u311 u312 u313 u314 u315 u0_p5 u4 u39 u40 u41 u42 u43 u44 u45 u46 u47 u48 u318 u319 u320 u321 u322 u323 u324 u325 u326 u327 u328 u329 u330 u331 u332 u333 u334 u335 u336 u337 u338 u339 u340 u341 u342 u343 u344 u345 u346 u347 u348 u349 u350 u351 u352 u353 u354 u355 u356 u357 u358 u359 u360 u361 u362 u363 u364 u365 u366 u367 u368 u369 u370 u371 u372 u373 u374 u375 u376 u377 u378 u379 u380 u381 u382 u383 u384 u385 u386 u387 u388 u389 u390 u391 u392 u393 u394 u395 u396 u397 u398 u399 u400 u401 u402 u403 u404 u405 u406 u407 u408 u409 u410 u411 u412 u413 u414 u415 u416 u417 u418 u419 u420 u421 u422 u423 u424 u425 u426 u427 u428 u429 u430 u431 u432 u433 u434 u435 u436 u437 u438 u439 u440 u441 u442 u443 w49 Adl cdl Ap cp LEdl LEp w50 AT cT LET w51 AT2 cT2 LET2 w52 AW cW LEW w53 AW2 cW2 LEW2 w54 w55 w56 w57 w58 w59 u1_p5 u2_p5 u3_p5 u4_p5 wc u520 u521 u522 u523 u524 u525 u526 u527 u528 u529 u530 u531 u532 u533 u534 u535 u536 u537 u538 u539 u540 u541 u542 u543 u544 u545 u546 u547 u548 u549 u550 u551 u552 u553 u554 u555 u556 u557 u558 u559 u560 u561 u562 u563 u564 u565 u566 u567 u568 u569 u570 u571 u572 u573 u574 u575 u576 u577 u578 u579 u580 u581 u582 u583 u584 u585 u586 u587 u588 u589 u590 u591 HL
 exact q_.out⟩
theorem planned_7 : planned_6.1 := by
 intro A0 c0 l0 A1 c1 l1 w k pl bag ok xp xf xo xr least cnt few bnd are lb dl wt p T W len half is good f hu34 hu24 hu27 HC0 HC1 HBIG HD HRE u0_ w1 w2 Apl cpl LEpl w3 Axp cxp LExp w4 Ayp cyp LEyp w5 w6 w7 w8 w9 Axf cxf LExf w10 Ayf cyf LEyf w11 w12 w13 Axo cxo LExo w14 Ayo cyo LEyo w15 Axr cxr LExr w16 Ayr cyr LEyr w17 w18 u0_p3 u185 u186 u187 u188 u189 u190 u191 u192 u193 u194 u195 u196 u197 u198 u199 u200 u201 u202 u203 u204 u205 u206 u207 u208 u209 u210 u211 u212 u213 u214 u215 u216 u217 u218 u219 u220 u221 u222 u223 u224 u225 u226 u227 u228 u229 u230 u231 u232 u233 u234 u235 u236 u237 u238 u239 u240 u241 u242 u243 u244 u245 u246 u247 u248 u249 u250 u251 u252 u253 u254 u255 u256 u257 u258 u259 u260 u261 u262 u263 u264 u265 u266 u267 u268 u269 u270 u271 u272 u273 u274 u275 u276 u277 u278 u279 u280 u281 u282 u283 u284 u285 u286 u287 u288 u289 u290 u291 u292 u293 u294 u295 u296 u297 u298 u299 u300 u301 u302 u303 u304 u305 u306 u307 u308 u309 u310 u311 u312 u313 u314 u315 u0_p5 u4 u39 u40 u41 u42 u43 u44 u45 u46 u47 u48 u318 u319 u320 u321 u322 u323 u324 u325 u326 u327 u328 u329 u330 u331 u332 u333 u334 u335 u336 u337 u338 u339 u340 u341 u342 u343 u344 u345 u346 u347 u348 u349 u350 u351 u352 u353 u354 u355 u356 u357 u358 u359 u360 u361 u362 u363 u364 u365 u366 u367 u368 u369 u370 u371 u372 u373 u374 u375 u376 u377 u378 u379 u380 u381 u382 u383 u384 u385 u386 u387 u388 u389 u390 u391 u392 u393 u394 u395 u396 u397 u398 u399 u400 u401 u402 u403 u404 u405 u406 u407 u408 u409 u410 u411 u412 u413 u414 u415 u416 u417 u418 u419 u420 u421 u422 u423 u424 u425 u426 u427 u428 u429 u430 u431 u432 u433 u434 u435 u436 u437 u438 u439 u440 u441 u442 u443 w49 Adl cdl Ap cp LEdl LEp w50 AT cT LET w51 AT2 cT2 LET2 w52 AW cW LEW w53 AW2 cW2 LEW2 w54 w55 w56 w57 w58 w59 u1_p5 u2_p5 u3_p5 u4_p5 wc u520 u521 u522 u523 u524 u525 u526 u527 u528 u529 u530 u531 u532 u533 u534 u535 u536 u537 u538 u539 u540 u541 u542 u543 u544 u545 u546 u547 u548 u549 u550 u551 u552 u553 u554 u555 u556 u557 u558 u559 u560 u561 u562 u563 u564 u565 u566 u567 u568 u569 u570 u571 u572 u573 u574 u575 u576 u577 u578 u579 u580 u581 u582 u583 u584 u585 u586 u587 u588 u589 u590 u591 HL
 clear HD
 cases f
 ·go_wp2_with fail
  go_ret
  exact ⟨rfl, HL.out.out.2.2.2.2⟩
 obtain ⟨al, su, fa, re⟩ := HRE.out rfl
 have HE := Aside0.mk re
 clear re HRE
 have h0 := HE.out.start
 go_wp2_with fail
 go_loopg [72, 73, 74, 75, 76, 77, 78, 80, 596] T.length (fun gg s72 s73 s74 s75 s76 s77 s78 s80 s596 wr => ∃ j : Nat, s72 = .int .i64 (al j) ∧ s73 = .int .i64 (su j) ∧ s74 = .int .i64 (fa j) ∧ s596 = .int .i64 (j : Int) ∧ j + gg = T.length ∧ Aside0 (Held (fun W_ => Kd.C (Kd.int .i64) W_ AW W.length W ∧ Kd.C (Kd.slice 3 (Kd.int .i64)) W_ AT T.length T ∧ Kd.C (Kd.int .i64) W_ Ap p.length p ∧ Kd.C k45 W_ Adl dl.length dl ∧ Below w.heap.size w W_) wr))
 case atStart => exact ⟨0, by rw [h0.1], by rw [h0.2.1], by rw [h0.2.2], rfl, by omega, ⟨⟨HL.out.out.1, HL.out.out.2.1, HL.out.out.2.2.1, HL.out.out.2.2.2.1, HL.out.out.2.2.2.2⟩⟩⟩
 case round =>
  obtain ⟨j, rfl, rfl, rfl, rfl, hg, HL2⟩ := hrel
  clear HL h0
  have HL := HL2
  clear HL2
  by_cases hlt : j < T.length
  ·
   obtain ⟨ad1, At, ct, e1, hx1, let_, hrt⟩ := at_L3 HL.out.out.2.1 (j : Int) (by omega) (by omega)
   cases e1
   obtain ⟨nn, mm, htr⟩ := HE.out.each j hlt
   have LEt := Aside0.mk let_
   have HX := Aside0.mk htr
   clear let_ htr
   generalize rd_L3 T (j : Int) = t at hx1 hrt LEt HX
   simp only [Int.toNat_natCast] at hx1
   have HL_ := Aside0.mk (HL.out.row hrt)
   clear HL
   have HL := HL_
   clear HL_
   clear hrt
   have HG := Aside0.mk hg
   clear hg
   have a0 : (0 ≤ (j : Int)) = True := eq_true (by omega)
   have a1 : ((j : Int) < (T.length : Int)) = True := eq_true (by omega)
   have a2 : decide ((j : Int) < (T.length : Int)) = true := decide_eq_true (by omega)
   have a3 : (j < T.length) = True := eq_true hlt
   have HLT := Aside0.mk hlt
   clear hlt
   go_wp2_with fail
   clear hx1
   go_loopg [77, 78, 80, 603] t.length (fun gg s77 s78 s80 s603 wr => ∃ u : Nat, s77 = .int .i64 (nn u) ∧ s78 = .int .i64 (mm u) ∧ s603 = .int .i64 (u : Int) ∧ u + gg = t.length ∧ Aside0 (Held (fun W_ => Kd.C (Kd.int .i64) W_ At t.length t ∧ Kd.C (Kd.int .i64) W_ AW W.length W ∧ Kd.C (Kd.slice 3 (Kd.int .i64)) W_ (some ad1) T.length T ∧ Kd.C (Kd.int .i64) W_ Ap p.length p ∧ Kd.C k45 W_ Adl dl.length dl ∧ Below w.heap.size w W_) wr))
   case atStart => exact ⟨0, by rw [HX.out.n0], by rw [HX.out.m0], rfl, by omega, ⟨⟨HL.out.out.1, HL.out.out.2.1, HL.out.out.2.2.1, HL.out.out.2.2.2.1, HL.out.out.2.2.2.2.1, HL.out.out.2.2.2.2.2⟩⟩⟩
   case round =>
    obtain ⟨u, rfl, rfl, rfl, hg, HL2⟩ := hrel
    clear HL
    have HL := HL2
    clear HL2
    by_cases hlt : u < t.length
    ·
     obtain ⟨x, hh⟩ := HX.out.each u hlt
     have HY := Aside0.mk hh
     clear hh
     have h1 := HY.out.lo
     have h2 := HY.out.hi
     have h3 := HY.out.hp
     obtain ⟨ad2, e2, hx2⟩ := Kd.at_int HL.out.out.1 (u : Int) (by omega) (by omega)
     cases e2
     rw [HY.out.is] at hx2
     simp only [Int.toNat_natCast] at hx2
     obtain ⟨ad3, e3, hx3⟩ := Kd.at_int HL.out.out.2.2.2.1 x (by omega) (by omega)
     cases e3
     rw [HY.out.own] at hx3
     obtain ⟨ad4, e4, hx4, hx5⟩ := at_T45 HL.out.out.2.2.2.2.1 x (by omega) (by omega)
     cases e4
     have f0 : (0 ≤ (u : Int)) = True := eq_true (by omega)
     have f1 : ((u : Int) < (t.length : Int)) = True := eq_true (by omega)
     have f2 : decide ((u : Int) < (t.length : Int)) = true := decide_eq_true (by omega)
     have f3 : (u < t.length) = True := eq_true hlt
     have g0 : (0 ≤ x) = True := eq_true (by omega)
     have g1 : (x < (dl.length : Int)) = True := eq_true (by omega)
     have g2 : (x < (p.length : Int)) = True := eq_true (by omega)
     have g3 : decide (x < 0) = false := decide_eq_false (by omega)
     have g4 : decide (x ≥ (dl.length : Int)) = false := decide_eq_false (by omega)
     have g5 : ((j : Int) != (j : Int)) = false := bne_self_eq_false _
     have g6 : decide ((dl.length : Int) ≤ x) = false := decide_eq_false (by omega)
     have HU := Aside0.mk hlt
     have HGU := Aside0.mk hg
     have hst := HY.out.mstep
     have HN := Aside0.mk HY.out.nstep
     clear h1 h2 h3 hlt hg
     generalize hh45 : rd_T45 dl x = y at hx4 hx5 hst HN
     clear hh45
     by_cases hm : y.f0 > mm u
     ·
      have gm : decide (y.f0 > mm u) = true := decide_eq_true hm
      rw [if_pos hm] at hst
      have HS := Aside0.mk hst
      clear hst hm
      go_wp2_with fail
      go_roundg (t.length - (u + 1))
      case measure => have := HU.out; have := HGU.out; omega
      case rel => exact ⟨u + 1, by rw [HN.out], by rw [HS.out], by first | rfl | (rw [wr64 (by have := HU.out; have := LEt.out; have := HX.out.small; omega) (by have := HU.out; have := HX.out.small; omega)]; rfl), by have := HU.out; have := HGU.out; omega, ⟨⟨HL.out.out.1, HL.out.out.2.1, HL.out.out.2.2.1, HL.out.out.2.2.2.1, HL.out.out.2.2.2.2.1, HL.out.out.2.2.2.2.2⟩⟩⟩
     ·
      have gm : decide (y.f0 > mm u) = false := decide_eq_false hm
      rw [if_neg hm] at hst
      have HS := Aside0.mk hst
      clear hst hm
      go_wp2_with fail
      go_roundg (t.length - (u + 1))
      case measure => have := HU.out; have := HGU.out; omega
      case rel => exact ⟨u + 1, by rw [HN.out], by rw [HS.out], by first | rfl | (rw [wr64 (by have := HU.out; have := LEt.out; have := HX.out.small; omega) (by have := HU.out; have := HX.out.small; omega)]; rfl), by have := HU.out; have := HGU.out; omega, ⟨⟨HL.out.out.1, HL.out.out.2.1, HL.out.out.2.2.1, HL.out.out.2.2.2.1, HL.out.out.2.2.2.2.1, HL.out.out.2.2.2.2.2⟩⟩⟩
    ·
     obtain rfl : u = t.length := by omega
     have q2 : decide ((t.length : Int) < (t.length : Int)) = false := decide_eq_false (by omega)
     have q1 : ((t.length : Int) < (t.length : Int)) = False := eq_false (by omega)
     clear hlt hg
     go_wp2_with fail
     refine (laws_aRises.calls k _ _ t true _ HL.out.out.1 LEt.out HX.out.rises).mono ?_
     rintro e w62 ⟨rfl, hd⟩
     have HL_ := Aside0.mk (HL.out.below hd.below)
     clear HL
     have HL := HL_
     clear HL_
     clear hd
     obtain ⟨ad5, e5, hx5⟩ := Kd.at_int HL.out.out.2.1 (j : Int) (by omega) (by have := HLT.out; have := HE.out.lenW; omega)
     cases e5
     rw [HX.out.w] at hx5
     simp only [Int.toNat_natCast] at hx5
     have f1 : ((j : Int) < (W.length : Int)) = True := eq_true (by have := HLT.out; have := HE.out.lenW; omega)
     have f2 : (nn t.length != nn t.length) = false := bne_self_eq_false _
     have f3 : decide (nn t.length > wt) = false := decide_eq_false (by have := HX.out.le; omega)
     have f4 : (j < W.length) = True := eq_true (by have := HLT.out; have := HE.out.lenW; omega)
     have hfs := HX.out.fstep
     by_cases hm : mm t.length > fa j
     ·
      have gm : decide (mm t.length > fa j) = true := decide_eq_true hm
      rw [if_pos hm] at hfs
      have HS := Aside0.mk hfs
      clear hfs hm
      go_wp2_with fail
      go_roundg (T.length - (j + 1))
      case measure => have := HLT.out; have := HG.out; omega
      case rel => exact ⟨j + 1, by rw [HX.out.astep], by rw [HX.out.sstep], by rw [HS.out], by first | rfl | (rw [wr64 (by have := HLT.out; have := HE.out.small; omega) (by have := HLT.out; have := HE.out.small; omega)]; rfl), by have := HLT.out; have := HG.out; omega, ⟨⟨HL.out.out.2.1, HL.out.out.2.2.1, HL.out.out.2.2.2.1, HL.out.out.2.2.2.2.1, HL.out.out.2.2.2.2.2⟩⟩⟩
     ·
      have gm : decide (mm t.length > fa j) = false := decide_eq_false hm
      rw [if_neg hm] at hfs
      have HS := Aside0.mk hfs
      clear hfs hm
      go_wp2_with fail
      go_roundg (T.length - (j + 1))
      case measure => have := HLT.out; have := HG.out; omega
      case rel => exact ⟨j + 1, by rw [HX.out.astep], by rw [HX.out.sstep], by rw [HS.out], by first | rfl | (rw [wr64 (by have := HLT.out; have := HE.out.small; omega) (by have := HLT.out; have := HE.out.small; omega)]; rfl), by have := HLT.out; have := HG.out; omega, ⟨⟨HL.out.out.2.1, HL.out.out.2.2.1, HL.out.out.2.2.2.1, HL.out.out.2.2.2.2.1, HL.out.out.2.2.2.2.2⟩⟩⟩
  ·
   obtain rfl : j = T.length := by omega
   have q2 : decide ((T.length : Int) < (T.length : Int)) = false := decide_eq_false (by omega)
   have q1 : ((T.length : Int) < (T.length : Int)) = False := eq_false (by omega)
   clear hlt hg
   have f1 : (al T.length != (dl.length : Int)) = false := by rw [HE.out.all]; exact bne_self_eq_false _
   have f2 : (su T.length != len) = false := by rw [HE.out.sum]; exact bne_self_eq_false _
   have f3 : (half != wrap64 (len - fa T.length)) = false := by rw [HE.out.hhalf]; exact bne_self_eq_false _
   have f4 : ((W.length : Int) != (T.length : Int)) = false := by rw [HE.out.lenW]; exact bne_self_eq_false _
   go_wp2_with fail
   go_ret
   exact ⟨rfl, HL.out.out.2.2.2.2⟩
theorem bp_walk (Q : BpPure) (A0 : Option Addr) (c0 : Nat) (l0 : List Int) (A1 : Option Addr) (c1 : Nat) (l1 : List Int) (w : World) (hr0 : Kd.C (Kd.int .u8) w A0 l0.length l0) (hc0 : l0.length ≤ c0) (hr1 : Kd.C (Kd.int .u8) w A1 l1.length l1) (hc1 : l1.length ≤ c1)
  (hw0 : l0.length ≤ maxLen) (hw1 : ∀ x ∈ l0, (Lit.int .u8 x).wf = true) (hw2 : l1.length ≤ maxLen) (hw3 : ∀ x ∈ l1, (Lit.int .u8 x).wf = true) : Calls Try.prog 3 #[.slice A0 l0.length c0, .slice A1 l1.length c1] w fun e w' => e = .returned (.bool true) ∧ Below w.heap.size w w' := by
 rcases Q l0 l1 hw0 hw1 hw2 hw3 with hbig | ⟨big, k, pl, bag, ok, xp, xf, xo, xr, least, cnt, few, bnd, are, ra, lb, rb, dl, wt, p, T, W, len, half, is, good, f, rd_, re⟩
 ·have HC0 := Aside0.mk hc0
  have HC1 := Aside0.mk hc1
  have HR0 := Aside0.mk hr0
  have HR1 := Aside0.mk hr1
  have HBIG := Aside0.mk hbig
  clear hc0 hc1 hr0 hr1 hbig hw0 hw1 hw2 hw3 Q
  go_enter Try.func3, Try.ntmps3
  go_wp2_with fail
  refine (laws_big.calls A0 c0 l0 A1 c1 l1 true _ HR0.out HC0.out HR1.out HC1.out HBIG.out).mono ?_
  rintro e w1 ⟨rfl, hd⟩
  have HB := Aside0.mk hd.below
  clear hd
  go_wp2
  go_ret
  exact ⟨rfl, HB.out⟩
 ·exact (planned_1.2 ⟨planned_2.2 ⟨planned_3.2 ⟨planned_4.2 ⟨planned_4a.2 ⟨planned_4aa.2 ⟨planned_4aaa⟩ ⟨planned_4aab⟩ ⟨planned_4aac⟩⟩ ⟨planned_4ab⟩⟩ ⟨planned_5.2 ⟨planned_6.2 ⟨planned_7⟩⟩⟩⟩⟩⟩) A0 c0 l0 A1 c1 l1 w hr0 hc0 hr1 hc1 k pl bag ok xp xf xo xr least cnt few bnd are big ra lb rb dl wt p T W len half is good f rd_ re
def laws_FnBagsPlanned.Pure : Prop := BpPure
theorem laws_FnBagsPlanned.walk (Q : laws_FnBagsPlanned.Pure) (A0 : Option Addr) (c0 : Nat) (l0 : List Int) (A1 : Option Addr) (c1 : Nat) (l1 : List Int) (w : World) (hr0 : Kd.C (Kd.int .u8) w A0 l0.length l0) (hc0 : l0.length ≤ c0) (hr1 : Kd.C (Kd.int .u8) w A1 l1.length l1) (hc1 : l1.length ≤ c1)
  (hw0 : l0.length ≤ maxLen) (hw1 : ∀ x ∈ l0, (Lit.int .u8 x).wf = true) (hw2 : l1.length ≤ maxLen) (hw3 : ∀ x ∈ l1, (Lit.int .u8 x).wf = true) :
  Calls Try.prog 3 #[.slice A0 l0.length c0, .slice A1 l1.length c1] w fun e w' => e = .returned (.bool true) ∧ Below w.heap.size w w' :=
 bp_walk Q A0 c0 l0 A1 c1 l1 w hr0 hc0 hr1 hc1 hw0 hw1 hw2 hw3
end Go.Proofs.Ytmninaoedoonbaa.G
end
section
namespace Go.Proofs.Ytmninaoedoonbaa.Pz
open Go.RowKit Go.Proofs.Ytmninaoedoonbaa.G Go.Proofs.YtmninaoedoonbaaW.PrintWords Go.Proofs.YtmninaoedoonbaaW.PrintLast Go.Proofs.YtmninaoedoonbaaW.PrintMore
def Gv {α : Type} (g : Nat → Option α) (P : α → Prop) : Prop := ∃ r, Ev g r ∧ P r
theorem Gv.some {α : Type} {r : α} {P : α → Prop} (h : P r) : Gv (fun _ => Option.some r) P := ⟨r, Ev.now r, h⟩
theorem Gv.is {α : Type} {o : Option α} {r : α} {P : α → Prop} (e : o = Option.some r) (h : P r) : Gv (fun _ => o) P := ⟨r, ⟨0, fun _ _ => e⟩, h⟩
theorem Gv.bind {α β : Type} {g : Nat → Option α} {f : Nat → α → Option β} {P : α → Prop} {Q : β → Prop} (h : Gv g P) (k : ∀ r, P r → Gv (fun n => f n r) Q) : Gv (fun n => (g n).bind (f n)) Q := by
 obtain ⟨r, hr, hp⟩ := h
 obtain ⟨q, hq, hq'⟩ := k r hp
 exact ⟨q, hr.bind hq, hq'⟩
theorem Gv.imp {α : Type} {g : Nat → Option α} {P Q : α → Prop} (h : Gv g P) (k : ∀ r, P r → Q r) : Gv g Q := by
 obtain ⟨r, hr, hp⟩ := h
 exact ⟨r, hr, k r hp⟩
theorem Gv.step {α : Type} {g f : Nat → Option α} {P : α → Prop} (h : ∀ k, g (k + 1) = f k) (k : Gv f P) : Gv g P := by
 obtain ⟨r, hr, hp⟩ := k
 exact ⟨r, hr.step h, hp⟩
theorem Gv.ev {α : Type} {g : Nat → Option α} {r : α} (h : Ev g r) {P : α → Prop} (hp : P r) : Gv g P := ⟨r, h, hp⟩
theorem Gv.out {α : Type} {o : Option α} {P : α → Prop} (h : Gv (fun _ => o) P) : ∃ r, o = Option.some r ∧ P r := by
 obtain ⟨r, ⟨K, hK⟩, hp⟩ := h
 exact ⟨r, hK K (Nat.le_refl K), hp⟩
def byt (l : List Int) : Prop := ∀ x ∈ l, 0 ≤ x ∧ x ≤ 255
theorem byt_of {l : List Int} (h : ∀ x ∈ l, (Lit.int .u8 x).wf = true) : byt l := by
 intro x hx
 have := h x hx
 have e0 : IntKind.u8.min = 0 := rfl
 have e1 : IntKind.u8.max = 255 := rfl
 simp [Lit.wf, e0, e1] at this
 omega
theorem emod_self_le {a n : Int} (ha : 0 ≤ a) (hn : 0 < n) : a % n ≤ a := by
 have h := Int.mul_ediv_add_emod a n
 have := Int.mul_nonneg (Int.le_of_lt hn) (Int.ediv_nonneg ha (Int.le_of_lt hn))
 omega
theorem byt_rd {l : List Int} (h : byt l) (i : Int) : 0 ≤ rd l i ∧ rd l i ≤ 255 := by
 unfold rd
 rw [List.getD_eq_getElem?_getD]
 cases hx : l[i.toNat]? with
 | none => simp
 | some x =>
  obtain ⟨hl, rfl⟩ := List.getElem?_eq_some_iff.1 hx
  exact h _ (List.getElem_mem hl)
def at_ (N i : Int) : Prop := 0 ≤ i ∧ i ≤ N
theorem wr_in {x : Int} (h0 : 0 ≤ x) (h1 : x ≤ 9223372036854775807) : wrap64 x = x := by unfold wrap64; omega
theorem low8 (s : Int) : 0 ≤ wrap64 (Go.bits .and .u64 ((IntKind.u64.wrap s) / 1099511627776) 255) ∧ wrap64 (Go.bits .and .u64 ((IntKind.u64.wrap s) / 1099511627776) 255) ≤ 255 := by
 rw [IntKind.wrap_u64]
 have e := bits_and_u64_nat ((s % 18446744073709551616) / 1099511627776).toNat 255 (by omega) (by omega)
 have e2 : ((((s % 18446744073709551616) / 1099511627776).toNat : Nat) : Int) = (s % 18446744073709551616) / 1099511627776 := by omega
 rw [e2] at e
 have hle : ((s % 18446744073709551616) / 1099511627776).toNat &&& 255 ≤ 255 := Nat.and_le_right
 have e3 : Go.bits .and .u64 ((s % 18446744073709551616) / 1099511627776) 255 = ((((s % 18446744073709551616) / 1099511627776).toNat &&& 255 : Nat) : Int) := e
 rw [e3, wr_in (by omega) (by omega)]
 omega
theorem next_gv {l : List Int} (hb : byt l) {N i : Int} (s : Int) (hN : N ≤ 2000000000) (hi : at_ N i) : Gv (fun _ => spec_l1Cur_next.f l i s) (fun r => 0 ≤ r.1 ∧ r.1 ≤ 255 ∧ at_ (N + 1) r.2.1) := by
 obtain ⟨h0, h1⟩ := hi
 have hw : wrap64 (i + 1) = i + 1 := wr_in (by omega) (by omega)
 have ha : at_ (N + 1) (i + 1) := ⟨by omega, by omega⟩
 obtain ⟨b0, b1⟩ := byt_rd hb i
 unfold spec_l1Cur_next.f
 rw [hw, if_pos h0]
 split
 ·split
  ·exact Gv.some ⟨by rw [wr_in (by omega) (by omega)]; exact b0, by rw [wr_in (by omega) (by omega)]; exact b1, ha⟩
  ·exact Gv.some ⟨(low8 _).1, (low8 _).2, ha⟩
 ·split
  ·exact Gv.some ⟨by show (0 : Int) ≤ 0; omega, by show (0 : Int) ≤ 255; omega, ha⟩
  ·exact Gv.some ⟨(low8 _).1, (low8 _).2, ha⟩
theorem pick_gv {l : List Int} (hb : byt l) {N i : Int} (s n : Int) (hN : N ≤ 1000000000) (hi : at_ N i) : Gv (fun _ => spec_l1Cur_pick.f l i s n) (fun r => 0 ≤ r.1 ∧ r.1 ≤ 65535 ∧ (1 ≤ n → r.1 < n) ∧ at_ (N + 2) r.2.1) := by
 unfold spec_l1Cur_pick.f
 split
 ·obtain ⟨h0, h1⟩ := hi
  exact Gv.some ⟨by show (0 : Int) ≤ 0; omega, by show (0 : Int) ≤ 65535; omega, fun h => by show (0 : Int) < n; omega, h0, by show i ≤ N + 2; omega⟩
 ·rename_i hn
  refine Gv.bind (next_gv hb s (by omega) hi) ?_
  rintro ⟨v, i1, s1⟩ ⟨v0, v1, h1⟩
  dsimp only at v0 v1 h1 ⊢
  split
  ·refine Gv.bind (next_gv (N := N + 1) hb s1 (by omega) h1) ?_
   rintro ⟨v', i2, s2⟩ ⟨u0, u1, h2⟩
   dsimp only at u0 u1 h2 ⊢
   rw [if_neg (show ¬ n = 0 by omega), wr_in (x := v * 256) (by omega) (by omega), wr_in (by omega) (by omega), Int.tmod_eq_emod_of_nonneg (by omega)]
   have m1 := Int.emod_nonneg (v * 256 + v') (show n ≠ 0 by omega)
   have m2 := Int.emod_lt_of_pos (v * 256 + v') (show 0 < n by omega)
   have m3 := emod_self_le (a := v * 256 + v') (n := n) (by omega) (by omega)
   obtain ⟨k0, k1⟩ := h2
   exact Gv.some ⟨m1, by dsimp only; omega, fun _ => m2, k0, by dsimp only; omega⟩
  ·rw [if_neg (show ¬ n = 0 by omega), Int.tmod_eq_emod_of_nonneg v0]
   have m1 := Int.emod_nonneg v (show n ≠ 0 by omega)
   have m2 := Int.emod_lt_of_pos v (show 0 < n by omega)
   have m3 := emod_self_le (a := v) (n := n) (by omega) (by omega)
   obtain ⟨k0, k1⟩ := h1
   exact Gv.some ⟨m1, by dsimp only; omega, fun _ => m2, k0, by dsimp only; omega⟩
theorem one_gv {l : List Int} (hb : byt l) {N i : Int} (s n : Int) (hN : N ≤ 1000000000) (hi : at_ N i) : Gv (fun _ => spec_l1Cur_one.f l i s n) (fun r => at_ (N + 2) r.2.1) := by
 unfold spec_l1Cur_one.f
 refine Gv.bind (pick_gv hb s n hN hi) ?_
 rintro ⟨v, i1, s1⟩ ⟨_, _, _, h⟩
 exact Gv.some h
theorem among_gv {l : List Int} (hb : byt l) {N i : Int} (s : Int) (m : List Int) (hN : N ≤ 1000000000) (hi : at_ N i) (hm : 0 < m.length) : Gv (fun _ => spec_l1Cur_among.f l i s m) (fun r => r.1 ∈ m ∧ at_ (N + 2) r.2.1) := by
 unfold spec_l1Cur_among.f
 refine Gv.bind (pick_gv hb s _ hN hi) ?_
 rintro ⟨v, i1, s1⟩ ⟨v0, _, v2, h⟩
 dsimp only at v0 v2 h ⊢
 have v3 := v2 (by omega)
 rw [if_pos v0, if_pos v3]
 refine Gv.some ⟨?_, h⟩
 dsimp only
 unfold rd
 rw [List.getD_eq_getElem?_getD, List.getElem?_eq_getElem (by omega)]
 exact List.getElem_mem (by omega)
end Go.Proofs.Ytmninaoedoonbaa.Pz
end
section
namespace Go.Proofs.Ytmninaoedoonbaa.Bg
open Go.RowKit Go.Proofs.Ytmninaoedoonbaa.G Go.Proofs.YtmninaoedoonbaaW.PrintWords Go.Proofs.YtmninaoedoonbaaW.PrintLast Go.Proofs.YtmninaoedoonbaaW.PrintMore
theorem w64 {x : Int} (h0 : -9223372036854775808 ≤ x) (h1 : x ≤ 9223372036854775807) : wrap64 x = x := by unfold wrap64; omega
theorem within_is' (a b c : Int) : impl_within.f a b c = some (decide (a ≥ b) && decide (a ≤ c)) := by
 unfold impl_within.f
 by_cases h : a ≥ b
 ·rw [if_pos h, decide_eq_true h, Bool.true_and]
 ·rw [if_neg h, decide_eq_false h, Bool.false_and]
def line (s n : Nat) : List Int := (List.range n).map fun j => ((s + j : Nat) : Int)
theorem line_len (s n : Nat) : (line s n).length = n := by simp [line]
theorem line_get (s n i : Nat) (h : i < n) : (line s n)[i]? = some ((s + i : Nat) : Int) := by simp [line, List.getElem?_map, List.getElem?_range h]
theorem line_snoc (s n : Nat) : line s (n + 1) = line s n ++ [((s + n : Nat) : Int)] := by simp [line, List.range_succ]
end Go.Proofs.Ytmninaoedoonbaa.Bg
end
section
namespace Go.Proofs.Ytmninaoedoonbaa.Bg
open Go.RowKit Go.Proofs.Ytmninaoedoonbaa.G Go.Proofs.YtmninaoedoonbaaW.PrintWords Go.Proofs.YtmninaoedoonbaaW.PrintLast Go.Proofs.YtmninaoedoonbaaW.PrintMore
def okP (l : List S45) : Bool := (decide ((l.length : Int) ≥ 1) && decide ((l.length : Int) ≤ 8)) && l.all parcOk
theorem areParcels_val (l : List S45) : impl_AreParcels.f l = some (okP l) := by
 unfold impl_AreParcels.f okP
 rw [List.not_any_eq_all_not]
 cases (decide ((l.length : Int) ≥ 1) && decide ((l.length : Int) ≤ 8)) with
 | true => simp
 | false => simp
theorem l1In_is (a b c : Int) : spec_l1In.f a b c = some (decide (a ≥ b) && decide (a ≤ c)) := within_is a b c
theorem bgGood_l0 (l : List S45) (hn : l.length ≤ 1000) : ∀ (d i k : Nat), i + d = l.length → d < k → spec_bgGood.l0 k l (l.length : Int) (i : Int) = some ((l.drop i).all parcOk) := by
 intro d
 induction d with
 | zero =>
  intro i k hi hk
  obtain ⟨k, rfl⟩ : ∃ m, k = m + 1 := ⟨k - 1, by omega⟩
  obtain rfl : i = l.length := by omega
  simp only [spec_bgGood.l0]
  rw [if_neg (by omega)]
  simp
 | succ d ih =>
  intro i k hi hk
  obtain ⟨k, rfl⟩ : ∃ m, k = m + 1 := ⟨k - 1, by omega⟩
  simp only [spec_bgGood.l0]
  have hx : l[i]? = some l[i] := List.getElem?_eq_getElem (by omega)
  have hrd : rd_T45 l (i : Int) = l[i] := by simp [rd_T45, List.getD, hx]
  rw [if_pos (by omega), if_pos (by omega), if_pos (by omega), hrd, l1In_is, l1In_is, w64 (by omega) (by omega), show ((i : Int) + 1) = ((i + 1 : Nat) : Int) by omega, List.drop_eq_getElem_cons (by omega), List.all_cons, Option.bind_some, Option.bind_some]
  have e : parcOk l[i] = ((decide (l[i].f0 ≥ 1) && decide (l[i].f0 ≤ 100)) && (decide (l[i].f1 ≥ 1) && decide (l[i].f1 ≤ 1000))) := rfl
  rw [e]
  cases (decide (l[i].f0 ≥ 1) && decide (l[i].f0 ≤ 100)) with
  | false => rw [if_neg (by decide)]; simp
  | true =>
   rw [if_pos rfl]
   cases (decide (l[i].f1 ≥ 1) && decide (l[i].f1 ≤ 1000)) with
   | false => rw [if_neg (by decide)]; simp
   | true => rw [if_pos rfl, ih (i + 1) k (by omega) (by omega)]; simp
theorem okP_len {l : List S45} (h : okP l = true) : 1 ≤ l.length ∧ l.length ≤ 8 := by
 unfold okP at h
 simp at h
 omega
theorem bgGood_ev (l : List S45) : Ev (fun k => spec_bgGood.f k l) (okP l) := by
 refine Ev.of (k := 1002) (fun k => spec_bgGood.mono l k) ?_
 unfold spec_bgGood.f okP
 rw [l1In_is, Option.bind_some]
 by_cases h : (decide ((l.length : Int) ≥ 1) && decide ((l.length : Int) ≤ 8)) = true
 ·rw [if_pos h, h, Bool.true_and]
  have h2 : l.length ≤ 8 := by simp at h; omega
  have := bgGood_l0 l (by omega) l.length 0 1002 (by omega) (by omega)
  simpa using this
 ·rw [if_neg h, (by simpa using h : (decide ((l.length : Int) ≥ 1) && decide ((l.length : Int) ≤ 8)) = false), Bool.false_and]
def bagOk (b : Int) : Bool := decide (b ≥ 1) && decide (b ≤ 10000)
def fits (l : List S45) (b : Int) : Bool := okP l && (bagOk b && l.all fun x => !decide (x.f1 > b))
theorem fitBag_val (l : List S45) (b : Int) : impl_fitBag.f l b = some (fits l b) := by
 unfold impl_fitBag.f fits impl_isBag.f
 rw [areParcels_val, Option.bind_some, within_is, List.not_any_eq_all_not]
 have e : (decide (b ≥ 1) && decide (b ≤ 10000)) = bagOk b := rfl
 rw [e]
 cases okP l <;> cases bagOk b <;> simp
theorem bgAsked_l0 (l : List S45) (b : Int) (hn : l.length ≤ 1000) : ∀ (d i k : Nat), i + d = l.length → d < k → spec_bgAsked.l0 k b l (l.length : Int) (i : Int) = some ((l.drop i).all fun x => !decide (x.f1 > b)) := by
 intro d
 induction d with
 | zero =>
  intro i k hi hk
  obtain ⟨k, rfl⟩ : ∃ m, k = m + 1 := ⟨k - 1, by omega⟩
  obtain rfl : i = l.length := by omega
  simp only [spec_bgAsked.l0]
  rw [if_neg (by omega)]
  simp
 | succ d ih =>
  intro i k hi hk
  obtain ⟨k, rfl⟩ : ∃ m, k = m + 1 := ⟨k - 1, by omega⟩
  simp only [spec_bgAsked.l0]
  have hx : l[i]? = some l[i] := List.getElem?_eq_getElem (by omega)
  have hrd : rd_T45 l (i : Int) = l[i] := by simp [rd_T45, List.getD, hx]
  rw [if_pos (by omega), if_pos (by omega), if_pos (by omega), hrd, w64 (by omega) (by omega), show ((i : Int) + 1) = ((i + 1 : Nat) : Int) by omega, List.drop_eq_getElem_cons (by omega), List.all_cons]
  by_cases h : l[i].f1 > b
  ·rw [if_pos h]
   simp [h]
  ·rw [if_neg h, ih (i + 1) k (by omega) (by omega)]
   simp [h]
theorem bgAsked_ev (l : List S45) (b : Int) : Ev (fun k => spec_bgAsked.f k l b) (fits l b) := by
 obtain ⟨K, h⟩ := bgGood_ev l
 have h : ∀ k, K ≤ k → spec_bgGood.f k l = some (okP l) := h
 refine Ev.of (k := K + 1002) (fun k => spec_bgAsked.mono l b k) ?_
 unfold spec_bgAsked.f
 rw [h _ (by omega), Option.bind_some]
 unfold fits
 cases hp : okP l with
 | false => simp [spec_bgAsked.j0]
 | true =>
  have := (okP_len hp).2
  have hl := bgAsked_l0 l b (by omega) l.length 0 (K + 1001) (by omega) (by omega)
  rw [if_pos rfl, l1In_is, Option.bind_some]
  have e : (decide (b ≥ 1) && decide (b ≤ 10000)) = bagOk b := rfl
  rw [e]
  cases bagOk b with
  | false => simp [spec_bgAsked.j0]
  | true => simpa [spec_bgAsked.j0] using hl
end Go.Proofs.Ytmninaoedoonbaa.Bg
end
section
namespace Go.Proofs.Ytmninaoedoonbaa.Bg
open Go.RowKit Go.Proofs.Ytmninaoedoonbaa.G Go.Proofs.YtmninaoedoonbaaW.PrintWords Go.Proofs.YtmninaoedoonbaaW.PrintLast Go.Proofs.YtmninaoedoonbaaW.PrintMore
theorem sum_l0 (l : List S45) (hn : l.length ≤ 1000) : ∀ (d i : Nat) (s : Int), i + d = l.length → ∃ v, (∀ k, d < k → impl_weightOf.l0 k s l (l.length : Int) (i : Int) = some v) ∧ ∀ k, d < k → spec_bgSum.l0 k s l (l.length : Int) (i : Int) = some v := by
 intro d
 induction d with
 | zero =>
  intro i s hi
  refine ⟨s, fun k hk => ?_, fun k hk => ?_⟩
  ·obtain ⟨k, rfl⟩ : ∃ m, k = m + 1 := ⟨k - 1, by omega⟩
   simp only [impl_weightOf.l0]
   rw [if_neg (by omega)]
  ·obtain ⟨k, rfl⟩ : ∃ m, k = m + 1 := ⟨k - 1, by omega⟩
   simp only [spec_bgSum.l0]
   rw [if_neg (by omega)]
 | succ d ih =>
  intro i s hi
  obtain ⟨v, h1, h2⟩ := ih (i + 1) (wrap64 (s + ((rd_T45 l (i : Int)).f1))) (by omega)
  refine ⟨v, fun k hk => ?_, fun k hk => ?_⟩
  ·obtain ⟨k, rfl⟩ : ∃ m, k = m + 1 := ⟨k - 1, by omega⟩
   simp only [impl_weightOf.l0]
   rw [if_pos (by omega), if_pos (by omega), if_pos (by omega), w64 (x := (i : Int) + 1) (by omega) (by omega), show ((i : Int) + 1) = ((i + 1 : Nat) : Int) by omega]
   exact h1 k (by omega)
  ·obtain ⟨k, rfl⟩ : ∃ m, k = m + 1 := ⟨k - 1, by omega⟩
   simp only [spec_bgSum.l0]
   rw [if_pos (by omega), if_pos (by omega), if_pos (by omega), w64 (x := (i : Int) + 1) (by omega) (by omega), show ((i : Int) + 1) = ((i + 1 : Nat) : Int) by omega]
   exact h2 k (by omega)
theorem sum_both (l : List S45) (hn : l.length ≤ 1000) : ∃ v, Ev (fun k => impl_weightOf.f k l) v ∧ Ev (fun k => spec_bgSum.f k l) v := by
 obtain ⟨v, h1, h2⟩ := sum_l0 l hn l.length 0 0 (by omega)
 exact ⟨v, ⟨l.length + 1, fun k hk => h1 k (by omega)⟩, ⟨l.length + 1, fun k hk => h2 k (by omega)⟩⟩
theorem fits_facts {l : List S45} {b : Int} (h : fits l b = true) : 1 ≤ l.length ∧ l.length ≤ 8 ∧ 1 ≤ b ∧ b ≤ 10000 ∧ l.all parcOk = true := by
 unfold fits bagOk at h
 simp only [Bool.and_eq_true, decide_eq_true_eq] at h
 have := okP_len h.1
 have h2 := h.1
 unfold okP at h2
 exact ⟨this.1, this.2, h.2.1.1, h.2.1.2, (Bool.and_eq_true_iff.1 h2).2⟩
theorem TripsBound_both (l : List S45) (b : Int) : ∃ v, Ev (fun k => spec_TripsBound.f k l b) v ∧ Ev (fun k => impl_TripsBound.f k l b) v := by
 obtain ⟨K, h⟩ := bgAsked_ev l b
 have h : ∀ k, K ≤ k → spec_bgAsked.f k l b = some (fits l b) := h
 cases hf : fits l b with
 | false =>
  refine ⟨(0, false), ⟨K, fun k hk => ?_⟩, ⟨0, fun k _ => ?_⟩⟩
  ·simp [spec_TripsBound.f, h k hk, hf]
  ·simp [impl_TripsBound.f, fitBag_val, hf]
 | true =>
  have hb := fits_facts hf
  obtain ⟨v, ⟨K1, h1⟩, ⟨K2, h2⟩⟩ := sum_both l (by omega)
  have h1 : ∀ k, K1 ≤ k → impl_weightOf.f k l = some v := h1
  have h2 : ∀ k, K2 ≤ k → spec_bgSum.f k l = some v := h2
  refine ⟨(wrap64 (Int.tdiv (wrap64 ((wrap64 (v + b)) - 1)) b), true), ⟨K + K2, fun k hk => ?_⟩, ⟨K1, fun k hk => ?_⟩⟩
  ·show spec_TripsBound.f k l b = some _
   unfold spec_TripsBound.f
   rw [h k (by omega), hf, Option.bind_some, if_pos rfl, h2 k (by omega), Option.bind_some, if_neg (by omega)]
  ·show impl_TripsBound.f k l b = some _
   unfold impl_TripsBound.f
   rw [fitBag_val, hf, Option.bind_some, if_pos rfl, h1 k (by omega), Option.bind_some, if_neg (by omega)]
end Go.Proofs.Ytmninaoedoonbaa.Bg
end
section
namespace Go.Proofs.Ytmninaoedoonbaa.Bg
open Go.RowKit Go.Proofs.Ytmninaoedoonbaa.G Go.Proofs.YtmninaoedoonbaaW.PrintWords Go.Proofs.YtmninaoedoonbaaW.PrintLast Go.Proofs.YtmninaoedoonbaaW.PrintMore
def ix (l : List Int) (n : Int) : Nat := l.findIdx fun y => decide (n = y)
theorem ix_hit {l : List Int} {n : Int} {j : Nat} (hj : j < l.length) (h : n = l[j]) (hm : ∀ (m : Nat) (h : m < l.length), m < j → n ≠ l[m]) : ix l n = j := by
 unfold ix
 rw [List.findIdx_eq hj]
 refine ⟨by simpa using h, fun m hmj => ?_⟩
 simpa using hm m (by omega) hmj
theorem ix_miss {l : List Int} {n : Int} (hm : ∀ (m : Nat) (h : m < l.length), n ≠ l[m]) : ix l n = l.length := by
 unfold ix
 rw [List.findIdx_eq_length]
 intro x hx
 obtain ⟨m, h, rfl⟩ := List.getElem_of_mem hx
 simpa using hm m h
theorem ix_le (l : List Int) (n : Int) : ix l n ≤ l.length := List.findIdx_le_length
theorem index_l0 (l : List Int) (n : Int) (hn : l.length ≤ 1000000) : ∀ (d i k : Nat), i + d = l.length → d < k → (∀ (m : Nat) (h : m < l.length), m < i → n ≠ l[m]) → slices_Index_int_int.l0 k l n (l.length : Int) (i : Int) = some (if ix l n = l.length then -1 else (ix l n : Int)) := by
 intro d
 induction d with
 | zero =>
  intro i k hi hk hm
  obtain ⟨k, rfl⟩ : ∃ m, k = m + 1 := ⟨k - 1, by omega⟩
  simp only [slices_Index_int_int.l0]
  rw [if_neg (by omega), if_pos (ix_miss fun m h => hm m h (by omega))]
 | succ d ih =>
  intro i k hi hk hm
  obtain ⟨k, rfl⟩ : ∃ m, k = m + 1 := ⟨k - 1, by omega⟩
  simp only [slices_Index_int_int.l0]
  have hx : l[i]? = some l[i] := List.getElem?_eq_getElem (by omega)
  have hrd : rd l (i : Int) = l[i] := by simp [rd, List.getD, hx]
  rw [if_pos (by omega), if_pos (by omega), if_pos (by omega), hrd, w64 (by omega) (by omega), show ((i : Int) + 1) = ((i + 1 : Nat) : Int) by omega]
  by_cases h : n = l[i]
  ·have := ix_hit (by omega) h hm
   rw [if_pos h, this, if_neg (by omega)]
  ·rw [if_neg h]
   refine ih (i + 1) k (by omega) (by omega) fun m hl hmi => ?_
   by_cases e : m = i
   ·subst e
    exact h
   ·exact hm m hl (by omega)
theorem index_k (l : List Int) (n : Int) (hn : l.length ≤ 1000000) (k : Nat) (hk : l.length < k) : slices_Index_int_int.f k l n = some (if ix l n = l.length then -1 else (ix l n : Int)) := by
 unfold slices_Index_int_int.f
 exact index_l0 l n hn l.length 0 k (by omega) hk (fun m h hm => by omega)
def nmGo (seen acc : List Int) : List Int → List Int
 | [] => acc
 | n :: t => if ix seen n = seen.length then nmGo (seen ++ [n]) (acc ++ [(ix seen n : Int)]) t else nmGo seen (acc ++ [(ix seen n : Int)]) t
theorem nmGo_len : ∀ (t seen acc : List Int), (nmGo seen acc t).length = acc.length + t.length
 | [], _, _ => rfl
 | n :: t, seen, acc => by
  unfold nmGo
  split
  ·rw [nmGo_len t]
   simp
   omega
  ·rw [nmGo_len t]
   simp
   omega
def nm (p : List Int) : List Int := nmGo [] [] p
theorem nm_len (p : List Int) : (nm p).length = p.length := by simp [nm, nmGo_len]
theorem set_at (acc : List Int) (i d : Nat) (v : Int) (h : acc.length = i) : (acc ++ List.replicate (d + 1) 0).set i v = acc ++ [v] ++ List.replicate d 0 := by
 subst h
 rw [List.set_append_right _ _ (Nat.le_refl _), Nat.sub_self, List.append_assoc]
 rfl
theorem named_l0 (p : List Int) (hp : p.length ≤ 100000) : ∀ (d i k : Nat) (seen acc : List Int), i + d = p.length → acc.length = i → seen.length ≤ i → d + p.length < k → impl_named.l0 k seen (acc ++ List.replicate d 0) p (p.length : Int) (i : Int) = some (nmGo seen acc (p.drop i)) := by
 intro d
 induction d with
 | zero =>
  intro i k seen acc hi ha hs hk
  obtain ⟨k, rfl⟩ : ∃ m, k = m + 1 := ⟨k - 1, by omega⟩
  simp only [impl_named.l0]
  rw [if_neg (by omega), List.drop_eq_nil_of_le (by omega)]
  simp [nmGo]
 | succ d ih =>
  intro i k seen acc hi ha hs hk
  obtain ⟨k, rfl⟩ : ∃ m, k = m + 1 := ⟨k - 1, by omega⟩
  simp only [impl_named.l0]
  have hx : p[i]? = some p[i] := List.getElem?_eq_getElem (by omega)
  have hrd : rd p (i : Int) = p[i] := by simp [rd, List.getD, hx]
  rw [if_pos (by omega), if_pos (by omega), if_pos (by omega), hrd, index_k seen p[i] (by omega) k (by omega), Option.bind_some, w64 (by omega) (by omega), show ((i : Int) + 1) = ((i + 1 : Nat) : Int) by omega, List.drop_eq_getElem_cons (by omega)]
  have hl : (i : Int) < ((acc ++ List.replicate (d + 1) (0 : Int)).length : Int) := by simp; omega
  by_cases h : ix seen p[i] = seen.length
  ·rw [if_pos h, if_pos (by omega), if_pos (by omega), if_pos hl, Int.toNat_natCast, set_at acc i d _ ha]
   have := ih (i + 1) k (seen ++ [p[i]]) (acc ++ [(seen.length : Int)]) (by omega) (by simp [ha]) (by simp; omega) (by omega)
   rw [this]
   simp only [nmGo]
   rw [if_pos h, h]
  ·rw [if_neg h, if_neg (by omega), if_pos hl, Int.toNat_natCast, set_at acc i d _ ha]
   have := ih (i + 1) k seen (acc ++ [(ix seen p[i] : Int)]) (by omega) (by simp [ha]) (by omega) (by omega)
   rw [this]
   simp only [nmGo]
   rw [if_neg h]
theorem named_ev (p : List Int) (hp : p.length ≤ 100000) : Ev (fun k => impl_named.f k p) (nm p) := by
 refine Ev.of (k := 2 * p.length + 1) (fun k => impl_named.mono p k) ?_
 unfold impl_named.f
 rw [if_pos (by omega), if_pos (by omega)]
 have := named_l0 p hp p.length 0 (2 * p.length + 1) [] [] (by omega) rfl (Nat.le_refl _) (by omega)
 simpa [nm] using this
theorem bgNamed_l0 (p : List Int) (hp : p.length ≤ 100000) : ∀ (d i k : Nat) (seen acc : List Int), i + d = p.length → acc.length = i → seen.length ≤ i → d * (p.length + 2) < k → spec_bgNamed.l0 k seen acc p (p.length : Int) (i : Int) = some (nmGo seen acc (p.drop i)) := by
 intro d
 induction d with
 | zero =>
  intro i k seen acc hi ha hs hk
  obtain ⟨k, rfl⟩ : ∃ m, k = m + 1 := ⟨k - 1, by omega⟩
  rw [spec_bgNamed.l0]
  rw [if_neg (by omega), List.drop_eq_nil_of_le (by omega)]
  simp [nmGo]
 | succ d ih =>
  intro i k seen acc hi ha hs hk
  rw [Nat.succ_mul] at hk
  obtain ⟨k, rfl⟩ : ∃ m, k = m + 1 := ⟨k - 1, by omega⟩
  rw [spec_bgNamed.l0]
  have hx : p[i]? = some p[i] := List.getElem?_eq_getElem (by omega)
  have hrd : rd p (i : Int) = p[i] := by simp [rd, List.getD, hx]
  rw [if_pos (by omega), if_pos (by omega), if_pos (by omega), hrd, List.drop_eq_getElem_cons (by omega)]
  have inner : ∀ (e j k : Nat), j + e = seen.length → (∀ (m : Nat) (h : m < seen.length), m < j → p[i] ≠ seen[m]) → e + 1 + d * (p.length + 2) < k → spec_bgNamed.l1 k seen acc p[i] (j : Int) p (p.length : Int) (i : Int) = some (nmGo seen acc (p[i] :: p.drop (i + 1))) := by
   intro e
   induction e with
   | zero =>
    intro j k hj hm hk
    obtain ⟨k, rfl⟩ : ∃ m, k = m + 1 := ⟨k - 1, by omega⟩
    rw [spec_bgNamed.l1]
    have h := ix_miss (l := seen) (n := p[i]) fun m h => hm m h (by omega)
    rw [if_neg (by omega), if_pos (by omega), if_pos (by omega), if_pos (by omega), w64 (by omega) (by omega), show ((i : Int) + 1) = ((i + 1 : Nat) : Int) by omega, ih (i + 1) k (seen ++ [p[i]]) (acc ++ [(j : Int)]) (by omega) (by simp [ha]) (by simp; omega) (by omega)]
    simp only [nmGo]
    rw [if_pos h, h, show j = seen.length by omega]
   | succ e ihe =>
    intro j k hj hm hk
    obtain ⟨k, rfl⟩ : ∃ m, k = m + 1 := ⟨k - 1, by omega⟩
    rw [spec_bgNamed.l1]
    have hy : seen[j]? = some seen[j] := List.getElem?_eq_getElem (by omega)
    have hrj : rd seen (j : Int) = seen[j] := by simp [rd, List.getD, hy]
    rw [if_pos (by omega), if_pos (by omega), hrj]
    by_cases h : seen[j] = p[i]
    ·have hix := ix_hit (by omega) h.symm hm
     rw [if_pos h, if_neg (by omega), if_pos (by omega), w64 (by omega) (by omega), show ((i : Int) + 1) = ((i + 1 : Nat) : Int) by omega, ih (i + 1) k seen (acc ++ [(j : Int)]) (by omega) (by simp [ha]) (by omega) (by omega)]
     simp only [nmGo]
     rw [hix, if_neg (by omega)]
    ·rw [if_neg h, w64 (by omega) (by omega), show ((j : Int) + 1) = ((j + 1 : Nat) : Int) by omega]
     refine ihe (j + 1) k (by omega) (fun m hl hmi => ?_) (by omega)
     by_cases e : m = j
     ·subst e
      exact fun h' => h h'.symm
     ·exact hm m hl (by omega)
  exact inner seen.length 0 k (by omega) (fun m h hm => by omega) (by omega)
theorem bgNamed_ev (p : List Int) (hp : p.length ≤ 100000) : Ev (fun k => spec_bgNamed.f k p) (nm p) := by
 refine Ev.of (k := p.length * (p.length + 2) + 1) (fun k => spec_bgNamed.mono p k) ?_
 unfold spec_bgNamed.f
 have := bgNamed_l0 p hp p.length 0 (p.length * (p.length + 2) + 1) [] [] (by omega) rfl (Nat.le_refl _) (by omega)
 simpa [nm] using this
end Go.Proofs.Ytmninaoedoonbaa.Bg
end
section
namespace Go.Proofs.Ytmninaoedoonbaa.Bg
open Go.RowKit Go.Proofs.Ytmninaoedoonbaa.G Go.Proofs.YtmninaoedoonbaaW.PrintWords Go.Proofs.YtmninaoedoonbaaW.PrintLast Go.Proofs.YtmninaoedoonbaaW.PrintMore
theorem allWithin_l0 (l : List Int) (b c : Int) (hn : l.length ≤ 1000) : ∀ (d i k : Nat), i + d = l.length → d < k → True ∧ spec_l1All.l0 k b c l (l.length : Int) (i : Int) = some ((l.drop i).all fun x => decide (x ≥ b) && decide (x ≤ c)) := by
 intro d
 induction d with
 | zero =>
  intro i k hi hk
  obtain ⟨k, rfl⟩ : ∃ m, k = m + 1 := ⟨k - 1, by omega⟩
  obtain rfl : i = l.length := by omega
  simp only [spec_l1All.l0]
  rw [if_neg (by omega)]
  simp
 | succ d ih =>
  intro i k hi hk
  obtain ⟨k, rfl⟩ : ∃ m, k = m + 1 := ⟨k - 1, by omega⟩
  simp only [spec_l1All.l0]
  have hx : l[i]? = some l[i] := List.getElem?_eq_getElem (by omega)
  have hrd : rd l (i : Int) = l[i] := by simp [rd, List.getD, hx]
  have e2 : spec_l1In.f l[i] b c = some (decide (l[i] ≥ b) && decide (l[i] ≤ c)) := within_is' _ _ _
  have hd := List.drop_eq_getElem_cons (l := l) (i := i) (by omega)
  have hi1 := ih (i + 1) k (by omega) (by omega)
  rw [hrd, e2, Option.bind_some, w64 (by omega) (by omega), show ((i : Int) + 1) = ((i + 1 : Nat) : Int) by omega, hi1.2, hd, List.all_cons]
  have c1 : (i : Int) < (l.length : Int) := by omega
  have c2 : 0 ≤ (i : Int) := by omega
  cases (decide (l[i] ≥ b) && decide (l[i] ≤ c)) <;> simp [c1, c2]
end Go.Proofs.Ytmninaoedoonbaa.Bg
end
section
namespace Go.Proofs.Ytmninaoedoonbaa.Bg
open Go.RowKit Go.Proofs.Ytmninaoedoonbaa.G Go.Proofs.YtmninaoedoonbaaW.PrintWords Go.Proofs.YtmninaoedoonbaaW.PrintLast Go.Proofs.YtmninaoedoonbaaW.PrintMore
theorem rd_get {l : List Int} {i : Nat} (h : i < l.length) : rd l (i : Int) = l[i] := by simp [rd, List.getD, List.getElem?_eq_getElem h]
theorem equal_l0 (a b : List Int) (hn : a.length ≤ 1000000) (hab : a.length = b.length) : ∀ (d i k : Nat), i + d = a.length → d < k → slices_Equal_int_int.l0 k a b (a.length : Int) (i : Int) = some (decide (a.drop i = b.drop i)) ∧ spec_l1Same.l0 k a b (a.length : Int) (i : Int) = some (decide (a.drop i = b.drop i)) := by
 intro d
 induction d with
 | zero =>
  intro i k hi hk
  obtain ⟨k, rfl⟩ : ∃ m, k = m + 1 := ⟨k - 1, by omega⟩
  simp only [slices_Equal_int_int.l0, spec_l1Same.l0]
  rw [if_neg (by omega), if_neg (by omega), List.drop_eq_nil_of_le (by omega), List.drop_eq_nil_of_le (by omega)]
  simp
 | succ d ih =>
  intro i k hi hk
  obtain ⟨k, rfl⟩ : ∃ m, k = m + 1 := ⟨k - 1, by omega⟩
  simp only [slices_Equal_int_int.l0, spec_l1Same.l0]
  have hi1 := ih (i + 1) k (by omega) (by omega)
  have ha := rd_get (l := a) (i := i) (by omega)
  have hb := rd_get (l := b) (i := i) (by omega)
  have c1 : (i : Int) < (a.length : Int) := by omega
  have c2 : 0 ≤ (i : Int) := by omega
  have c3 : (i : Int) < (b.length : Int) := by omega
  rw [ha, hb, w64 (by omega) (by omega), show ((i : Int) + 1) = ((i + 1 : Nat) : Int) by omega, hi1.1, hi1.2, if_pos c1, if_pos c2, if_pos c1, if_pos c3, List.drop_eq_getElem_cons (l := a) (i := i) (by omega), List.drop_eq_getElem_cons (l := b) (i := i) (by omega)]
  by_cases h : a[i] = b[i]
  ·rw [if_pos h, h]
   simp only [List.cons.injEq, true_and, and_self]
  ·rw [if_neg h]
   simp only [List.cons.injEq, h, false_and, decide_false, and_self]
theorem equal_k (a b : List Int) (hn : a.length ≤ 1000000) (k : Nat) (hk : a.length < k) : slices_Equal_int_int.f k a b = some (decide (a = b)) ∧ spec_l1Same.f k a b = some (decide (a = b)) := by
 unfold slices_Equal_int_int.f spec_l1Same.f
 by_cases h : a.length = b.length
 ·rw [if_pos (by omega), if_pos (by omega)]
  simpa using equal_l0 a b hn h a.length 0 k (by omega) hk
 ·rw [if_neg (by omega), if_neg (by omega)]
  have : a ≠ b := fun e => h (by rw [e])
  simp [this]
def cI (p : List Int) : Nat → Nat
 | 0 => 0
 | i + 1 => if rd p (i : Int) = (cI p i : Int) then cI p i + 1 else cI p i
theorem cI_step (p : List Int) (i : Nat) : cI p i ≤ cI p (i + 1) ∧ cI p (i + 1) ≤ cI p i + 1 := by
 simp only [cI]
 split <;> omega
theorem cI_mono (p : List Int) (i : Nat) : ∀ d, cI p i ≤ cI p (i + d)
 | 0 => Nat.le_refl _
 | d + 1 => Nat.le_trans (cI_mono p i d) (cI_step p (i + d)).1
theorem cI_le (p : List Int) : ∀ i, cI p i ≤ i
 | 0 => Nat.le_refl _
 | i + 1 => by have := cI_le p i; have := (cI_step p i).2; omega
def Plan (p : List Int) : Prop := ∀ i, i < p.length → 0 ≤ rd p (i : Int) ∧ rd p (i : Int) ≤ (cI p i : Int)
theorem nmGo_pre : ∀ (t seen acc : List Int), nmGo seen acc t = acc ++ nmGo seen [] t
 | [], _, _ => by simp [nmGo]
 | n :: t, seen, acc => by
  simp only [nmGo]
  split
  ·rw [nmGo_pre t _ (acc ++ _), nmGo_pre t _ ([] ++ _)]
   simp
  ·rw [nmGo_pre t _ (acc ++ _), nmGo_pre t _ ([] ++ _)]
   simp
theorem nm_plan_go {p : List Int} (h : nm p = p) : ∀ i, i ≤ p.length → nmGo (line 0 (cI p i)) (p.take i) (p.drop i) = p ∧ ∀ j, j < i → 0 ≤ rd p (j : Int) ∧ rd p (j : Int) ≤ (cI p j : Int) := by
 intro i
 induction i with
 | zero => exact fun _ => ⟨by simpa [nm, cI, line] using h, fun j hj => absurd hj (Nat.not_lt_zero _)⟩
 | succ i ih =>
  intro hi
  obtain ⟨h1, h2⟩ := ih (by omega)
  rw [List.drop_eq_getElem_cons (by omega)] at h1
  have hix := ix_le (line 0 (cI p i)) p[i]
  rw [line_len] at hix
  have hrd := rd_get (l := p) (i := i) (by omega)
  simp only [nmGo, line_len] at h1
  have key : p[i] = (ix (line 0 (cI p i)) p[i] : Int) := by
   have e : ∀ (s : List Int), nmGo s (p.take i ++ [(ix (line 0 (cI p i)) p[i] : Int)]) (p.drop (i + 1)) = p → p[i] = (ix (line 0 (cI p i)) p[i] : Int) := by
    intro s hs
    rw [nmGo_pre] at hs
    have h3 : p[i]? = some (ix (line 0 (cI p i)) p[i] : Int) := by
     conv => lhs; rw [← hs]
     rw [List.append_assoc, List.getElem?_append_right (by simp; omega)]
     simp [show i - min i p.length = 0 by omega]
    rw [List.getElem?_eq_getElem (by omega)] at h3
    exact Option.some.inj h3
   split at h1
   ·exact e _ h1
   ·exact e _ h1
  refine ⟨?_, fun j hj => ?_⟩
  ·rw [List.take_succ_eq_append_getElem (by omega)]
   by_cases hm : ix (line 0 (cI p i)) p[i] = cI p i
   ·rw [if_pos hm] at h1
    have hc : cI p (i + 1) = cI p i + 1 := by
     simp only [cI]
     rw [hrd, if_pos (by omega)]
    rw [hc, line_snoc]
    rw [← key] at h1
    rw [show ((0 + cI p i : Nat) : Int) = p[i] by omega]
    exact h1
   ·rw [if_neg hm] at h1
    have hc : cI p (i + 1) = cI p i := by
     simp only [cI]
     rw [hrd, if_neg (by omega)]
    rw [hc]
    rw [← key] at h1
    exact h1
  ·by_cases e : j = i
   ·subst e
    rw [hrd]
    omega
   ·exact h2 j (by omega)
theorem nm_plan {p : List Int} (h : nm p = p) : Plan p := fun i hi => (nm_plan_go h p.length (Nat.le_refl _)).2 i hi
theorem plan_max {p : List Int} (h : Plan p) : ∀ i, i < p.length → (maxTo p i : Int) = (cI p (i + 1) : Int) - 1
 | 0, hi => by
  have := h 0 hi
  have e : cI p 0 = 0 := rfl
  have e2 : rd p ((0 : Nat) : Int) = rd p 0 := rfl
  rw [e, e2] at this
  have e3 : rd p 0 = 0 := by omega
  simp [maxTo, cI, e3]
 | i + 1, hi => by
  have ih := plan_max h i (by omega)
  have hp := h (i + 1) hi
  have hc : cI p (i + 1 + 1) = if rd p ((i + 1 : Nat) : Int) = (cI p (i + 1) : Int) then cI p (i + 1) + 1 else cI p (i + 1) := rfl
  simp only [maxTo]
  split
  ·rw [hc, if_pos (by omega)]
   omega
  ·rw [hc, if_neg (by omega)]
   omega
theorem plan_pos {p : List Int} (h : Plan p) (hp : 1 ≤ p.length) : 1 ≤ cI p p.length := by
 have := h 0 (by omega)
 have e : cI p 0 = 0 := rfl
 have e2 : rd p ((0 : Nat) : Int) = rd p 0 := rfl
 rw [e, e2] at this
 have e1 : cI p 1 = 1 := by
  have e3 : rd p 0 = 0 := by omega
  simp [cI, e3]
 have := cI_mono p 1 (p.length - 1)
 rw [show 1 + (p.length - 1) = p.length by omega] at this
 omega
theorem rd_left {a b : List Int} {n : Int} (h0 : 0 ≤ n) (h : n < (a.length : Int)) : rd (a ++ b) n = rd a n := by
 obtain ⟨m, rfl⟩ : ∃ m : Nat, n = m := ⟨n.toNat, by omega⟩
 simp [rd, List.getD, List.getElem?_append_left (show m < a.length by omega)]
theorem rd_mem {a : List Int} {n : Int} (h0 : 0 ≤ n) (h : n < (a.length : Int)) : rd a n ∈ a := by
 obtain ⟨m, rfl⟩ : ∃ m : Nat, n = m := ⟨n.toNat, by omega⟩
 rw [rd_get (by omega)]
 exact List.getElem_mem _
theorem parc_get {l : List S45} (hl : l.all parcOk = true) {i : Nat} (h : i < l.length) : 1 ≤ (rd_T45 l (i : Int)).f1 ∧ (rd_T45 l (i : Int)).f1 ≤ 1000 ∧ 1 ≤ (rd_T45 l (i : Int)).f0 ∧ (rd_T45 l (i : Int)).f0 ≤ 100 := by
 have hx : l[i]? = some l[i] := List.getElem?_eq_getElem h
 have hrd : rd_T45 l (i : Int) = l[i] := by simp [rd_T45, List.getD, hx]
 rw [hrd]
 have := List.all_eq_true.1 hl l[i] (List.getElem_mem h)
 unfold parcOk at this
 simp at this
 omega
theorem impl_w_step {l : List S45} {p out : List Int} {i : Nat} {n wt o : Int} (k : Nat) (hpn : rd p (i : Int) = n) (hw : (rd_T45 l (i : Int)).f1 = wt) (hi : i < p.length) (hil : i < l.length) (hn : 0 ≤ n) (hno : n < (out.length : Int)) (ho : rd out n = o) (hi2 : i ≤ 1000) (hb : -1000000 ≤ o + wt ∧ o + wt ≤ 1000000) :
  impl_weightsOf.l0 (k + 1) l out p (p.length : Int) (i : Int) = impl_weightsOf.l0 k l (out.set n.toNat (o + wt)) p (p.length : Int) ((i + 1 : Nat) : Int) := by
 rw [impl_weightsOf.l0, hpn, hw, ho, if_pos (by omega), if_pos (by omega), if_pos (by omega), if_pos hn, if_pos hno, if_pos (by omega), w64 (x := o + wt) (by omega) (by omega), w64 (by omega) (by omega)]
 rfl
theorem spec_w_new {l : List S45} {p out : List Int} {i : Nat} {wt : Int} (k : Nat) (hpn : rd p (i : Int) = (out.length : Int)) (hw : (rd_T45 l (i : Int)).f1 = wt) (hi : i < p.length) (hil : i < l.length) (hi2 : i ≤ 1000) (ho : out.length ≤ 1000) (hb : -1000000 ≤ wt ∧ wt ≤ 1000000) :
  spec_bgWeights.l0 (k + 1) l out p (p.length : Int) (i : Int) = spec_bgWeights.l0 k l (out ++ [wt]) p (p.length : Int) ((i + 1 : Nat) : Int) := by
 have e : rd (out ++ [0]) (out.length : Int) = 0 := by simp [rd, List.getD]
 have e2 : (out ++ [0]).set out.length wt = out ++ [wt] := by
  rw [List.set_append_right _ _ (Nat.le_refl _), Nat.sub_self]
  rfl
 rw [spec_bgWeights.l0, hpn, hw, if_pos (by omega), if_pos (by omega), if_pos (by omega), if_pos rfl, if_pos (by omega), Option.bind_some, if_pos (by omega), if_pos (by simp; omega), if_pos (by omega), e, Int.zero_add, w64 (x := wt) (by omega) (by omega), w64 (by omega) (by omega), Int.toNat_natCast, e2]
 rfl
theorem spec_w_old {l : List S45} {p out : List Int} {i : Nat} {n wt o : Int} (k : Nat) (hpn : rd p (i : Int) = n) (hw : (rd_T45 l (i : Int)).f1 = wt) (hi : i < p.length) (hil : i < l.length) (hn : 0 ≤ n) (hno : n < (out.length : Int)) (ho : rd out n = o) (hi2 : i ≤ 1000) (hb : -1000000 ≤ o + wt ∧ o + wt ≤ 1000000) :
  spec_bgWeights.l0 (k + 1) l out p (p.length : Int) (i : Int) = spec_bgWeights.l0 k l (out.set n.toNat (o + wt)) p (p.length : Int) ((i + 1 : Nat) : Int) := by
 rw [spec_bgWeights.l0, hpn, hw, ho, if_pos (by omega), if_pos (by omega), if_pos (by omega), if_neg (by omega), if_pos hn, if_pos hno, if_pos (by omega), w64 (x := o + wt) (by omega) (by omega), w64 (by omega) (by omega)]
 rfl
theorem weights_l0 (l : List S45) (p : List Int) (hl : l.all parcOk = true) (hpl : p.length = l.length) (hn : l.length ≤ 8) (h : Plan p) : ∀ (d i z : Nat) (out : List Int), i + d = p.length → out.length = cI p i → cI p i + z = cI p p.length → (∀ x ∈ out, 1 ≤ x ∧ x ≤ 1000 * (i : Int)) →
  ∃ v : List Int, v.length = cI p p.length ∧ (∀ x ∈ v, 1 ≤ x ∧ x ≤ 8000) ∧ (∀ k, d < k → impl_weightsOf.l0 k l (out ++ List.replicate z 0) p (p.length : Int) (i : Int) = some v) ∧ ∀ k, d < k → spec_bgWeights.l0 k l out p (p.length : Int) (i : Int) = some v := by
 intro d
 induction d with
 | zero =>
  intro i z out hi ho hz hb
  obtain rfl : i = p.length := by omega
  obtain rfl : z = 0 := by omega
  refine ⟨out, ho, fun x hx => by have := hb x hx; omega, fun k hk => ?_, fun k hk => ?_⟩
  ·obtain ⟨k, rfl⟩ : ∃ m, k = m + 1 := ⟨k - 1, by omega⟩
   rw [impl_weightsOf.l0, if_neg (by omega)]
   simp
  ·obtain ⟨k, rfl⟩ : ∃ m, k = m + 1 := ⟨k - 1, by omega⟩
   rw [spec_bgWeights.l0, if_neg (by omega)]
 | succ d ih =>
  intro i z out hi ho hz hb
  have hp := h i (by omega)
  have hx := parc_get hl (i := i) (by omega)
  have hm := cI_mono p (i + 1) d
  rw [show i + 1 + d = p.length by omega] at hm
  have hci := cI_le p i
  by_cases hnew : rd p (i : Int) = (cI p i : Int)
  ·have hc : cI p (i + 1) = cI p i + 1 := by
    simp only [cI]
    rw [if_pos hnew]
   obtain ⟨z, rfl⟩ : ∃ m, z = m + 1 := ⟨z - 1, by omega⟩
   have hb' : ∀ x ∈ out ++ [(rd_T45 l (i : Int)).f1], 1 ≤ x ∧ x ≤ 1000 * ((i + 1 : Nat) : Int) := by
    intro x hx'
    rcases List.mem_append.1 hx' with hx' | hx'
    ·have := hb x hx'
     omega
    ·have := List.mem_singleton.1 hx'
     omega
   obtain ⟨v, hv, hvb, k1, k2⟩ := ih (i + 1) z (out ++ [(rd_T45 l (i : Int)).f1]) (by omega) (by simp; omega) (by omega) hb'
   refine ⟨v, hv, hvb, fun k hk => ?_, fun k hk => ?_⟩
   ·obtain ⟨k, rfl⟩ : ∃ m, k = m + 1 := ⟨k - 1, by omega⟩
    have ho0 : rd (out ++ List.replicate (z + 1) 0) (out.length : Int) = 0 := by simp [rd, List.getD]
    rw [impl_w_step k (hnew.trans (by rw [ho])) rfl (by omega) (by omega) (by omega) (by simp; omega) ho0 (by omega) (by omega), Int.zero_add, Int.toNat_natCast, List.set_append_right _ _ (Nat.le_refl _), Nat.sub_self, ← k1 k (by omega), List.append_assoc]
    rfl
   ·obtain ⟨k, rfl⟩ : ∃ m, k = m + 1 := ⟨k - 1, by omega⟩
    rw [spec_w_new k (hnew.trans (by rw [ho])) rfl (by omega) (by omega) (by omega) (by omega) (by omega)]
    exact k2 k (by omega)
  ·have hc : cI p (i + 1) = cI p i := by
    simp only [cI]
    rw [if_neg hnew]
   have hlt : rd p (i : Int) < (out.length : Int) := by omega
   have hmem := hb _ (rd_mem hp.1 hlt)
   have hb' : ∀ x ∈ out.set (rd p (i : Int)).toNat (rd out (rd p (i : Int)) + (rd_T45 l (i : Int)).f1), 1 ≤ x ∧ x ≤ 1000 * ((i + 1 : Nat) : Int) := by
    intro x hx'
    rcases List.mem_or_eq_of_mem_set hx' with hx' | hx'
    ·have := hb x hx'
     omega
    ·omega
   obtain ⟨v, hv, hvb, k1, k2⟩ := ih (i + 1) z _ (by omega) (by rw [List.length_set]; omega) (by omega) hb'
   refine ⟨v, hv, hvb, fun k hk => ?_, fun k hk => ?_⟩
   ·obtain ⟨k, rfl⟩ : ∃ m, k = m + 1 := ⟨k - 1, by omega⟩
    rw [impl_w_step k rfl rfl (by omega) (by omega) hp.1 (by simp; omega) (rd_left hp.1 hlt) (by omega) (by omega), List.set_append_left _ _ (by omega)]
    exact k1 k (by omega)
   ·obtain ⟨k, rfl⟩ : ∃ m, k = m + 1 := ⟨k - 1, by omega⟩
    rw [spec_w_old k rfl rfl (by omega) (by omega) hp.1 hlt rfl (by omega) (by omega)]
    exact k2 k (by omega)
theorem weights_both {l : List S45} {p : List Int} (hl : l.all parcOk = true) (hpl : p.length = l.length) (h1 : 1 ≤ l.length) (hn : l.length ≤ 8) (h : Plan p) :
  ∃ v : List Int, v.length = cI p p.length ∧ (∀ x ∈ v, 1 ≤ x ∧ x ≤ 8000) ∧ (∀ k, 8 < k → impl_weightsOf.f k l p = some v) ∧ ∀ k, 8 < k → spec_bgWeights.f k l p = some v := by
 obtain ⟨v, hv, hvb, k1, k2⟩ := weights_l0 l p hl hpl hn h p.length 0 (cI p p.length) [] (by omega) rfl (by show 0 + _ = _; omega) (fun x hx => by cases hx)
 refine ⟨v, hv, hvb, fun k hk => ?_, fun k hk => k2 k (by omega)⟩
 have hm := plan_max h (p.length - 1) (by omega)
 rw [show p.length - 1 + 1 = p.length by omega] at hm
 have hle := cI_le p p.length
 have hpos := plan_pos h (by omega)
 unfold impl_weightsOf.f slices_Max_int_int.f
 rw [if_pos (by omega), Option.bind_some, hm, w64 (by omega) (by omega), if_pos (by omega), if_pos (by omega), show ((cI p p.length : Int) - 1 + 1).toNat = cI p p.length by omega]
 exact k1 k (by omega)
theorem maxTo_le (v : List Int) (b : Int) : ∀ i, i < v.length → (maxTo v i ≤ b ↔ ∀ j, j ≤ i → rd v (j : Int) ≤ b)
 | 0, _ => ⟨fun h j hj => by rw [show j = 0 by omega]; exact h, fun h => h 0 (Nat.le_refl _)⟩
 | i + 1, hi => by
  have ih := maxTo_le v b i (by omega)
  simp only [maxTo]
  constructor
  ·intro h j hj
   by_cases e : j = i + 1
   ·subst e
    split at h <;> omega
   ·refine ih.1 ?_ j (by omega)
    split at h <;> omega
  ·intro h
   have h1 := ih.2 fun j hj => h j (by omega)
   have h2 := h (i + 1) (Nat.le_refl _)
   split
   ·exact h2
   ·exact h1
theorem plan_both (l : List S45) (b : Int) (p : List Int) (hf : fits l b = true) : ∃ t : Bool, Ev (fun k => spec_bgPlan.f k l b p) t ∧ Ev (fun k => impl_isBagPlan.f k l b p) t ∧ (t = true → p.length = l.length ∧ Plan p) := by
 obtain ⟨hl1, hl8, hb1, hb2, hall⟩ := fits_facts hf
 by_cases hlen : p.length = l.length
 ·obtain ⟨K1, h1⟩ := bgNamed_ev p (by omega)
  have h1 : ∀ k, K1 ≤ k → spec_bgNamed.f k p = some (nm p) := h1
  obtain ⟨K2, h2⟩ := named_ev p (by omega)
  have h2 : ∀ k, K2 ≤ k → impl_named.f k p = some (nm p) := h2
  have hnl := nm_len p
  by_cases hnm : nm p = p
  ·have hpl := nm_plan hnm
   obtain ⟨v, hv, hvb, w1, w2⟩ := weights_both hall hlen hl1 hl8 hpl
   have hpos := plan_pos hpl (by omega)
   have hcle := cI_le p p.length
   have hall2 : (v.all fun x => decide (x ≥ 1) && decide (x ≤ b)) = decide (maxTo v (v.length - 1) ≤ b) := by
    rw [Bool.eq_iff_iff, List.all_eq_true, decide_eq_true_eq, maxTo_le v b _ (by omega)]
    constructor
    ·intro hx j hj
     have := hx _ (rd_mem (a := v) (n := (j : Int)) (by omega) (by omega))
     simp at this
     exact this.2
    ·intro hx x hxm
     obtain ⟨j, hj, rfl⟩ := List.getElem_of_mem hxm
     have h3 := hx j (by omega)
     rw [rd_get hj] at h3
     have h4 := hvb _ hxm
     simp
     omega
   refine ⟨decide (maxTo v (v.length - 1) ≤ b), ⟨K1 + 20, fun k hk => ?_⟩, ⟨K2 + 20, fun k hk => ?_⟩, fun _ => ⟨hlen, hpl⟩⟩
   ·show spec_bgPlan.f k l b p = _
    obtain ⟨k, rfl⟩ : ∃ m, k = m + 1 := ⟨k - 1, by omega⟩
    unfold spec_bgPlan.f
    have h5 : spec_l1All.f k v 1 b = some (v.all fun x => decide (x ≥ 1) && decide (x ≤ b)) := by
     have := (allWithin_l0 v 1 b (by omega) v.length 0 k (by omega) (by omega)).2
     unfold spec_l1All.f
     simpa using this
    rw [if_pos (by omega), h1 (k + 1) (by omega), Option.bind_some, (equal_k (nm p) p (by omega) (k + 1) (by omega)).2, hnm, Option.bind_some, spec_bgPlan.j0, if_neg (by simp), w2 k (by omega), Option.bind_some, h5, Option.bind_some, hall2]
   ·show impl_isBagPlan.f k l b p = _
    unfold impl_isBagPlan.f
    rw [if_pos (by omega), h2 k (by omega), Option.bind_some, (equal_k (nm p) p (by omega) k (by omega)).1, hnm, Option.bind_some, if_pos (by simp), w1 k (by omega), Option.bind_some]
    unfold slices_Max_int_int.f
    rw [if_pos (by omega), Option.bind_some]
  ·refine ⟨false, ⟨K1 + 20, fun k hk => ?_⟩, ⟨K2 + 20, fun k hk => ?_⟩, fun h => by cases h⟩
   ·show spec_bgPlan.f k l b p = _
    obtain ⟨k, rfl⟩ : ∃ m, k = m + 1 := ⟨k - 1, by omega⟩
    unfold spec_bgPlan.f
    rw [if_pos (by omega), h1 (k + 1) (by omega), Option.bind_some, (equal_k (nm p) p (by omega) (k + 1) (by omega)).2, Option.bind_some, spec_bgPlan.j0, if_pos (by simp [hnm])]
   ·show impl_isBagPlan.f k l b p = _
    unfold impl_isBagPlan.f
    rw [if_pos (by omega), h2 k (by omega), Option.bind_some, (equal_k (nm p) p (by omega) k (by omega)).1, Option.bind_some, if_neg (by simp [hnm])]
 ·refine ⟨false, ⟨1, fun k hk => ?_⟩, ⟨0, fun k _ => ?_⟩, fun h => by cases h⟩
  ·show spec_bgPlan.f k l b p = _
   obtain ⟨k, rfl⟩ : ∃ m, k = m + 1 := ⟨k - 1, by omega⟩
   unfold spec_bgPlan.f
   rw [if_neg (by omega), spec_bgPlan.j0, if_pos rfl]
  ·show impl_isBagPlan.f k l b p = _
   unfold impl_isBagPlan.f
   rw [if_neg (by omega)]
theorem IsBagPlan_both (l : List S45) (b : Int) (p : List Int) : ∃ v : Bool × Bool, Ev (fun k => spec_IsBagPlan.f k l b p) v ∧ Ev (fun k => impl_IsBagPlan.f k l b p) v := by
 obtain ⟨K, h⟩ := bgAsked_ev l b
 have h : ∀ k, K ≤ k → spec_bgAsked.f k l b = some (fits l b) := h
 cases hf : fits l b with
 | false => exact ⟨(false, false), ⟨K, fun k hk => by simp [spec_IsBagPlan.f, h k hk, hf]⟩, ⟨0, fun k _ => by simp [impl_IsBagPlan.f, fitBag_val, hf]⟩⟩
 | true =>
  obtain ⟨t, ⟨K1, h1⟩, ⟨K2, h2⟩, _⟩ := plan_both l b p hf
  have h1 : ∀ k, K1 ≤ k → spec_bgPlan.f k l b p = some t := h1
  have h2 : ∀ k, K2 ≤ k → impl_isBagPlan.f k l b p = some t := h2
  exact ⟨(t, true), ⟨K + K1, fun k hk => by simp [spec_IsBagPlan.f, h k (by omega), hf, h1 k (by omega)]⟩, ⟨K2, fun k hk => by simp [impl_IsBagPlan.f, fitBag_val, hf, h2 k hk]⟩⟩
theorem asked_both (l : List S45) (b : Int) (p : List Int) : ∃ t : Bool, Ev (fun k => spec_bgBoth.f k l b p) t ∧ (t = true → fits l b = true ∧ Ev (fun k => impl_isBagPlan.f k l b p) true ∧ p.length = l.length ∧ Plan p) ∧ (t = false → fits l b = false ∨ (fits l b = true ∧ Ev (fun k => impl_isBagPlan.f k l b p) false)) := by
 obtain ⟨K, h⟩ := bgAsked_ev l b
 have h : ∀ k, K ≤ k → spec_bgAsked.f k l b = some (fits l b) := h
 cases hf : fits l b with
 | false => exact ⟨false, ⟨K, fun k hk => by simp [spec_bgBoth.f, h k hk, hf]⟩, fun e => (by cases e), fun _ => Or.inl rfl⟩
 | true =>
  obtain ⟨t, ⟨K1, h1⟩, h2, h3⟩ := plan_both l b p hf
  have h1 : ∀ k, K1 ≤ k → spec_bgPlan.f k l b p = some t := h1
  refine ⟨t, ⟨K + K1, fun k hk => by simp [spec_bgBoth.f, h k (by omega), hf, h1 k (by omega)]⟩, fun e => ?_, fun e => Or.inr ⟨rfl, ?_⟩⟩
  ·subst e
   exact ⟨rfl, h2, h3 rfl⟩
  ·subst e
   exact h2
theorem WeightsOfTrips_both (l : List S45) (b : Int) (p : List Int) : ∃ v : List Int × Bool, Ev (fun k => spec_WeightsOfTrips.f k l b p) v ∧ Ev (fun k => impl_WeightsOfTrips.f k l b p) v ∧ v.1.length ≤ 1000 := by
 obtain ⟨t, ⟨K, h⟩, ht, hf⟩ := asked_both l b p
 have h : ∀ k, K ≤ k → spec_bgBoth.f k l b p = some t := h
 cases t with
 | false =>
  refine ⟨([], false), ⟨K, fun k hk => by simp [spec_WeightsOfTrips.f, h k hk]⟩, ?_, by simp⟩
  rcases hf rfl with e | ⟨e, K2, h2⟩
  ·exact ⟨0, fun k _ => by simp [impl_WeightsOfTrips.f, fitBag_val, e]⟩
  ·have h2 : ∀ k, K2 ≤ k → impl_isBagPlan.f k l b p = some false := h2
   exact ⟨K2, fun k hk => by simp [impl_WeightsOfTrips.f, fitBag_val, e, h2 k hk]⟩
 | true =>
  obtain ⟨e, ⟨K2, h2⟩, hlen, hpl⟩ := ht rfl
  have h2 : ∀ k, K2 ≤ k → impl_isBagPlan.f k l b p = some true := h2
  obtain ⟨hl1, hl8, hb1, hb2, hall⟩ := fits_facts e
  obtain ⟨v, hv, hvb, w1, w2⟩ := weights_both hall hlen hl1 hl8 hpl
  have := cI_le p p.length
  exact ⟨(v, true), ⟨K + 9, fun k hk => by simp [spec_WeightsOfTrips.f, h k (by omega), w2 k (by omega)]⟩, ⟨K2 + 9, fun k hk => by simp [impl_WeightsOfTrips.f, fitBag_val, e, h2 k (by omega), w1 k (by omega)]⟩, by simp; omega⟩
end Go.Proofs.Ytmninaoedoonbaa.Bg
end
section
namespace Go.Proofs.Ytmninaoedoonbaa.Bg
open Go.RowKit Go.Proofs.Ytmninaoedoonbaa.G Go.Proofs.YtmninaoedoonbaaW.PrintWords Go.Proofs.YtmninaoedoonbaaW.PrintLast Go.Proofs.YtmninaoedoonbaaW.PrintMore
def house (l : List S45) (i : Int) : Int := (rd_T45 l i).f0
def farOf (l : List S45) (t : List Int) : Int := t.foldl (fun a i => mx a (house l i)) 0
theorem farOf_snoc (l : List S45) (t : List Int) (i : Int) : farOf l (t ++ [i]) = mx (farOf l t) (house l i) := by simp [farOf]
theorem most_val (a b : Int) : spec_l1Most.f a b = some (mx a b) := by
 unfold spec_l1Most.f mx
 by_cases h : a > b
 ·rw [if_pos h, if_neg (by omega)]
 ·rw [if_neg h]
  by_cases h2 : a < b
  ·rw [if_pos h2]
  ·rw [if_neg h2, show b = a by omega]
theorem mx_le {a b c : Int} : mx a b ≤ c ↔ a ≤ c ∧ b ≤ c := by
 unfold mx
 split <;> omega
theorem rdL_get {T : List (List Int)} {j : Nat} (h : j < T.length) : rd_L3 T (j : Int) = T[j] := by simp [rd_L3, List.getD, List.getElem?_eq_getElem h]
theorem impl_t_step {p : List Int} {T : List (List Int)} {i : Nat} (k : Nat) (hi : i < p.length) (hn : 0 ≤ rd p (i : Int)) (hno : rd p (i : Int) < (T.length : Int)) (hl : (rd_L3 T (rd p (i : Int))).length ≤ 1000) (hi2 : i ≤ 1000) :
  impl_tripsOf.l0 (k + 1) T p (p.length : Int) (i : Int) = impl_tripsOf.l0 k (T.set (rd p (i : Int)).toNat (rd_L3 T (rd p (i : Int)) ++ [(i : Int)])) p (p.length : Int) ((i + 1 : Nat) : Int) := by
 rw [impl_tripsOf.l0, if_pos (by omega), if_pos (by omega), if_pos (by omega), if_pos hn, if_pos hno, if_pos (by omega), w64 (by omega) (by omega)]
 rfl
theorem spec_f_new {l : List S45} {p out : List Int} {i : Nat} (k : Nat) (hpn : rd p (i : Int) = (out.length : Int)) (hi : i < p.length) (hil : i < l.length) (hi2 : i ≤ 1000) (ho : out.length ≤ 1000) :
  spec_bgFar.l0 (k + 1) l out p (p.length : Int) (i : Int) = spec_bgFar.l0 k l (out ++ [mx 0 (house l (i : Int))]) p (p.length : Int) ((i + 1 : Nat) : Int) := by
 have e : rd (out ++ [0]) (out.length : Int) = 0 := by simp [rd, List.getD]
 have e2 : (out ++ [0]).set out.length (mx 0 (house l (i : Int))) = out ++ [mx 0 (house l (i : Int))] := by
  rw [List.set_append_right _ _ (Nat.le_refl _), Nat.sub_self]
  rfl
 rw [spec_bgFar.l0, hpn, if_pos (by omega), if_pos (by omega), if_pos (by omega), if_pos rfl, if_pos (by omega), Option.bind_some, if_pos (by omega), if_pos (by simp; omega), if_pos (by omega), e, most_val, Option.bind_some, w64 (by omega) (by omega), Int.toNat_natCast, show (rd_T45 l (i : Int)).f0 = house l (i : Int) from rfl, e2]
 rfl
theorem spec_f_old {l : List S45} {p out : List Int} {i : Nat} (k : Nat) (hi : i < p.length) (hil : i < l.length) (hn : 0 ≤ rd p (i : Int)) (hno : rd p (i : Int) < (out.length : Int)) (hi2 : i ≤ 1000) :
  spec_bgFar.l0 (k + 1) l out p (p.length : Int) (i : Int) = spec_bgFar.l0 k l (out.set (rd p (i : Int)).toNat (mx (rd out (rd p (i : Int))) (house l (i : Int)))) p (p.length : Int) ((i + 1 : Nat) : Int) := by
 rw [spec_bgFar.l0, if_pos (by omega), if_pos (by omega), if_pos (by omega), if_neg (by omega), if_pos hn, if_pos hno, if_pos (by omega), most_val, Option.bind_some, w64 (by omega) (by omega), show (rd_T45 l (i : Int)).f0 = house l (i : Int) from rfl]
 rfl
structure Far (l : List S45) (i : Nat) (T : List (List Int)) (F : List Int) : Prop where
 len : F = T.map (farOf l)
 inds : ∀ t ∈ T, t.length ≤ i ∧ ∀ x ∈ t, 0 ≤ x ∧ x < (l.length : Int)
 all : ∀ c : Int, (∀ x ∈ F, x ≤ c) ↔ ∀ j, j < i → house l (j : Int) ≤ c
theorem Far.new {l : List S45} {i : Nat} {T : List (List Int)} {F : List Int} (h : Far l i T F) (hi : i < l.length) (hh : 0 ≤ house l (i : Int)) : Far l (i + 1) (T ++ [[(i : Int)]]) (F ++ [mx 0 (house l (i : Int))]) where
 len := by rw [h.len, List.map_append]; rfl
 inds := fun t ht => by
  rcases List.mem_append.1 ht with ht | ht
  ·exact ⟨by have := (h.inds t ht).1; omega, (h.inds t ht).2⟩
  ·rw [List.mem_singleton.1 ht]
   exact ⟨by simp, fun x hx => by rw [List.mem_singleton.1 hx]; omega⟩
 all := fun c => by
  have e : mx 0 (house l (i : Int)) = house l (i : Int) := by
   unfold mx
   split <;> omega
  rw [e]
  constructor
  ·intro hx j hj
   by_cases ej : j = i
   ·subst ej
    exact hx _ (List.mem_append_right _ (List.mem_singleton.2 rfl))
   ·exact (h.all c).1 (fun x hxm => hx x (List.mem_append_left _ hxm)) j (by omega)
  ·intro hx x hxm
   rcases List.mem_append.1 hxm with hxm | hxm
   ·exact (h.all c).2 (fun j hj => hx j (by omega)) x hxm
   ·rw [List.mem_singleton.1 hxm]
    exact hx i (by omega)
theorem Far.old {l : List S45} {i n : Nat} {T : List (List Int)} {F : List Int} (h : Far l i T F) (hi : i < l.length) (hn : n < T.length) : Far l (i + 1) (T.set n (T[n] ++ [(i : Int)])) (F.set n (mx (F.getD n 0) (house l (i : Int)))) where
 len := by
  rw [List.map_set, farOf_snoc, h.len]
  congr 2
  simp [List.getD, List.getElem?_eq_getElem hn]
 inds := fun t ht => by
  rcases List.mem_or_eq_of_mem_set ht with ht | ht
  ·exact ⟨by have := (h.inds t ht).1; omega, (h.inds t ht).2⟩
  ·rw [ht]
   have := h.inds _ (List.getElem_mem hn)
   refine ⟨by simp; omega, fun x hx => ?_⟩
   rcases List.mem_append.1 hx with hx | hx
   ·exact this.2 x hx
   ·rw [List.mem_singleton.1 hx]
    omega
 all := fun c => by
  have hF : n < F.length := by rw [h.len]; simpa using hn
  have e : F.getD n 0 = F[n] := by simp [List.getD, List.getElem?_eq_getElem hF]
  rw [e]
  constructor
  ·intro hx j hj
   have hnew := mx_le.1 (hx _ (List.mem_set hF _))
   by_cases ej : j = i
   ·subst ej
    exact hnew.2
   ·refine (h.all c).1 (fun x hxm => ?_) j (by omega)
    obtain ⟨m, hm, rfl⟩ := List.getElem_of_mem hxm
    by_cases em : m = n
    ·subst em
     exact hnew.1
    ·refine hx _ ?_
     have : (F.set n (mx F[n] (house l (i : Int))))[m]? = some F[m] := by
      rw [List.getElem?_set_ne (by omega), List.getElem?_eq_getElem hm]
     exact List.mem_of_getElem? this
  ·intro hx x hxm
   have hold := (h.all c).2 fun j hj => hx j (by omega)
   rcases List.mem_or_eq_of_mem_set hxm with hxm | hxm
   ·exact hold x hxm
   ·rw [hxm, mx_le]
    exact ⟨hold _ (List.getElem_mem hF), hx i (by omega)⟩
theorem trips_l0 (l : List S45) (p : List Int) (hl : l.all parcOk = true) (hpl : p.length = l.length) (hn : l.length ≤ 8) (h : Plan p) : ∀ (d i z : Nat) (T : List (List Int)) (F : List Int), i + d = p.length → T.length = cI p i → cI p i + z = cI p p.length → Far l i T F →
  ∃ (V : List (List Int)) (G : List Int), V.length = cI p p.length ∧ Far l p.length V G ∧ (∀ k, d < k → impl_tripsOf.l0 k (T ++ List.replicate z []) p (p.length : Int) (i : Int) = some V) ∧ ∀ k, d < k → spec_bgFar.l0 k l F p (p.length : Int) (i : Int) = some G := by
 intro d
 induction d with
 | zero =>
  intro i z T F hi ho hz hF
  obtain rfl : i = p.length := by omega
  obtain rfl : z = 0 := by omega
  refine ⟨T, F, ho, hF, fun k hk => ?_, fun k hk => ?_⟩
  ·obtain ⟨k, rfl⟩ : ∃ m, k = m + 1 := ⟨k - 1, by omega⟩
   rw [impl_tripsOf.l0, if_neg (by omega)]
   simp
  ·obtain ⟨k, rfl⟩ : ∃ m, k = m + 1 := ⟨k - 1, by omega⟩
   rw [spec_bgFar.l0, if_neg (by omega)]
 | succ d ih =>
  intro i z T F hi ho hz hF
  have hp := h i (by omega)
  have hx := parc_get hl (i := i) (by omega)
  have hm := cI_mono p (i + 1) d
  rw [show i + 1 + d = p.length by omega] at hm
  have hci := cI_le p i
  have hFl : F.length = T.length := by rw [hF.len]; simp
  by_cases hnew : rd p (i : Int) = (cI p i : Int)
  ·have hc : cI p (i + 1) = cI p i + 1 := by
    simp only [cI]
    rw [if_pos hnew]
   obtain ⟨z, rfl⟩ : ∃ m, z = m + 1 := ⟨z - 1, by omega⟩
   obtain ⟨V, G, hV, hG, k1, k2⟩ := ih (i + 1) z (T ++ [[(i : Int)]]) _ (by omega) (by simp; omega) (by omega) (hF.new (by omega) (by unfold house; omega))
   refine ⟨V, G, hV, hG, fun k hk => ?_, fun k hk => ?_⟩
   ·obtain ⟨k, rfl⟩ : ∃ m, k = m + 1 := ⟨k - 1, by omega⟩
    have e0 : rd p (i : Int) = (T.length : Int) := by omega
    have ho0 : rd_L3 (T ++ List.replicate (z + 1) []) (rd p (i : Int)) = [] := by
     rw [e0]
     simp [rd_L3, List.getD]
    rw [impl_t_step k (by omega) hp.1 (by simp; omega) (by rw [ho0]; simp) (by omega), ho0, e0, Int.toNat_natCast, List.set_append_right _ _ (Nat.le_refl _), Nat.sub_self, ← k1 k (by omega), List.append_assoc]
    rfl
   ·obtain ⟨k, rfl⟩ : ∃ m, k = m + 1 := ⟨k - 1, by omega⟩
    rw [spec_f_new k (by omega) (by omega) (by omega) (by omega) (by omega)]
    exact k2 k (by omega)
  ·have hc : cI p (i + 1) = cI p i := by
    simp only [cI]
    rw [if_neg hnew]
   obtain ⟨n, hn'⟩ : ∃ n : Nat, rd p (i : Int) = (n : Int) := ⟨(rd p (i : Int)).toNat, by omega⟩
   have hlt : n < T.length := by omega
   have hTn := hF.inds _ (List.getElem_mem hlt)
   have hfar := hF.old (by omega : i < l.length) hlt
   obtain ⟨V, G, hV, hG, k1, k2⟩ := ih (i + 1) z _ _ (by omega) (by rw [List.length_set]; omega) (by omega) hfar
   refine ⟨V, G, hV, hG, fun k hk => ?_, fun k hk => ?_⟩
   ·obtain ⟨k, rfl⟩ : ∃ m, k = m + 1 := ⟨k - 1, by omega⟩
    have ho0 : rd_L3 (T ++ List.replicate z []) (rd p (i : Int)) = T[n] := by
     rw [hn']
     simp [rd_L3, List.getD, List.getElem?_append_left hlt, List.getElem?_eq_getElem hlt]
    rw [impl_t_step k (by omega) hp.1 (by simp; omega) (by rw [ho0]; omega) (by omega), ho0, hn', Int.toNat_natCast, List.set_append_left _ _ hlt]
    exact k1 k (by omega)
   ·obtain ⟨k, rfl⟩ : ∃ m, k = m + 1 := ⟨k - 1, by omega⟩
    rw [spec_f_old k (by omega) (by omega) hp.1 (by omega) (by omega), hn', Int.toNat_natCast]
    exact k2 k (by omega)
theorem trips_both {l : List S45} {p : List Int} (hl : l.all parcOk = true) (hpl : p.length = l.length) (h1 : 1 ≤ l.length) (hn : l.length ≤ 8) (h : Plan p) :
  ∃ (V : List (List Int)) (G : List Int), V.length = cI p p.length ∧ Far l p.length V G ∧ (∀ k, 8 < k → impl_tripsOf.f k p = some V) ∧ ∀ k, 8 < k → spec_bgFar.f k l p = some G := by
 obtain ⟨V, G, hV, hG, k1, k2⟩ := trips_l0 l p hl hpl hn h p.length 0 (cI p p.length) [] [] (by omega) rfl (by show 0 + _ = _; omega) ⟨rfl, fun t ht => (by cases ht), fun c => ⟨fun _ j hj => absurd hj (Nat.not_lt_zero _), fun _ x hx => (by cases hx)⟩⟩
 refine ⟨V, G, hV, hG, fun k hk => ?_, fun k hk => k2 k (by omega)⟩
 have hm := plan_max h (p.length - 1) (by omega)
 rw [show p.length - 1 + 1 = p.length by omega] at hm
 have hle := cI_le p p.length
 have hpos := plan_pos h (by omega)
 unfold impl_tripsOf.f slices_Max_int_int.f
 rw [if_pos (by omega), Option.bind_some, hm, w64 (by omega) (by omega), if_pos (by omega), if_pos (by omega), show ((cI p p.length : Int) - 1 + 1).toNat = cI p p.length by omega]
 exact k1 k (by omega)
theorem length_l0 (l : List S45) (V : List (List Int)) (G : List Int) (hF : Far l l.length V G) (hn : l.length ≤ 8) (hV : V.length ≤ 8) : ∀ (d j : Nat) (s m : Int), j + d = V.length →
  ∃ s' : Int, (∀ k, d * 11 < k → impl_lengthOf.l0 k l s V (V.length : Int) (j : Int) = some s') ∧ ∃ m' : Int, (∀ k, d < k → spec_bgLength.l0 k s m G (G.length : Int) (j : Int) = some (s', m')) ∧ ∀ c, m' ≤ c ↔ m ≤ c ∧ ∀ x ∈ G.drop j, x ≤ c := by
 have hGl : G.length = V.length := by rw [hF.len]; simp
 intro d
 induction d with
 | zero =>
  intro j s m hj
  refine ⟨s, fun k hk => ?_, m, fun k hk => ?_, fun c => ?_⟩
  ·obtain ⟨k, rfl⟩ : ∃ m, k = m + 1 := ⟨k - 1, by omega⟩
   rw [impl_lengthOf.l0, if_neg (by omega)]
  ·obtain ⟨k, rfl⟩ : ∃ m, k = m + 1 := ⟨k - 1, by omega⟩
   rw [spec_bgLength.l0, if_neg (by omega)]
  ·rw [List.drop_eq_nil_of_le (by omega)]
   simp
 | succ d ih =>
  intro j s m hj
  have hjV : j < V.length := by omega
  have hrV := rdL_get hjV
  have hrG : rd G (j : Int) = farOf l V[j] := by
   rw [rd_get (by omega)]
   simp [hF.len]
  obtain ⟨s', k1, m', k2, hm'⟩ := ih (j + 1) (wrap64 (s + wrap64 (2 * farOf l V[j]))) (mx m (farOf l V[j])) (by omega)
  have hin := hF.inds _ (List.getElem_mem hjV)
  have inner : ∀ (e i k : Nat), i + e = V[j].length → e + 1 + d * 11 < k → impl_lengthOf.l1 k l s (farOf l (V[j].take i)) V (V.length : Int) (j : Int) V[j] (V[j].length : Int) (i : Int) = some s' := by
   intro e
   induction e with
   | zero =>
    intro i k hi hk
    obtain ⟨k, rfl⟩ : ∃ m, k = m + 1 := ⟨k - 1, by omega⟩
    rw [impl_lengthOf.l1, if_neg (by omega), List.take_of_length_le (by omega), w64 (x := (j : Int) + 1) (by omega) (by omega)]
    exact k1 k (by omega)
   | succ e ihe =>
    intro i k hi hk
    obtain ⟨k, rfl⟩ : ∃ m, k = m + 1 := ⟨k - 1, by omega⟩
    have hr := rd_get (l := V[j]) (i := i) (by omega)
    have hb := hin.2 V[j][i] (List.getElem_mem (by omega))
    rw [impl_lengthOf.l1, hr, if_pos (by omega), if_pos (by omega), if_pos (by omega), if_pos hb.1, if_pos hb.2, w64 (x := (i : Int) + 1) (by omega) (by omega), show (rd_T45 l V[j][i]).f0 = house l V[j][i] from rfl, ← farOf_snoc, ← List.take_succ_eq_append_getElem (by omega)]
    exact ihe (i + 1) k (by omega) (by omega)
  refine ⟨s', fun k hk => ?_, m', fun k hk => ?_, fun c => ?_⟩
  ·obtain ⟨k, rfl⟩ : ∃ m, k = m + 1 := ⟨k - 1, by omega⟩
   rw [impl_lengthOf.l0, if_pos (by omega), if_pos (by omega), if_pos (by omega), hrV]
   exact inner V[j].length 0 k (by omega) (by omega)
  ·obtain ⟨k, rfl⟩ : ∃ m, k = m + 1 := ⟨k - 1, by omega⟩
   rw [spec_bgLength.l0, if_pos (by omega), if_pos (by omega), if_pos (by omega), hrG, most_val, Option.bind_some, w64 (x := (j : Int) + 1) (by omega) (by omega)]
   exact k2 k (by omega)
  ·have e : G[j]'(by omega) = farOf l V[j] := by
    rw [← hrG, rd_get]
   rw [hm' c, mx_le, List.drop_eq_getElem_cons (l := G) (i := j) (by omega), e]
   simp only [List.mem_cons, forall_eq_or_imp]
   rw [and_assoc]
theorem lengths_both {l : List S45} {p : List Int} (hl : l.all parcOk = true) (hpl : p.length = l.length) (h1 : 1 ≤ l.length) (hn : l.length ≤ 8) (h : Plan p) :
  ∃ s m : Int, (∀ k, 100 < k → impl_lengthOf.f k l p = some s) ∧ (∀ k, 100 < k → spec_bgLength.f k l p = some (s, m)) ∧ ∀ c, m ≤ c ↔ 0 ≤ c ∧ ∀ j, j < l.length → house l (j : Int) ≤ c := by
 obtain ⟨V, G, hV, hF, t1, t2⟩ := trips_both hl hpl h1 hn h
 rw [hpl] at hF
 have hle := cI_le p p.length
 have hGl : G.length = V.length := by rw [hF.len]; simp
 obtain ⟨s, k1, m, k2, hm⟩ := length_l0 l V G hF hn (by omega) V.length 0 0 0 (by omega)
 refine ⟨s, m, fun k hk => ?_, fun k hk => ?_, fun c => ?_⟩
 ·unfold impl_lengthOf.f
  rw [t1 k (by omega), Option.bind_some]
  exact k1 k (by omega)
 ·unfold spec_bgLength.f
  rw [t2 k (by omega), Option.bind_some]
  exact k2 k (by omega)
 ·rw [hm c, List.drop_zero, hF.all c]
theorem LengthOfPlan_both (l : List S45) (b : Int) (p : List Int) : ∃ v : Int × Bool, Ev (fun k => spec_LengthOfPlan.f k l b p) v ∧ Ev (fun k => impl_LengthOfPlan.f k l b p) v := by
 obtain ⟨t, ⟨K, h⟩, ht, hf⟩ := asked_both l b p
 have h : ∀ k, K ≤ k → spec_bgBoth.f k l b p = some t := h
 cases t with
 | false =>
  refine ⟨(0, false), ⟨K, fun k hk => by simp [spec_LengthOfPlan.f, h k hk]⟩, ?_⟩
  rcases hf rfl with e | ⟨e, K2, h2⟩
  ·exact ⟨0, fun k _ => by simp [impl_LengthOfPlan.f, fitBag_val, e]⟩
  ·have h2 : ∀ k, K2 ≤ k → impl_isBagPlan.f k l b p = some false := h2
   exact ⟨K2, fun k hk => by simp [impl_LengthOfPlan.f, fitBag_val, e, h2 k hk]⟩
 | true =>
  obtain ⟨e, ⟨K2, h2⟩, hlen, hpl⟩ := ht rfl
  have h2 : ∀ k, K2 ≤ k → impl_isBagPlan.f k l b p = some true := h2
  obtain ⟨hl1, hl8, hb1, hb2, hall⟩ := fits_facts e
  obtain ⟨s, m, w1, w2, _⟩ := lengths_both hall hlen hl1 hl8 hpl
  exact ⟨(s, true), ⟨K + 101, fun k hk => by simp [spec_LengthOfPlan.f, h k (by omega), w2 k (by omega)]⟩, ⟨K2 + 101, fun k hk => by simp [impl_LengthOfPlan.f, fitBag_val, e, h2 k (by omega), w1 k (by omega)]⟩⟩
theorem far_l0 (l : List S45) (p : List Int) (s : Int) (hn : l.length ≤ 8) (hs : ∀ k, 100 < k → impl_lengthOf.f k l p = some s) : ∀ (d i : Nat) (f : Int), i + d = l.length → ∃ m : Int, (∀ k, d + 101 < k → impl_LengthWithoutBack.l0 k l p f l (l.length : Int) (i : Int) = some (wrap64 (s - m), true)) ∧ ∀ c, m ≤ c ↔ f ≤ c ∧ ∀ j, i ≤ j → j < l.length → house l (j : Int) ≤ c := by
 intro d
 induction d with
 | zero =>
  intro i f hi
  refine ⟨f, fun k hk => ?_, fun c => ⟨fun h => ⟨h, fun j h1 h2 => by omega⟩, fun h => h.1⟩⟩
  obtain ⟨k, rfl⟩ : ∃ m, k = m + 1 := ⟨k - 1, by omega⟩
  rw [impl_LengthWithoutBack.l0, if_neg (by omega), hs k (by omega), Option.bind_some]
 | succ d ih =>
  intro i f hi
  obtain ⟨m, k1, hm⟩ := ih (i + 1) (mx f (house l (i : Int))) (by omega)
  refine ⟨m, fun k hk => ?_, fun c => ?_⟩
  ·obtain ⟨k, rfl⟩ : ∃ m, k = m + 1 := ⟨k - 1, by omega⟩
   rw [impl_LengthWithoutBack.l0, if_pos (by omega), if_pos (by omega), if_pos (by omega), w64 (x := (i : Int) + 1) (by omega) (by omega)]
   exact k1 k (by omega)
  ·rw [hm c, mx_le]
   constructor
   ·intro h
    refine ⟨h.1.1, fun j h1 h2 => ?_⟩
    by_cases e : j = i
    ·subst e
     exact h.1.2
    ·exact h.2 j (by omega) h2
   ·intro h
    exact ⟨⟨h.1, h.2 i (Nat.le_refl _) (by omega)⟩, fun j h1 h2 => h.2 j (by omega) h2⟩
theorem LengthWithoutBack_both (l : List S45) (b : Int) (p : List Int) : ∃ v : Int × Bool, Ev (fun k => spec_LengthWithoutBack.f k l b p) v ∧ Ev (fun k => impl_LengthWithoutBack.f k l b p) v := by
 obtain ⟨t, ⟨K, h⟩, ht, hf⟩ := asked_both l b p
 have h : ∀ k, K ≤ k → spec_bgBoth.f k l b p = some t := h
 cases t with
 | false =>
  refine ⟨(0, false), ⟨K, fun k hk => by simp [spec_LengthWithoutBack.f, h k hk]⟩, ?_⟩
  rcases hf rfl with e | ⟨e, K2, h2⟩
  ·refine ⟨1, fun k hk => ?_⟩
   obtain ⟨k, rfl⟩ : ∃ m, k = m + 1 := ⟨k - 1, by omega⟩
   simp [impl_LengthWithoutBack.f, fitBag_val, e, impl_LengthWithoutBack.j0]
  ·have h2 : ∀ k, K2 ≤ k → impl_isBagPlan.f k l b p = some false := h2
   refine ⟨K2 + 1, fun k hk => ?_⟩
   obtain ⟨k, rfl⟩ : ∃ m, k = m + 1 := ⟨k - 1, by omega⟩
   simp [impl_LengthWithoutBack.f, fitBag_val, e, h2 (k + 1) (by omega), impl_LengthWithoutBack.j0]
 | true =>
  obtain ⟨e, ⟨K2, h2⟩, hlen, hpl⟩ := ht rfl
  have h2 : ∀ k, K2 ≤ k → impl_isBagPlan.f k l b p = some true := h2
  obtain ⟨hl1, hl8, hb1, hb2, hall⟩ := fits_facts e
  obtain ⟨s, m, w1, w2, hm⟩ := lengths_both hall hlen hl1 hl8 hpl
  obtain ⟨m2, k2, hm2⟩ := far_l0 l p s hl8 w1 l.length 0 0 (by omega)
  have em : m2 = m := by
   have e1 := (hm2 m).2 ⟨((hm m).1 (Int.le_refl _)).1, fun j _ hj => ((hm m).1 (Int.le_refl _)).2 j hj⟩
   have e2 := (hm m2).2 ⟨((hm2 m2).1 (Int.le_refl _)).1, fun j hj => ((hm2 m2).1 (Int.le_refl _)).2 j (Nat.zero_le _) hj⟩
   omega
  subst em
  refine ⟨(wrap64 (s - m2), true), ⟨K + 101, fun k hk => by simp [spec_LengthWithoutBack.f, h k (by omega), w2 k (by omega)]⟩, ⟨K2 + 120, fun k hk => ?_⟩⟩
  obtain ⟨k, rfl⟩ : ∃ m, k = m + 1 := ⟨k - 1, by omega⟩
  have := k2 k (by omega)
  simpa [impl_LengthWithoutBack.f, fitBag_val, e, h2 (k + 1) (by omega), impl_LengthWithoutBack.j0] using this
end Go.Proofs.Ytmninaoedoonbaa.Bg
end
section
namespace Go.Proofs.Ytmninaoedoonbaa.Bg
open Go.RowKit Go.Proofs.Ytmninaoedoonbaa.G Go.Proofs.YtmninaoedoonbaaW.PrintWords Go.Proofs.YtmninaoedoonbaaW.PrintLast Go.Proofs.YtmninaoedoonbaaW.PrintMore
def wt (l : List S45) (i : Nat) : Int := (rd_T45 l (i : Int)).f1
def plLoop (f : List Int → List Int → List (List Int)) (bag x : Int) (p ws : List Int) : Nat → Nat → List (List Int)
 | 0, _ => []
 | m + 1, t => (if rd (bpNext ws t x) (t : Int) ≤ bag then f (p ++ [(t : Int)]) (bpNext ws t x) else []) ++ plLoop f bag x p ws m (t + 1)
def plGo (l : List S45) (bag : Int) : Nat → List Int → List Int → List (List Int)
 | 0, p, _ => [p]
 | d + 1, p, ws => plLoop (plGo l bag d) bag (wt l p.length) p ws (ws.length + 1) 0
def foldB (num : List Int → Option Int) (s : BpSt) : List (List Int) → Option BpSt
 | [] => some s
 | p :: ps => (bpLeaf num p s).bind fun s' => foldB num s' ps
theorem foldB_app (num : List Int → Option Int) : ∀ (a b : List (List Int)) (s : BpSt), foldB num s (a ++ b) = (foldB num s a).bind fun s' => foldB num s' b
 | [], b, s => rfl
 | p :: a, b, s => by
  simp only [List.cons_append, foldB]
  cases bpLeaf num p s with
  | none => rfl
  | some s' =>
   rw [Option.bind_some, Option.bind_some]
   exact foldB_app num a b s'
theorem bpLoop_fold (num : List Int → Option Int) (f : List Int → List Int → BpSt → Option BpSt) (g : List Int → List Int → List (List Int)) (h : ∀ p ws s, f p ws s = foldB num s (g p ws)) (bag x : Int) (p ws : List Int) : ∀ (m t : Nat) (s : BpSt), bpLoop f bag x p ws m t s = foldB num s (plLoop g bag x p ws m t)
 | 0, t, s => rfl
 | m + 1, t, s => by
  simp only [bpLoop, plLoop]
  by_cases hc : rd (bpNext ws t x) (t : Int) ≤ bag
  ·rw [if_pos hc, if_pos hc, foldB_app, h]
   cases foldB num s (g (p ++ [(t : Int)]) (bpNext ws t x)) with
   | none => rfl
   | some s' =>
    rw [Option.bind_some, Option.bind_some]
    exact bpLoop_fold num f g h bag x p ws m (t + 1) s'
  ·rw [if_neg hc, if_neg hc, List.nil_append]
   exact bpLoop_fold num f g h bag x p ws m (t + 1) s
theorem bpGo_fold (num : List Int → Option Int) (l : List S45) (bag : Int) : ∀ (d : Nat) (p ws : List Int) (s : BpSt), bpGo num l bag d p ws s = foldB num s (plGo l bag d p ws)
 | 0, p, ws, s => by
  simp only [bpGo, plGo, foldB]
  cases bpLeaf num p s with
  | none => rfl
  | some s' => rfl
 | d + 1, p, ws, s => by
  simp only [bpGo, plGo]
  exact bpLoop_fold num _ _ (bpGo_fold num l bag d) bag _ p ws _ 0 s
theorem cI_app (p q : List Int) : ∀ i, i ≤ p.length → cI (p ++ q) i = cI p i
 | 0, _ => rfl
 | i + 1, h => by
  simp only [cI]
  rw [cI_app p q i (by omega), rd_left (by omega) (by omega)]
theorem rd_last (p : List Int) (t : Int) : rd (p ++ [t]) (p.length : Int) = t := by simp [rd, List.getD]
theorem bpNext_len (ws : List Int) (t : Nat) (x : Int) : (bpNext ws t x).length = if t < ws.length then ws.length else ws.length + 1 := by
 unfold bpNext
 rw [List.length_set]
 split <;> simp
theorem bpNext_rd {ws : List Int} {t : Nat} {x : Int} (h : t < ws.length) : rd (bpNext ws t x) (t : Int) = wrap64 (rd ws (t : Int) + x) := by
 unfold bpNext
 rw [if_pos h]
 simp [rd, List.getD, h]
theorem bpNext_rdn (ws : List Int) (x : Int) : rd (bpNext ws ws.length x) (ws.length : Int) = wrap64 (0 + x) := by
 unfold bpNext
 rw [if_neg (Nat.lt_irrefl _)]
 simp [rd, List.getD]
theorem w_snoc (l : List S45) (p ws : List Int) (t : Nat) (hp : p.length < l.length) (hl : l.length ≤ 1000) (ht : t ≤ ws.length) (hws : ws.length ≤ 1000) : ∀ (d i k : Nat) (out : List Int), i + d = p.length → spec_bgWeights.l0 k l out p (p.length : Int) (i : Int) = some ws →
  spec_bgWeights.l0 (k + 1) l out (p ++ [(t : Int)]) ((p ++ [(t : Int)]).length : Int) (i : Int) = some (bpNext ws t (wt l p.length)) := by
 intro d
 induction d with
 | zero =>
  intro i k out hi h
  obtain rfl : i = p.length := by omega
  cases k with
  | zero => cases h
  | succ k =>
   rw [spec_bgWeights.l0, if_neg (by omega)] at h
   obtain rfl := Option.some.inj h
   have hlen : (p ++ [(t : Int)]).length = p.length + 1 := by simp
   have hend : ∀ o : List Int, spec_bgWeights.l0 (k + 1) l o (p ++ [(t : Int)]) ((p ++ [(t : Int)]).length : Int) (wrap64 ((p.length : Int) + 1)) = some o := fun o => by
    rw [w64 (by omega) (by omega), spec_bgWeights.l0, if_neg (by omega)]
   rw [spec_bgWeights.l0, rd_last, if_pos (by omega), if_pos (by omega), if_pos (by omega)]
   by_cases hn : t = out.length
   ·subst hn
    rw [if_pos rfl, if_pos (by omega), Option.bind_some, if_pos (by omega), if_pos (by simp; omega), if_pos (by omega), hend]
    unfold bpNext
    rw [if_neg (Nat.lt_irrefl _), Int.toNat_natCast]
    rfl
   ·rw [if_neg (by omega), if_pos (by omega), if_pos (by omega), if_pos (by omega), hend]
    unfold bpNext
    rw [if_pos (by omega), Int.toNat_natCast]
    rfl
 | succ d ih =>
  intro i k out hi h
  cases k with
  | zero => cases h
  | succ k =>
   have hlen : (p ++ [(t : Int)]).length = p.length + 1 := by simp
   have e : wrap64 ((i : Int) + 1) = ((i + 1 : Nat) : Int) := by rw [w64 (by omega) (by omega)]; rfl
   rw [spec_bgWeights.l0, if_pos (by omega), if_pos (by omega), if_pos (by omega), e] at h
   rw [spec_bgWeights.l0, rd_left (by omega) (by omega), if_pos (by omega), if_pos (by omega), if_pos (by omega), e]
   by_cases hn : rd p (i : Int) = (out.length : Int)
   ·rw [if_pos hn] at h ⊢
    by_cases hm : out.length < 17592186044416
    ·rw [if_pos hm, Option.bind_some] at h ⊢
     by_cases h0 : 0 ≤ rd p (i : Int)
     ·rw [if_pos h0] at h ⊢
      by_cases h1 : rd p (i : Int) < ((out ++ [0]).length : Int)
      ·rw [if_pos h1, if_pos (by omega)] at h ⊢
       exact ih (i + 1) k _ (by omega) h
      ·rw [if_neg h1] at h
       cases h
     ·rw [if_neg h0] at h
      cases h
    ·rw [if_neg hm] at h
     cases h
   ·rw [if_neg hn] at h ⊢
    by_cases h0 : 0 ≤ rd p (i : Int)
    ·rw [if_pos h0] at h ⊢
     by_cases h1 : rd p (i : Int) < (out.length : Int)
     ·rw [if_pos h1, if_pos (by omega)] at h ⊢
      exact ih (i + 1) k _ (by omega) h
     ·rw [if_neg h1] at h
      cases h
    ·rw [if_neg h0] at h
     cases h
structure Pre (l : List S45) (p ws : List Int) : Prop where
 plan : Plan p
 len : ws.length = cI p p.length
 wts : ∀ k, p.length < k → spec_bgWeights.f k l p = some ws
 pos : ∀ x ∈ ws, 0 ≤ x ∧ x ≤ 1000 * (p.length : Int)
theorem Pre.nil (l : List S45) : Pre l [] [] := ⟨fun i hi => absurd hi (Nat.not_lt_zero _), rfl, fun k hk => by
 obtain ⟨k, rfl⟩ : ∃ m, k = m + 1 := ⟨k - 1, by have : 0 < k := hk; omega⟩
 rfl, fun x hx => by cases hx⟩
theorem Pre.le {l : List S45} {p ws : List Int} (h : Pre l p ws) : ws.length ≤ p.length := by rw [h.len]; exact cI_le _ _
theorem Pre.snoc {l : List S45} {p ws : List Int} (h : Pre l p ws) (hl : l.all parcOk = true) (hl8 : l.length ≤ 8) (hp : p.length < l.length) {t : Nat} (ht : t ≤ ws.length) : Pre l (p ++ [(t : Int)]) (bpNext ws t (wt l p.length)) := by
 have hle := h.le
 have hx := parc_get hl (i := p.length) hp
 have hlen : (p ++ [(t : Int)]).length = p.length + 1 := by simp
 have hc : cI (p ++ [(t : Int)]) (p.length + 1) = if t < ws.length then ws.length else ws.length + 1 := by
  simp only [cI]
  rw [cI_app p _ _ (Nat.le_refl _), rd_last, ← h.len]
  split <;> split <;> omega
 refine ⟨fun i hi => ?_, ?_, fun k hk => ?_, fun x hx' => ?_⟩
 ·by_cases e : i = p.length
  ·subst e
   rw [rd_last, cI_app p _ _ (Nat.le_refl _), ← h.len]
   omega
  ·rw [rd_left (by omega) (by omega), cI_app p _ _ (by omega)]
   exact h.plan i (by omega)
 ·rw [bpNext_len, hlen, hc]
 ·obtain ⟨k, rfl⟩ : ∃ m, k = m + 1 := ⟨k - 1, by omega⟩
  unfold spec_bgWeights.f
  exact w_snoc l p ws t hp (by omega) ht (by omega) p.length 0 k [] (by omega) (h.wts k (by omega))
 ·rw [hlen]
  unfold bpNext at hx'
  have hx1 : 1 ≤ wt l p.length ∧ wt l p.length ≤ 1000 := ⟨hx.1, hx.2.1⟩
  rcases List.mem_or_eq_of_mem_set hx' with hm | rfl
  ·split at hm
   ·have := h.pos x hm
    omega
   ·rcases List.mem_append.1 hm with hm | hm
    ·have := h.pos x hm
     omega
    ·rw [List.mem_singleton.1 hm]
     omega
  ·by_cases hq : t < ws.length
   ·rw [if_pos hq]
    have := h.pos _ (rd_mem (a := ws) (n := (t : Int)) (by omega) (by omega))
    rw [w64 (by omega) (by omega)]
    omega
   ·rw [if_neg hq]
    obtain rfl : t = ws.length := by omega
    have e : rd (ws ++ [0]) (ws.length : Int) = 0 := rd_last ws 0
    rw [e, w64 (by omega) (by omega)]
    omega
theorem room_iff {l : List S45} {p ws : List Int} {bag : Int} (hl : l.all parcOk = true) (hp : p.length < l.length) (hb : wt l p.length ≤ bag) {t : Nat} (ht : t ≤ ws.length) : (t = ws.length ∨ wrap64 (rd ws (t : Int) + wt l p.length) ≤ bag) ↔ rd (bpNext ws t (wt l p.length)) (t : Int) ≤ bag := by
 have hx := parc_get hl (i := p.length) hp
 have hx1 : 1 ≤ wt l p.length ∧ wt l p.length ≤ 1000 := ⟨hx.1, hx.2.1⟩
 by_cases e : t = ws.length
 ·subst e
  have e2 : wrap64 (0 + wt l p.length) = wt l p.length := by rw [w64 (by omega) (by omega), Int.zero_add]
  rw [bpNext_rdn, e2]
  exact ⟨fun _ => hb, fun _ => .inl rfl⟩
 ·rw [bpNext_rd (by omega)]
  exact ⟨fun h => h.resolve_left e, .inr⟩
theorem plLoop_len (f : List Int → List Int → List (List Int)) (bag x : Int) (p ws : List Int) (N : Nat) (h : ∀ t, t ≤ ws.length → (f (p ++ [(t : Int)]) (bpNext ws t x)).length ≤ N) : ∀ m t, t + m = ws.length + 1 → (plLoop f bag x p ws m t).length ≤ m * N
 | 0, _, _ => by simp [plLoop]
 | m + 1, t, ht => by
  have ih := plLoop_len f bag x p ws N h m (t + 1) (by omega)
  have h1 := h t (by omega)
  simp only [plLoop, List.length_append]
  rw [Nat.succ_mul]
  split
  ·omega
  ·simp only [List.length_nil]
   omega
theorem plGo_len (l : List S45) (bag : Int) : ∀ (d : Nat) (p ws : List Int), ws.length + d ≤ 8 → (plGo l bag d p ws).length ≤ 9 ^ d
 | 0, p, ws, _ => by simp [plGo]
 | d + 1, p, ws, h => by
  simp only [plGo]
  refine Nat.le_trans (plLoop_len _ bag _ p ws (9 ^ d) (fun t ht => plGo_len l bag d _ _ ?_) (ws.length + 1) 0 (by omega)) ?_
  ·rw [bpNext_len]
   split <;> omega
  ·rw [Nat.pow_succ, Nat.mul_comm]
   exact Nat.mul_le_mul_left _ (by omega)
theorem lkLoop_val (f : List Int → List (List Int) → Option (List (List Int))) (g : List Int → List Int → List (List Int)) (bag x : Int) (p ws : List Int) (N : Nat)
  (hg : ∀ t, t ≤ ws.length → (g (p ++ [(t : Int)]) (bpNext ws t x)).length ≤ N) (hf : ∀ t, t ≤ ws.length → ∀ out : List (List Int), out.length + N ≤ 1000000000 → f (p ++ [(t : Int)]) out = some (out ++ g (p ++ [(t : Int)]) (bpNext ws t x)))
  (hc : ∀ t, t ≤ ws.length → ((t = ws.length ∨ wrap64 (rd ws (t : Int) + x) ≤ bag) ↔ rd (bpNext ws t x) (t : Int) ≤ bag)) : ∀ (m t : Nat) (out : List (List Int)), t + m = ws.length + 1 → out.length + m * N ≤ 1000000000 → lkLoop f bag x p ws m t out = some (out ++ plLoop g bag x p ws m t)
 | 0, _, out, _, _ => by simp [lkLoop, plLoop]
 | m + 1, t, out, ht, ho => by
  rw [Nat.succ_mul] at ho
  have hlen := hg t (by omega)
  simp only [lkLoop, plLoop]
  by_cases h : rd (bpNext ws t x) (t : Int) ≤ bag
  ·rw [if_pos ((hc t (by omega)).2 h), if_pos h, hf t (by omega) out (by omega), Option.bind_some, lkLoop_val f g bag x p ws N hg hf hc m (t + 1) _ (by omega) (by rw [List.length_append]; omega), List.append_assoc]
  ·rw [if_neg (fun h2 => h ((hc t (by omega)).1 h2)), if_neg h, lkLoop_val f g bag x p ws N hg hf hc m (t + 1) _ (by omega) (by omega), List.nil_append]
theorem pow9 {d : Nat} (h : d ≤ 8) : 9 ^ d ≤ 43046721 := Nat.le_trans (Nat.pow_le_pow_right (by omega) h) (by decide)
theorem lkGo_val {l : List S45} {bag : Int} (hl : l.all parcOk = true) (hl8 : l.length ≤ 8) (hb : ∀ i, i < l.length → wt l i ≤ bag) (k : Nat) (hk : 8 < k) : ∀ (d : Nat) (p ws : List Int), Pre l p ws → p.length + d = l.length → ∀ out : List (List Int), out.length + 9 ^ d ≤ 1000000000 → lkGo k l bag d p out = some (out ++ plGo l bag d p ws)
 | 0, p, ws, h, hd, out, ho => by
  simp only [lkGo, plGo]
  rw [if_pos (by omega)]
 | d + 1, p, ws, h, hd, out, ho => by
  have hle := h.le
  simp only [lkGo, plGo]
  rw [h.wts k (by omega), Option.bind_some, if_pos ⟨hle, by omega⟩]
  refine lkLoop_val (lkGo k l bag d) (plGo l bag d) bag (wt l p.length) p ws (9 ^ d) (fun t ht => plGo_len l bag d _ _ (by rw [bpNext_len]; split <;> omega)) (fun t ht o ho => lkGo_val hl hl8 hb k hk d _ _ (h.snoc hl hl8 (by omega) ht) (by simp; omega) o ho) (fun t ht => room_iff hl (by omega) (hb _ (by omega)) ht) (ws.length + 1) 0 out (by omega) ?_
  rw [Nat.pow_succ, Nat.mul_comm] at ho
  have : (ws.length + 1) * 9 ^ d ≤ 9 * 9 ^ d := Nat.mul_le_mul_right _ (by omega)
  omega
theorem plLoop_mem {f : List Int → List Int → List (List Int)} {bag x : Int} {p ws q : List Int} : ∀ {m t : Nat}, q ∈ plLoop f bag x p ws m t → ∃ u, t ≤ u ∧ u < t + m ∧ q ∈ f (p ++ [(u : Int)]) (bpNext ws u x)
 | 0, _, h => by cases h
 | m + 1, t, h => by
  simp only [plLoop] at h
  rcases List.mem_append.1 h with h | h
  ·split at h
   ·exact ⟨t, Nat.le_refl _, by omega, h⟩
   ·cases h
  ·obtain ⟨u, h1, h2, h3⟩ := plLoop_mem h
   exact ⟨u, by omega, by omega, h3⟩
theorem plGo_mem {l : List S45} {bag : Int} (hl : l.all parcOk = true) (hl8 : l.length ≤ 8) : ∀ (d : Nat) (p ws q : List Int), Pre l p ws → p.length + d = l.length → q ∈ plGo l bag d p ws → q.length = l.length ∧ ∃ wq, Pre l q wq
 | 0, p, ws, q, h, hd, hq => by
  simp only [plGo, List.mem_singleton] at hq
  subst hq
  exact ⟨by omega, ws, h⟩
 | d + 1, p, ws, q, h, hd, hq => by
  simp only [plGo] at hq
  obtain ⟨u, h1, h2, h3⟩ := plLoop_mem hq
  exact plGo_mem hl hl8 d _ _ q (h.snoc hl hl8 (by omega) (by omega)) (by simp; omega) h3
theorem plGo_ne {l : List S45} {bag : Int} (hl : l.all parcOk = true) (hl8 : l.length ≤ 8) (hb : ∀ i, i < l.length → wt l i ≤ bag) : ∀ (d : Nat) (p ws : List Int), Pre l p ws → p.length + d = l.length → plGo l bag d p ws ≠ []
 | 0, p, ws, h, hd => by simp [plGo]
 | d + 1, p, ws, h, hd => by
  have key : ∀ m t, t + m = ws.length + 1 → 1 ≤ m → plLoop (plGo l bag d) bag (wt l p.length) p ws m t ≠ [] := by
   intro m
   induction m with
   | zero => intro t _ h1; omega
   | succ m ih =>
    intro t ht _
    simp only [plLoop]
    by_cases e : m = 0
    ·obtain rfl : t = ws.length := by omega
     rw [if_pos ((room_iff hl (by omega) (hb _ (by omega)) (Nat.le_refl _)).1 (.inl rfl))]
     intro hn
     exact plGo_ne hl hl8 hb d _ _ (h.snoc hl hl8 (by omega) (Nat.le_refl _)) (by simp; omega) (List.append_eq_nil_iff.1 hn).1
    ·intro hn
     exact ih (t + 1) (by omega) (by omega) (List.append_eq_nil_iff.1 hn).2
  simp only [plGo]
  exact key _ _ (by omega) (by omega)
def allP (l : List S45) (bag : Int) : List (List Int) := plGo l bag l.length [] []
structure Fit (l : List S45) (bag : Int) : Prop where
 all : l.all parcOk = true
 one : 1 ≤ l.length
 max : l.length ≤ 8
 room : ∀ i, i < l.length → wt l i ≤ bag
theorem bgAll_val {l : List S45} {bag : Int} (h : Fit l bag) (k : Nat) (hk : 8 < k) : spec_bgAll.f k l bag = some (allP l bag) := by
 have := pow9 h.max
 have := lkGo_val h.all h.max h.room k hk l.length [] [] (Pre.nil l) (Nat.zero_add _) [] (by simp only [List.length_nil]; omega)
 rwa [List.nil_append] at this
theorem allP_mem {l : List S45} {bag : Int} (h : Fit l bag) {q : List Int} (hq : q ∈ allP l bag) : q.length = l.length ∧ Plan q := by
 obtain ⟨h1, _, h2⟩ := plGo_mem h.all h.max l.length [] [] q (Pre.nil l) (Nat.zero_add _) hq
 exact ⟨h1, h2.plan⟩
theorem allP_ne {l : List S45} {bag : Int} (h : Fit l bag) : ∃ p ps, allP l bag = p :: ps := List.exists_cons_of_ne_nil (plGo_ne h.all h.max h.room l.length [] [] (Pre.nil l) (Nat.zero_add _))
theorem allP_len {l : List S45} {bag : Int} (h : Fit l bag) : (allP l bag).length ≤ 43046721 := Nat.le_trans (plGo_len l bag l.length [] [] (by simp; exact h.max)) (pow9 h.max)
theorem fits_room {l : List S45} {b : Int} (h : fits l b = true) : Fit l b := by
 obtain ⟨h1, h2, _, _, h3⟩ := fits_facts h
 refine ⟨h3, h1, h2, fun i hi => ?_⟩
 unfold fits at h
 simp only [Bool.and_eq_true] at h
 have h4 := List.all_eq_true.1 h.2.2 l[i] (List.getElem_mem hi)
 have hrd : rd_T45 l (i : Int) = l[i] := by simp [rd_T45, List.getD, List.getElem?_eq_getElem hi]
 unfold wt
 rw [hrd]
 simpa using h4
theorem countTrips_val (l : List S45) {p : List Int} (h : Plan p) (h1 : 1 ≤ p.length) (h8 : p.length ≤ 8) : impl_countTrips.f l p = some (cI p p.length : Int) := by
 have hm := plan_max h (p.length - 1) (by omega)
 rw [show p.length - 1 + 1 = p.length by omega] at hm
 have hle := cI_le p p.length
 unfold impl_countTrips.f slices_Max_int_int.f
 rw [if_pos (by omega), Option.bind_some, hm, w64 (by omega) (by omega)]
 congr 1
 omega
theorem few_rel {l : List S45} (hl : l.all parcOk = true) (h1 : 1 ≤ l.length) (h8 : l.length ≤ 8) : ∀ (P : List (List Int)) (s : BpSt), (∀ p ∈ P, p.length = l.length ∧ Plan p) → 1 ≤ s.count → s.count + (P.length : Int) ≤ 1000000000 →
  ∃ s', foldB (fun p => impl_countTrips.f l p) s P = some s' ∧ ∀ k, 8 < k → fewGo k l P s.best s.least = some (s'.best, s'.least)
 | [], s, _, _, _ => ⟨s, rfl, fun k _ => rfl⟩
 | p :: P, s, hP, hc, hn => by
  obtain ⟨hp1, hp2⟩ := hP p (List.mem_cons_self ..)
  have hct := countTrips_val l hp2 (by omega) (by omega)
  obtain ⟨v, hv, _, _, hw⟩ := weights_both hl hp1 h1 h8 hp2
  have hrest := fun q hq => hP q (List.mem_cons_of_mem _ hq)
  rw [List.length_cons] at hn
  by_cases hlt : (cI p p.length : Int) < s.least
  ·obtain ⟨s', f1, f2⟩ := few_rel hl h1 h8 P ⟨(cI p p.length : Int), 1, p⟩ hrest (by simp) (by simp; omega)
   refine ⟨s', ?_, fun k hk => ?_⟩
   ·simp only [foldB, bpLeaf]
    rw [hct, Option.bind_some, if_pos (.inr hlt), Option.bind_some]
    exact f1
   ·simp only [fewGo]
    rw [hw k hk, Option.bind_some, hv, if_pos hlt]
    exact f2 k hk
  ·have hg : ∀ k, 8 < k → fewGo k l (p :: P) s.best s.least = fewGo k l P s.best s.least := fun k hk => by
    simp only [fewGo]
    rw [hw k hk, Option.bind_some, hv, if_neg hlt]
   by_cases he : (cI p p.length : Int) = s.least
   ·have e : wrap64 (s.count + 1) = s.count + 1 := w64 (by omega) (by omega)
    obtain ⟨s', f1, f2⟩ := few_rel hl h1 h8 P ⟨s.least, s.count + 1, s.best⟩ hrest (by simp; omega) (by simp; omega)
    refine ⟨s', ?_, fun k hk => by rw [hg k hk]; exact f2 k hk⟩
    simp only [foldB, bpLeaf]
    rw [hct, Option.bind_some, if_neg (by omega), if_pos he, Option.bind_some, e]
    exact f1
   ·obtain ⟨s', f1, f2⟩ := few_rel hl h1 h8 P s hrest hc (by omega)
    refine ⟨s', ?_, fun k hk => by rw [hg k hk]; exact f2 k hk⟩
    simp only [foldB, bpLeaf]
    rw [hct, Option.bind_some, if_neg (by omega), if_neg he, Option.bind_some]
    exact f1
theorem short_rel {l : List S45} (hl : l.all parcOk = true) (h1 : 1 ≤ l.length) (h8 : l.length ≤ 8) : ∀ (P : List (List Int)) (s : BpSt), (∀ p ∈ P, p.length = l.length ∧ Plan p) → 1 ≤ s.count → s.count + (P.length : Int) ≤ 1000000000 → 1 ≤ s.best.length →
  ∃ s', (∀ k, 100 < k → foldB (fun p => impl_lengthOf.f k l p) s P = some s') ∧ ∀ k, 100 < k → shortGo k l P s.best s.least s.count = some (s'.best, s'.least, s'.count)
 | [], s, _, _, _, _ => ⟨s, fun k _ => rfl, fun k _ => rfl⟩
 | p :: P, s, hP, hc, hn, hb => by
  obtain ⟨hp1, hp2⟩ := hP p (List.mem_cons_self ..)
  obtain ⟨n, m, w1, w2, _⟩ := lengths_both hl hp1 h1 h8 hp2
  have hrest := fun q hq => hP q (List.mem_cons_of_mem _ hq)
  rw [List.length_cons] at hn
  by_cases hlt : n < s.least
  ·obtain ⟨s', f1, f2⟩ := short_rel hl h1 h8 P ⟨n, 1, p⟩ hrest (by simp) (by simp; omega) (by simp; omega)
   refine ⟨s', fun k hk => ?_, fun k hk => ?_⟩
   ·simp only [foldB, bpLeaf]
    rw [w1 k hk, Option.bind_some, if_pos (.inr hlt), Option.bind_some]
    exact f1 k hk
   ·simp only [shortGo]
    rw [w2 k hk, Option.bind_some, if_pos (.inr hlt)]
    exact f2 k hk
  ·have hno : ¬ (s.best.length = 0 ∨ n < s.least) := by omega
   have hno2 : ¬ (s.count = 0 ∨ n < s.least) := by omega
   by_cases he : n = s.least
   ·have e : wrap64 (s.count + 1) = s.count + 1 := w64 (by omega) (by omega)
    obtain ⟨s', f1, f2⟩ := short_rel hl h1 h8 P ⟨s.least, s.count + 1, s.best⟩ hrest (by simp; omega) (by simp; omega) hb
    refine ⟨s', fun k hk => ?_, fun k hk => ?_⟩
    ·simp only [foldB, bpLeaf]
     rw [w1 k hk, Option.bind_some, if_neg hno2, if_pos he, Option.bind_some, e]
     exact f1 k hk
    ·simp only [shortGo]
     rw [w2 k hk, Option.bind_some, if_neg hno, if_pos he, e]
     exact f2 k hk
   ·obtain ⟨s', f1, f2⟩ := short_rel hl h1 h8 P s hrest hc (by omega) hb
    refine ⟨s', fun k hk => ?_, fun k hk => ?_⟩
    ·simp only [foldB, bpLeaf]
     rw [w1 k hk, Option.bind_some, if_neg hno2, if_neg he, Option.bind_some]
     exact f1 k hk
    ·simp only [shortGo]
     rw [w2 k hk, Option.bind_some, if_neg hno, if_neg he]
     exact f2 k hk
theorem few_both {l : List S45} {b : Int} (h : Fit l b) : ∃ s : BpSt, bpGo (fun p => impl_countTrips.f l p) l b l.length [] [] ⟨0, 0, []⟩ = some s ∧ (∀ k, 8 < k → spec_bgFewest.f k l b = some (s.best, s.least)) ∧ s.best.length = l.length := by
 obtain ⟨p, P, hP⟩ := allP_ne h
 have hlen := allP_len h
 have hmem : ∀ q ∈ p :: P, q.length = l.length ∧ Plan q := fun q hq => allP_mem h (by rw [hP]; exact hq)
 rw [hP, List.length_cons] at hlen
 obtain ⟨hp1, hp2⟩ := hmem p (List.mem_cons_self ..)
 have hct := countTrips_val l hp2 (by have := h.one; omega) (by have := h.max; omega)
 obtain ⟨v, hv, _, _, hw⟩ := weights_both h.all hp1 h.one h.max hp2
 obtain ⟨s', f1, f2⟩ := few_rel h.all h.one h.max P ⟨(cI p p.length : Int), 1, p⟩ (fun q hq => hmem q (List.mem_cons_of_mem _ hq)) (by simp) (by simp; omega)
 have h8 := h.max
 have hle := cI_le p p.length
 have hbl : ∀ (Q : List (List Int)) (s s2 : BpSt), (∀ q ∈ Q, q.length = l.length ∧ Plan q) → s.best.length = l.length → foldB (fun p => impl_countTrips.f l p) s Q = some s2 → s2.best.length = l.length := by
  intro Q
  induction Q with
  | nil =>
   intro s s2 _ hs h2
   obtain rfl := Option.some.inj h2
   exact hs
  | cons q Q ih =>
   intro s s2 hq hs h2
   simp only [foldB, bpLeaf] at h2
   obtain ⟨s3, h3, h4⟩ := Option.bind_eq_some_iff.1 h2
   obtain ⟨o, _, h5⟩ := Option.bind_eq_some_iff.1 h3
   refine ih s3 s2 (fun r hr => hq r (List.mem_cons_of_mem _ hr)) ?_ h4
   split at h5
   ·obtain rfl := Option.some.inj h5
    exact (hq q (List.mem_cons_self ..)).1
   ·split at h5
    ·obtain rfl := Option.some.inj h5
     exact hs
    ·obtain rfl := Option.some.inj h5
     exact hs
 refine ⟨s', ?_, fun k hk => ?_, hbl P _ s' (fun q hq => hmem q (List.mem_cons_of_mem _ hq)) hp1 f1⟩
 ·rw [bpGo_fold]
  show foldB _ _ (allP l b) = _
  rw [hP]
  simp only [foldB, bpLeaf]
  rw [hct, Option.bind_some, if_pos (by simp), Option.bind_some]
  exact f1
 ·unfold spec_bgFewest.f
  rw [bgAll_val h k hk, Option.bind_some, if_pos ⟨by omega, by rw [hP, List.length_cons]; omega⟩, hP]
  simp only [fewGo]
  rw [hw k hk, Option.bind_some, hv, if_pos (by omega)]
  exact f2 k hk
theorem short_both {l : List S45} {b : Int} (h : Fit l b) : ∃ s : BpSt, (∀ k, 100 < k → bpGo (fun p => impl_lengthOf.f k l p) l b l.length [] [] ⟨0, 0, []⟩ = some s) ∧ (∀ k, 100 < k → spec_bgShortest.f k l b = some (s.best, s.least, s.count)) ∧ s.best.length = l.length := by
 obtain ⟨p, P, hP⟩ := allP_ne h
 have hlen := allP_len h
 have hmem : ∀ q ∈ p :: P, q.length = l.length ∧ Plan q := fun q hq => allP_mem h (by rw [hP]; exact hq)
 rw [hP, List.length_cons] at hlen
 obtain ⟨hp1, hp2⟩ := hmem p (List.mem_cons_self ..)
 obtain ⟨n, m, w1, w2, _⟩ := lengths_both h.all hp1 h.one h.max hp2
 obtain ⟨s', f1, f2⟩ := short_rel h.all h.one h.max P ⟨n, 1, p⟩ (fun q hq => hmem q (List.mem_cons_of_mem _ hq)) (by simp) (by simp; omega) (by have := h.one; simp; omega)
 have hbl : ∀ (Q : List (List Int)) (s s2 : BpSt), (∀ q ∈ Q, q.length = l.length ∧ Plan q) → s.best.length = l.length → foldB (fun p => impl_lengthOf.f 101 l p) s Q = some s2 → s2.best.length = l.length := by
  intro Q
  induction Q with
  | nil =>
   intro s s2 _ hs h2
   obtain rfl := Option.some.inj h2
   exact hs
  | cons q Q ih =>
   intro s s2 hq hs h2
   simp only [foldB, bpLeaf] at h2
   obtain ⟨s3, h3, h4⟩ := Option.bind_eq_some_iff.1 h2
   obtain ⟨o, _, h5⟩ := Option.bind_eq_some_iff.1 h3
   refine ih s3 s2 (fun r hr => hq r (List.mem_cons_of_mem _ hr)) ?_ h4
   split at h5
   ·obtain rfl := Option.some.inj h5
    exact (hq q (List.mem_cons_self ..)).1
   ·split at h5
    ·obtain rfl := Option.some.inj h5
     exact hs
    ·obtain rfl := Option.some.inj h5
     exact hs
 refine ⟨s', fun k hk => ?_, fun k hk => ?_, hbl P _ s' (fun q hq => hmem q (List.mem_cons_of_mem _ hq)) hp1 (f1 101 (by omega))⟩
 ·rw [bpGo_fold]
  show foldB _ _ (allP l b) = _
  rw [hP]
  simp only [foldB, bpLeaf]
  rw [w1 k hk, Option.bind_some, if_pos (by simp), Option.bind_some]
  exact f1 k hk
 ·unfold spec_bgShortest.f
  rw [bgAll_val h k (by omega), Option.bind_some, if_pos (by rw [hP, List.length_cons]; omega), hP]
  simp only [shortGo]
  rw [w2 k hk, Option.bind_some, if_pos (by simp)]
  exact f2 k hk
end Go.Proofs.Ytmninaoedoonbaa.Bg
end
section
namespace Go.Proofs.Ytmninaoedoonbaa.Bg
open Go.RowKit Go.Proofs.Ytmninaoedoonbaa.G Go.Proofs.YtmninaoedoonbaaW.PrintWords Go.Proofs.YtmninaoedoonbaaW.PrintLast Go.Proofs.YtmninaoedoonbaaW.PrintMore
theorem FewestTrips_both (l : List S45) (b : Int) : ∃ v : Int × Bool, Ev (fun k => spec_FewestTrips.f k l b) v ∧ impl_FewestTrips.f l b = some v := by
 obtain ⟨K, h⟩ := bgAsked_ev l b
 have h : ∀ k, K ≤ k → spec_bgAsked.f k l b = some (fits l b) := h
 cases hf : fits l b with
 | false => exact ⟨(0, false), ⟨K, fun k hk => by simp [spec_FewestTrips.f, h k hk, hf]⟩, by simp [impl_FewestTrips.f, fitBag_val, hf]⟩
 | true =>
  obtain ⟨s, f1, f2, f3⟩ := few_both (fits_room hf)
  have f4 := (fits_room hf).max
  exact ⟨(s.least, true), ⟨K + 101, fun k hk => by simp [spec_FewestTrips.f, h k (by omega), hf, f2 k (by omega)]⟩, by simp [impl_FewestTrips.f, fitBag_val, hf, (fits_room hf).max, f1]⟩
theorem FirstFewestPlan_both (l : List S45) (b : Int) : ∃ v : List Int × Bool, Ev (fun k => spec_FirstFewestPlan.f k l b) v ∧ impl_FirstFewestPlan.f l b = some v ∧ v.1.length ≤ 1000 := by
 obtain ⟨K, h⟩ := bgAsked_ev l b
 have h : ∀ k, K ≤ k → spec_bgAsked.f k l b = some (fits l b) := h
 cases hf : fits l b with
 | false => exact ⟨([], false), ⟨K, fun k hk => by simp [spec_FirstFewestPlan.f, h k hk, hf]⟩, by simp [impl_FirstFewestPlan.f, fitBag_val, hf], by simp⟩
 | true =>
  obtain ⟨s, f1, f2, f3⟩ := few_both (fits_room hf)
  have f4 := (fits_room hf).max
  exact ⟨(s.best, true), ⟨K + 101, fun k hk => by simp [spec_FirstFewestPlan.f, h k (by omega), hf, f2 k (by omega)]⟩, by simp [impl_FirstFewestPlan.f, fitBag_val, hf, (fits_room hf).max, f1], by simp; omega⟩
theorem LeastLength_both (l : List S45) (b : Int) : ∃ v : Int × Bool, Ev (fun k => spec_LeastLength.f k l b) v ∧ Ev (fun k => impl_LeastLength.f k l b) v := by
 obtain ⟨K, h⟩ := bgAsked_ev l b
 have h : ∀ k, K ≤ k → spec_bgAsked.f k l b = some (fits l b) := h
 cases hf : fits l b with
 | false => exact ⟨(0, false), ⟨K, fun k hk => by simp [spec_LeastLength.f, h k hk, hf]⟩, ⟨0, fun k _ => by simp [impl_LeastLength.f, fitBag_val, hf]⟩⟩
 | true =>
  obtain ⟨s, f1, f2, f3⟩ := short_both (fits_room hf)
  have f4 := (fits_room hf).max
  exact ⟨(s.least, true), ⟨K + 101, fun k hk => by simp [spec_LeastLength.f, h k (by omega), hf, f2 k (by omega)]⟩, ⟨101, fun k hk => by simp [impl_LeastLength.f, fitBag_val, hf, (fits_room hf).max, f1 k (by omega)]⟩⟩
theorem FirstShortestPlan_both (l : List S45) (b : Int) : ∃ v : List Int × Bool, Ev (fun k => spec_FirstShortestPlan.f k l b) v ∧ Ev (fun k => impl_FirstShortestPlan.f k l b) v ∧ v.1.length ≤ 1000 := by
 obtain ⟨K, h⟩ := bgAsked_ev l b
 have h : ∀ k, K ≤ k → spec_bgAsked.f k l b = some (fits l b) := h
 cases hf : fits l b with
 | false => exact ⟨([], false), ⟨K, fun k hk => by simp [spec_FirstShortestPlan.f, h k hk, hf]⟩, ⟨0, fun k _ => by simp [impl_FirstShortestPlan.f, fitBag_val, hf]⟩, by simp⟩
 | true =>
  obtain ⟨s, f1, f2, f3⟩ := short_both (fits_room hf)
  have f4 := (fits_room hf).max
  exact ⟨(s.best, true), ⟨K + 101, fun k hk => by simp [spec_FirstShortestPlan.f, h k (by omega), hf, f2 k (by omega)]⟩, ⟨101, fun k hk => by simp [impl_FirstShortestPlan.f, fitBag_val, hf, (fits_room hf).max, f1 k (by omega)]⟩, by simp; omega⟩
theorem CountShortestPlans_both (l : List S45) (b : Int) : ∃ v : Int × Bool, Ev (fun k => spec_CountShortestPlans.f k l b) v ∧ Ev (fun k => impl_CountShortestPlans.f k l b) v := by
 obtain ⟨K, h⟩ := bgAsked_ev l b
 have h : ∀ k, K ≤ k → spec_bgAsked.f k l b = some (fits l b) := h
 cases hf : fits l b with
 | false => exact ⟨(0, false), ⟨K, fun k hk => by simp [spec_CountShortestPlans.f, h k hk, hf]⟩, ⟨0, fun k _ => by simp [impl_CountShortestPlans.f, fitBag_val, hf]⟩⟩
 | true =>
  obtain ⟨s, f1, f2, f3⟩ := short_both (fits_room hf)
  have f4 := (fits_room hf).max
  exact ⟨(s.count, true), ⟨K + 101, fun k hk => by simp [spec_CountShortestPlans.f, h k (by omega), hf, f2 k (by omega)]⟩, ⟨101, fun k hk => by simp [impl_CountShortestPlans.f, fitBag_val, hf, (fits_room hf).max, f1 k (by omega)]⟩⟩
end Go.Proofs.Ytmninaoedoonbaa.Bg
end
section
namespace Go.Proofs.Ytmninaoedoonbaa.Bg
open Go.RowKit Go.Proofs.Ytmninaoedoonbaa.G Go.Proofs.YtmninaoedoonbaaW.PrintWords Go.Proofs.YtmninaoedoonbaaW.PrintLast Go.Proofs.YtmninaoedoonbaaW.PrintMore
def sumTo (l : List S45) : Nat → Int
 | 0 => 0
 | i + 1 => sumTo l i + wt l i
theorem wt_range {l : List S45} (hl : l.all parcOk = true) {i : Nat} (hi : i < l.length) : 1 ≤ wt l i ∧ wt l i ≤ 1000 := by
 have := parc_get hl hi
 exact ⟨this.1, this.2.1⟩
theorem sumTo_range {l : List S45} (hl : l.all parcOk = true) : ∀ i, i ≤ l.length → 0 ≤ sumTo l i ∧ sumTo l i ≤ 1000 * (i : Int)
 | 0, _ => by simp [sumTo]
 | i + 1, h => by
  have := sumTo_range hl i (by omega)
  have := wt_range hl (i := i) (by omega)
  simp only [sumTo]
  omega
theorem sumTo_mono {l : List S45} (hl : l.all parcOk = true) (i : Nat) : ∀ d, i + d ≤ l.length → sumTo l i ≤ sumTo l (i + d)
 | 0, _ => by simp
 | d + 1, h => by
  have := sumTo_mono hl i d (by omega)
  have := wt_range hl (i := i + d) (by omega)
  show sumTo l i ≤ sumTo l (i + d) + wt l (i + d)
  omega
theorem sum_val {l : List S45} (hl : l.all parcOk = true) (hn : l.length ≤ 8) : ∀ (d i k : Nat), i + d = l.length → d < k → impl_weightOf.l0 k (sumTo l i) l (l.length : Int) (i : Int) = some (sumTo l l.length) ∧ spec_bgSum.l0 k (sumTo l i) l (l.length : Int) (i : Int) = some (sumTo l l.length) := by
 intro d
 induction d with
 | zero =>
  intro i k hi hk
  obtain ⟨k, rfl⟩ : ∃ m, k = m + 1 := ⟨k - 1, by omega⟩
  rw [impl_weightOf.l0, spec_bgSum.l0, if_neg (by omega), if_neg (by omega), show i = l.length by omega]
  exact ⟨rfl, rfl⟩
 | succ d ih =>
  intro i k hi hk
  obtain ⟨k, rfl⟩ : ∃ m, k = m + 1 := ⟨k - 1, by omega⟩
  have h1 := sumTo_range hl i (by omega)
  have h2 := wt_range hl (i := i) (by omega)
  have e : wrap64 (sumTo l i + (rd_T45 l (i : Int)).f1) = sumTo l (i + 1) := by
   show wrap64 (sumTo l i + wt l i) = _
   rw [w64 (by omega) (by omega)]
   rfl
  have e2 : wrap64 ((i : Int) + 1) = ((i + 1 : Nat) : Int) := by rw [w64 (by omega) (by omega)]; rfl
  rw [impl_weightOf.l0, spec_bgSum.l0, if_pos (by omega), if_pos (by omega), if_pos (by omega), if_pos (by omega), if_pos (by omega), if_pos (by omega), e, e2]
  exact ih (i + 1) k (by omega) (by omega)
theorem okP_fit {l : List S45} (h : okP l = true) : Fit l (sumTo l l.length) := by
 have h1 := okP_len h
 have hl : l.all parcOk = true := by
  unfold okP at h
  exact (Bool.and_eq_true_iff.1 h).2
 refine ⟨hl, h1.1, h1.2, fun i hi => ?_⟩
 have h2 := sumTo_mono hl (i + 1) (l.length - (i + 1)) (by omega)
 rw [show i + 1 + (l.length - (i + 1)) = l.length by omega] at h2
 have h3 := (sumTo_range hl i (by omega)).1
 have h4 : sumTo l (i + 1) = sumTo l i + wt l i := rfl
 omega
theorem plGo_first {l : List S45} (h : Fit l (sumTo l l.length)) : ∀ (d : Nat) (p ws : List Int), Pre l p ws → (ws = [] ∧ p = [] ∨ ws = [sumTo l p.length]) → p.length + d = l.length → 1 ≤ p.length + d → ∃ q Q, plGo l (sumTo l l.length) d p ws = q :: Q ∧ q.length = l.length ∧ Pre l q [sumTo l l.length]
 | 0, p, ws, hp, hw, hd, h1 => by
  rcases hw with ⟨_, rfl⟩ | rfl
  ·exact absurd h1 (by simp)
  ·refine ⟨p, [], rfl, by omega, ?_⟩
   rw [show l.length = p.length by omega]
   exact hp
 | d + 1, p, ws, hp, hw, hd, h1 => by
  have hx := wt_range h.all (i := p.length) (by omega)
  have hs := sumTo_range h.all p.length (by omega)
  have h8 := h.max
  have hm := sumTo_mono h.all (p.length + 1) (l.length - (p.length + 1)) (by omega)
  rw [show p.length + 1 + (l.length - (p.length + 1)) = l.length by omega] at hm
  have h4 : sumTo l (p.length + 1) = sumTo l p.length + wt l p.length := rfl
  have hle := hp.le
  have hn : bpNext ws 0 (wt l p.length) = [sumTo l (p.length + 1)] := by
   rcases hw with ⟨rfl, rfl⟩ | rfl
   ·unfold bpNext
    have hx0 : 1 ≤ wt l 0 ∧ wt l 0 ≤ 1000 := hx
    have e : wrap64 (rd ([] ++ [0]) ((0 : Nat) : Int) + wt l 0) = sumTo l (0 + 1) := by
     show wrap64 (0 + wt l 0) = 0 + wt l 0
     exact w64 (by omega) (by omega)
    simp only [List.length_nil, Nat.lt_irrefl, if_false]
    rw [e]
    rfl
   ·unfold bpNext
    have e : wrap64 (rd [sumTo l p.length] ((0 : Nat) : Int) + wt l p.length) = sumTo l (p.length + 1) := by
     show wrap64 (sumTo l p.length + wt l p.length) = _
     rw [w64 (by omega) (by omega), h4]
    simp only [List.length_singleton, Nat.lt_one_iff, if_true]
    rw [e]
    rfl
  have hsn := hp.snoc h.all h.max (by omega) (t := 0) (Nat.zero_le _)
  rw [hn] at hsn
  obtain ⟨q, Q, hq, hq1, hq2⟩ := plGo_first h d (p ++ [((0 : Nat) : Int)]) [sumTo l (p.length + 1)] hsn (.inr (by simp)) (by simp; omega) (by simp; omega)
  refine ⟨q, Q ++ plLoop (plGo l (sumTo l l.length) d) (sumTo l l.length) (wt l p.length) p ws ws.length 1, ?_, hq1, hq2⟩
  simp only [plGo, plLoop]
  rw [hn, if_pos (by show sumTo l (p.length + 1) ≤ _; omega), hq]
  rfl
def hw (v : List Int) : Int := maxTo v (v.length - 1)
def wv (l : List S45) (p : List Int) : List Int := (spec_bgWeights.f 9 l p).getD []
theorem wv_both {l : List S45} {p : List Int} (hl : l.all parcOk = true) (hpl : p.length = l.length) (h1 : 1 ≤ l.length) (hn : l.length ≤ 8) (h : Plan p) :
  (wv l p).length = cI p p.length ∧ (∀ x ∈ wv l p, 1 ≤ x ∧ x ≤ 8000) ∧ (∀ k, 8 < k → impl_weightsOf.f k l p = some (wv l p)) ∧ ∀ k, 8 < k → spec_bgWeights.f k l p = some (wv l p) := by
 obtain ⟨v, h1, h2, h3, h4⟩ := weights_both hl hpl h1 hn h
 have e : wv l p = v := by
  unfold wv
  rw [h4 9 (by omega)]
  rfl
 rw [e]
 exact ⟨h1, h2, h3, h4⟩
theorem lbNum_val {l : List S45} {p : List Int} (hl : l.all parcOk = true) (hpl : p.length = l.length) (h1 : 1 ≤ l.length) (hn : l.length ≤ 8) (h : Plan p) (trips : Int) (k : Nat) (hk : 8 < k) : lbNum k l trips p = some (if ((wv l p).length : Int) > trips then 1000000 else hw (wv l p)) := by
 obtain ⟨a1, a2, a3, a4⟩ := wv_both hl hpl h1 hn h
 have hpos := plan_pos h (by omega)
 unfold lbNum
 rw [countTrips_val l h (by omega) (by omega), Option.bind_some, a3 k hk, Option.bind_some, a1]
 split
 ·rfl
 ·unfold slices_Max_int_int.f
  rw [if_pos (by omega)]
  rfl
end Go.Proofs.Ytmninaoedoonbaa.Bg
end
section
namespace Go.Proofs.Ytmninaoedoonbaa.Bg
open Go.RowKit Go.Proofs.Ytmninaoedoonbaa.G Go.Proofs.YtmninaoedoonbaaW.PrintWords Go.Proofs.YtmninaoedoonbaaW.PrintLast Go.Proofs.YtmninaoedoonbaaW.PrintMore
theorem plLoop_iff {f : List Int → List Int → List (List Int)} {bag x : Int} {p ws q : List Int} : ∀ {m t : Nat}, q ∈ plLoop f bag x p ws m t ↔ ∃ u, t ≤ u ∧ u < t + m ∧ rd (bpNext ws u x) (u : Int) ≤ bag ∧ q ∈ f (p ++ [(u : Int)]) (bpNext ws u x)
 | 0, t => ⟨fun h => (by cases h), fun ⟨u, h1, h2, _⟩ => (by omega)⟩
 | m + 1, t => by
  simp only [plLoop, List.mem_append]
  rw [plLoop_iff (m := m) (t := t + 1)]
  constructor
  ·rintro (h | ⟨u, h1, h2, h3, h4⟩)
   ·by_cases hc : rd (bpNext ws t x) (t : Int) ≤ bag
    ·rw [if_pos hc] at h
     exact ⟨t, Nat.le_refl _, by omega, hc, h⟩
    ·rw [if_neg hc] at h
     cases h
   ·exact ⟨u, by omega, by omega, h3, h4⟩
  ·rintro ⟨u, h1, h2, h3, h4⟩
   by_cases e : u = t
   ·subst e
    left
    rw [if_pos h3]
    exact h4
   ·right
    exact ⟨u, by omega, by omega, h3, h4⟩
theorem bpNext_other {ws : List Int} {t u : Nat} {x : Int} (hne : t ≠ u) (ht : t < ws.length) : rd (bpNext ws u x) (t : Int) = rd ws (t : Int) := by
 unfold bpNext
 split
 ·simp [rd, List.getD, List.getElem?_set_ne (Ne.symm hne)]
 ·simp [rd, List.getD, List.getElem?_set_ne (Ne.symm hne), List.getElem?_append_left ht]
theorem plGo_move {l : List S45} {c b : Int} (hl : l.all parcOk = true) (hl8 : l.length ≤ 8) : ∀ (d : Nat) (p ws q : List Int), Pre l p ws → p.length + d = l.length → q ∈ plGo l c d p ws → (∀ x ∈ ws, x ≤ c) →
  ∃ wq, Pre l q wq ∧ q.length = l.length ∧ ws.length ≤ wq.length ∧ (∀ t : Nat, t < ws.length → rd ws (t : Int) ≤ rd wq (t : Int)) ∧ (∀ x ∈ wq, x ≤ c) ∧ ((∀ x ∈ wq, x ≤ b) → q ∈ plGo l b d p ws) ∧ ∀ i, p.length ≤ i → i < l.length → wt l i ≤ c
 | 0, p, ws, q, h, hd, hq, hc => by
  simp only [plGo, List.mem_singleton] at hq
  subst hq
  exact ⟨ws, h, by omega, Nat.le_refl _, fun _ _ => Int.le_refl _, hc, fun _ => by simp [plGo], fun i h1 h2 => by omega⟩
 | d + 1, p, ws, q, h, hd, hq, hc => by
  simp only [plGo] at hq
  obtain ⟨u, _, hu, hr, hq⟩ := plLoop_iff.1 hq
  have hsn := h.snoc hl hl8 (by omega) (t := u) (by omega)
  have hlen : (p ++ [(u : Int)]).length = p.length + 1 := by simp
  have hx := wt_range hl (i := p.length) (by omega)
  have hle := h.le
  have hN := bpNext_len ws u (wt l p.length)
  have hu' : u < (bpNext ws u (wt l p.length)).length := by rw [hN]; split <;> omega
  have hge : wt l p.length ≤ rd (bpNext ws u (wt l p.length)) (u : Int) := by
   by_cases e : u < ws.length
   ·have hm := h.pos _ (rd_mem (a := ws) (n := (u : Int)) (by omega) (by omega))
    rw [bpNext_rd e, w64 (by omega) (by omega)]
    omega
   ·obtain rfl : u = ws.length := by omega
    rw [bpNext_rdn, w64 (by omega) (by omega)]
    omega
  obtain ⟨wq, a1, a0, a2, a3, a4, a5, a6⟩ := plGo_move (b := b) hl hl8 d _ _ q hsn (by omega) hq (by
   intro y hy
   obtain ⟨j, hj, rfl⟩ := List.getElem_of_mem hy
   rw [← rd_get hj]
   by_cases e : j = u
   ·subst e
    exact hr
   ·have hj' : j < ws.length := by rw [hN] at hj; split at hj <;> omega
    rw [bpNext_other e hj']
    exact hc _ (rd_mem (by omega) (by omega)))
  refine ⟨wq, a1, a0, by rw [hN] at a2; split at a2 <;> omega, fun t ht => ?_, a4, fun hb => ?_, fun i h1 h2 => ?_⟩
  ·have ht' : t < (bpNext ws u (wt l p.length)).length := by rw [hN]; split <;> omega
   have h3 := a3 t ht'
   by_cases e : t = u
   ·subst e
    have hm := h.pos _ (rd_mem (a := ws) (n := (t : Int)) (by omega) (by omega))
    rw [bpNext_rd ht, w64 (by omega) (by omega)] at h3
    omega
   ·rw [bpNext_other e ht] at h3
    exact h3
  ·simp only [plGo]
   refine plLoop_iff.2 ⟨u, by omega, hu, ?_, a5 hb⟩
   have h3 := a3 u hu'
   have h4 := hb _ (rd_mem (a := wq) (n := (u : Int)) (by omega) (by omega))
   omega
  ·by_cases e : i = p.length
   ·subst e
    omega
   ·exact a6 i (by omega) h2
theorem allP_move {l : List S45} {c b : Int} (hl : l.all parcOk = true) (hl8 : l.length ≤ 8) {q : List Int} (hq : q ∈ allP l c) :
  q.length = l.length ∧ Plan q ∧ (∀ x ∈ wv l q, x ≤ c) ∧ ((∀ x ∈ wv l q, x ≤ b) → q ∈ allP l b) ∧ ∀ i, i < l.length → wt l i ≤ c := by
 obtain ⟨wq, a1, a0, _, _, a4, a5, a6⟩ := plGo_move (b := b) hl hl8 l.length [] [] q (Pre.nil l) (Nat.zero_add _) hq (fun x hx => by cases hx)
 have e : wv l q = wq := by
  unfold wv
  rw [a1.wts 9 (by omega)]
  rfl
 rw [e]
 exact ⟨a0, a1.plan, a4, a5, fun i hi => a6 i (Nat.zero_le _) hi⟩
theorem foldB_least (num : List Int → Option Int) (val : List Int → Int) : ∀ (P : List (List Int)) (s s' : BpSt), (∀ p ∈ P, num p = some (val p)) → 1 ≤ s.count → s.count + (P.length : Int) ≤ 1000000000 → foldB num s P = some s' →
  s'.least ≤ s.least ∧ (∀ p ∈ P, s'.least ≤ val p) ∧ (s'.least = s.least ∨ ∃ p ∈ P, s'.least = val p)
 | [], s, s', _, _, _, h => by
  obtain rfl := Option.some.inj h
  exact ⟨Int.le_refl _, fun p hp => (by cases hp), .inl rfl⟩
 | p :: P, s, s', hP, hc, hn, h => by
  have hv := hP p (List.mem_cons_self ..)
  have hr := fun q hq => hP q (List.mem_cons_of_mem _ hq)
  rw [List.length_cons] at hn
  simp only [foldB, bpLeaf] at h
  rw [hv, Option.bind_some] at h
  have fin : ∀ (m : Int), m ≤ s.least → m ≤ val p → (m = s.least ∨ m = val p) → s'.least ≤ m ∧ (∀ q ∈ P, s'.least ≤ val q) ∧ (s'.least = m ∨ ∃ q ∈ P, s'.least = val q) → s'.least ≤ s.least ∧ (∀ q ∈ p :: P, s'.least ≤ val q) ∧ (s'.least = s.least ∨ ∃ q ∈ p :: P, s'.least = val q) := by
   rintro m h1 h2 h3 ⟨a, b, c⟩
   refine ⟨by omega, fun q hq => ?_, ?_⟩
   ·rcases List.mem_cons.1 hq with rfl | hq
    ·omega
    ·exact b q hq
   ·rcases c with c | ⟨q, hq, c⟩
    ·rcases h3 with h3 | h3
     ·exact .inl (by omega)
     ·exact .inr ⟨p, List.mem_cons_self .., by omega⟩
    ·exact .inr ⟨q, List.mem_cons_of_mem _ hq, c⟩
  by_cases hlt : val p < s.least
  ·rw [if_pos (.inr hlt), Option.bind_some] at h
   exact fin (val p) (by omega) (Int.le_refl _) (.inr rfl) (foldB_least num val P ⟨val p, 1, p⟩ s' hr (by simp) (by simp; omega) h)
  ·rw [if_neg (by omega)] at h
   by_cases he : val p = s.least
   ·have e : wrap64 (s.count + 1) = s.count + 1 := w64 (by omega) (by omega)
    rw [if_pos he, Option.bind_some, e] at h
    exact fin s.least (Int.le_refl _) (by omega) (.inl rfl) (foldB_least num val P ⟨s.least, s.count + 1, s.best⟩ s' hr (by simp; omega) (by simp; omega) h)
   ·rw [if_neg he, Option.bind_some] at h
    exact fin s.least (Int.le_refl _) (by omega) (.inl rfl) (foldB_least num val P s s' hr hc (by omega) h)
theorem foldB_some (num : List Int → Option Int) (val : List Int → Int) : ∀ (P : List (List Int)) (s : BpSt), (∀ p ∈ P, num p = some (val p)) → ∃ s', foldB num s P = some s'
 | [], s, _ => ⟨s, rfl⟩
 | p :: P, s, hP => by
  simp only [foldB, bpLeaf]
  rw [hP p (List.mem_cons_self ..), Option.bind_some]
  have hr := fun q hq => hP q (List.mem_cons_of_mem _ hq)
  split
  ·rw [Option.bind_some]
   exact foldB_some num val P _ hr
  ·split
   ·rw [Option.bind_some]
    exact foldB_some num val P _ hr
   ·rw [Option.bind_some]
    exact foldB_some num val P _ hr
theorem hw_ge {v : List Int} {x : Int} (hx : x ∈ v) : x ≤ hw v := by
 obtain ⟨j, hj, rfl⟩ := List.getElem_of_mem hx
 have h := (maxTo_le v (hw v) (v.length - 1) (by omega)).1 (Int.le_refl _) j (by omega)
 rwa [rd_get hj] at h
theorem hw_le {v : List Int} {c : Int} (h1 : 1 ≤ v.length) (h : ∀ x ∈ v, x ≤ c) : hw v ≤ c := (maxTo_le v c (v.length - 1) (by omega)).2 fun j hj => by
 rw [rd_get (by omega)]
 exact h _ (List.getElem_mem _)
theorem light_min {l : List S45} {t v : Int} {k : Nat} (hok : okP l = true) (ht1 : 1 ≤ t) (ht8 : t ≤ 8) (hk : 9 ≤ k) (hv : impl_LightestBag.f k l t = some (v, true)) :
  v ≤ sumTo l l.length ∧ (∀ q ∈ allP l (sumTo l l.length), ((wv l q).length : Int) ≤ t → v ≤ hw (wv l q)) ∧ ∃ q ∈ allP l (sumTo l l.length), ((wv l q).length : Int) ≤ t ∧ v = hw (wv l q) := by
 have hF := okP_fit hok
 have h1 := hF.one
 have h8 := hF.max
 obtain ⟨q, Q, hq, hq1, hq2⟩ := plGo_first hF l.length [] [] (Pre.nil l) (.inl ⟨rfl, rfl⟩) (Nat.zero_add _) (by simp; omega)
 have hq : allP l (sumTo l l.length) = q :: Q := hq
 have hmem : ∀ p ∈ q :: Q, p.length = l.length ∧ Plan p := fun p hp => allP_mem hF (by rw [hq]; exact hp)
 have hlen := allP_len hF
 have hS := sumTo_range hF.all l.length (Nat.le_refl _)
 have hwq : wv l q = [sumTo l l.length] := by
  unfold wv
  rw [hq2.wts 9 (by omega)]
  rfl
 have hhw : hw (wv l q) = sumTo l l.length := by rw [hwq]; rfl
 have hsum : impl_weightOf.f k l = some (sumTo l l.length) := (sum_val hF.all h8 l.length 0 k (by omega) (by omega)).1
 unfold impl_LightestBag.f at hv
 rw [areParcels_val, hok, Option.bind_some, if_pos rfl, within_is', show (decide (t ≥ 1) && decide (t ≤ 8)) = true by simp; omega, Option.bind_some, if_pos rfl, hsum, Option.bind_some, if_pos h8, bpGo_fold] at hv
 have hv : (foldB (lbNum k l t) ⟨0, 0, []⟩ (allP l (sumTo l l.length))).bind (fun s => some (s.least, true)) = some (v, true) := hv
 obtain ⟨s, f1, f2⟩ := Option.bind_eq_some_iff.1 hv
 obtain rfl : s.least = v := by simpa using f2
 clear hv f2
 have hval : ∀ p ∈ q :: Q, lbNum k l t p = some (if ((wv l p).length : Int) > t then 1000000 else hw (wv l p)) := fun p hp => lbNum_val hF.all (hmem p hp).1 h1 h8 (hmem p hp).2 t k (by omega)
 rw [hq] at f1 hlen ⊢
 rw [List.length_cons] at hlen
 have hno : ¬ (((wv l q).length : Int) > t) := by rw [hwq]; simp; omega
 simp only [foldB, bpLeaf] at f1
 rw [hval q (List.mem_cons_self ..), if_neg hno, hhw, Option.bind_some, if_pos (by simp), Option.bind_some] at f1
 obtain ⟨a, b, c⟩ := foldB_least (lbNum k l t) (fun p => if ((wv l p).length : Int) > t then 1000000 else hw (wv l p)) Q ⟨sumTo l l.length, 1, q⟩ s (fun p hp => hval p (List.mem_cons_of_mem _ hp)) (by simp) (by simp; omega) f1
 have a : s.least ≤ sumTo l l.length := a
 refine ⟨a, fun p hp hle => ?_, ?_⟩
 ·rcases List.mem_cons.1 hp with rfl | hp
  ·omega
  ·have this : s.least ≤ (if ((wv l p).length : Int) > t then 1000000 else hw (wv l p)) := b p hp
   rwa [if_neg (by omega)] at this
 ·rcases c with c | ⟨p, hp, c⟩
  ·exact ⟨q, List.mem_cons_self .., by omega, by rw [hhw]; exact c⟩
  ·have c : s.least = (if ((wv l p).length : Int) > t then 1000000 else hw (wv l p)) := c
   by_cases hg : ((wv l p).length : Int) > t
   ·rw [if_pos hg] at c
    omega
   ·rw [if_neg hg] at c
    exact ⟨p, List.mem_cons_of_mem _ hp, by omega, c⟩
end Go.Proofs.Ytmninaoedoonbaa.Bg
end
