/- Texts of this seat's proofs: contracts of its functions and plain laws about them, with no condition beyond those that each theorem states. -/
import Derived.Test.YtcloklakffgbmaaQca8d1d27
import Derived.Shelf.Abstract
import Derived.WalkSpells
import Derived.Deep.RegionHeld3
import Derived.Deep.RegionLaw
import Derived.Lib.SliceRun
set_option maxHeartbeats 8000000
set_option maxRecDepth 100000
section
namespace Go.Proofs.Ytcloklakffgbmaa.G
open Go.RowKit Go.Proofs.YtcloklakffgbmaaW.PrintWords Go.Proofs.YtcloklakffgbmaaW.PrintLast Go.Proofs.YtcloklakffgbmaaW.PrintMore
attribute [local go_sem] max2_int min2_int max_two min_two max_three min_three max_four min_four
set_option linter.unusedVariables false
set_option linter.unusedSimpArgs false
def impl_housesOf.f (a0_0 : Int) (a0_1 : Int) : Option (Int) := if a0_0 = 0 then (some a0_1) else (some (wrap64 (2 * a0_1)))
theorem impl_housesOf.calls (a0_0 : Int) (a0_1 : Int) (r : Int) (w : World) (h : impl_housesOf.f a0_0 a0_1 = some r) :
  Calls Try.prog 80 #[.agg #[.int .i64 a0_0, .int .i64 a0_1]] w fun e w' => e = .returned (.int .i64 r) ∧ Below w.heap.size w w' := by
 have hu30 := Try.underlying30
 have HB := am (Below.refl w.heap.size w)
 have H : (if a0_0 = 0 then (some a0_1) else (some (wrap64 (2 * a0_1)))) = some r := h
 clear h
 by_cases c2 : a0_0 = 0
 ·rw [if_pos c2] at H
  have c2b0 : (a0_0 == 0) = true := beq_iff_eq.mpr c2
  have c2b1 : (a0_0 != 0) = false := bne_eq_false_iff_eq.mpr c2
  clear c2
  obtain rfl := Option.some.inj H
  go_enter Try.func80, Try.ntmps80
  go_wp2_with (first | ((with_reducible refine gate_dst (N := 1) rfl ?_); refine uX (N := 1) (cs := #[.int .i64 a0_0, .int .i64 a0_1]) (t := 30) ?_; intro gb101 hg w3 hbox hb; have BK101 := am (hbox); have GW101 := uE hg; have GE101 := GW101; replace HB := uS hb; clear hb hbox hg; obtain ⟨hcz4_0, hcz4_1, hfz4_0, hfz4_1⟩ := uZ2 BK101))
  go_ret
  exact ⟨uA, by exact uW⟩
 ·rw [if_neg c2] at H
  have c2b0 : (a0_0 == 0) = false := beq_eq_false_iff_ne.mpr c2
  have c2b1 : (a0_0 != 0) = true := bne_iff_ne.mpr c2
  obtain rfl := Option.some.inj H
  go_enter Try.func80, Try.ntmps80
  go_wp2_with (first | ((with_reducible refine gate_dst (N := 1) rfl ?_); refine uX (N := 1) (cs := #[.int .i64 a0_0, .int .i64 a0_1]) (t := 30) ?_; intro gb101 hg w5 hbox hb; have BK101 := am (hbox); have GW101 := uE hg; have GE101 := GW101; replace HB := uS hb; clear hb hbox hg; obtain ⟨hcz6_0, hcz6_1, hfz6_0, hfz6_1⟩ := uZ2 BK101))
  go_ret
  exact ⟨uA, by exact uW⟩
def impl_isHouse.f (a0_0 : Int) (a0_1 : Int) (a1 : Int) : Option (Bool) := (impl_IsStreet.f a0_0 a0_1).bind fun t102 => (if t102 = true then ((impl_housesOf.f a0_0 a0_1).bind fun t103 => ((impl_within.f a1 1 t103).bind fun t104 => (some t104))) else (some false))
theorem impl_isHouse.calls (a0_0 : Int) (a0_1 : Int) (a1 : Int) (r : Bool) (w : World) (h : impl_isHouse.f a0_0 a0_1 a1 = some r) :
  Calls Try.prog 54 #[.agg #[.int .i64 a0_0, .int .i64 a0_1], .int .i64 a1] w fun e w' => e = .returned (.bool r) ∧ Below w.heap.size w w' := by
 have hu30 := Try.underlying30
 have HB := am (Below.refl w.heap.size w)
 have H : ((impl_IsStreet.f a0_0 a0_1).bind fun t102 => (if t102 = true then ((impl_housesOf.f a0_0 a0_1).bind fun t103 => ((impl_within.f a1 1 t103).bind fun t104 => (some t104))) else (some false))) = some r := h
 clear h
 replace H := bH H
 obtain ⟨t102, A30, H⟩ := H
 replace H : (if t102 = true then ((impl_housesOf.f a0_0 a0_1).bind fun t103 => ((impl_within.f a1 1 t103).bind fun t104 => (some t104))) else (some false)) = some r := H
 have A3 := am A30
 clear A30
 by_cases c4 : t102 = true
 ·subst c4
  have H1 : ((impl_housesOf.f a0_0 a0_1).bind fun t103 => ((impl_within.f a1 1 t103).bind fun t104 => (some t104))) = some r := by rw [if_pos rfl] at H; exact H
  clear H
  have H := H1
  clear H1
  replace H := bH H
  obtain ⟨t103, A50, H⟩ := H
  replace H : ((impl_within.f a1 1 t103).bind fun t104 => (some t104)) = some r := H
  have A5 := am A50
  clear A50
  replace H := bH H
  obtain ⟨t104, A60, H⟩ := H
  replace H : (some t104) = some r := H
  have A6 := am A60
  clear A60
  obtain rfl := Option.some.inj H
  go_enter Try.func54, Try.ntmps54
  go_wp2_with (first | ((with_reducible refine gate_dst (N := 2) rfl ?_); refine uX (N := 2) (cs := #[.int .i64 a0_0, .int .i64 a0_1]) (t := 30) ?_; intro gb101 hg w7 hbox hb; have BK101 := am (hbox); have GW101 := uE hg; have GE101 := GW101; replace HB := uS hb; clear hb hbox hg; obtain ⟨hcz8_0, hcz8_1, hfz8_0, hfz8_1⟩ := uZ2 BK101) | ((with_reducible refine gate_callee (f := 79) rfl ?_); refine uGo (some 6) Try.func79 #[.agg #[.int .i64 a0_0, .int .i64 a0_1]] ?_; (with_reducible refine (impl_IsStreet.calls a0_0 a0_1 true _ A3.out).mono ?_); rintro e w9 ⟨rfl, hb⟩; refine ⟨_, rfl, ?_⟩; replace BK101 := uB BK101 hb; replace HB := uS hb; (try clear hb); (try clear hb2); (try clear hk); (try clear hi); obtain ⟨hcz10_0, hcz10_1, hfz10_0, hfz10_1⟩ := uZ2 BK101) | (go_at_call 80; (with_reducible refine (impl_housesOf.calls a0_0 a0_1 t103 _ A5.out).mono ?_); rintro e w11 ⟨rfl, hb⟩; replace BK101 := uB BK101 hb; replace HB := uS hb; (try clear hb); (try clear hb2); (try clear hk); (try clear hi)) | (go_at_call 55; (with_reducible refine (impl_within.calls a1 1 t103 t104 _ A6.out).mono ?_); rintro e w' ⟨rfl, ⟨nd, rfl⟩⟩))
  go_ret
  exact ⟨uA, by exact uW⟩
 ·replace c4 := Bool.eq_false_iff.mpr c4
  subst c4
  have H1 : (some false) = some r := by rw [if_neg (show ¬ (false = true) by decide)] at H; exact H
  clear H
  have H := H1
  clear H1
  obtain rfl := Option.some.inj H
  go_enter Try.func54, Try.ntmps54
  go_wp2_with (first | ((with_reducible refine gate_dst (N := 2) rfl ?_); refine uX (N := 2) (cs := #[.int .i64 a0_0, .int .i64 a0_1]) (t := 30) ?_; intro gb101 hg w12 hbox hb; have BK101 := am (hbox); have GW101 := uE hg; have GE101 := GW101; replace HB := uS hb; clear hb hbox hg; obtain ⟨hcz13_0, hcz13_1, hfz13_0, hfz13_1⟩ := uZ2 BK101) | ((with_reducible refine gate_callee (f := 79) rfl ?_); refine uGo (some 6) Try.func79 #[.agg #[.int .i64 a0_0, .int .i64 a0_1]] ?_; (with_reducible refine (impl_IsStreet.calls a0_0 a0_1 false _ A3.out).mono ?_); rintro e w14 ⟨rfl, hb⟩; refine ⟨_, rfl, ?_⟩; replace BK101 := uB BK101 hb; replace HB := uS hb; (try clear hb); (try clear hb2); (try clear hk); (try clear hi)))
  go_ret
  exact ⟨uA, by exact uW⟩
def impl_plotOf.f (a0_0 : Int) (a0_1 : Int) (a1 : Int) : Option (Int × Int) := if a0_0 = 1 then (some (Int.tmod (wrap64 (a1 - 1)) 2, wrap64 (Int.tdiv (wrap64 (a1 - 1)) 2))) else (if a1 > a0_1 then (some (1, wrap64 ((wrap64 (2 * a0_1)) - a1))) else (some (0, wrap64 (a1 - 1))))
theorem impl_plotOf.calls (a0_0 : Int) (a0_1 : Int) (a1 : Int) (r1 : Int) (r2 : Int) (w : World) (h : impl_plotOf.f a0_0 a0_1 a1 = some (r1, r2)) :
  Calls Try.prog 62 #[.agg #[.int .i64 a0_0, .int .i64 a0_1], .int .i64 a1] w fun e w' => e = .returned (.tuple #[.int .i64 r1, .int .i64 r2]) ∧ Below w.heap.size w w' := by
 have hu30 := Try.underlying30
 have HB := am (Below.refl w.heap.size w)
 have H : (if a0_0 = 1 then (some (Int.tmod (wrap64 (a1 - 1)) 2, wrap64 (Int.tdiv (wrap64 (a1 - 1)) 2))) else (if a1 > a0_1 then (some (1, wrap64 ((wrap64 (2 * a0_1)) - a1))) else (some (0, wrap64 (a1 - 1))))) = some (r1, r2) := h
 clear h
 by_cases c3 : a0_0 = 1
 ·rw [if_pos c3] at H
  have c3b0 : (a0_0 == 1) = true := beq_iff_eq.mpr c3
  have c3b1 : (a0_0 != 1) = false := bne_eq_false_iff_eq.mpr c3
  clear c3
  simp only [Option.some.injEq, Prod.mk.injEq] at H
  obtain ⟨rfl, rfl⟩ := H
  go_enter Try.func62, Try.ntmps62
  go_wp2_with (first | ((with_reducible refine gate_dst (N := 2) rfl ?_); refine uX (N := 2) (cs := #[.int .i64 a0_0, .int .i64 a0_1]) (t := 30) ?_; intro gb101 hg w4 hbox hb; have BK101 := am (hbox); have GW101 := uE hg; have GE101 := GW101; replace HB := uS hb; clear hb hbox hg; obtain ⟨hcz5_0, hcz5_1, hfz5_0, hfz5_1⟩ := uZ2 BK101))
  repeat (go_quiet (first | ((with_reducible refine gate_dst (N := 2) rfl ?_); refine uX (N := 2) (cs := #[.int .i64 a0_0, .int .i64 a0_1]) (t := 30) ?_; intro gb101 hg w4 hbox hb; have BK101 := am (hbox); have GW101 := uE hg; have GE101 := GW101; replace HB := uS hb; clear hb hbox hg; obtain ⟨hcz5_0, hcz5_1, hfz5_0, hfz5_1⟩ := uZ2 BK101)); try go_wp2_with (first | ((with_reducible refine gate_dst (N := 2) rfl ?_); refine uX (N := 2) (cs := #[.int .i64 a0_0, .int .i64 a0_1]) (t := 30) ?_; intro gb101 hg w4 hbox hb; have BK101 := am (hbox); have GW101 := uE hg; have GE101 := GW101; replace HB := uS hb; clear hb hbox hg; obtain ⟨hcz5_0, hcz5_1, hfz5_0, hfz5_1⟩ := uZ2 BK101)))
  go_ret2
  exact ⟨uA, by exact uW⟩
 ·rw [if_neg c3] at H
  have c3b0 : (a0_0 == 1) = false := beq_eq_false_iff_ne.mpr c3
  have c3b1 : (a0_0 != 1) = true := bne_iff_ne.mpr c3
  by_cases c6 : a1 > a0_1
  ·rw [if_pos c6] at H
   have c6b0 : decide (a0_1 < a1) = true := decide_eq_true c6
   clear c6
   simp only [Option.some.injEq, Prod.mk.injEq] at H
   obtain ⟨rfl, rfl⟩ := H
   go_enter Try.func62, Try.ntmps62
   go_wp2_with (first | ((with_reducible refine gate_dst (N := 2) rfl ?_); refine uX (N := 2) (cs := #[.int .i64 a0_0, .int .i64 a0_1]) (t := 30) ?_; intro gb101 hg w7 hbox hb; have BK101 := am (hbox); have GW101 := uE hg; have GE101 := GW101; replace HB := uS hb; clear hb hbox hg; obtain ⟨hcz8_0, hcz8_1, hfz8_0, hfz8_1⟩ := uZ2 BK101))
   repeat (go_quiet (first | ((with_reducible refine gate_dst (N := 2) rfl ?_); refine uX (N := 2) (cs := #[.int .i64 a0_0, .int .i64 a0_1]) (t := 30) ?_; intro gb101 hg w7 hbox hb; have BK101 := am (hbox); have GW101 := uE hg; have GE101 := GW101; replace HB := uS hb; clear hb hbox hg; obtain ⟨hcz8_0, hcz8_1, hfz8_0, hfz8_1⟩ := uZ2 BK101)); try go_wp2_with (first | ((with_reducible refine gate_dst (N := 2) rfl ?_); refine uX (N := 2) (cs := #[.int .i64 a0_0, .int .i64 a0_1]) (t := 30) ?_; intro gb101 hg w7 hbox hb; have BK101 := am (hbox); have GW101 := uE hg; have GE101 := GW101; replace HB := uS hb; clear hb hbox hg; obtain ⟨hcz8_0, hcz8_1, hfz8_0, hfz8_1⟩ := uZ2 BK101)))
   go_ret2
   exact ⟨uA, by exact uW⟩
  ·rw [if_neg c6] at H
   have c6b0 : decide (a0_1 < a1) = false := decide_eq_false c6
   clear c6
   simp only [Option.some.injEq, Prod.mk.injEq] at H
   obtain ⟨rfl, rfl⟩ := H
   go_enter Try.func62, Try.ntmps62
   go_wp2_with (first | ((with_reducible refine gate_dst (N := 2) rfl ?_); refine uX (N := 2) (cs := #[.int .i64 a0_0, .int .i64 a0_1]) (t := 30) ?_; intro gb101 hg w9 hbox hb; have BK101 := am (hbox); have GW101 := uE hg; have GE101 := GW101; replace HB := uS hb; clear hb hbox hg; obtain ⟨hcz10_0, hcz10_1, hfz10_0, hfz10_1⟩ := uZ2 BK101))
   repeat (go_quiet (first | ((with_reducible refine gate_dst (N := 2) rfl ?_); refine uX (N := 2) (cs := #[.int .i64 a0_0, .int .i64 a0_1]) (t := 30) ?_; intro gb101 hg w9 hbox hb; have BK101 := am (hbox); have GW101 := uE hg; have GE101 := GW101; replace HB := uS hb; clear hb hbox hg; obtain ⟨hcz10_0, hcz10_1, hfz10_0, hfz10_1⟩ := uZ2 BK101)); try go_wp2_with (first | ((with_reducible refine gate_dst (N := 2) rfl ?_); refine uX (N := 2) (cs := #[.int .i64 a0_0, .int .i64 a0_1]) (t := 30) ?_; intro gb101 hg w9 hbox hb; have BK101 := am (hbox); have GW101 := uE hg; have GE101 := GW101; replace HB := uS hb; clear hb hbox hg; obtain ⟨hcz10_0, hcz10_1, hfz10_0, hfz10_1⟩ := uZ2 BK101)))
   go_ret2
   exact ⟨uA, by exact uW⟩
def impl_numberAt.f (a0_0 : Int) (a0_1 : Int) (a1 : Int) (a2 : Int) : Option (Int) := if a0_0 = 1 then (some (wrap64 ((wrap64 ((wrap64 (2 * a2)) + 1)) + a1))) else (if a1 = 1 then (some (wrap64 ((wrap64 (2 * a0_1)) - a2))) else (some (wrap64 (a2 + 1))))
theorem impl_numberAt.calls (a0_0 : Int) (a0_1 : Int) (a1 : Int) (a2 : Int) (r : Int) (w : World) (h : impl_numberAt.f a0_0 a0_1 a1 a2 = some r) :
  Calls Try.prog 65 #[.agg #[.int .i64 a0_0, .int .i64 a0_1], .int .i64 a1, .int .i64 a2] w fun e w' => e = .returned (.int .i64 r) ∧ Below w.heap.size w w' := by
 have hu30 := Try.underlying30
 have HB := am (Below.refl w.heap.size w)
 have H : (if a0_0 = 1 then (some (wrap64 ((wrap64 ((wrap64 (2 * a2)) + 1)) + a1))) else (if a1 = 1 then (some (wrap64 ((wrap64 (2 * a0_1)) - a2))) else (some (wrap64 (a2 + 1))))) = some r := h
 clear h
 by_cases c4 : a0_0 = 1
 ·rw [if_pos c4] at H
  have c4b0 : (a0_0 == 1) = true := beq_iff_eq.mpr c4
  have c4b1 : (a0_0 != 1) = false := bne_eq_false_iff_eq.mpr c4
  clear c4
  obtain rfl := Option.some.inj H
  go_enter Try.func65, Try.ntmps65
  go_wp2_with (first | ((with_reducible refine gate_dst (N := 3) rfl ?_); refine uX (N := 3) (cs := #[.int .i64 a0_0, .int .i64 a0_1]) (t := 30) ?_; intro gb101 hg w5 hbox hb; have BK101 := am (hbox); have GW101 := uE hg; have GE101 := GW101; replace HB := uS hb; clear hb hbox hg; obtain ⟨hcz6_0, hcz6_1, hfz6_0, hfz6_1⟩ := uZ2 BK101))
  go_ret
  exact ⟨uA, by exact uW⟩
 ·rw [if_neg c4] at H
  have c4b0 : (a0_0 == 1) = false := beq_eq_false_iff_ne.mpr c4
  have c4b1 : (a0_0 != 1) = true := bne_iff_ne.mpr c4
  by_cases c7 : a1 = 1
  ·rw [if_pos c7] at H
   have c7b0 : (a1 == 1) = true := beq_iff_eq.mpr c7
   have c7b1 : (a1 != 1) = false := bne_eq_false_iff_eq.mpr c7
   clear c7
   obtain rfl := Option.some.inj H
   go_enter Try.func65, Try.ntmps65
   go_wp2_with (first | ((with_reducible refine gate_dst (N := 3) rfl ?_); refine uX (N := 3) (cs := #[.int .i64 a0_0, .int .i64 a0_1]) (t := 30) ?_; intro gb101 hg w8 hbox hb; have BK101 := am (hbox); have GW101 := uE hg; have GE101 := GW101; replace HB := uS hb; clear hb hbox hg; obtain ⟨hcz9_0, hcz9_1, hfz9_0, hfz9_1⟩ := uZ2 BK101))
   go_ret
   exact ⟨uA, by exact uW⟩
  ·rw [if_neg c7] at H
   have c7b0 : (a1 == 1) = false := beq_eq_false_iff_ne.mpr c7
   have c7b1 : (a1 != 1) = true := bne_iff_ne.mpr c7
   obtain rfl := Option.some.inj H
   go_enter Try.func65, Try.ntmps65
   go_wp2_with (first | ((with_reducible refine gate_dst (N := 3) rfl ?_); refine uX (N := 3) (cs := #[.int .i64 a0_0, .int .i64 a0_1]) (t := 30) ?_; intro gb101 hg w10 hbox hb; have BK101 := am (hbox); have GW101 := uE hg; have GE101 := GW101; replace HB := uS hb; clear hb hbox hg; obtain ⟨hcz11_0, hcz11_1, hfz11_0, hfz11_1⟩ := uZ2 BK101))
   go_ret
   exact ⟨uA, by exact uW⟩
def impl_oneIf.f (a0 : Bool) : Option (Int) := if a0 = true then (some 1) else (some 0)
theorem impl_oneIf.calls (a0 : Bool) (r : Int) (w : World) (h : impl_oneIf.f a0 = some r) :
  Calls Try.prog 81 #[.bool a0] w fun e w' => e = .returned (.int .i64 r) ∧ Drawn0 w w' := by
 have H : (if a0 = true then (some 1) else (some 0)) = some r := h
 clear h
 by_cases c2 : a0 = true
 ·subst c2
  have H1 : (some 1) = some r := by rw [if_pos rfl] at H; exact H
  clear H
  have H := H1
  clear H1
  obtain rfl := Option.some.inj H
  go_enter Try.func81, Try.ntmps81
  go_wp2
  go_ret
  exact ⟨by first | rfl | (simp; done) | (simp [*]; done), by repeat (first | exact Drawn0.refl _ | apply Drawn0.step)⟩
 ·replace c2 := Bool.eq_false_iff.mpr c2
  subst c2
  have H1 : (some 0) = some r := by rw [if_neg (show ¬ (false = true) by decide)] at H; exact H
  clear H
  have H := H1
  clear H1
  obtain rfl := Option.some.inj H
  go_enter Try.func81, Try.ntmps81
  go_wp2
  go_ret
  exact ⟨by first | rfl | (simp; done) | (simp [*]; done), by repeat (first | exact Drawn0.refl _ | apply Drawn0.step)⟩
def impl_toldBy.f (a0_0 : Int) (a0_1 : Int) (a1_0 : Int) (a1_1 : Int) (a1_2 : Int) (a2 : Int) : Option (Int) := (impl_plotOf.f a0_0 a0_1 a2).bind fun bt103 => (if a1_0 = 0 then (some bt103.1) else (if a1_0 = 1 then (some bt103.2) else (if a1_0 = 2 then (if a1_1 = 0 then (none) else ((impl_oneIf.f ((Int.tmod a2 a1_1) == 0)).bind fun t105 => (some t105))) else (if a1_0 = 3 then (some (wrap64 ((wrap64 (Int.tdiv a2 10)) + (Int.tmod a2 10)))) else (if a1_0 = 4 then ((impl_oneIf.f (decide (a2 > a1_1))).bind fun t106 => (some t106)) else (if a0_0 = 0 then (some 0) else ((impl_numberAt.f a0_0 a0_1 (wrap64 (1 - bt103.1)) bt103.2).bind fun t107 => (some t107))))))))
theorem impl_toldBy.calls (a0_0 : Int) (a0_1 : Int) (a1_0 : Int) (a1_1 : Int) (a1_2 : Int) (a2 : Int) (r : Int) (w : World) (h : impl_toldBy.f a0_0 a0_1 a1_0 a1_1 a1_2 a2 = some r) :
  Calls Try.prog 56 #[.agg #[.int .i64 a0_0, .int .i64 a0_1], .agg #[.int .i64 a1_0, .int .i64 a1_1, .int .i64 a1_2], .int .i64 a2] w fun e w' => e = .returned (.int .i64 r) ∧ Below w.heap.size w w' := by
 have hu30 := Try.underlying30
 have hu37 := Try.underlying37
 have HB := am (Below.refl w.heap.size w)
 have H : ((impl_plotOf.f a0_0 a0_1 a2).bind fun bt103 => (if a1_0 = 0 then (some bt103.1) else (if a1_0 = 1 then (some bt103.2) else (if a1_0 = 2 then (if a1_1 = 0 then (none) else ((impl_oneIf.f ((Int.tmod a2 a1_1) == 0)).bind fun t105 => (some t105))) else (if a1_0 = 3 then (some (wrap64 ((wrap64 (Int.tdiv a2 10)) + (Int.tmod a2 10)))) else (if a1_0 = 4 then ((impl_oneIf.f (decide (a2 > a1_1))).bind fun t106 => (some t106)) else (if a0_0 = 0 then (some 0) else ((impl_numberAt.f a0_0 a0_1 (wrap64 (1 - bt103.1)) bt103.2).bind fun t107 => (some t107))))))))) = some r := h
 clear h
 replace H := bH H
 obtain ⟨⟨t103, t104⟩, A40, H⟩ := H
 replace H : (if a1_0 = 0 then (some t103) else (if a1_0 = 1 then (some t104) else (if a1_0 = 2 then (if a1_1 = 0 then (none) else ((impl_oneIf.f ((Int.tmod a2 a1_1) == 0)).bind fun t105 => (some t105))) else (if a1_0 = 3 then (some (wrap64 ((wrap64 (Int.tdiv a2 10)) + (Int.tmod a2 10)))) else (if a1_0 = 4 then ((impl_oneIf.f (decide (a2 > a1_1))).bind fun t106 => (some t106)) else (if a0_0 = 0 then (some 0) else ((impl_numberAt.f a0_0 a0_1 (wrap64 (1 - t103)) t104).bind fun t107 => (some t107)))))))) = some r := H
 have A4 := am A40
 clear A40
 by_cases c5 : a1_0 = 0
 ·rw [if_pos c5] at H
  have c5b0 : (a1_0 == 0) = true := beq_iff_eq.mpr c5
  have c5b1 : (a1_0 != 0) = false := bne_eq_false_iff_eq.mpr c5
  clear c5
  obtain rfl := Option.some.inj H
  go_enter Try.func56, Try.ntmps56
  go_wp2_with (first | ((with_reducible refine gate_dst (N := 3) rfl ?_); refine uX (N := 3) (cs := #[.int .i64 a0_0, .int .i64 a0_1]) (t := 30) ?_; intro gb101 hg w6 hbox hb; have BK101 := am (hbox); have GW101 := uE hg; have GE101 := GW101; replace HB := uS hb; clear hb hbox hg) | ((with_reducible refine gate_dst (N := 4) rfl ?_); refine uX (N := 4) (cs := #[.int .i64 a1_0, .int .i64 a1_1, .int .i64 a1_2]) (t := 37) ?_; intro gb102 hg w7 hbox hb; have BK102 := am (hbox); have GW102 := uE hg; have GE102 := GW102; have NB101_102 := uL BK101 hg; have NB102_101 := uY NB101_102; replace BK101 := uB BK101 hb; replace HB := uS hb; clear hb hbox hg; have hnb8 := NB101_102.out; have hnc8 := NB102_101.out; obtain ⟨hcz9_0, hcz9_1, hfz9_0, hfz9_1⟩ := uZ2 BK101) | ((with_reducible refine gate_callee (f := 62) rfl ?_); refine uGo (some 12) Try.func62 #[.agg #[.int .i64 a0_0, .int .i64 a0_1], .int .i64 a2] ?_; (with_reducible refine (impl_plotOf.calls a0_0 a0_1 a2 t103 t104 _ A4.out).mono ?_); rintro e w10 ⟨rfl, hb⟩; refine ⟨_, rfl, ?_⟩; replace BK101 := uB BK101 hb; replace BK102 := uB BK102 hb; replace HB := uS hb; (try clear hb); (try clear hb2); (try clear hk); (try clear hi); obtain ⟨hcz11_0, hcz11_1, hcz11_2, hfz11_0, hfz11_1, hfz11_2⟩ := uZ3 BK102))
  go_ret
  exact ⟨uA, by exact uW⟩
 ·rw [if_neg c5] at H
  have c5b0 : (a1_0 == 0) = false := beq_eq_false_iff_ne.mpr c5
  have c5b1 : (a1_0 != 0) = true := bne_iff_ne.mpr c5
  by_cases c12 : a1_0 = 1
  ·rw [if_pos c12] at H
   have c12b0 : (a1_0 == 1) = true := beq_iff_eq.mpr c12
   have c12b1 : (a1_0 != 1) = false := bne_eq_false_iff_eq.mpr c12
   clear c12
   obtain rfl := Option.some.inj H
   go_enter Try.func56, Try.ntmps56
   go_wp2_with (first | ((with_reducible refine gate_dst (N := 3) rfl ?_); refine uX (N := 3) (cs := #[.int .i64 a0_0, .int .i64 a0_1]) (t := 30) ?_; intro gb101 hg w13 hbox hb; have BK101 := am (hbox); have GW101 := uE hg; have GE101 := GW101; replace HB := uS hb; clear hb hbox hg) | ((with_reducible refine gate_dst (N := 4) rfl ?_); refine uX (N := 4) (cs := #[.int .i64 a1_0, .int .i64 a1_1, .int .i64 a1_2]) (t := 37) ?_; intro gb102 hg w14 hbox hb; have BK102 := am (hbox); have GW102 := uE hg; have GE102 := GW102; have NB101_102 := uL BK101 hg; have NB102_101 := uY NB101_102; replace BK101 := uB BK101 hb; replace HB := uS hb; clear hb hbox hg; have hnb15 := NB101_102.out; have hnc15 := NB102_101.out; obtain ⟨hcz16_0, hcz16_1, hfz16_0, hfz16_1⟩ := uZ2 BK101) | ((with_reducible refine gate_callee (f := 62) rfl ?_); refine uGo (some 12) Try.func62 #[.agg #[.int .i64 a0_0, .int .i64 a0_1], .int .i64 a2] ?_; (with_reducible refine (impl_plotOf.calls a0_0 a0_1 a2 t103 t104 _ A4.out).mono ?_); rintro e w17 ⟨rfl, hb⟩; refine ⟨_, rfl, ?_⟩; replace BK101 := uB BK101 hb; replace BK102 := uB BK102 hb; replace HB := uS hb; (try clear hb); (try clear hb2); (try clear hk); (try clear hi); obtain ⟨hcz18_0, hcz18_1, hcz18_2, hfz18_0, hfz18_1, hfz18_2⟩ := uZ3 BK102))
   go_ret
   exact ⟨uA, by exact uW⟩
  ·rw [if_neg c12] at H
   have c12b0 : (a1_0 == 1) = false := beq_eq_false_iff_ne.mpr c12
   have c12b1 : (a1_0 != 1) = true := bne_iff_ne.mpr c12
   by_cases c19 : a1_0 = 2
   ·rw [if_pos c19] at H
    have c19b0 : (a1_0 == 2) = true := beq_iff_eq.mpr c19
    have c19b1 : (a1_0 != 2) = false := bne_eq_false_iff_eq.mpr c19
    clear c19
    by_cases c20 : a1_1 = 0
    ·rw [if_pos c20] at H
     exact absurd H (by simp)
    ·rw [if_neg c20] at H
     have c20b0 : (a1_1 == 0) = false := beq_eq_false_iff_ne.mpr c20
     have c20b1 : (a1_1 != 0) = true := bne_iff_ne.mpr c20
     replace H := bH H
     obtain ⟨t105, A210, H⟩ := H
     replace H : (some t105) = some r := H
     have A21 := am A210
     clear A210
     obtain rfl := Option.some.inj H
     go_enter Try.func56, Try.ntmps56
     go_wp2_with (first | ((with_reducible refine gate_dst (N := 3) rfl ?_); refine uX (N := 3) (cs := #[.int .i64 a0_0, .int .i64 a0_1]) (t := 30) ?_; intro gb101 hg w22 hbox hb; have BK101 := am (hbox); have GW101 := uE hg; have GE101 := GW101; replace HB := uS hb; clear hb hbox hg) | ((with_reducible refine gate_dst (N := 4) rfl ?_); refine uX (N := 4) (cs := #[.int .i64 a1_0, .int .i64 a1_1, .int .i64 a1_2]) (t := 37) ?_; intro gb102 hg w23 hbox hb; have BK102 := am (hbox); have GW102 := uE hg; have GE102 := GW102; have NB101_102 := uL BK101 hg; have NB102_101 := uY NB101_102; replace BK101 := uB BK101 hb; replace HB := uS hb; clear hb hbox hg; have hnb24 := NB101_102.out; have hnc24 := NB102_101.out; obtain ⟨hcz25_0, hcz25_1, hfz25_0, hfz25_1⟩ := uZ2 BK101) | ((with_reducible refine gate_callee (f := 62) rfl ?_); refine uGo (some 12) Try.func62 #[.agg #[.int .i64 a0_0, .int .i64 a0_1], .int .i64 a2] ?_; (with_reducible refine (impl_plotOf.calls a0_0 a0_1 a2 t103 t104 _ A4.out).mono ?_); rintro e w26 ⟨rfl, hb⟩; refine ⟨_, rfl, ?_⟩; replace BK101 := uB BK101 hb; replace BK102 := uB BK102 hb; replace HB := uS hb; (try clear hb); (try clear hb2); (try clear hk); (try clear hi); obtain ⟨hcz27_0, hcz27_1, hcz27_2, hfz27_0, hfz27_1, hfz27_2⟩ := uZ3 BK102) | ((with_reducible refine gate_callee (f := 81) rfl ?_); refine uGo (some 30) Try.func81 #[.bool ((Int.tmod a2 a1_1) == 0)] ?_; (with_reducible refine (impl_oneIf.calls ((Int.tmod a2 a1_1) == 0) t105 _ A21.out).mono ?_); rintro e w' ⟨rfl, ⟨nd, rfl⟩⟩; refine ⟨_, rfl, ?_⟩))
     go_ret
     exact ⟨uA, by exact uW⟩
   ·rw [if_neg c19] at H
    have c19b0 : (a1_0 == 2) = false := beq_eq_false_iff_ne.mpr c19
    have c19b1 : (a1_0 != 2) = true := bne_iff_ne.mpr c19
    by_cases c28 : a1_0 = 3
    ·rw [if_pos c28] at H
     have c28b0 : (a1_0 == 3) = true := beq_iff_eq.mpr c28
     have c28b1 : (a1_0 != 3) = false := bne_eq_false_iff_eq.mpr c28
     clear c28
     obtain rfl := Option.some.inj H
     go_enter Try.func56, Try.ntmps56
     go_wp2_with (first | ((with_reducible refine gate_dst (N := 3) rfl ?_); refine uX (N := 3) (cs := #[.int .i64 a0_0, .int .i64 a0_1]) (t := 30) ?_; intro gb101 hg w29 hbox hb; have BK101 := am (hbox); have GW101 := uE hg; have GE101 := GW101; replace HB := uS hb; clear hb hbox hg) | ((with_reducible refine gate_dst (N := 4) rfl ?_); refine uX (N := 4) (cs := #[.int .i64 a1_0, .int .i64 a1_1, .int .i64 a1_2]) (t := 37) ?_; intro gb102 hg w30 hbox hb; have BK102 := am (hbox); have GW102 := uE hg; have GE102 := GW102; have NB101_102 := uL BK101 hg; have NB102_101 := uY NB101_102; replace BK101 := uB BK101 hb; replace HB := uS hb; clear hb hbox hg; have hnb31 := NB101_102.out; have hnc31 := NB102_101.out; obtain ⟨hcz32_0, hcz32_1, hfz32_0, hfz32_1⟩ := uZ2 BK101) | ((with_reducible refine gate_callee (f := 62) rfl ?_); refine uGo (some 12) Try.func62 #[.agg #[.int .i64 a0_0, .int .i64 a0_1], .int .i64 a2] ?_; (with_reducible refine (impl_plotOf.calls a0_0 a0_1 a2 t103 t104 _ A4.out).mono ?_); rintro e w33 ⟨rfl, hb⟩; refine ⟨_, rfl, ?_⟩; replace BK101 := uB BK101 hb; replace BK102 := uB BK102 hb; replace HB := uS hb; (try clear hb); (try clear hb2); (try clear hk); (try clear hi); obtain ⟨hcz34_0, hcz34_1, hcz34_2, hfz34_0, hfz34_1, hfz34_2⟩ := uZ3 BK102))
     go_ret
     exact ⟨uA, by exact uW⟩
    ·rw [if_neg c28] at H
     have c28b0 : (a1_0 == 3) = false := beq_eq_false_iff_ne.mpr c28
     have c28b1 : (a1_0 != 3) = true := bne_iff_ne.mpr c28
     by_cases c35 : a1_0 = 4
     ·rw [if_pos c35] at H
      have c35b0 : (a1_0 == 4) = true := beq_iff_eq.mpr c35
      have c35b1 : (a1_0 != 4) = false := bne_eq_false_iff_eq.mpr c35
      clear c35
      replace H := bH H
      obtain ⟨t106, A360, H⟩ := H
      replace H : (some t106) = some r := H
      have A36 := am A360
      clear A360
      obtain rfl := Option.some.inj H
      go_enter Try.func56, Try.ntmps56
      go_wp2_with (first | ((with_reducible refine gate_dst (N := 3) rfl ?_); refine uX (N := 3) (cs := #[.int .i64 a0_0, .int .i64 a0_1]) (t := 30) ?_; intro gb101 hg w37 hbox hb; have BK101 := am (hbox); have GW101 := uE hg; have GE101 := GW101; replace HB := uS hb; clear hb hbox hg) | ((with_reducible refine gate_dst (N := 4) rfl ?_); refine uX (N := 4) (cs := #[.int .i64 a1_0, .int .i64 a1_1, .int .i64 a1_2]) (t := 37) ?_; intro gb102 hg w38 hbox hb; have BK102 := am (hbox); have GW102 := uE hg; have GE102 := GW102; have NB101_102 := uL BK101 hg; have NB102_101 := uY NB101_102; replace BK101 := uB BK101 hb; replace HB := uS hb; clear hb hbox hg; have hnb39 := NB101_102.out; have hnc39 := NB102_101.out; obtain ⟨hcz40_0, hcz40_1, hfz40_0, hfz40_1⟩ := uZ2 BK101) | ((with_reducible refine gate_callee (f := 62) rfl ?_); refine uGo (some 12) Try.func62 #[.agg #[.int .i64 a0_0, .int .i64 a0_1], .int .i64 a2] ?_; (with_reducible refine (impl_plotOf.calls a0_0 a0_1 a2 t103 t104 _ A4.out).mono ?_); rintro e w41 ⟨rfl, hb⟩; refine ⟨_, rfl, ?_⟩; replace BK101 := uB BK101 hb; replace BK102 := uB BK102 hb; replace HB := uS hb; (try clear hb); (try clear hb2); (try clear hk); (try clear hi); obtain ⟨hcz42_0, hcz42_1, hcz42_2, hfz42_0, hfz42_1, hfz42_2⟩ := uZ3 BK102) | ((with_reducible refine gate_callee (f := 81) rfl ?_); refine uGo (some 44) Try.func81 #[.bool (decide (a2 > a1_1))] ?_; (with_reducible refine (impl_oneIf.calls (decide (a2 > a1_1)) t106 _ A36.out).mono ?_); rintro e w' ⟨rfl, ⟨nd, rfl⟩⟩; refine ⟨_, rfl, ?_⟩))
      go_ret
      exact ⟨uA, by exact uW⟩
     ·rw [if_neg c35] at H
      have c35b0 : (a1_0 == 4) = false := beq_eq_false_iff_ne.mpr c35
      have c35b1 : (a1_0 != 4) = true := bne_iff_ne.mpr c35
      by_cases c43 : a0_0 = 0
      ·rw [if_pos c43] at H
       have c43b0 : (a0_0 == 0) = true := beq_iff_eq.mpr c43
       have c43b1 : (a0_0 != 0) = false := bne_eq_false_iff_eq.mpr c43
       clear c43
       obtain rfl := Option.some.inj H
       go_enter Try.func56, Try.ntmps56
       go_wp2_with (first | ((with_reducible refine gate_dst (N := 3) rfl ?_); refine uX (N := 3) (cs := #[.int .i64 a0_0, .int .i64 a0_1]) (t := 30) ?_; intro gb101 hg w44 hbox hb; have BK101 := am (hbox); have GW101 := uE hg; have GE101 := GW101; replace HB := uS hb; clear hb hbox hg) | ((with_reducible refine gate_dst (N := 4) rfl ?_); refine uX (N := 4) (cs := #[.int .i64 a1_0, .int .i64 a1_1, .int .i64 a1_2]) (t := 37) ?_; intro gb102 hg w45 hbox hb; have BK102 := am (hbox); have GW102 := uE hg; have GE102 := GW102; have NB101_102 := uL BK101 hg; have NB102_101 := uY NB101_102; replace BK101 := uB BK101 hb; replace HB := uS hb; clear hb hbox hg; have hnb46 := NB101_102.out; have hnc46 := NB102_101.out; obtain ⟨hcz47_0, hcz47_1, hfz47_0, hfz47_1⟩ := uZ2 BK101) | ((with_reducible refine gate_callee (f := 62) rfl ?_); refine uGo (some 12) Try.func62 #[.agg #[.int .i64 a0_0, .int .i64 a0_1], .int .i64 a2] ?_; (with_reducible refine (impl_plotOf.calls a0_0 a0_1 a2 t103 t104 _ A4.out).mono ?_); rintro e w48 ⟨rfl, hb⟩; refine ⟨_, rfl, ?_⟩; replace BK101 := uB BK101 hb; replace BK102 := uB BK102 hb; replace HB := uS hb; (try clear hb); (try clear hb2); (try clear hk); (try clear hi); obtain ⟨hcz49_0, hcz49_1, hcz49_2, hfz49_0, hfz49_1, hfz49_2⟩ := uZ3 BK102; obtain ⟨hcz50_0, hcz50_1, hfz50_0, hfz50_1⟩ := uZ2 BK101))
       go_ret
       exact ⟨uA, by exact uW⟩
      ·rw [if_neg c43] at H
       have c43b0 : (a0_0 == 0) = false := beq_eq_false_iff_ne.mpr c43
       have c43b1 : (a0_0 != 0) = true := bne_iff_ne.mpr c43
       replace H := bH H
       obtain ⟨t107, A510, H⟩ := H
       replace H : (some t107) = some r := H
       have A51 := am A510
       clear A510
       obtain rfl := Option.some.inj H
       go_enter Try.func56, Try.ntmps56
       go_wp2_with (first | ((with_reducible refine gate_dst (N := 3) rfl ?_); refine uX (N := 3) (cs := #[.int .i64 a0_0, .int .i64 a0_1]) (t := 30) ?_; intro gb101 hg w52 hbox hb; have BK101 := am (hbox); have GW101 := uE hg; have GE101 := GW101; replace HB := uS hb; clear hb hbox hg) | ((with_reducible refine gate_dst (N := 4) rfl ?_); refine uX (N := 4) (cs := #[.int .i64 a1_0, .int .i64 a1_1, .int .i64 a1_2]) (t := 37) ?_; intro gb102 hg w53 hbox hb; have BK102 := am (hbox); have GW102 := uE hg; have GE102 := GW102; have NB101_102 := uL BK101 hg; have NB102_101 := uY NB101_102; replace BK101 := uB BK101 hb; replace HB := uS hb; clear hb hbox hg; have hnb54 := NB101_102.out; have hnc54 := NB102_101.out; obtain ⟨hcz55_0, hcz55_1, hfz55_0, hfz55_1⟩ := uZ2 BK101) | ((with_reducible refine gate_callee (f := 62) rfl ?_); refine uGo (some 12) Try.func62 #[.agg #[.int .i64 a0_0, .int .i64 a0_1], .int .i64 a2] ?_; (with_reducible refine (impl_plotOf.calls a0_0 a0_1 a2 t103 t104 _ A4.out).mono ?_); rintro e w56 ⟨rfl, hb⟩; refine ⟨_, rfl, ?_⟩; replace BK101 := uB BK101 hb; replace BK102 := uB BK102 hb; replace HB := uS hb; (try clear hb); (try clear hb2); (try clear hk); (try clear hi); obtain ⟨hcz57_0, hcz57_1, hcz57_2, hfz57_0, hfz57_1, hfz57_2⟩ := uZ3 BK102; obtain ⟨hcz58_0, hcz58_1, hfz58_0, hfz58_1⟩ := uZ2 BK101) | ((with_reducible refine gate_callee (f := 65) rfl ?_); refine uGo (some 52) Try.func65 #[.agg #[.int .i64 a0_0, .int .i64 a0_1], .int .i64 (wrap64 (1 - t103)), .int .i64 t104] ?_; (with_reducible refine (impl_numberAt.calls a0_0 a0_1 (wrap64 (1 - t103)) t104 t107 _ A51.out).mono ?_); rintro e w59 ⟨rfl, hb⟩; refine ⟨_, rfl, ?_⟩; replace BK101 := uB BK101 hb; replace BK102 := uB BK102 hb; replace HB := uS hb; (try clear hb); (try clear hb2); (try clear hk); (try clear hi)))
       go_ret
       exact ⟨uA, by exact uW⟩
section
attribute [local go_sem high] eqA30 eqA37
mutual
def laws_aPuzzle.j0 : Nat → Bool → Int → Int → List (S37) → Int → Int → List (S37) → Option (Bool)
 | 0, _, _, _, _, _, _, _ => none
 | k + 1, x19, x102000, x102001, x102002, x103000, x103001, x103002 => if x19 = true then (some false) else (laws_aPuzzle.l0 k (x102002.length : Int) 0 x102000 x102001 x102002 x103000 x103001 x103002)
def laws_aPuzzle.l0 : Nat → Int → Int → Int → Int → List (S37) → Int → Int → List (S37) → Option (Bool)
 | 0, _, _, _, _, _, _, _, _ => none
 | k + 1, x22, x23, x102000, x102001, x102002, x103000, x103001, x103002 => if x23 < x22 then (if 0 ≤ x23 then (if x23 < (x102002.length : Int) then (if x23 < (x103002.length : Int) then (if (!(((rd_T37 x102002 x23).f0) == ((rd_T37 x103002 x23).f0)) || (!(((rd_T37 x102002 x23).f1) == ((rd_T37 x103002 x23).f1)) || (!(((rd_T37 x102002 x23).f2) == ((rd_T37 x103002 x23).f2))))) = true then (some false) else (laws_aPuzzle.l0 k x22 (wrap64 (x23 + 1)) x102000 x102001 x102002 x103000 x103001 x103002)) else (none)) else (none)) else (none)) else (some true)
end
def laws_aPuzzle.f (k : Nat) (a0_0 : Int) (a0_1 : Int) (l0_2 : List (S37)) (a1_0 : Int) (a1_1 : Int) (l1_2 : List (S37)) : Option (Bool) := if (!(a0_0 == a1_0) || (!(a0_1 == a1_1))) = true then (laws_aPuzzle.j0 k true a0_0 a0_1 l0_2 a1_0 a1_1 l1_2) else (laws_aPuzzle.j0 k ((l0_2.length : Int) != (l1_2.length : Int)) a0_0 a0_1 l0_2 a1_0 a1_1 l1_2)
theorem laws_aPuzzle.calls (k : Nat) (a0_0 : Int) (a0_1 : Int) (A0_2 : Option Addr) (c0_2 : Nat) (l0_2 : List (S37)) (a1_0 : Int) (a1_1 : Int) (A1_2 : Option Addr) (c1_2 : Nat) (l1_2 : List (S37)) (r : Bool) (w : World) (hr0_2 : Kd.C k37 w A0_2 l0_2.length l0_2) (hc0_2 : l0_2.length ≤ c0_2) (hr1_2 : Kd.C k37 w A1_2 l1_2.length l1_2) (hc1_2 : l1_2.length ≤ c1_2) (h : laws_aPuzzle.f k a0_0 a0_1 l0_2 a1_0 a1_1 l1_2 = some r) :
  Calls Try.prog 19 #[.agg #[.int .i64 a0_0, .int .i64 a0_1, .slice A0_2 l0_2.length c0_2], .agg #[.int .i64 a1_0, .int .i64 a1_1, .slice A1_2 l1_2.length c1_2]] w fun e w' => e = .returned (.bool r) ∧ Below w.heap.size w w' := by
 have hu33 := Try.underlying33
 have hu30 := Try.underlying30
 have hu37 := Try.underlying37
 have HR0_2 := am hr0_2
 have HC0_2 := am hc0_2
 clear hr0_2 hc0_2
 have HR1_2 := am hr1_2
 have HC1_2 := am hc1_2
 clear hr1_2 hc1_2
 have HB := am (Below.refl w.heap.size w)
 have H : (if (!(a0_0 == a1_0) || (!(a0_1 == a1_1))) = true then (laws_aPuzzle.j0 k true a0_0 a0_1 l0_2 a1_0 a1_1 l1_2) else (laws_aPuzzle.j0 k ((l0_2.length : Int) != (l1_2.length : Int)) a0_0 a0_1 l0_2 a1_0 a1_1 l1_2)) = some r := h
 clear h
 have HC3 := am H
 clear H
 go_enter Try.func19, Try.ntmps19
 go_upto_region 1 with (first | ((with_reducible refine gate_dst (N := 2) rfl ?_); (try (refine gate_guard (by rfl) ?_; dsimp only)); refine uX (N := 2) (cs := #[.int .i64 a0_0, .int .i64 a0_1, .slice A0_2 l0_2.length c0_2]) (t := 33) ?_; intro gb101 hg w4 hbox hb; have BK101 := am (hbox); have GW101 := uE hg; have GE101 := GW101; replace HB := uS hb; clear hb hbox hg) | ((with_reducible refine gate_dst (N := 3) rfl ?_); (try (refine gate_guard (by rfl) ?_; dsimp only)); refine uX (N := 3) (cs := #[.int .i64 a1_0, .int .i64 a1_1, .slice A1_2 l1_2.length c1_2]) (t := 33) ?_; intro gb102 hg w5 hbox hb; have BK102 := am (hbox); have GW102 := uE hg; have GE102 := GW102; have NB101_102 := uL BK101 hg; have NB102_101 := uY NB101_102; replace BK101 := uB BK101 hb; replace HB := uS hb; clear hb hbox hg))
 repeat (go_quiet (first | ((with_reducible refine gate_dst (N := 2) rfl ?_); (try (refine gate_guard (by rfl) ?_; dsimp only)); refine uX (N := 2) (cs := #[.int .i64 a0_0, .int .i64 a0_1, .slice A0_2 l0_2.length c0_2]) (t := 33) ?_; intro gb101 hg w4 hbox hb; have BK101 := am (hbox); have GW101 := uE hg; have GE101 := GW101; replace HB := uS hb; clear hb hbox hg) | ((with_reducible refine gate_dst (N := 3) rfl ?_); (try (refine gate_guard (by rfl) ?_; dsimp only)); refine uX (N := 3) (cs := #[.int .i64 a1_0, .int .i64 a1_1, .slice A1_2 l1_2.length c1_2]) (t := 33) ?_; intro gb102 hg w5 hbox hb; have BK102 := am (hbox); have GW102 := uE hg; have GE102 := GW102; have NB101_102 := uL BK101 hg; have NB102_101 := uY NB101_102; replace BK101 := uB BK101 hb; replace HB := uS hb; clear hb hbox hg)); go_upto_region 1 with (first | ((with_reducible refine gate_dst (N := 2) rfl ?_); (try (refine gate_guard (by rfl) ?_; dsimp only)); refine uX (N := 2) (cs := #[.int .i64 a0_0, .int .i64 a0_1, .slice A0_2 l0_2.length c0_2]) (t := 33) ?_; intro gb101 hg w4 hbox hb; have BK101 := am (hbox); have GW101 := uE hg; have GE101 := GW101; replace HB := uS hb; clear hb hbox hg) | ((with_reducible refine gate_dst (N := 3) rfl ?_); (try (refine gate_guard (by rfl) ?_; dsimp only)); refine uX (N := 3) (cs := #[.int .i64 a1_0, .int .i64 a1_1, .slice A1_2 l1_2.length c1_2]) (t := 33) ?_; intro gb102 hg w5 hbox hb; have BK102 := am (hbox); have GW102 := uE hg; have GE102 := GW102; have NB101_102 := uL BK101 hg; have NB102_101 := uY NB101_102; replace BK101 := uB BK101 hb; replace HB := uS hb; clear hb hbox hg)))
 (try simp only [Act.put, List.setIfInBounds_toArray, List.set_cons_zero, List.set_cons_succ])
 go_cut [19] (fun v19 wc => ∃ (kq : Nat) (x19_2 : Bool), v19 = .bool x19_2 ∧ Aside0 (laws_aPuzzle.j0 kq x19_2 a0_0 a0_1 l0_2 a1_0 a1_1 l1_2 = some r) ∧ Aside0 (kq ≤ k) ∧ Aside0 (wc.heap[gb101]? = some (.cells #[.int .i64 a0_0, .int .i64 a0_1, (.slice A0_2 l0_2.length c0_2)] 33 (0, 0))) ∧ Aside0 (wc.heap[gb102]? = some (.cells #[.int .i64 a1_0, .int .i64 a1_1, (.slice A1_2 l1_2.length c1_2)] 33 (0, 0))) ∧ Aside0 (Below w.heap.size w wc))
 case first =>
  have H := HC3.out
  clear HC3
  by_cases c6 : (!(a0_0 == a1_0) || (!(a0_1 == a1_1))) = true
  ·rw [if_pos c6] at H
   have c6b0 : (!(a0_0 == a1_0) || (!(a0_1 == a1_1))) = true := c6
   clear c6
   (first | rw [c6b0] | (simp only [i64_w, i32_w]; rw [c6b0]) | skip)
   have H' := am H
   clear H
   have hnb7 := NB101_102.out
   have hnc7 := NB102_101.out
   obtain ⟨hcz8_0, hcz8_1, hcz8_2, hfz8_0, hfz8_1, hfz8_2⟩ := uZ3 BK101
   obtain ⟨hcz9_0, hcz9_1, hcz9_2, hfz9_0, hfz9_1, hfz9_2⟩ := uZ3 BK102
   go_wp2
   repeat (go_quiet (fail); try go_wp2)
   go_meet
   case rel => exact ⟨_, (true), (by first | rfl | (simp; done) | (simp [*]; done)), H', ⟨by first | omega | exact Nat.le_refl _⟩, ⟨by (with_reducible repeat (first | refine bN ?_ _ | refine bD ?_ | refine bA ?_ _)); exact BK101.out⟩, ⟨by (with_reducible repeat (first | refine bN ?_ _ | refine bD ?_ | refine bA ?_ _)); exact BK102.out⟩, ⟨by exact uW⟩⟩
  ·rw [if_neg c6] at H
   have c6b0 : (!(a0_0 == a1_0) || (!(a0_1 == a1_1))) = false := by simpa using c6
   clear c6
   (first | rw [c6b0] | (simp only [i64_w, i32_w]; rw [c6b0]) | skip)
   have H' := am H
   clear H
   have hnb10 := NB101_102.out
   have hnc10 := NB102_101.out
   obtain ⟨hcz11_0, hcz11_1, hcz11_2, hfz11_0, hfz11_1, hfz11_2⟩ := uZ3 BK101
   obtain ⟨hcz12_0, hcz12_1, hcz12_2, hfz12_0, hfz12_1, hfz12_2⟩ := uZ3 BK102
   go_wp2
   repeat (go_quiet (fail); try go_wp2)
   go_meet
   case rel => exact ⟨_, (((l0_2.length : Int) != (l1_2.length : Int))), (by first | rfl | (simp; done) | (simp [*]; done)), H', ⟨by first | omega | exact Nat.le_refl _⟩, ⟨by (with_reducible repeat (first | refine bN ?_ _ | refine bD ?_ | refine bA ?_ _)); exact BK101.out⟩, ⟨by (with_reducible repeat (first | refine bN ?_ _ | refine bD ?_ | refine bA ?_ _)); exact BK102.out⟩, ⟨by exact uW⟩⟩
 case rest =>
  clear HC3
  try clear c1
  try clear p2
  try clear c6
  try clear c6b0
  try clear c7
  try clear c10
  try clear hcz11_0
  try clear hcz11_1
  try clear hcz11_2
  try clear hcz12_0
  try clear hcz12_1
  try clear hcz12_2
  try clear hcz8_0
  try clear hcz8_1
  try clear hcz8_2
  try clear hcz9_0
  try clear hcz9_1
  try clear hcz9_2
  try clear hfz11_0
  try clear hfz11_1
  try clear hfz11_2
  try clear hfz12_0
  try clear hfz12_1
  try clear hfz12_2
  try clear hfz8_0
  try clear hfz8_1
  try clear hfz8_2
  try clear hfz9_0
  try clear hfz9_1
  try clear hfz9_2
  obtain ⟨kq, x19_2, rfl, HA, HJ2, BK101, BK102, HB⟩ := hcut
  cases kq with
  | zero => exact absurd HA.out (by simp [laws_aPuzzle.j0])
  | succ kj2 =>
   have H := HA.out
   clear HA
   simp only [laws_aPuzzle.j0] at H
   by_cases c13 : x19_2 = true
   ·subst c13
    have H1 : (some false) = some r := by rw [if_pos rfl] at H; exact H
    clear H
    have H := H1
    clear H1
    obtain rfl := Option.some.inj H
    go_wp2
    repeat (go_quiet (fail); try go_wp2)
    go_ret
    exact ⟨uA, by exact uW⟩
   ·replace c13 := Bool.eq_false_iff.mpr c13
    subst c13
    have H1 : (laws_aPuzzle.l0 kj2 (l0_2.length : Int) 0 a0_0 a0_1 l0_2 a1_0 a1_1 l1_2) = some r := by rw [if_neg (show ¬ (false = true) by decide)] at H; exact H
    clear H
    have H := H1
    clear H1
    have H' := am H
    clear H
    have hnb14 := NB101_102.out
    have hnc14 := NB102_101.out
    obtain ⟨hcz15_0, hcz15_1, hcz15_2, hfz15_0, hfz15_1, hfz15_2⟩ := uZ3 BK101
    go_wp2
    repeat (go_quiet (fail); try go_wp2)
    go_loopg [23] kj2 (fun kq v23 w' => ∃ (x23_2 : Int), v23 = .int .i64 x23_2 ∧ Aside0 (laws_aPuzzle.l0 kq (l0_2.length : Int) x23_2 a0_0 a0_1 l0_2 a1_0 a1_1 l1_2 = some r) ∧ Aside0 (kq ≤ kj2) ∧ Aside0 (w'.heap[gb101]? = some (.cells #[.int .i64 a0_0, .int .i64 a0_1, (.slice A0_2 l0_2.length c0_2)] 33 (0, 0))) ∧ Aside0 (w'.heap[gb102]? = some (.cells #[.int .i64 a1_0, .int .i64 a1_1, (.slice A1_2 l1_2.length c1_2)] 33 (0, 0))) ∧ Aside0 (Below w.heap.size w w'))
    case atStart => exact ⟨(0), (by first | rfl | (simp; done) | (simp [*]; done)), H', ⟨Nat.le_refl _⟩, ⟨by (with_reducible repeat (first | refine bN ?_ _ | refine bD ?_ | refine bA ?_ _)); exact BK101.out⟩, ⟨by (with_reducible repeat (first | refine bN ?_ _ | refine bD ?_ | refine bA ?_ _)); exact BK102.out⟩, ⟨by exact uW⟩⟩
    case round =>
     clear H'
     try clear c1
     try clear p2
     try clear c6
     try clear c6b0
     try clear c7
     try clear c10
     try clear c13
     try clear c14
     try clear hcz11_0
     try clear hcz11_1
     try clear hcz11_2
     try clear hcz12_0
     try clear hcz12_1
     try clear hcz12_2
     try clear hcz15_0
     try clear hcz15_1
     try clear hcz15_2
     try clear hcz8_0
     try clear hcz8_1
     try clear hcz8_2
     try clear hcz9_0
     try clear hcz9_1
     try clear hcz9_2
     try clear hfz11_0
     try clear hfz11_1
     try clear hfz11_2
     try clear hfz12_0
     try clear hfz12_1
     try clear hfz12_2
     try clear hfz15_0
     try clear hfz15_1
     try clear hfz15_2
     try clear hfz8_0
     try clear hfz8_1
     try clear hfz8_2
     try clear hfz9_0
     try clear hfz9_1
     try clear hfz9_2
     try clear p2
     obtain ⟨x23_2, rfl, HA, HK2, BK101, BK102, HB⟩ := hrel
     cases gk with
     | zero => exact absurd HA.out (by simp [laws_aPuzzle.l0])
     | succ k2 =>
      have H := HA.out
      clear HA
      simp only [laws_aPuzzle.l0] at H
      by_cases c16 : x23_2 < (l0_2.length : Int)
      ·rw [if_pos c16] at H
       have c16b0 : decide (x23_2 < (l0_2.length : Int)) = true := decide_eq_true c16
       clear c16
       by_cases c17 : 0 ≤ x23_2
       ·rw [if_pos c17] at H
        have c17b0 : decide (0 ≤ x23_2) = true := decide_eq_true c17
        clear c17
        by_cases c18 : x23_2 < (l0_2.length : Int)
        ·rw [if_pos c18] at H
         have c18b0 : decide (x23_2 < (l0_2.length : Int)) = true := decide_eq_true c18
         clear c18
         by_cases c19 : x23_2 < (l1_2.length : Int)
         ·rw [if_pos c19] at H
          have c19b0 : decide (x23_2 < (l1_2.length : Int)) = true := decide_eq_true c19
          clear c19
          by_cases c20 : (!(((rd_T37 l0_2 x23_2).f0) == ((rd_T37 l1_2 x23_2).f0)) || (!(((rd_T37 l0_2 x23_2).f1) == ((rd_T37 l1_2 x23_2).f1)) || (!(((rd_T37 l0_2 x23_2).f2) == ((rd_T37 l1_2 x23_2).f2))))) = true
          ·rw [if_pos c20] at H
           have c20b0 : (!(((rd_T37 l0_2 x23_2).f0) == ((rd_T37 l1_2 x23_2).f0)) || (!(((rd_T37 l0_2 x23_2).f1) == ((rd_T37 l1_2 x23_2).f1)) || (!(((rd_T37 l0_2 x23_2).f2) == ((rd_T37 l1_2 x23_2).f2))))) = true := c20
           clear c20
           obtain rfl := Option.some.inj H
           have hnb21 := NB101_102.out
           have hnc21 := NB102_101.out
           obtain ⟨hcz22_0, hcz22_1, hcz22_2, hfz22_0, hfz22_1, hfz22_2⟩ := uZ3 BK101
           have p103 : 0 ≤ (x23_2 : Int) := of_decide_eq_true (by first | (with_reducible assumption) | assumption)
           have q103 : x23_2 < (l0_2.length : Int) := of_decide_eq_true (by first | (with_reducible assumption) | assumption)
           obtain ⟨ad103, e103, hx103_0, hx103_1, hx103_2⟩ := at_T37 HR0_2.out x23_2 p103 q103
           cases e103
           try replace hx103_0 := (HB.out.cell (World.block_lt_of_cell? w _ hx103_0)).trans hx103_0
           try replace hx103_1 := (HB.out.cell (World.block_lt_of_cell? w _ hx103_1)).trans hx103_1
           try replace hx103_2 := (HB.out.cell (World.block_lt_of_cell? w _ hx103_2)).trans hx103_2
           replace p103 := eq_true p103
           replace q103 := eq_true q103
           obtain ⟨hcz23_0, hcz23_1, hcz23_2, hfz23_0, hfz23_1, hfz23_2⟩ := uZ3 BK102
           have p104 : 0 ≤ (x23_2 : Int) := of_decide_eq_true (by first | (with_reducible assumption) | assumption)
           have q104 : x23_2 < (l1_2.length : Int) := of_decide_eq_true (by first | (with_reducible assumption) | assumption)
           obtain ⟨ad104, e104, hx104_0, hx104_1, hx104_2⟩ := at_T37 HR1_2.out x23_2 p104 q104
           cases e104
           try replace hx104_0 := (HB.out.cell (World.block_lt_of_cell? w _ hx104_0)).trans hx104_0
           try replace hx104_1 := (HB.out.cell (World.block_lt_of_cell? w _ hx104_1)).trans hx104_1
           try replace hx104_2 := (HB.out.cell (World.block_lt_of_cell? w _ hx104_2)).trans hx104_2
           replace p104 := eq_true p104
           replace q104 := eq_true q104
           go_wp2
           repeat (go_quiet (fail); try go_wp2)
           go_ret
           exact ⟨uA, by exact uW⟩
          ·rw [if_neg c20] at H
           have c20b0 : (!(((rd_T37 l0_2 x23_2).f0) == ((rd_T37 l1_2 x23_2).f0)) || (!(((rd_T37 l0_2 x23_2).f1) == ((rd_T37 l1_2 x23_2).f1)) || (!(((rd_T37 l0_2 x23_2).f2) == ((rd_T37 l1_2 x23_2).f2))))) = false := by simpa using c20
           clear c20
           have H' := am H
           clear H
           have hnb24 := NB101_102.out
           have hnc24 := NB102_101.out
           obtain ⟨hcz25_0, hcz25_1, hcz25_2, hfz25_0, hfz25_1, hfz25_2⟩ := uZ3 BK101
           have p103 : 0 ≤ (x23_2 : Int) := of_decide_eq_true (by first | (with_reducible assumption) | assumption)
           have q103 : x23_2 < (l0_2.length : Int) := of_decide_eq_true (by first | (with_reducible assumption) | assumption)
           obtain ⟨ad103, e103, hx103_0, hx103_1, hx103_2⟩ := at_T37 HR0_2.out x23_2 p103 q103
           cases e103
           try replace hx103_0 := (HB.out.cell (World.block_lt_of_cell? w _ hx103_0)).trans hx103_0
           try replace hx103_1 := (HB.out.cell (World.block_lt_of_cell? w _ hx103_1)).trans hx103_1
           try replace hx103_2 := (HB.out.cell (World.block_lt_of_cell? w _ hx103_2)).trans hx103_2
           replace p103 := eq_true p103
           replace q103 := eq_true q103
           obtain ⟨hcz26_0, hcz26_1, hcz26_2, hfz26_0, hfz26_1, hfz26_2⟩ := uZ3 BK102
           have p104 : 0 ≤ (x23_2 : Int) := of_decide_eq_true (by first | (with_reducible assumption) | assumption)
           have q104 : x23_2 < (l1_2.length : Int) := of_decide_eq_true (by first | (with_reducible assumption) | assumption)
           obtain ⟨ad104, e104, hx104_0, hx104_1, hx104_2⟩ := at_T37 HR1_2.out x23_2 p104 q104
           cases e104
           try replace hx104_0 := (HB.out.cell (World.block_lt_of_cell? w _ hx104_0)).trans hx104_0
           try replace hx104_1 := (HB.out.cell (World.block_lt_of_cell? w _ hx104_1)).trans hx104_1
           try replace hx104_2 := (HB.out.cell (World.block_lt_of_cell? w _ hx104_2)).trans hx104_2
           replace p104 := eq_true p104
           replace q104 := eq_true q104
           go_wp2
           repeat (go_quiet (fail); try go_wp2)
           go_roundg k2
           case measure => have := HJ2.out; have := HK2.out; omega
           case rel => exact ⟨(wrap64 (x23_2 + 1)), (by first | rfl | (simp; done) | (simp [*]; done)), H', ⟨by have := HJ2.out; have := HK2.out; omega⟩, ⟨by (with_reducible repeat (first | refine bN ?_ _ | refine bD ?_ | refine bA ?_ _)); exact BK101.out⟩, ⟨by (with_reducible repeat (first | refine bN ?_ _ | refine bD ?_ | refine bA ?_ _)); exact BK102.out⟩, ⟨by exact uW⟩⟩
         ·rw [if_neg c19] at H
          exact absurd H (by simp)
        ·rw [if_neg c18] at H
         exact absurd H (by simp)
       ·rw [if_neg c17] at H
        exact absurd H (by simp)
      ·rw [if_neg c16] at H
       have c16b0 : decide (x23_2 < (l0_2.length : Int)) = false := decide_eq_false c16
       clear c16
       obtain rfl := Option.some.inj H
       go_wp2
       repeat (go_quiet (fail); try go_wp2)
       go_ret
       exact ⟨uA, by exact uW⟩
def impl_PlotOf.f (a0_0 : Int) (a0_1 : Int) (a1 : Int) : Option (Int × Int × Bool) := (impl_isHouse.f a0_0 a0_1 a1).bind fun t102 => (if t102 = true then ((impl_plotOf.f a0_0 a0_1 a1).bind fun bt103 => (some (bt103.1, bt103.2, true))) else (some (0, 0, false)))
theorem impl_PlotOf.calls (a0_0 : Int) (a0_1 : Int) (a1 : Int) (r1 : Int) (r2 : Int) (r3 : Bool) (w : World) (h : impl_PlotOf.f a0_0 a0_1 a1 = some (r1, r2, r3)) :
  Calls Try.prog 20 #[.agg #[.int .i64 a0_0, .int .i64 a0_1], .int .i64 a1] w fun e w' => e = .returned (.tuple #[.int .i64 r1, .int .i64 r2, .bool r3]) ∧ Below w.heap.size w w' := by
 have hu30 := Try.underlying30
 have HB := am (Below.refl w.heap.size w)
 have H : ((impl_isHouse.f a0_0 a0_1 a1).bind fun t102 => (if t102 = true then ((impl_plotOf.f a0_0 a0_1 a1).bind fun bt103 => (some (bt103.1, bt103.2, true))) else (some (0, 0, false)))) = some (r1, r2, r3) := h
 clear h
 replace H := bH H
 obtain ⟨t102, A30, H⟩ := H
 replace H : (if t102 = true then ((impl_plotOf.f a0_0 a0_1 a1).bind fun bt103 => (some (bt103.1, bt103.2, true))) else (some (0, 0, false))) = some (r1, r2, r3) := H
 have A3 := am A30
 clear A30
 by_cases c4 : t102 = true
 ·subst c4
  have H1 : ((impl_plotOf.f a0_0 a0_1 a1).bind fun bt103 => (some (bt103.1, bt103.2, true))) = some (r1, r2, r3) := by rw [if_pos rfl] at H; exact H
  clear H
  have H := H1
  clear H1
  replace H := bH H
  obtain ⟨⟨t103, t104⟩, A50, H⟩ := H
  replace H : (some (t103, t104, true)) = some (r1, r2, r3) := H
  have A5 := am A50
  clear A50
  simp only [Option.some.injEq, Prod.mk.injEq] at H
  obtain ⟨rfl, rfl, rfl⟩ := H
  go_enter Try.func20, Try.ntmps20
  go_wp2_with (first | ((with_reducible refine gate_dst (N := 2) rfl ?_); refine uX (N := 2) (cs := #[.int .i64 a0_0, .int .i64 a0_1]) (t := 30) ?_; intro gb101 hg w6 hbox hb; have BK101 := am (hbox); have GW101 := uE hg; have GE101 := GW101; replace HB := uS hb; clear hb hbox hg; obtain ⟨hcz7_0, hcz7_1, hfz7_0, hfz7_1⟩ := uZ2 BK101) | ((with_reducible refine gate_callee (f := 54) rfl ?_); refine uGo (some 11) Try.func54 #[.agg #[.int .i64 a0_0, .int .i64 a0_1], .int .i64 a1] ?_; (with_reducible refine (impl_isHouse.calls a0_0 a0_1 a1 true _ A3.out).mono ?_); rintro e w8 ⟨rfl, hb⟩; refine ⟨_, rfl, ?_⟩; replace BK101 := uB BK101 hb; replace HB := uS hb; (try clear hb); (try clear hb2); (try clear hk); (try clear hi); obtain ⟨hcz9_0, hcz9_1, hfz9_0, hfz9_1⟩ := uZ2 BK101) | ((with_reducible refine gate_callee (f := 62) rfl ?_); refine uGo (some 16) Try.func62 #[.agg #[.int .i64 a0_0, .int .i64 a0_1], .int .i64 a1] ?_; (with_reducible refine (impl_plotOf.calls a0_0 a0_1 a1 t103 t104 _ A5.out).mono ?_); rintro e w10 ⟨rfl, hb⟩; refine ⟨_, rfl, ?_⟩; replace BK101 := uB BK101 hb; replace HB := uS hb; (try clear hb); (try clear hb2); (try clear hk); (try clear hi)))
  go_ret3
  exact ⟨uA, by exact uW⟩
 ·replace c4 := Bool.eq_false_iff.mpr c4
  subst c4
  have H1 : (some (0, 0, false)) = some (r1, r2, r3) := by rw [if_neg (show ¬ (false = true) by decide)] at H; exact H
  clear H
  have H := H1
  clear H1
  simp only [Option.some.injEq, Prod.mk.injEq] at H
  obtain ⟨rfl, rfl, rfl⟩ := H
  go_enter Try.func20, Try.ntmps20
  go_wp2_with (first | ((with_reducible refine gate_dst (N := 2) rfl ?_); refine uX (N := 2) (cs := #[.int .i64 a0_0, .int .i64 a0_1]) (t := 30) ?_; intro gb101 hg w11 hbox hb; have BK101 := am (hbox); have GW101 := uE hg; have GE101 := GW101; replace HB := uS hb; clear hb hbox hg; obtain ⟨hcz12_0, hcz12_1, hfz12_0, hfz12_1⟩ := uZ2 BK101) | ((with_reducible refine gate_callee (f := 54) rfl ?_); refine uGo (some 11) Try.func54 #[.agg #[.int .i64 a0_0, .int .i64 a0_1], .int .i64 a1] ?_; (with_reducible refine (impl_isHouse.calls a0_0 a0_1 a1 false _ A3.out).mono ?_); rintro e w13 ⟨rfl, hb⟩; refine ⟨_, rfl, ?_⟩; replace BK101 := uB BK101 hb; replace HB := uS hb; (try clear hb); (try clear hb2); (try clear hk); (try clear hi)))
  go_ret3
  exact ⟨uA, by exact uW⟩
end
end Go.Proofs.Ytcloklakffgbmaa.G
end
section
namespace Go.Proofs.Ytcloklakffgbmaa.Fun
open Go.RowKit Go.Proofs.YtcloklakffgbmaaW.PrintWords
def fidx {α : Type} (p : α → Bool) (l : List α) : Int := match l.findIdx? p with
 | some i => (i : Int)
 | none => -1
theorem fidx_hit {α : Type} (p : α → Bool) (l : List α) (k : Nat) (y : α) (hx : l[k]? = some y) (hy : p y = true) (hn : ∀ (j : Nat) (x : α), j < k → l[j]? = some x → p x = false) : fidx p l = k := by
 obtain ⟨hk, rfl⟩ := List.getElem?_eq_some_iff.1 hx
 have : l.findIdx? p = some k := by
  rw [List.findIdx?_eq_some_iff_getElem]
  refine ⟨hk, hy, fun j hj => ?_⟩
  have := hn j _ hj (List.getElem?_eq_getElem (by omega))
  simp [this]
 simp [fidx, this]
theorem fidx_miss {α : Type} (p : α → Bool) (l : List α) (hn : ∀ (j : Nat) (x : α), l[j]? = some x → p x = false) : fidx p l = -1 := by
 have : l.findIdx? p = none := by
  rw [List.findIdx?_eq_none_iff]
  intro x hx
  obtain ⟨j, hj, rfl⟩ := List.getElem_of_mem hx
  exact hn j _ (List.getElem?_eq_getElem hj)
 simp [fidx, this]
theorem fidx_nonneg {α : Type} (p : α → Bool) (l : List α) : decide (fidx p l ≥ 0) = l.any p := by
 unfold fidx
 cases h : l.findIdx? p with
 | none =>
  rw [List.findIdx?_eq_none_iff] at h
  have : l.any p = false := by simpa using h
  simp [this]
 | some i =>
  rw [List.findIdx?_eq_some_iff_getElem] at h
  obtain ⟨hi, hp, _⟩ := h
  have : l.any p = true := List.any_eq_true.2 ⟨_, List.getElem_mem hi, hp⟩
  simp [this]
theorem below_box {W w' : World} {o : Obj} (h : Below (W.alloc o).heap.size (W.alloc o) w') : Below W.heap.size W w' :=
 ((Below.refl _ _).alloc (Nat.le_refl _) _).trans (h.mono (by simp))
theorem bcell {W w1 : World} (hb : Below W.heap.size W w1) : (∀ b o, b < W.heap.size → w1.cell? ⟨b, o, none⟩ = W.cell? ⟨b, o, none⟩) ∧ (∀ b o, b < W.heap.size → w1.frozen? ⟨b, o, none⟩ = W.frozen? ⟨b, o, none⟩) :=
 ⟨fun b o h => hb.cell (p := ⟨b, o, none⟩) h, fun b o h => hb.frozen (p := ⟨b, o, none⟩) h⟩
theorem C_none {α : Type} {d : Kd α} {w : World} {xs : List α} (h : Kd.C d w none xs.length xs) : xs = [] := by
 rcases xs with _ | ⟨x, xs⟩
 ·rfl
 ·obtain ⟨ad, e, _⟩ := h.2.2 (by simp)
  cases e
end Go.Proofs.Ytcloklakffgbmaa.Fun
end
section
namespace Go.Proofs.Ytcloklakffgbmaa.G
open Go.RowKit Go.Proofs.YtcloklakffgbmaaW.PrintWords Go.Proofs.YtcloklakffgbmaaW.PrintLast Go.Proofs.YtcloklakffgbmaaW.PrintMore
attribute [local go_sem] max2_int min2_int max_two min_two max_three min_three max_four min_four
set_option linter.unusedVariables false
set_option linter.unusedSimpArgs false
def clueV (x : S37) : Value := .agg #[.int .i64 x.f0, .int .i64 x.f1, .int .i64 x.f2]
theorem clue_indexFunc (p : S37 → Bool) (g : Nat) (lb : Array Value) (eg : ∀ args w, (callFunc g args).run Try.prog w = .ok (.enter g args) w) (A : Option Addr) (c : Nat) (l : List S37) (w : World) (hr : Kd.C k37 w A l.length l) (hc : l.length ≤ c)
  (hp : ∀ (W : World) (x : S37), x ∈ l → Below w.heap.size w W → Calls Try.prog g (#[clueV x] ++ lb) W fun e w' => e = .returned (.bool (p x)) ∧ Below w.heap.size w w') :
  Calls Try.prog 84 #[.slice A l.length c, .func (.func g) #[] lb] w fun e w' => e = .returned (.int .i64 (Fun.fidx p l)) ∧ Below w.heap.size w w' := by
 have hu := Try.underlying37
 have hlen : l.length ≤ 9223372036854775807 := hr.2.1
 have HR := am hr
 clear hr
 have HP := am hp
 clear hp
 go_enter Try.func84, Try.ntmps84
 go_wp2
 go_loopg [5, 8] l.length (fun gg _ s8 wr => ∃ kk : Nat, kk ≤ l.length ∧ l.length - kk ≤ gg ∧ s8 = .int .i64 (kk : Int) ∧ Aside0 (Below w.heap.size w wr) ∧ Aside0 (∀ (j : Nat) (x : S37), j < kk → l[j]? = some x → p x = false))
 case atStart => exact ⟨0, Nat.zero_le _, by omega, rfl, ⟨Below.refl _ w⟩, ⟨fun j x hj => absurd hj (Nat.not_lt_zero _)⟩⟩
 case round =>
  obtain ⟨kk, hkk, hg, rfl, HB, HN⟩ := hrel
  by_cases hlt : kk < l.length
  ·have hx := List.getElem?_eq_getElem hlt
   have hrd : rd_T37 l (kk : Int) = l[kk] := by simp [rd_T37, List.getD, hx]
   obtain ⟨ad, e, h0, h1, h2⟩ := at_T37 (Kd.C_below HR.out HB.out) (kk : Int) (by omega) (by omega)
   rw [hrd] at h0 h1 h2
   simp only [Int.toNat_natCast] at h0 h1 h2
   have hcall := HP.out wr l[kk] (List.getElem_mem hlt) HB.out
   clear hrd
   generalize l[kk] = y at hx h0 h1 h2 hcall
   have HX := am hx
   clear hx HP
   cases e
   have hltz : (kk : Int) < (l.length : Int) := by omega
   have q0 : (0 ≤ (kk : Int)) = True := eq_true (by omega)
   have q1 : ((kk : Int) < (l.length : Int)) = True := eq_true hltz
   clear hltz
   unfold clueV at hcall
   cases hq : p y with
   | true =>
    rw [hq] at hcall
    have HQ := am hq
    clear hq
    go_wp2_with (go_at_fn g; refine hcall.mono ?_; rintro e w' ⟨rfl, hb'⟩)
    go_ret
    refine ⟨?_, hb'⟩
    rw [Fun.fidx_hit p l kk y HX.out HQ.out HN.out]
    rfl
   | false =>
    rw [hq] at hcall
    have HQ := am hq
    clear hq
    go_wp2_with (go_at_fn g; refine hcall.mono ?_; rintro e w' ⟨rfl, hb'⟩)
    go_roundg (l.length - (kk + 1))
    case measure => omega
    case rel =>
     refine ⟨kk + 1, by omega, by omega, by go_num, ⟨hb'⟩, ⟨fun j x hj hjx => ?_⟩⟩
     by_cases e : j = kk
     ·subst e
      have := HX.out.symm.trans hjx
      injection this with this
      rw [← this]
      exact HQ.out
     ·exact HN.out j x (by omega) hjx
  ·have : kk = l.length := by omega
   subst this
   go_wp2
   go_ret
   refine ⟨?_, HB.out⟩
   rw [Fun.fidx_miss p l (fun j x hj => HN.out j x (List.getElem?_eq_some_iff.1 hj).1 hj)]
   rfl
theorem clue_containsFunc (p : S37 → Bool) (g : Nat) (lb : Array Value) (eg : ∀ args w, (callFunc g args).run Try.prog w = .ok (.enter g args) w) (A : Option Addr) (c : Nat) (l : List S37) (w : World) (hr : Kd.C k37 w A l.length l) (hc : l.length ≤ c)
  (hp : ∀ (W : World) (x : S37), x ∈ l → Below w.heap.size w W → Calls Try.prog g (#[clueV x] ++ lb) W fun e w' => e = .returned (.bool (p x)) ∧ Below w.heap.size w w') :
  Calls Try.prog 66 #[.slice A l.length c, .func (.func g) #[] lb] w fun e w' => e = .returned (.bool (l.any p)) ∧ Below w.heap.size w w' := by
 have key := clue_indexFunc p g lb eg A c l w hr hc hp
 rw [← Fun.fidx_nonneg p l]
 generalize Fun.fidx p l = i at key
 clear hr hp eg
 go_enter Try.func66, Try.ntmps66
 go_wp2_with (go_at_call 84; refine key.mono ?_; rintro e w' ⟨rfl, hb'⟩)
 go_ret
 exact ⟨rfl, hb'⟩
def impl_isClue.f (a0_0 : Int) (a0_1 : Int) (a0_2 : Int) : Option (Bool) := if a0_0 = 0 then (if a0_1 = 0 then ((impl_within.f a0_2 0 1).bind fun t102 => (some t102)) else (some false)) else (if a0_0 = 1 then (if a0_1 = 0 then ((impl_within.f a0_2 0 20).bind fun t103 => (some t103)) else (some false)) else (if a0_0 = 2 then ((impl_within.f a0_1 2 9).bind fun t104 => (if t104 = true then ((impl_within.f a0_2 0 1).bind fun t105 => (some t105)) else (some false))) else (if a0_0 = 3 then (if a0_1 = 0 then ((impl_within.f a0_2 1 13).bind fun t106 => (some t106)) else (some false)) else (if a0_0 = 4 then ((impl_within.f a0_1 1 40).bind fun t107 => (if t107 = true then ((impl_within.f a0_2 0 1).bind fun t108 => (some t108)) else (some false))) else (if a0_0 = 5 then (if a0_1 = 0 then ((impl_within.f a0_2 0 40).bind fun t109 => (some t109)) else (some false)) else (some false))))))
theorem impl_isClue.calls (a0_0 : Int) (a0_1 : Int) (a0_2 : Int) (r : Bool) (w : World) (h : impl_isClue.f a0_0 a0_1 a0_2 = some r) :
  Calls Try.prog 63 #[.agg #[.int .i64 a0_0, .int .i64 a0_1, .int .i64 a0_2]] w fun e w' => e = .returned (.bool r) ∧ Below w.heap.size w w' := by
 have hu37 := Try.underlying37
 have HB := am (Below.refl w.heap.size w)
 have H : (if a0_0 = 0 then (if a0_1 = 0 then ((impl_within.f a0_2 0 1).bind fun t102 => (some t102)) else (some false)) else (if a0_0 = 1 then (if a0_1 = 0 then ((impl_within.f a0_2 0 20).bind fun t103 => (some t103)) else (some false)) else (if a0_0 = 2 then ((impl_within.f a0_1 2 9).bind fun t104 => (if t104 = true then ((impl_within.f a0_2 0 1).bind fun t105 => (some t105)) else (some false))) else (if a0_0 = 3 then (if a0_1 = 0 then ((impl_within.f a0_2 1 13).bind fun t106 => (some t106)) else (some false)) else (if a0_0 = 4 then ((impl_within.f a0_1 1 40).bind fun t107 => (if t107 = true then ((impl_within.f a0_2 0 1).bind fun t108 => (some t108)) else (some false))) else (if a0_0 = 5 then (if a0_1 = 0 then ((impl_within.f a0_2 0 40).bind fun t109 => (some t109)) else (some false)) else (some false))))))) = some r := h
 clear h
 by_cases c2 : a0_0 = 0
 ·rw [if_pos c2] at H
  have c2b0 : (a0_0 == 0) = true := beq_iff_eq.mpr c2
  have c2b1 : (a0_0 != 0) = false := bne_eq_false_iff_eq.mpr c2
  clear c2
  by_cases c3 : a0_1 = 0
  ·rw [if_pos c3] at H
   have c3b0 : (a0_1 == 0) = true := beq_iff_eq.mpr c3
   have c3b1 : (a0_1 != 0) = false := bne_eq_false_iff_eq.mpr c3
   clear c3
   replace H := bH H
   obtain ⟨t102, A40, H⟩ := H
   replace H : (some t102) = some r := H
   have A4 := am A40
   clear A40
   obtain rfl := Option.some.inj H
   go_enter Try.func63, Try.ntmps63
   go_wp2_with (first | ((with_reducible refine gate_dst (N := 1) rfl ?_); refine uX (N := 1) (cs := #[.int .i64 a0_0, .int .i64 a0_1, .int .i64 a0_2]) (t := 37) ?_; intro gb101 hg w5 hbox hb; have BK101 := am (hbox); have GW101 := uE hg; have GE101 := GW101; replace HB := uS hb; clear hb hbox hg; obtain ⟨hcz6_0, hcz6_1, hcz6_2, hfz6_0, hfz6_1, hfz6_2⟩ := uZ3 BK101) | (go_at_call 55; (with_reducible refine (impl_within.calls a0_2 0 1 t102 _ A4.out).mono ?_); rintro e w' ⟨rfl, ⟨nd, rfl⟩⟩))
   go_ret
   exact ⟨uA, by exact uW⟩
  ·rw [if_neg c3] at H
   have c3b0 : (a0_1 == 0) = false := beq_eq_false_iff_ne.mpr c3
   have c3b1 : (a0_1 != 0) = true := bne_iff_ne.mpr c3
   obtain rfl := Option.some.inj H
   go_enter Try.func63, Try.ntmps63
   go_wp2_with (first | ((with_reducible refine gate_dst (N := 1) rfl ?_); refine uX (N := 1) (cs := #[.int .i64 a0_0, .int .i64 a0_1, .int .i64 a0_2]) (t := 37) ?_; intro gb101 hg w7 hbox hb; have BK101 := am (hbox); have GW101 := uE hg; have GE101 := GW101; replace HB := uS hb; clear hb hbox hg; obtain ⟨hcz8_0, hcz8_1, hcz8_2, hfz8_0, hfz8_1, hfz8_2⟩ := uZ3 BK101))
   go_ret
   exact ⟨uA, by exact uW⟩
 ·rw [if_neg c2] at H
  have c2b0 : (a0_0 == 0) = false := beq_eq_false_iff_ne.mpr c2
  have c2b1 : (a0_0 != 0) = true := bne_iff_ne.mpr c2
  by_cases c9 : a0_0 = 1
  ·rw [if_pos c9] at H
   have c9b0 : (a0_0 == 1) = true := beq_iff_eq.mpr c9
   have c9b1 : (a0_0 != 1) = false := bne_eq_false_iff_eq.mpr c9
   clear c9
   by_cases c10 : a0_1 = 0
   ·rw [if_pos c10] at H
    have c10b0 : (a0_1 == 0) = true := beq_iff_eq.mpr c10
    have c10b1 : (a0_1 != 0) = false := bne_eq_false_iff_eq.mpr c10
    clear c10
    replace H := bH H
    obtain ⟨t103, A110, H⟩ := H
    replace H : (some t103) = some r := H
    have A11 := am A110
    clear A110
    obtain rfl := Option.some.inj H
    go_enter Try.func63, Try.ntmps63
    go_wp2_with (first | ((with_reducible refine gate_dst (N := 1) rfl ?_); refine uX (N := 1) (cs := #[.int .i64 a0_0, .int .i64 a0_1, .int .i64 a0_2]) (t := 37) ?_; intro gb101 hg w12 hbox hb; have BK101 := am (hbox); have GW101 := uE hg; have GE101 := GW101; replace HB := uS hb; clear hb hbox hg; obtain ⟨hcz13_0, hcz13_1, hcz13_2, hfz13_0, hfz13_1, hfz13_2⟩ := uZ3 BK101) | (go_at_call 55; (with_reducible refine (impl_within.calls a0_2 0 20 t103 _ A11.out).mono ?_); rintro e w' ⟨rfl, ⟨nd, rfl⟩⟩))
    go_ret
    exact ⟨uA, by exact uW⟩
   ·rw [if_neg c10] at H
    have c10b0 : (a0_1 == 0) = false := beq_eq_false_iff_ne.mpr c10
    have c10b1 : (a0_1 != 0) = true := bne_iff_ne.mpr c10
    obtain rfl := Option.some.inj H
    go_enter Try.func63, Try.ntmps63
    go_wp2_with (first | ((with_reducible refine gate_dst (N := 1) rfl ?_); refine uX (N := 1) (cs := #[.int .i64 a0_0, .int .i64 a0_1, .int .i64 a0_2]) (t := 37) ?_; intro gb101 hg w14 hbox hb; have BK101 := am (hbox); have GW101 := uE hg; have GE101 := GW101; replace HB := uS hb; clear hb hbox hg; obtain ⟨hcz15_0, hcz15_1, hcz15_2, hfz15_0, hfz15_1, hfz15_2⟩ := uZ3 BK101))
    go_ret
    exact ⟨uA, by exact uW⟩
  ·rw [if_neg c9] at H
   have c9b0 : (a0_0 == 1) = false := beq_eq_false_iff_ne.mpr c9
   have c9b1 : (a0_0 != 1) = true := bne_iff_ne.mpr c9
   by_cases c16 : a0_0 = 2
   ·rw [if_pos c16] at H
    have c16b0 : (a0_0 == 2) = true := beq_iff_eq.mpr c16
    have c16b1 : (a0_0 != 2) = false := bne_eq_false_iff_eq.mpr c16
    clear c16
    replace H := bH H
    obtain ⟨t104, A170, H⟩ := H
    replace H : (if t104 = true then ((impl_within.f a0_2 0 1).bind fun t105 => (some t105)) else (some false)) = some r := H
    have A17 := am A170
    clear A170
    by_cases c18 : t104 = true
    ·subst c18
     have H1 : ((impl_within.f a0_2 0 1).bind fun t105 => (some t105)) = some r := by rw [if_pos rfl] at H; exact H
     clear H
     have H := H1
     clear H1
     replace H := bH H
     obtain ⟨t105, A190, H⟩ := H
     replace H : (some t105) = some r := H
     have A19 := am A190
     clear A190
     obtain rfl := Option.some.inj H
     go_enter Try.func63, Try.ntmps63
     go_wp2_with (first | ((with_reducible refine gate_dst (N := 1) rfl ?_); refine uX (N := 1) (cs := #[.int .i64 a0_0, .int .i64 a0_1, .int .i64 a0_2]) (t := 37) ?_; intro gb101 hg w20 hbox hb; have BK101 := am (hbox); have GW101 := uE hg; have GE101 := GW101; replace HB := uS hb; clear hb hbox hg; obtain ⟨hcz21_0, hcz21_1, hcz21_2, hfz21_0, hfz21_1, hfz21_2⟩ := uZ3 BK101) | ((with_reducible refine gate_callee (f := 55) rfl ?_); refine uGo (some 29) Try.func55 #[.int .i64 a0_1, .int .i64 2, .int .i64 9] ?_; (with_reducible refine (impl_within.calls a0_1 2 9 true _ A17.out).mono ?_); rintro e w' ⟨rfl, ⟨nd, rfl⟩⟩; refine ⟨_, rfl, ?_⟩) | (go_at_call 55; (with_reducible refine (impl_within.calls a0_2 0 1 t105 _ A19.out).mono ?_); rintro e w' ⟨rfl, ⟨nd, rfl⟩⟩))
     go_ret
     exact ⟨uA, by exact uW⟩
    ·replace c18 := Bool.eq_false_iff.mpr c18
     subst c18
     have H1 : (some false) = some r := by rw [if_neg (show ¬ (false = true) by decide)] at H; exact H
     clear H
     have H := H1
     clear H1
     obtain rfl := Option.some.inj H
     go_enter Try.func63, Try.ntmps63
     go_wp2_with (first | ((with_reducible refine gate_dst (N := 1) rfl ?_); refine uX (N := 1) (cs := #[.int .i64 a0_0, .int .i64 a0_1, .int .i64 a0_2]) (t := 37) ?_; intro gb101 hg w22 hbox hb; have BK101 := am (hbox); have GW101 := uE hg; have GE101 := GW101; replace HB := uS hb; clear hb hbox hg; obtain ⟨hcz23_0, hcz23_1, hcz23_2, hfz23_0, hfz23_1, hfz23_2⟩ := uZ3 BK101) | ((with_reducible refine gate_callee (f := 55) rfl ?_); refine uGo (some 29) Try.func55 #[.int .i64 a0_1, .int .i64 2, .int .i64 9] ?_; (with_reducible refine (impl_within.calls a0_1 2 9 false _ A17.out).mono ?_); rintro e w' ⟨rfl, ⟨nd, rfl⟩⟩; refine ⟨_, rfl, ?_⟩))
     go_ret
     exact ⟨uA, by exact uW⟩
   ·rw [if_neg c16] at H
    have c16b0 : (a0_0 == 2) = false := beq_eq_false_iff_ne.mpr c16
    have c16b1 : (a0_0 != 2) = true := bne_iff_ne.mpr c16
    by_cases c24 : a0_0 = 3
    ·rw [if_pos c24] at H
     have c24b0 : (a0_0 == 3) = true := beq_iff_eq.mpr c24
     have c24b1 : (a0_0 != 3) = false := bne_eq_false_iff_eq.mpr c24
     clear c24
     by_cases c25 : a0_1 = 0
     ·rw [if_pos c25] at H
      have c25b0 : (a0_1 == 0) = true := beq_iff_eq.mpr c25
      have c25b1 : (a0_1 != 0) = false := bne_eq_false_iff_eq.mpr c25
      clear c25
      replace H := bH H
      obtain ⟨t106, A260, H⟩ := H
      replace H : (some t106) = some r := H
      have A26 := am A260
      clear A260
      obtain rfl := Option.some.inj H
      go_enter Try.func63, Try.ntmps63
      go_wp2_with (first | ((with_reducible refine gate_dst (N := 1) rfl ?_); refine uX (N := 1) (cs := #[.int .i64 a0_0, .int .i64 a0_1, .int .i64 a0_2]) (t := 37) ?_; intro gb101 hg w27 hbox hb; have BK101 := am (hbox); have GW101 := uE hg; have GE101 := GW101; replace HB := uS hb; clear hb hbox hg; obtain ⟨hcz28_0, hcz28_1, hcz28_2, hfz28_0, hfz28_1, hfz28_2⟩ := uZ3 BK101) | (go_at_call 55; (with_reducible refine (impl_within.calls a0_2 1 13 t106 _ A26.out).mono ?_); rintro e w' ⟨rfl, ⟨nd, rfl⟩⟩))
      go_ret
      exact ⟨uA, by exact uW⟩
     ·rw [if_neg c25] at H
      have c25b0 : (a0_1 == 0) = false := beq_eq_false_iff_ne.mpr c25
      have c25b1 : (a0_1 != 0) = true := bne_iff_ne.mpr c25
      obtain rfl := Option.some.inj H
      go_enter Try.func63, Try.ntmps63
      go_wp2_with (first | ((with_reducible refine gate_dst (N := 1) rfl ?_); refine uX (N := 1) (cs := #[.int .i64 a0_0, .int .i64 a0_1, .int .i64 a0_2]) (t := 37) ?_; intro gb101 hg w29 hbox hb; have BK101 := am (hbox); have GW101 := uE hg; have GE101 := GW101; replace HB := uS hb; clear hb hbox hg; obtain ⟨hcz30_0, hcz30_1, hcz30_2, hfz30_0, hfz30_1, hfz30_2⟩ := uZ3 BK101))
      go_ret
      exact ⟨uA, by exact uW⟩
    ·rw [if_neg c24] at H
     have c24b0 : (a0_0 == 3) = false := beq_eq_false_iff_ne.mpr c24
     have c24b1 : (a0_0 != 3) = true := bne_iff_ne.mpr c24
     by_cases c31 : a0_0 = 4
     ·rw [if_pos c31] at H
      have c31b0 : (a0_0 == 4) = true := beq_iff_eq.mpr c31
      have c31b1 : (a0_0 != 4) = false := bne_eq_false_iff_eq.mpr c31
      clear c31
      replace H := bH H
      obtain ⟨t107, A320, H⟩ := H
      replace H : (if t107 = true then ((impl_within.f a0_2 0 1).bind fun t108 => (some t108)) else (some false)) = some r := H
      have A32 := am A320
      clear A320
      by_cases c33 : t107 = true
      ·subst c33
       have H1 : ((impl_within.f a0_2 0 1).bind fun t108 => (some t108)) = some r := by rw [if_pos rfl] at H; exact H
       clear H
       have H := H1
       clear H1
       replace H := bH H
       obtain ⟨t108, A340, H⟩ := H
       replace H : (some t108) = some r := H
       have A34 := am A340
       clear A340
       obtain rfl := Option.some.inj H
       go_enter Try.func63, Try.ntmps63
       go_wp2_with (first | ((with_reducible refine gate_dst (N := 1) rfl ?_); refine uX (N := 1) (cs := #[.int .i64 a0_0, .int .i64 a0_1, .int .i64 a0_2]) (t := 37) ?_; intro gb101 hg w35 hbox hb; have BK101 := am (hbox); have GW101 := uE hg; have GE101 := GW101; replace HB := uS hb; clear hb hbox hg; obtain ⟨hcz36_0, hcz36_1, hcz36_2, hfz36_0, hfz36_1, hfz36_2⟩ := uZ3 BK101) | ((with_reducible refine gate_callee (f := 55) rfl ?_); refine uGo (some 49) Try.func55 #[.int .i64 a0_1, .int .i64 1, .int .i64 40] ?_; (with_reducible refine (impl_within.calls a0_1 1 40 true _ A32.out).mono ?_); rintro e w' ⟨rfl, ⟨nd, rfl⟩⟩; refine ⟨_, rfl, ?_⟩) | (go_at_call 55; (with_reducible refine (impl_within.calls a0_2 0 1 t108 _ A34.out).mono ?_); rintro e w' ⟨rfl, ⟨nd, rfl⟩⟩))
       go_ret
       exact ⟨uA, by exact uW⟩
      ·replace c33 := Bool.eq_false_iff.mpr c33
       subst c33
       have H1 : (some false) = some r := by rw [if_neg (show ¬ (false = true) by decide)] at H; exact H
       clear H
       have H := H1
       clear H1
       obtain rfl := Option.some.inj H
       go_enter Try.func63, Try.ntmps63
       go_wp2_with (first | ((with_reducible refine gate_dst (N := 1) rfl ?_); refine uX (N := 1) (cs := #[.int .i64 a0_0, .int .i64 a0_1, .int .i64 a0_2]) (t := 37) ?_; intro gb101 hg w37 hbox hb; have BK101 := am (hbox); have GW101 := uE hg; have GE101 := GW101; replace HB := uS hb; clear hb hbox hg; obtain ⟨hcz38_0, hcz38_1, hcz38_2, hfz38_0, hfz38_1, hfz38_2⟩ := uZ3 BK101) | ((with_reducible refine gate_callee (f := 55) rfl ?_); refine uGo (some 49) Try.func55 #[.int .i64 a0_1, .int .i64 1, .int .i64 40] ?_; (with_reducible refine (impl_within.calls a0_1 1 40 false _ A32.out).mono ?_); rintro e w' ⟨rfl, ⟨nd, rfl⟩⟩; refine ⟨_, rfl, ?_⟩))
       go_ret
       exact ⟨uA, by exact uW⟩
     ·rw [if_neg c31] at H
      have c31b0 : (a0_0 == 4) = false := beq_eq_false_iff_ne.mpr c31
      have c31b1 : (a0_0 != 4) = true := bne_iff_ne.mpr c31
      by_cases c39 : a0_0 = 5
      ·rw [if_pos c39] at H
       have c39b0 : (a0_0 == 5) = true := beq_iff_eq.mpr c39
       have c39b1 : (a0_0 != 5) = false := bne_eq_false_iff_eq.mpr c39
       clear c39
       by_cases c40 : a0_1 = 0
       ·rw [if_pos c40] at H
        have c40b0 : (a0_1 == 0) = true := beq_iff_eq.mpr c40
        have c40b1 : (a0_1 != 0) = false := bne_eq_false_iff_eq.mpr c40
        clear c40
        replace H := bH H
        obtain ⟨t109, A410, H⟩ := H
        replace H : (some t109) = some r := H
        have A41 := am A410
        clear A410
        obtain rfl := Option.some.inj H
        go_enter Try.func63, Try.ntmps63
        go_wp2_with (first | ((with_reducible refine gate_dst (N := 1) rfl ?_); refine uX (N := 1) (cs := #[.int .i64 a0_0, .int .i64 a0_1, .int .i64 a0_2]) (t := 37) ?_; intro gb101 hg w42 hbox hb; have BK101 := am (hbox); have GW101 := uE hg; have GE101 := GW101; replace HB := uS hb; clear hb hbox hg; obtain ⟨hcz43_0, hcz43_1, hcz43_2, hfz43_0, hfz43_1, hfz43_2⟩ := uZ3 BK101) | (go_at_call 55; (with_reducible refine (impl_within.calls a0_2 0 40 t109 _ A41.out).mono ?_); rintro e w' ⟨rfl, ⟨nd, rfl⟩⟩))
        go_ret
        exact ⟨uA, by exact uW⟩
       ·rw [if_neg c40] at H
        have c40b0 : (a0_1 == 0) = false := beq_eq_false_iff_ne.mpr c40
        have c40b1 : (a0_1 != 0) = true := bne_iff_ne.mpr c40
        obtain rfl := Option.some.inj H
        go_enter Try.func63, Try.ntmps63
        go_wp2_with (first | ((with_reducible refine gate_dst (N := 1) rfl ?_); refine uX (N := 1) (cs := #[.int .i64 a0_0, .int .i64 a0_1, .int .i64 a0_2]) (t := 37) ?_; intro gb101 hg w44 hbox hb; have BK101 := am (hbox); have GW101 := uE hg; have GE101 := GW101; replace HB := uS hb; clear hb hbox hg; obtain ⟨hcz45_0, hcz45_1, hcz45_2, hfz45_0, hfz45_1, hfz45_2⟩ := uZ3 BK101))
        go_ret
        exact ⟨uA, by exact uW⟩
      ·rw [if_neg c39] at H
       have c39b0 : (a0_0 == 5) = false := beq_eq_false_iff_ne.mpr c39
       have c39b1 : (a0_0 != 5) = true := bne_iff_ne.mpr c39
       obtain rfl := Option.some.inj H
       go_enter Try.func63, Try.ntmps63
       go_wp2_with (first | ((with_reducible refine gate_dst (N := 1) rfl ?_); refine uX (N := 1) (cs := #[.int .i64 a0_0, .int .i64 a0_1, .int .i64 a0_2]) (t := 37) ?_; intro gb101 hg w46 hbox hb; have BK101 := am (hbox); have GW101 := uE hg; have GE101 := GW101; replace HB := uS hb; clear hb hbox hg; obtain ⟨hcz47_0, hcz47_1, hcz47_2, hfz47_0, hfz47_1, hfz47_2⟩ := uZ3 BK101))
       go_ret
       exact ⟨uA, by exact uW⟩
def clueOk (x : S37) : Bool := (impl_isClue.f x.f0 x.f1 x.f2).getD false
theorem isClue_some (x : S37) : impl_isClue.f x.f0 x.f1 x.f2 = some (clueOk x) := by
 unfold clueOk impl_isClue.f impl_within.f
 repeat' first
  | rfl
  | (simp only [Option.bind_some]; done)
  | (simp only [Option.bind_some])
  | split
theorem clue_bad (W : World) (x : S37) : Calls Try.prog 67 (#[clueV x] ++ #[]) W fun e w' => e = .returned (.bool (!clueOk x)) ∧ Below W.heap.size W w' := by
 have hu := Try.underlying37
 have key := fun W1 => impl_isClue.calls x.f0 x.f1 x.f2 (clueOk x) W1 (isClue_some x)
 show Calls Try.prog 67 #[.agg #[.int .i64 x.f0, .int .i64 x.f1, .int .i64 x.f2]] W _
 generalize x.f0 = a0 at key ⊢
 generalize x.f1 = a1 at key ⊢
 generalize x.f2 = a2 at key ⊢
 generalize clueOk x = b at key ⊢
 go_enter Try.func67, Try.ntmps67
 go_wp2_with (go_at_call 63; refine (key _).mono ?_; rintro e w' ⟨rfl, hb'⟩)
 go_ret
 exact ⟨rfl, Fun.below_box hb'⟩
def impl_IsPuzzle.f (a0_0 : Int) (a0_1 : Int) (l0_2 : List (S37)) : Option (Bool) :=
 (impl_isHiddenStreet.f a0_0 a0_1).bind fun t => if t = true then (if (l0_2.length : Int) ≤ 6 then some (!(l0_2.any fun x => !clueOk x)) else some false) else some false
theorem impl_IsPuzzle.calls (a0_0 : Int) (a0_1 : Int) (A0_2 : Option Addr) (c0_2 : Nat) (l0_2 : List (S37)) (r : Bool) (w : World) (hr0_2 : Kd.C k37 w A0_2 l0_2.length l0_2) (hc0_2 : l0_2.length ≤ c0_2) (h : impl_IsPuzzle.f a0_0 a0_1 l0_2 = some r) :
  Calls Try.prog 23 #[.agg #[.int .i64 a0_0, .int .i64 a0_1, .slice A0_2 l0_2.length c0_2]] w fun e w' => e = .returned (.bool r) ∧ Below w.heap.size w w' := by
 have hu39 := Try.underlying33
 have hu27 := Try.underlying30
 unfold impl_IsPuzzle.f at h
 obtain ⟨t, ht, h⟩ := Option.bind_eq_some_iff.1 h
 have HR := am hr0_2
 have HC := am hc0_2
 have eg := enters_of Try.func67 (by kernel_rfl) rfl
 have key := fun W => impl_isHiddenStreet.calls a0_0 a0_1 t W ht
 clear ht hr0_2 hc0_2
 by_cases c1 : t = true
 ·subst c1
  rw [if_pos rfl] at h
  by_cases c2 : (l0_2.length : Int) ≤ 6
  ·rw [if_pos c2] at h
   have c3 : decide ((l0_2.length : Int) ≤ 6) = true := decide_eq_true c2
   obtain rfl := Option.some.inj h
   clear h
   generalize hq : l0_2.any (fun x => !clueOk x) = q
   have HQ := am hq
   clear hq
   go_enter Try.func23, Try.ntmps23
   go_wp2_with fail
   refine (key _).mono ?_
   rintro e w1 ⟨rfl, hb1⟩
   obtain ⟨hc, hf⟩ := Fun.bcell hb1
   have hb2 := Fun.below_box hb1
   have c0 := (hc w.heap.size 2 (by simp)).trans (show _ = some (.slice A0_2 l0_2.length c0_2) by simp)
   clear hc hf hb1
   go_wp2_with fail
   refine (clue_containsFunc (fun x => !clueOk x) 67 #[] eg A0_2 c0_2 l0_2 _ (Kd.C_below HR.out hb2) HC.out (fun W x _ hW => (clue_bad W x).mono fun e w' h => ⟨h.1, hW.trans (h.2.mono hW.size)⟩)).mono ?_
   rintro e w2 ⟨rfl, hb3⟩
   go_wp2
   go_ret
   exact ⟨by rw [HQ.out]; rfl, hb2.trans (hb3.mono hb2.size)⟩
  ·rw [if_neg c2] at h
   have c3 : decide ((l0_2.length : Int) ≤ 6) = false := decide_eq_false c2
   obtain rfl := Option.some.inj h
   clear h
   go_enter Try.func23, Try.ntmps23
   go_wp2_with fail
   refine (key _).mono ?_
   rintro e w1 ⟨rfl, hb1⟩
   obtain ⟨hc, hf⟩ := Fun.bcell hb1
   have hb2 := Fun.below_box hb1
   have c0 := (hc w.heap.size 2 (by simp)).trans (show _ = some (.slice A0_2 l0_2.length c0_2) by simp)
   clear hc hf hb1
   go_wp2
   go_ret
   exact ⟨rfl, hb2⟩
 ·obtain rfl : t = false := by simpa using c1
  rw [if_neg c1] at h
  obtain rfl := Option.some.inj h
  clear c1 h
  go_enter Try.func23, Try.ntmps23
  go_wp2_with fail
  refine (key _).mono ?_
  rintro e w1 ⟨rfl, hb1⟩
  have hb2 := Fun.below_box hb1
  clear hb1
  go_wp2
  go_ret
  exact ⟨rfl, hb2⟩
def spec_nuHouses.f (a0_0 : Int) (a0_1 : Int) : Option (Int) := if a0_0 = 0 then (some a0_1) else (some (wrap64 (2 * a0_1)))
theorem spec_nuHouses.calls (a0_0 : Int) (a0_1 : Int) (r : Int) (w : World) (h : spec_nuHouses.f a0_0 a0_1 = some r) :
  Calls Try.prog 77 #[.agg #[.int .i64 a0_0, .int .i64 a0_1]] w fun e w' => e = .returned (.int .i64 r) ∧ Below w.heap.size w w' := by
 have hu30 := Try.underlying30
 have HB := am (Below.refl w.heap.size w)
 have H : (if a0_0 = 0 then (some a0_1) else (some (wrap64 (2 * a0_1)))) = some r := h
 clear h
 by_cases c2 : a0_0 = 0
 ·rw [if_pos c2] at H
  have c2b0 : (a0_0 == 0) = true := beq_iff_eq.mpr c2
  have c2b1 : (a0_0 != 0) = false := bne_eq_false_iff_eq.mpr c2
  clear c2
  obtain rfl := Option.some.inj H
  go_enter Try.func77, Try.ntmps77
  go_wp2_with (first | ((with_reducible refine gate_dst (N := 1) rfl ?_); refine uX (N := 1) (cs := #[.int .i64 a0_0, .int .i64 a0_1]) (t := 30) ?_; intro gb101 hg w3 hbox hb; have BK101 := am (hbox); have GW101 := uE hg; have GE101 := GW101; replace HB := uS hb; clear hb hbox hg; obtain ⟨hcz4_0, hcz4_1, hfz4_0, hfz4_1⟩ := uZ2 BK101))
  go_ret
  exact ⟨uA, by exact uW⟩
 ·rw [if_neg c2] at H
  have c2b0 : (a0_0 == 0) = false := beq_eq_false_iff_ne.mpr c2
  have c2b1 : (a0_0 != 0) = true := bne_iff_ne.mpr c2
  obtain rfl := Option.some.inj H
  go_enter Try.func77, Try.ntmps77
  go_wp2_with (first | ((with_reducible refine gate_dst (N := 1) rfl ?_); refine uX (N := 1) (cs := #[.int .i64 a0_0, .int .i64 a0_1]) (t := 30) ?_; intro gb101 hg w5 hbox hb; have BK101 := am (hbox); have GW101 := uE hg; have GE101 := GW101; replace HB := uS hb; clear hb hbox hg; obtain ⟨hcz6_0, hcz6_1, hfz6_0, hfz6_1⟩ := uZ2 BK101))
  go_ret
  exact ⟨uA, by exact uW⟩
def spec_pzHidden.f (a0_0 : Int) (a0_1 : Int) (a1 : Int) : Option (Bool) := (spec_pzStreet.f a0_0 a0_1).bind fun t102 => (if t102 = true then ((spec_nuHouses.f a0_0 a0_1).bind fun t103 => ((spec_l1In.f a1 1 t103).bind fun t104 => (some t104))) else (some false))
theorem spec_pzHidden.calls (a0_0 : Int) (a0_1 : Int) (a1 : Int) (r : Bool) (w : World) (h : spec_pzHidden.f a0_0 a0_1 a1 = some r) :
  Calls Try.prog 49 #[.agg #[.int .i64 a0_0, .int .i64 a0_1], .int .i64 a1] w fun e w' => e = .returned (.bool r) ∧ Below w.heap.size w w' := by
 have hu30 := Try.underlying30
 have HB := am (Below.refl w.heap.size w)
 have H : ((spec_pzStreet.f a0_0 a0_1).bind fun t102 => (if t102 = true then ((spec_nuHouses.f a0_0 a0_1).bind fun t103 => ((spec_l1In.f a1 1 t103).bind fun t104 => (some t104))) else (some false))) = some r := h
 clear h
 replace H := bH H
 obtain ⟨t102, A30, H⟩ := H
 replace H : (if t102 = true then ((spec_nuHouses.f a0_0 a0_1).bind fun t103 => ((spec_l1In.f a1 1 t103).bind fun t104 => (some t104))) else (some false)) = some r := H
 have A3 := am A30
 clear A30
 by_cases c4 : t102 = true
 ·subst c4
  have H1 : ((spec_nuHouses.f a0_0 a0_1).bind fun t103 => ((spec_l1In.f a1 1 t103).bind fun t104 => (some t104))) = some r := by rw [if_pos rfl] at H; exact H
  clear H
  have H := H1
  clear H1
  replace H := bH H
  obtain ⟨t103, A50, H⟩ := H
  replace H : ((spec_l1In.f a1 1 t103).bind fun t104 => (some t104)) = some r := H
  have A5 := am A50
  clear A50
  replace H := bH H
  obtain ⟨t104, A60, H⟩ := H
  replace H : (some t104) = some r := H
  have A6 := am A60
  clear A60
  obtain rfl := Option.some.inj H
  go_enter Try.func49, Try.ntmps49
  go_wp2_with (first | ((with_reducible refine gate_dst (N := 2) rfl ?_); refine uX (N := 2) (cs := #[.int .i64 a0_0, .int .i64 a0_1]) (t := 30) ?_; intro gb101 hg w7 hbox hb; have BK101 := am (hbox); have GW101 := uE hg; have GE101 := GW101; replace HB := uS hb; clear hb hbox hg; obtain ⟨hcz8_0, hcz8_1, hfz8_0, hfz8_1⟩ := uZ2 BK101) | ((with_reducible refine gate_callee (f := 75) rfl ?_); refine uGo (some 6) Try.func75 #[.agg #[.int .i64 a0_0, .int .i64 a0_1]] ?_; (with_reducible refine (spec_pzStreet.calls a0_0 a0_1 true _ A3.out).mono ?_); rintro e w9 ⟨rfl, hb⟩; refine ⟨_, rfl, ?_⟩; replace BK101 := uB BK101 hb; replace HB := uS hb; (try clear hb); (try clear hb2); (try clear hk); (try clear hi); obtain ⟨hcz10_0, hcz10_1, hfz10_0, hfz10_1⟩ := uZ2 BK101) | (go_at_call 77; (with_reducible refine (spec_nuHouses.calls a0_0 a0_1 t103 _ A5.out).mono ?_); rintro e w11 ⟨rfl, hb⟩; replace BK101 := uB BK101 hb; replace HB := uS hb; (try clear hb); (try clear hb2); (try clear hk); (try clear hi)) | (go_at_call 50; (with_reducible refine (spec_l1In.calls a1 1 t103 t104 _ A6.out).mono ?_); rintro e w' ⟨rfl, ⟨nd, rfl⟩⟩))
  go_ret
  exact ⟨uA, by exact uW⟩
 ·replace c4 := Bool.eq_false_iff.mpr c4
  subst c4
  have H1 : (some false) = some r := by rw [if_neg (show ¬ (false = true) by decide)] at H; exact H
  clear H
  have H := H1
  clear H1
  obtain rfl := Option.some.inj H
  go_enter Try.func49, Try.ntmps49
  go_wp2_with (first | ((with_reducible refine gate_dst (N := 2) rfl ?_); refine uX (N := 2) (cs := #[.int .i64 a0_0, .int .i64 a0_1]) (t := 30) ?_; intro gb101 hg w12 hbox hb; have BK101 := am (hbox); have GW101 := uE hg; have GE101 := GW101; replace HB := uS hb; clear hb hbox hg; obtain ⟨hcz13_0, hcz13_1, hfz13_0, hfz13_1⟩ := uZ2 BK101) | ((with_reducible refine gate_callee (f := 75) rfl ?_); refine uGo (some 6) Try.func75 #[.agg #[.int .i64 a0_0, .int .i64 a0_1]] ?_; (with_reducible refine (spec_pzStreet.calls a0_0 a0_1 false _ A3.out).mono ?_); rintro e w14 ⟨rfl, hb⟩; refine ⟨_, rfl, ?_⟩; replace BK101 := uB BK101 hb; replace HB := uS hb; (try clear hb); (try clear hb2); (try clear hk); (try clear hi)))
  go_ret
  exact ⟨uA, by exact uW⟩
def spec_pzNext.f (a0 : Int) : Option (Int) := some (Int.tmod (wrap64 ((wrap64 (233 * a0)) + 1871)) 10007)
theorem spec_pzNext.calls (a0 : Int) (r : Int) (w : World) (h : spec_pzNext.f a0 = some r) :
  Calls Try.prog 51 #[.int .i64 a0] w fun e w' => e = .returned (.int .i64 r) ∧ Drawn0 w w' := by
 have H : (some (Int.tmod (wrap64 ((wrap64 (233 * a0)) + 1871)) 10007)) = some r := h
 clear h
 obtain rfl := Option.some.inj H
 go_enter Try.func51, Try.ntmps51
 go_wp2
 go_ret
 exact ⟨by first | rfl | (simp; done) | (simp [*]; done), by repeat (first | exact Drawn0.refl _ | apply Drawn0.step)⟩
def spec_nuPlot.f (a0_0 : Int) (a0_1 : Int) (a1 : Int) : Option (Int × Int) := if a0_0 = 1 then (some (wrap64 (1 - (Int.tmod a1 2)), wrap64 (Int.tdiv (wrap64 (a1 - 1)) 2))) else (if a1 > a0_1 then (some (1, wrap64 ((wrap64 (2 * a0_1)) - a1))) else (some (0, wrap64 (a1 - 1))))
theorem spec_nuPlot.calls (a0_0 : Int) (a0_1 : Int) (a1 : Int) (r1 : Int) (r2 : Int) (w : World) (h : spec_nuPlot.f a0_0 a0_1 a1 = some (r1, r2)) :
  Calls Try.prog 90 #[.agg #[.int .i64 a0_0, .int .i64 a0_1], .int .i64 a1] w fun e w' => e = .returned (.tuple #[.int .i64 r1, .int .i64 r2]) ∧ Below w.heap.size w w' := by
 have hu30 := Try.underlying30
 have HB := am (Below.refl w.heap.size w)
 have H : (if a0_0 = 1 then (some (wrap64 (1 - (Int.tmod a1 2)), wrap64 (Int.tdiv (wrap64 (a1 - 1)) 2))) else (if a1 > a0_1 then (some (1, wrap64 ((wrap64 (2 * a0_1)) - a1))) else (some (0, wrap64 (a1 - 1))))) = some (r1, r2) := h
 clear h
 by_cases c3 : a0_0 = 1
 ·rw [if_pos c3] at H
  have c3b0 : (a0_0 == 1) = true := beq_iff_eq.mpr c3
  have c3b1 : (a0_0 != 1) = false := bne_eq_false_iff_eq.mpr c3
  clear c3
  simp only [Option.some.injEq, Prod.mk.injEq] at H
  obtain ⟨rfl, rfl⟩ := H
  go_enter Try.func90, Try.ntmps90
  go_wp2_with (first | ((with_reducible refine gate_dst (N := 2) rfl ?_); refine uX (N := 2) (cs := #[.int .i64 a0_0, .int .i64 a0_1]) (t := 30) ?_; intro gb101 hg w4 hbox hb; have BK101 := am (hbox); have GW101 := uE hg; have GE101 := GW101; replace HB := uS hb; clear hb hbox hg; obtain ⟨hcz5_0, hcz5_1, hfz5_0, hfz5_1⟩ := uZ2 BK101))
  repeat (go_quiet (first | ((with_reducible refine gate_dst (N := 2) rfl ?_); refine uX (N := 2) (cs := #[.int .i64 a0_0, .int .i64 a0_1]) (t := 30) ?_; intro gb101 hg w4 hbox hb; have BK101 := am (hbox); have GW101 := uE hg; have GE101 := GW101; replace HB := uS hb; clear hb hbox hg; obtain ⟨hcz5_0, hcz5_1, hfz5_0, hfz5_1⟩ := uZ2 BK101)); try go_wp2_with (first | ((with_reducible refine gate_dst (N := 2) rfl ?_); refine uX (N := 2) (cs := #[.int .i64 a0_0, .int .i64 a0_1]) (t := 30) ?_; intro gb101 hg w4 hbox hb; have BK101 := am (hbox); have GW101 := uE hg; have GE101 := GW101; replace HB := uS hb; clear hb hbox hg; obtain ⟨hcz5_0, hcz5_1, hfz5_0, hfz5_1⟩ := uZ2 BK101)))
  go_ret2
  exact ⟨uA, by exact uW⟩
 ·rw [if_neg c3] at H
  have c3b0 : (a0_0 == 1) = false := beq_eq_false_iff_ne.mpr c3
  have c3b1 : (a0_0 != 1) = true := bne_iff_ne.mpr c3
  by_cases c6 : a1 > a0_1
  ·rw [if_pos c6] at H
   have c6b0 : decide (a0_1 < a1) = true := decide_eq_true c6
   clear c6
   simp only [Option.some.injEq, Prod.mk.injEq] at H
   obtain ⟨rfl, rfl⟩ := H
   go_enter Try.func90, Try.ntmps90
   go_wp2_with (first | ((with_reducible refine gate_dst (N := 2) rfl ?_); refine uX (N := 2) (cs := #[.int .i64 a0_0, .int .i64 a0_1]) (t := 30) ?_; intro gb101 hg w7 hbox hb; have BK101 := am (hbox); have GW101 := uE hg; have GE101 := GW101; replace HB := uS hb; clear hb hbox hg; obtain ⟨hcz8_0, hcz8_1, hfz8_0, hfz8_1⟩ := uZ2 BK101))
   repeat (go_quiet (first | ((with_reducible refine gate_dst (N := 2) rfl ?_); refine uX (N := 2) (cs := #[.int .i64 a0_0, .int .i64 a0_1]) (t := 30) ?_; intro gb101 hg w7 hbox hb; have BK101 := am (hbox); have GW101 := uE hg; have GE101 := GW101; replace HB := uS hb; clear hb hbox hg; obtain ⟨hcz8_0, hcz8_1, hfz8_0, hfz8_1⟩ := uZ2 BK101)); try go_wp2_with (first | ((with_reducible refine gate_dst (N := 2) rfl ?_); refine uX (N := 2) (cs := #[.int .i64 a0_0, .int .i64 a0_1]) (t := 30) ?_; intro gb101 hg w7 hbox hb; have BK101 := am (hbox); have GW101 := uE hg; have GE101 := GW101; replace HB := uS hb; clear hb hbox hg; obtain ⟨hcz8_0, hcz8_1, hfz8_0, hfz8_1⟩ := uZ2 BK101)))
   go_ret2
   exact ⟨uA, by exact uW⟩
  ·rw [if_neg c6] at H
   have c6b0 : decide (a0_1 < a1) = false := decide_eq_false c6
   clear c6
   simp only [Option.some.injEq, Prod.mk.injEq] at H
   obtain ⟨rfl, rfl⟩ := H
   go_enter Try.func90, Try.ntmps90
   go_wp2_with (first | ((with_reducible refine gate_dst (N := 2) rfl ?_); refine uX (N := 2) (cs := #[.int .i64 a0_0, .int .i64 a0_1]) (t := 30) ?_; intro gb101 hg w9 hbox hb; have BK101 := am (hbox); have GW101 := uE hg; have GE101 := GW101; replace HB := uS hb; clear hb hbox hg; obtain ⟨hcz10_0, hcz10_1, hfz10_0, hfz10_1⟩ := uZ2 BK101))
   repeat (go_quiet (first | ((with_reducible refine gate_dst (N := 2) rfl ?_); refine uX (N := 2) (cs := #[.int .i64 a0_0, .int .i64 a0_1]) (t := 30) ?_; intro gb101 hg w9 hbox hb; have BK101 := am (hbox); have GW101 := uE hg; have GE101 := GW101; replace HB := uS hb; clear hb hbox hg; obtain ⟨hcz10_0, hcz10_1, hfz10_0, hfz10_1⟩ := uZ2 BK101)); try go_wp2_with (first | ((with_reducible refine gate_dst (N := 2) rfl ?_); refine uX (N := 2) (cs := #[.int .i64 a0_0, .int .i64 a0_1]) (t := 30) ?_; intro gb101 hg w9 hbox hb; have BK101 := am (hbox); have GW101 := uE hg; have GE101 := GW101; replace HB := uS hb; clear hb hbox hg; obtain ⟨hcz10_0, hcz10_1, hfz10_0, hfz10_1⟩ := uZ2 BK101)))
   go_ret2
   exact ⟨uA, by exact uW⟩
def spec_pzIf.f (a0 : Bool) : Option (Int) := if a0 = true then (some 1) else (some 0)
theorem spec_pzIf.calls (a0 : Bool) (r : Int) (w : World) (h : spec_pzIf.f a0 = some r) :
  Calls Try.prog 91 #[.bool a0] w fun e w' => e = .returned (.int .i64 r) ∧ Drawn0 w w' := by
 have H : (if a0 = true then (some 1) else (some 0)) = some r := h
 clear h
 by_cases c2 : a0 = true
 ·subst c2
  have H1 : (some 1) = some r := by rw [if_pos rfl] at H; exact H
  clear H
  have H := H1
  clear H1
  obtain rfl := Option.some.inj H
  go_enter Try.func91, Try.ntmps91
  go_wp2
  go_ret
  exact ⟨by first | rfl | (simp; done) | (simp [*]; done), by repeat (first | exact Drawn0.refl _ | apply Drawn0.step)⟩
 ·replace c2 := Bool.eq_false_iff.mpr c2
  subst c2
  have H1 : (some 0) = some r := by rw [if_neg (show ¬ (false = true) by decide)] at H; exact H
  clear H
  have H := H1
  clear H1
  obtain rfl := Option.some.inj H
  go_enter Try.func91, Try.ntmps91
  go_wp2
  go_ret
  exact ⟨by first | rfl | (simp; done) | (simp [*]; done), by repeat (first | exact Drawn0.refl _ | apply Drawn0.step)⟩
def spec_nuNumber.f (a0_0 : Int) (a0_1 : Int) (a1 : Int) (a2 : Int) : Option (Int) := if a0_0 = 1 then (some (wrap64 ((wrap64 ((wrap64 (2 * a2)) + 1)) + a1))) else (if a1 = 1 then (some (wrap64 ((wrap64 (2 * a0_1)) - a2))) else (some (wrap64 (a2 + 1))))
theorem spec_nuNumber.calls (a0_0 : Int) (a0_1 : Int) (a1 : Int) (a2 : Int) (r : Int) (w : World) (h : spec_nuNumber.f a0_0 a0_1 a1 a2 = some r) :
  Calls Try.prog 92 #[.agg #[.int .i64 a0_0, .int .i64 a0_1], .int .i64 a1, .int .i64 a2] w fun e w' => e = .returned (.int .i64 r) ∧ Below w.heap.size w w' := by
 have hu30 := Try.underlying30
 have HB := am (Below.refl w.heap.size w)
 have H : (if a0_0 = 1 then (some (wrap64 ((wrap64 ((wrap64 (2 * a2)) + 1)) + a1))) else (if a1 = 1 then (some (wrap64 ((wrap64 (2 * a0_1)) - a2))) else (some (wrap64 (a2 + 1))))) = some r := h
 clear h
 by_cases c4 : a0_0 = 1
 ·rw [if_pos c4] at H
  have c4b0 : (a0_0 == 1) = true := beq_iff_eq.mpr c4
  have c4b1 : (a0_0 != 1) = false := bne_eq_false_iff_eq.mpr c4
  clear c4
  obtain rfl := Option.some.inj H
  go_enter Try.func92, Try.ntmps92
  go_wp2_with (first | ((with_reducible refine gate_dst (N := 3) rfl ?_); refine uX (N := 3) (cs := #[.int .i64 a0_0, .int .i64 a0_1]) (t := 30) ?_; intro gb101 hg w5 hbox hb; have BK101 := am (hbox); have GW101 := uE hg; have GE101 := GW101; replace HB := uS hb; clear hb hbox hg; obtain ⟨hcz6_0, hcz6_1, hfz6_0, hfz6_1⟩ := uZ2 BK101))
  go_ret
  exact ⟨uA, by exact uW⟩
 ·rw [if_neg c4] at H
  have c4b0 : (a0_0 == 1) = false := beq_eq_false_iff_ne.mpr c4
  have c4b1 : (a0_0 != 1) = true := bne_iff_ne.mpr c4
  by_cases c7 : a1 = 1
  ·rw [if_pos c7] at H
   have c7b0 : (a1 == 1) = true := beq_iff_eq.mpr c7
   have c7b1 : (a1 != 1) = false := bne_eq_false_iff_eq.mpr c7
   clear c7
   obtain rfl := Option.some.inj H
   go_enter Try.func92, Try.ntmps92
   go_wp2_with (first | ((with_reducible refine gate_dst (N := 3) rfl ?_); refine uX (N := 3) (cs := #[.int .i64 a0_0, .int .i64 a0_1]) (t := 30) ?_; intro gb101 hg w8 hbox hb; have BK101 := am (hbox); have GW101 := uE hg; have GE101 := GW101; replace HB := uS hb; clear hb hbox hg; obtain ⟨hcz9_0, hcz9_1, hfz9_0, hfz9_1⟩ := uZ2 BK101))
   go_ret
   exact ⟨uA, by exact uW⟩
  ·rw [if_neg c7] at H
   have c7b0 : (a1 == 1) = false := beq_eq_false_iff_ne.mpr c7
   have c7b1 : (a1 != 1) = true := bne_iff_ne.mpr c7
   obtain rfl := Option.some.inj H
   go_enter Try.func92, Try.ntmps92
   go_wp2_with (first | ((with_reducible refine gate_dst (N := 3) rfl ?_); refine uX (N := 3) (cs := #[.int .i64 a0_0, .int .i64 a0_1]) (t := 30) ?_; intro gb101 hg w10 hbox hb; have BK101 := am (hbox); have GW101 := uE hg; have GE101 := GW101; replace HB := uS hb; clear hb hbox hg; obtain ⟨hcz11_0, hcz11_1, hfz11_0, hfz11_1⟩ := uZ2 BK101))
   go_ret
   exact ⟨uA, by exact uW⟩
def spec_pzValue.f (a0_0 : Int) (a0_1 : Int) (a1 : Int) (a2 : Int) (a3 : Int) : Option (Int) := (spec_nuPlot.f a0_0 a0_1 a3).bind fun bt102 => (if a1 = 0 then (some bt102.1) else (if a1 = 1 then (some bt102.2) else (if a1 = 2 then (if a2 = 0 then (none) else ((spec_pzIf.f ((Int.tmod a3 a2) == 0)).bind fun t104 => (some t104))) else (if a1 = 3 then (some (wrap64 ((wrap64 (Int.tdiv a3 10)) + (Int.tmod a3 10)))) else (if a1 = 4 then ((spec_pzIf.f (decide (a3 > a2))).bind fun t105 => (some t105)) else (if a0_0 = 0 then (some 0) else ((spec_nuNumber.f a0_0 a0_1 (wrap64 (1 - bt102.1)) bt102.2).bind fun t106 => (some t106))))))))
theorem spec_pzValue.calls (a0_0 : Int) (a0_1 : Int) (a1 : Int) (a2 : Int) (a3 : Int) (r : Int) (w : World) (h : spec_pzValue.f a0_0 a0_1 a1 a2 a3 = some r) :
  Calls Try.prog 78 #[.agg #[.int .i64 a0_0, .int .i64 a0_1], .int .i64 a1, .int .i64 a2, .int .i64 a3] w fun e w' => e = .returned (.int .i64 r) ∧ Below w.heap.size w w' := by
 have hu30 := Try.underlying30
 have HB := am (Below.refl w.heap.size w)
 have H : ((spec_nuPlot.f a0_0 a0_1 a3).bind fun bt102 => (if a1 = 0 then (some bt102.1) else (if a1 = 1 then (some bt102.2) else (if a1 = 2 then (if a2 = 0 then (none) else ((spec_pzIf.f ((Int.tmod a3 a2) == 0)).bind fun t104 => (some t104))) else (if a1 = 3 then (some (wrap64 ((wrap64 (Int.tdiv a3 10)) + (Int.tmod a3 10)))) else (if a1 = 4 then ((spec_pzIf.f (decide (a3 > a2))).bind fun t105 => (some t105)) else (if a0_0 = 0 then (some 0) else ((spec_nuNumber.f a0_0 a0_1 (wrap64 (1 - bt102.1)) bt102.2).bind fun t106 => (some t106))))))))) = some r := h
 clear h
 replace H := bH H
 obtain ⟨⟨t102, t103⟩, A50, H⟩ := H
 replace H : (if a1 = 0 then (some t102) else (if a1 = 1 then (some t103) else (if a1 = 2 then (if a2 = 0 then (none) else ((spec_pzIf.f ((Int.tmod a3 a2) == 0)).bind fun t104 => (some t104))) else (if a1 = 3 then (some (wrap64 ((wrap64 (Int.tdiv a3 10)) + (Int.tmod a3 10)))) else (if a1 = 4 then ((spec_pzIf.f (decide (a3 > a2))).bind fun t105 => (some t105)) else (if a0_0 = 0 then (some 0) else ((spec_nuNumber.f a0_0 a0_1 (wrap64 (1 - t102)) t103).bind fun t106 => (some t106)))))))) = some r := H
 have A5 := am A50
 clear A50
 by_cases c6 : a1 = 0
 ·rw [if_pos c6] at H
  have c6b0 : (a1 == 0) = true := beq_iff_eq.mpr c6
  have c6b1 : (a1 != 0) = false := bne_eq_false_iff_eq.mpr c6
  clear c6
  obtain rfl := Option.some.inj H
  go_enter Try.func78, Try.ntmps78
  go_wp2_with (first | ((with_reducible refine gate_dst (N := 4) rfl ?_); refine uX (N := 4) (cs := #[.int .i64 a0_0, .int .i64 a0_1]) (t := 30) ?_; intro gb101 hg w7 hbox hb; have BK101 := am (hbox); have GW101 := uE hg; have GE101 := GW101; replace HB := uS hb; clear hb hbox hg; obtain ⟨hcz8_0, hcz8_1, hfz8_0, hfz8_1⟩ := uZ2 BK101) | ((with_reducible refine gate_callee (f := 90) rfl ?_); refine uGo (some 14) Try.func90 #[.agg #[.int .i64 a0_0, .int .i64 a0_1], .int .i64 a3] ?_; (with_reducible refine (spec_nuPlot.calls a0_0 a0_1 a3 t102 t103 _ A5.out).mono ?_); rintro e w9 ⟨rfl, hb⟩; refine ⟨_, rfl, ?_⟩; replace BK101 := uB BK101 hb; replace HB := uS hb; (try clear hb); (try clear hb2); (try clear hk); (try clear hi)))
  go_ret
  exact ⟨uA, by exact uW⟩
 ·rw [if_neg c6] at H
  have c6b0 : (a1 == 0) = false := beq_eq_false_iff_ne.mpr c6
  have c6b1 : (a1 != 0) = true := bne_iff_ne.mpr c6
  by_cases c10 : a1 = 1
  ·rw [if_pos c10] at H
   have c10b0 : (a1 == 1) = true := beq_iff_eq.mpr c10
   have c10b1 : (a1 != 1) = false := bne_eq_false_iff_eq.mpr c10
   clear c10
   obtain rfl := Option.some.inj H
   go_enter Try.func78, Try.ntmps78
   go_wp2_with (first | ((with_reducible refine gate_dst (N := 4) rfl ?_); refine uX (N := 4) (cs := #[.int .i64 a0_0, .int .i64 a0_1]) (t := 30) ?_; intro gb101 hg w11 hbox hb; have BK101 := am (hbox); have GW101 := uE hg; have GE101 := GW101; replace HB := uS hb; clear hb hbox hg; obtain ⟨hcz12_0, hcz12_1, hfz12_0, hfz12_1⟩ := uZ2 BK101) | ((with_reducible refine gate_callee (f := 90) rfl ?_); refine uGo (some 14) Try.func90 #[.agg #[.int .i64 a0_0, .int .i64 a0_1], .int .i64 a3] ?_; (with_reducible refine (spec_nuPlot.calls a0_0 a0_1 a3 t102 t103 _ A5.out).mono ?_); rintro e w13 ⟨rfl, hb⟩; refine ⟨_, rfl, ?_⟩; replace BK101 := uB BK101 hb; replace HB := uS hb; (try clear hb); (try clear hb2); (try clear hk); (try clear hi)))
   go_ret
   exact ⟨uA, by exact uW⟩
  ·rw [if_neg c10] at H
   have c10b0 : (a1 == 1) = false := beq_eq_false_iff_ne.mpr c10
   have c10b1 : (a1 != 1) = true := bne_iff_ne.mpr c10
   by_cases c14 : a1 = 2
   ·rw [if_pos c14] at H
    have c14b0 : (a1 == 2) = true := beq_iff_eq.mpr c14
    have c14b1 : (a1 != 2) = false := bne_eq_false_iff_eq.mpr c14
    clear c14
    by_cases c15 : a2 = 0
    ·rw [if_pos c15] at H
     exact absurd H (by simp)
    ·rw [if_neg c15] at H
     have c15b0 : (a2 == 0) = false := beq_eq_false_iff_ne.mpr c15
     have c15b1 : (a2 != 0) = true := bne_iff_ne.mpr c15
     replace H := bH H
     obtain ⟨t104, A160, H⟩ := H
     replace H : (some t104) = some r := H
     have A16 := am A160
     clear A160
     obtain rfl := Option.some.inj H
     go_enter Try.func78, Try.ntmps78
     go_wp2_with (first | ((with_reducible refine gate_dst (N := 4) rfl ?_); refine uX (N := 4) (cs := #[.int .i64 a0_0, .int .i64 a0_1]) (t := 30) ?_; intro gb101 hg w17 hbox hb; have BK101 := am (hbox); have GW101 := uE hg; have GE101 := GW101; replace HB := uS hb; clear hb hbox hg; obtain ⟨hcz18_0, hcz18_1, hfz18_0, hfz18_1⟩ := uZ2 BK101) | ((with_reducible refine gate_callee (f := 90) rfl ?_); refine uGo (some 14) Try.func90 #[.agg #[.int .i64 a0_0, .int .i64 a0_1], .int .i64 a3] ?_; (with_reducible refine (spec_nuPlot.calls a0_0 a0_1 a3 t102 t103 _ A5.out).mono ?_); rintro e w19 ⟨rfl, hb⟩; refine ⟨_, rfl, ?_⟩; replace BK101 := uB BK101 hb; replace HB := uS hb; (try clear hb); (try clear hb2); (try clear hk); (try clear hi)) | ((with_reducible refine gate_callee (f := 91) rfl ?_); refine uGo (some 30) Try.func91 #[.bool ((Int.tmod a3 a2) == 0)] ?_; (with_reducible refine (spec_pzIf.calls ((Int.tmod a3 a2) == 0) t104 _ A16.out).mono ?_); rintro e w' ⟨rfl, ⟨nd, rfl⟩⟩; refine ⟨_, rfl, ?_⟩))
     go_ret
     exact ⟨uA, by exact uW⟩
   ·rw [if_neg c14] at H
    have c14b0 : (a1 == 2) = false := beq_eq_false_iff_ne.mpr c14
    have c14b1 : (a1 != 2) = true := bne_iff_ne.mpr c14
    by_cases c20 : a1 = 3
    ·rw [if_pos c20] at H
     have c20b0 : (a1 == 3) = true := beq_iff_eq.mpr c20
     have c20b1 : (a1 != 3) = false := bne_eq_false_iff_eq.mpr c20
     clear c20
     obtain rfl := Option.some.inj H
     go_enter Try.func78, Try.ntmps78
     go_wp2_with (first | ((with_reducible refine gate_dst (N := 4) rfl ?_); refine uX (N := 4) (cs := #[.int .i64 a0_0, .int .i64 a0_1]) (t := 30) ?_; intro gb101 hg w21 hbox hb; have BK101 := am (hbox); have GW101 := uE hg; have GE101 := GW101; replace HB := uS hb; clear hb hbox hg; obtain ⟨hcz22_0, hcz22_1, hfz22_0, hfz22_1⟩ := uZ2 BK101) | ((with_reducible refine gate_callee (f := 90) rfl ?_); refine uGo (some 14) Try.func90 #[.agg #[.int .i64 a0_0, .int .i64 a0_1], .int .i64 a3] ?_; (with_reducible refine (spec_nuPlot.calls a0_0 a0_1 a3 t102 t103 _ A5.out).mono ?_); rintro e w23 ⟨rfl, hb⟩; refine ⟨_, rfl, ?_⟩; replace BK101 := uB BK101 hb; replace HB := uS hb; (try clear hb); (try clear hb2); (try clear hk); (try clear hi)))
     go_ret
     exact ⟨uA, by exact uW⟩
    ·rw [if_neg c20] at H
     have c20b0 : (a1 == 3) = false := beq_eq_false_iff_ne.mpr c20
     have c20b1 : (a1 != 3) = true := bne_iff_ne.mpr c20
     by_cases c24 : a1 = 4
     ·rw [if_pos c24] at H
      have c24b0 : (a1 == 4) = true := beq_iff_eq.mpr c24
      have c24b1 : (a1 != 4) = false := bne_eq_false_iff_eq.mpr c24
      clear c24
      replace H := bH H
      obtain ⟨t105, A250, H⟩ := H
      replace H : (some t105) = some r := H
      have A25 := am A250
      clear A250
      obtain rfl := Option.some.inj H
      go_enter Try.func78, Try.ntmps78
      go_wp2_with (first | ((with_reducible refine gate_dst (N := 4) rfl ?_); refine uX (N := 4) (cs := #[.int .i64 a0_0, .int .i64 a0_1]) (t := 30) ?_; intro gb101 hg w26 hbox hb; have BK101 := am (hbox); have GW101 := uE hg; have GE101 := GW101; replace HB := uS hb; clear hb hbox hg; obtain ⟨hcz27_0, hcz27_1, hfz27_0, hfz27_1⟩ := uZ2 BK101) | ((with_reducible refine gate_callee (f := 90) rfl ?_); refine uGo (some 14) Try.func90 #[.agg #[.int .i64 a0_0, .int .i64 a0_1], .int .i64 a3] ?_; (with_reducible refine (spec_nuPlot.calls a0_0 a0_1 a3 t102 t103 _ A5.out).mono ?_); rintro e w28 ⟨rfl, hb⟩; refine ⟨_, rfl, ?_⟩; replace BK101 := uB BK101 hb; replace HB := uS hb; (try clear hb); (try clear hb2); (try clear hk); (try clear hi)) | ((with_reducible refine gate_callee (f := 91) rfl ?_); refine uGo (some 43) Try.func91 #[.bool (decide (a3 > a2))] ?_; (with_reducible refine (spec_pzIf.calls (decide (a3 > a2)) t105 _ A25.out).mono ?_); rintro e w' ⟨rfl, ⟨nd, rfl⟩⟩; refine ⟨_, rfl, ?_⟩))
      go_ret
      exact ⟨uA, by exact uW⟩
     ·rw [if_neg c24] at H
      have c24b0 : (a1 == 4) = false := beq_eq_false_iff_ne.mpr c24
      have c24b1 : (a1 != 4) = true := bne_iff_ne.mpr c24
      by_cases c29 : a0_0 = 0
      ·rw [if_pos c29] at H
       have c29b0 : (a0_0 == 0) = true := beq_iff_eq.mpr c29
       have c29b1 : (a0_0 != 0) = false := bne_eq_false_iff_eq.mpr c29
       clear c29
       obtain rfl := Option.some.inj H
       go_enter Try.func78, Try.ntmps78
       go_wp2_with (first | ((with_reducible refine gate_dst (N := 4) rfl ?_); refine uX (N := 4) (cs := #[.int .i64 a0_0, .int .i64 a0_1]) (t := 30) ?_; intro gb101 hg w30 hbox hb; have BK101 := am (hbox); have GW101 := uE hg; have GE101 := GW101; replace HB := uS hb; clear hb hbox hg; obtain ⟨hcz31_0, hcz31_1, hfz31_0, hfz31_1⟩ := uZ2 BK101) | ((with_reducible refine gate_callee (f := 90) rfl ?_); refine uGo (some 14) Try.func90 #[.agg #[.int .i64 a0_0, .int .i64 a0_1], .int .i64 a3] ?_; (with_reducible refine (spec_nuPlot.calls a0_0 a0_1 a3 t102 t103 _ A5.out).mono ?_); rintro e w32 ⟨rfl, hb⟩; refine ⟨_, rfl, ?_⟩; replace BK101 := uB BK101 hb; replace HB := uS hb; (try clear hb); (try clear hb2); (try clear hk); (try clear hi); obtain ⟨hcz33_0, hcz33_1, hfz33_0, hfz33_1⟩ := uZ2 BK101))
       go_ret
       exact ⟨uA, by exact uW⟩
      ·rw [if_neg c29] at H
       have c29b0 : (a0_0 == 0) = false := beq_eq_false_iff_ne.mpr c29
       have c29b1 : (a0_0 != 0) = true := bne_iff_ne.mpr c29
       replace H := bH H
       obtain ⟨t106, A340, H⟩ := H
       replace H : (some t106) = some r := H
       have A34 := am A340
       clear A340
       obtain rfl := Option.some.inj H
       go_enter Try.func78, Try.ntmps78
       go_wp2_with (first | ((with_reducible refine gate_dst (N := 4) rfl ?_); refine uX (N := 4) (cs := #[.int .i64 a0_0, .int .i64 a0_1]) (t := 30) ?_; intro gb101 hg w35 hbox hb; have BK101 := am (hbox); have GW101 := uE hg; have GE101 := GW101; replace HB := uS hb; clear hb hbox hg; obtain ⟨hcz36_0, hcz36_1, hfz36_0, hfz36_1⟩ := uZ2 BK101) | ((with_reducible refine gate_callee (f := 90) rfl ?_); refine uGo (some 14) Try.func90 #[.agg #[.int .i64 a0_0, .int .i64 a0_1], .int .i64 a3] ?_; (with_reducible refine (spec_nuPlot.calls a0_0 a0_1 a3 t102 t103 _ A5.out).mono ?_); rintro e w37 ⟨rfl, hb⟩; refine ⟨_, rfl, ?_⟩; replace BK101 := uB BK101 hb; replace HB := uS hb; (try clear hb); (try clear hb2); (try clear hk); (try clear hi); obtain ⟨hcz38_0, hcz38_1, hfz38_0, hfz38_1⟩ := uZ2 BK101) | ((with_reducible refine gate_callee (f := 92) rfl ?_); refine uGo (some 51) Try.func92 #[.agg #[.int .i64 a0_0, .int .i64 a0_1], .int .i64 (wrap64 (1 - t102)), .int .i64 t103] ?_; (with_reducible refine (spec_nuNumber.calls a0_0 a0_1 (wrap64 (1 - t102)) t103 t106 _ A34.out).mono ?_); rintro e w39 ⟨rfl, hb⟩; refine ⟨_, rfl, ?_⟩; replace BK101 := uB BK101 hb; replace HB := uS hb; (try clear hb); (try clear hb2); (try clear hk); (try clear hi)))
       go_ret
       exact ⟨uA, by exact uW⟩
def spec_pzOf.f (a0_0 : Int) (a0_1 : Int) (a1 : Int) (a2 : Int) (a3 : Int) : Option (Int × Int × Int) := if a1 = 2 then ((spec_pzValue.f a0_0 a0_1 a1 (wrap64 ((Int.tmod a2 8) + 2)) a3).bind fun t103 => (some (a1, wrap64 ((Int.tmod a2 8) + 2), t103))) else (if a1 = 4 then ((spec_pzValue.f a0_0 a0_1 a1 (wrap64 ((Int.tmod a2 40) + 1)) a3).bind fun t104 => (some (a1, wrap64 ((Int.tmod a2 40) + 1), t104))) else ((spec_pzValue.f a0_0 a0_1 a1 0 a3).bind fun t105 => (some (a1, 0, t105))))
theorem spec_pzOf.calls (a0_0 : Int) (a0_1 : Int) (a1 : Int) (a2 : Int) (a3 : Int) (r1 : Int) (r2 : Int) (r3 : Int) (w : World) (h : spec_pzOf.f a0_0 a0_1 a1 a2 a3 = some (r1, r2, r3)) :
  Calls Try.prog 52 #[.agg #[.int .i64 a0_0, .int .i64 a0_1], .int .i64 a1, .int .i64 a2, .int .i64 a3] w fun e w' => e = .returned (.agg #[.int .i64 r1, .int .i64 r2, .int .i64 r3]) ∧ Below w.heap.size w w' := by
 have hu30 := Try.underlying30
 have hu37 := Try.underlying37
 have HB := am (Below.refl w.heap.size w)
 have H : (if a1 = 2 then ((spec_pzValue.f a0_0 a0_1 a1 (wrap64 ((Int.tmod a2 8) + 2)) a3).bind fun t103 => (some (a1, wrap64 ((Int.tmod a2 8) + 2), t103))) else (if a1 = 4 then ((spec_pzValue.f a0_0 a0_1 a1 (wrap64 ((Int.tmod a2 40) + 1)) a3).bind fun t104 => (some (a1, wrap64 ((Int.tmod a2 40) + 1), t104))) else ((spec_pzValue.f a0_0 a0_1 a1 0 a3).bind fun t105 => (some (a1, 0, t105))))) = some (r1, r2, r3) := h
 clear h
 by_cases c5 : a1 = 2
 ·rw [if_pos c5] at H
  have c5b0 : (a1 == 2) = true := beq_iff_eq.mpr c5
  have c5b1 : (a1 != 2) = false := bne_eq_false_iff_eq.mpr c5
  clear c5
  replace H := bH H
  obtain ⟨t103, A60, H⟩ := H
  replace H : (some (a1, wrap64 ((Int.tmod a2 8) + 2), t103)) = some (r1, r2, r3) := H
  have A6 := am A60
  clear A60
  simp only [Option.some.injEq, Prod.mk.injEq] at H
  obtain ⟨rfl, rfl, rfl⟩ := H
  go_enter Try.func52, Try.ntmps52
  go_wp2_with (first | ((with_reducible refine gate_dst (N := 4) rfl ?_); refine uX (N := 4) (cs := #[.int .i64 a0_0, .int .i64 a0_1]) (t := 30) ?_; intro gb101 hg w7 hbox hb; have BK101 := am (hbox); have GW101 := uE hg; have GE101 := GW101; replace HB := uS hb; clear hb hbox hg) | ((with_reducible refine gate_dst (N := 8) rfl ?_); refine uX (N := 8) (cs := #[.int .i64 0, .int .i64 0, .int .i64 0]) (t := 37) ?_; intro gb102 hg w8 hbox hb; have BK102 := am (hbox); have GW102 := uE hg; have GE102 := GW102; have NB101_102 := uL BK101 hg; have NB102_101 := uY NB101_102; replace BK101 := uB BK101 hb; replace HB := uS hb; clear hb hbox hg; have hnb9 := NB101_102.out; have hnc9 := NB102_101.out; obtain ⟨hcz10_0, hcz10_1, hfz10_0, hfz10_1⟩ := uZ2 BK101) | ((with_reducible refine gate_callee (f := 78) rfl ?_); refine uGo (some 27) Try.func78 #[.agg #[.int .i64 a0_0, .int .i64 a0_1], .int .i64 a1, .int .i64 (wrap64 ((Int.tmod a2 8) + 2)), .int .i64 a3] ?_; (with_reducible refine (spec_pzValue.calls a0_0 a0_1 a1 (wrap64 ((Int.tmod a2 8) + 2)) a3 t103 _ A6.out).mono ?_); rintro e w11 ⟨rfl, hb⟩; refine ⟨_, rfl, ?_⟩; replace BK101 := uB BK101 hb; replace BK102 := uB BK102 hb; replace HB := uS hb; (try clear hb); (try clear hb2); (try clear hk); (try clear hi); obtain ⟨hcz12_0, hcz12_1, hcz12_2, hfz12_0, hfz12_1, hfz12_2⟩ := uZ3 BK102))
  refine bodyPost_ret (results_cell_row rfl _ _ gb102 37 #[.int .i64 a1, .int .i64 (wrap64 ((Int.tmod a2 8) + 2)), .int .i64 t103] (0, 0) _ rfl (by refine blk_put (cs := #[.int .i64 a1, .int .i64 (wrap64 ((Int.tmod a2 8) + 2)), .int .i64 0]) ?_ 2 _ rfl; refine blk_put (cs := #[.int .i64 a1, .int .i64 0, .int .i64 0]) ?_ 1 _ rfl; refine blk_put (cs := #[.int .i64 0, .int .i64 0, .int .i64 0]) ?_ 0 _ rfl; exact (uP BK102)) Try.underlying37 rfl (by kernel_rfl)) rfl ?_
  exact ⟨uA, by exact uW⟩
 ·rw [if_neg c5] at H
  have c5b0 : (a1 == 2) = false := beq_eq_false_iff_ne.mpr c5
  have c5b1 : (a1 != 2) = true := bne_iff_ne.mpr c5
  by_cases c13 : a1 = 4
  ·rw [if_pos c13] at H
   have c13b0 : (a1 == 4) = true := beq_iff_eq.mpr c13
   have c13b1 : (a1 != 4) = false := bne_eq_false_iff_eq.mpr c13
   clear c13
   replace H := bH H
   obtain ⟨t104, A140, H⟩ := H
   replace H : (some (a1, wrap64 ((Int.tmod a2 40) + 1), t104)) = some (r1, r2, r3) := H
   have A14 := am A140
   clear A140
   simp only [Option.some.injEq, Prod.mk.injEq] at H
   obtain ⟨rfl, rfl, rfl⟩ := H
   go_enter Try.func52, Try.ntmps52
   go_wp2_with (first | ((with_reducible refine gate_dst (N := 4) rfl ?_); refine uX (N := 4) (cs := #[.int .i64 a0_0, .int .i64 a0_1]) (t := 30) ?_; intro gb101 hg w15 hbox hb; have BK101 := am (hbox); have GW101 := uE hg; have GE101 := GW101; replace HB := uS hb; clear hb hbox hg) | ((with_reducible refine gate_dst (N := 8) rfl ?_); refine uX (N := 8) (cs := #[.int .i64 0, .int .i64 0, .int .i64 0]) (t := 37) ?_; intro gb102 hg w16 hbox hb; have BK102 := am (hbox); have GW102 := uE hg; have GE102 := GW102; have NB101_102 := uL BK101 hg; have NB102_101 := uY NB101_102; replace BK101 := uB BK101 hb; replace HB := uS hb; clear hb hbox hg; have hnb17 := NB101_102.out; have hnc17 := NB102_101.out; obtain ⟨hcz18_0, hcz18_1, hfz18_0, hfz18_1⟩ := uZ2 BK101) | ((with_reducible refine gate_callee (f := 78) rfl ?_); refine uGo (some 27) Try.func78 #[.agg #[.int .i64 a0_0, .int .i64 a0_1], .int .i64 a1, .int .i64 (wrap64 ((Int.tmod a2 40) + 1)), .int .i64 a3] ?_; (with_reducible refine (spec_pzValue.calls a0_0 a0_1 a1 (wrap64 ((Int.tmod a2 40) + 1)) a3 t104 _ A14.out).mono ?_); rintro e w19 ⟨rfl, hb⟩; refine ⟨_, rfl, ?_⟩; replace BK101 := uB BK101 hb; replace BK102 := uB BK102 hb; replace HB := uS hb; (try clear hb); (try clear hb2); (try clear hk); (try clear hi); obtain ⟨hcz20_0, hcz20_1, hcz20_2, hfz20_0, hfz20_1, hfz20_2⟩ := uZ3 BK102))
   refine bodyPost_ret (results_cell_row rfl _ _ gb102 37 #[.int .i64 a1, .int .i64 (wrap64 ((Int.tmod a2 40) + 1)), .int .i64 t104] (0, 0) _ rfl (by refine blk_put (cs := #[.int .i64 a1, .int .i64 (wrap64 ((Int.tmod a2 40) + 1)), .int .i64 0]) ?_ 2 _ rfl; refine blk_put (cs := #[.int .i64 a1, .int .i64 0, .int .i64 0]) ?_ 1 _ rfl; refine blk_put (cs := #[.int .i64 0, .int .i64 0, .int .i64 0]) ?_ 0 _ rfl; exact (uP BK102)) Try.underlying37 rfl (by kernel_rfl)) rfl ?_
   exact ⟨uA, by exact uW⟩
  ·rw [if_neg c13] at H
   have c13b0 : (a1 == 4) = false := beq_eq_false_iff_ne.mpr c13
   have c13b1 : (a1 != 4) = true := bne_iff_ne.mpr c13
   replace H := bH H
   obtain ⟨t105, A210, H⟩ := H
   replace H : (some (a1, 0, t105)) = some (r1, r2, r3) := H
   have A21 := am A210
   clear A210
   simp only [Option.some.injEq, Prod.mk.injEq] at H
   obtain ⟨rfl, rfl, rfl⟩ := H
   go_enter Try.func52, Try.ntmps52
   go_wp2_with (first | ((with_reducible refine gate_dst (N := 4) rfl ?_); refine uX (N := 4) (cs := #[.int .i64 a0_0, .int .i64 a0_1]) (t := 30) ?_; intro gb101 hg w22 hbox hb; have BK101 := am (hbox); have GW101 := uE hg; have GE101 := GW101; replace HB := uS hb; clear hb hbox hg) | ((with_reducible refine gate_dst (N := 8) rfl ?_); refine uX (N := 8) (cs := #[.int .i64 0, .int .i64 0, .int .i64 0]) (t := 37) ?_; intro gb102 hg w23 hbox hb; have BK102 := am (hbox); have GW102 := uE hg; have GE102 := GW102; have NB101_102 := uL BK101 hg; have NB102_101 := uY NB101_102; replace BK101 := uB BK101 hb; replace HB := uS hb; clear hb hbox hg; have hnb24 := NB101_102.out; have hnc24 := NB102_101.out; obtain ⟨hcz25_0, hcz25_1, hfz25_0, hfz25_1⟩ := uZ2 BK101) | ((with_reducible refine gate_callee (f := 78) rfl ?_); refine uGo (some 27) Try.func78 #[.agg #[.int .i64 a0_0, .int .i64 a0_1], .int .i64 a1, .int .i64 0, .int .i64 a3] ?_; (with_reducible refine (spec_pzValue.calls a0_0 a0_1 a1 0 a3 t105 _ A21.out).mono ?_); rintro e w26 ⟨rfl, hb⟩; refine ⟨_, rfl, ?_⟩; replace BK101 := uB BK101 hb; replace BK102 := uB BK102 hb; replace HB := uS hb; (try clear hb); (try clear hb2); (try clear hk); (try clear hi); obtain ⟨hcz27_0, hcz27_1, hcz27_2, hfz27_0, hfz27_1, hfz27_2⟩ := uZ3 BK102))
   refine bodyPost_ret (results_cell_row rfl _ _ gb102 37 #[.int .i64 a1, .int .i64 0, .int .i64 t105] (0, 0) _ rfl (by refine blk_put (cs := #[.int .i64 a1, .int .i64 0, .int .i64 0]) ?_ 2 _ rfl; refine blk_put (cs := #[.int .i64 a1, .int .i64 0, .int .i64 0]) ?_ 1 _ rfl; refine blk_put (cs := #[.int .i64 0, .int .i64 0, .int .i64 0]) ?_ 0 _ rfl; exact (uP BK102)) Try.underlying37 rfl (by kernel_rfl)) rfl ?_
   exact ⟨uA, by exact uW⟩
def impl_Clue_44_N.f (l0 : List (S37)) : Option ((List (S37))) := some ([] : List (S37))
theorem impl_Clue_44_N.calls (c0 : Nat) (l0 : List (S37)) (r : List (S37)) (w : World) (hr0 : Kd.C k37 w (none : Option Addr) l0.length l0) (hc0 : l0.length ≤ c0) (h : impl_Clue_44_N.f l0 = some r) :
  Calls Try.prog 44 #[.slice (none : Option Addr) l0.length c0] w fun e w' => ∃ v0_ : Value, e = .returned (v0_) ∧ Kd.R k37 37 w' w.heap.size (fun _ => True) v0_ r ∧ Below w.heap.size w w' := by
 have hnil := fun (w : World) => Lib.run_eql_slice_nil (P := Try.prog) w 31 37 (none : Option Addr) l0.length c0 0 0 Try.underlying31
 have HR0 := am hr0
 have HC0 := am hc0
 clear hr0 hc0
 have HB := am (Below.refl w.heap.size w)
 have H : (some ([] : List (S37))) = some r := h
 clear h
 obtain rfl := Option.some.inj H
 go_enter Try.func44, Try.ntmps44
 go_wp2
 go_ret
 exact ⟨_, uA, uN, by exact uW⟩
def impl_Clue_44_S.f (l0 : List (S37)) : Option ((List (S37))) := (some (([] : List (S37)) : List (S37))).bind fun y110 => (if y110.length + l0.length < 5864062014805 then (some (y110 ++ l0)) else (none))
theorem impl_Clue_44_S.calls (ad0 : Addr) (c0 : Nat) (l0 : List (S37)) (r : List (S37)) (w : World) (hr0 : Kd.C k37 w (some ad0) l0.length l0) (hc0 : l0.length ≤ c0) (h : impl_Clue_44_S.f l0 = some r) :
  Calls Try.prog 44 #[.slice (some ad0) l0.length c0] w fun e w' => ∃ v0_ : Value, e = .returned (v0_) ∧ Kd.R k37 37 w' w.heap.size (fun _ => True) v0_ r ∧ Below w.heap.size w w' := by
 have hnil := fun (w : World) => Lib.run_eql_slice_nil (P := Try.prog) w 31 37 (some ad0) l0.length c0 0 0 Try.underlying31
 have HR0 := am hr0
 have HC0 := am hc0
 clear hr0 hc0
 have HB := am (Below.refl w.heap.size w)
 have H : ((some (([] : List (S37)) : List (S37))).bind fun y110 => (if y110.length + l0.length < 5864062014805 then (some (y110 ++ l0)) else (none))) = some r := h
 clear h
 obtain ⟨y110, hy110⟩ : ∃ y_ : List (S37), y_ = (([] : List (S37))) := ⟨_, rfl⟩
 replace H : (if y110.length + l0.length < 5864062014805 then (some (y110 ++ l0)) else (none)) = some r := by first | (rw [hy110]; with_reducible exact H) | (have H2_ := (Option.bind_some _ _).symm.trans H; rw [hy110]; with_reducible exact H2_) | (have H2_ := (Option.bind_some _ _).symm.trans H; with_reducible exact H2_) | with_reducible exact H | (rw [hy110]; exact H) | exact H
 have Ny110 := am hy110
 clear hy110
 by_cases c2 : y110.length + l0.length < 5864062014805
 ·rw [if_pos c2] at H
  have LMc2 := am c2
  clear c2
  obtain ⟨y113, hy113⟩ : ∃ y_ : List (S37), y_ = (y110 ++ l0) := ⟨_, rfl⟩
  replace H : (some y113) = some r := by first | (rw [hy113]; with_reducible exact H) | (have H2_ := (Option.bind_some _ _).symm.trans H; rw [hy113]; with_reducible exact H2_) | (have H2_ := (Option.bind_some _ _).symm.trans H; with_reducible exact H2_) | with_reducible exact H | (rw [hy113]; exact H) | exact H
  have Ny113 := am hy113
  clear hy113
  obtain rfl := Option.some.inj H
  go_enter Try.func44, Try.ntmps44
  go_wp2_with (first | ((with_reducible refine gate_dst (N := 5) rfl ?_); refine Kd.R_lit k37 _ 37 ?hg (N := 5) ?hd (xs := ([] : List (S37))) (inner := []) (ok := fun _ => True) (okp := fun _ => True) ?hr ?hp (fun _ hk => hk) trivial (Below.refl _ _) (Nat.le_refl _) (by simp) ?_; (case hd => rfl); (case hg => rfl); (case hr => first | (go_simp; done) | (go_simp; rfl)); (case hp => exact (Reps.none _ _)); intro v111 w3 ho4 hb hg_ hnew_; clear hg_ hnew_; (first | rw [← Ny110.out] at ho4 | (simp only [Int.reduceToNat] at ho4; rw [← Ny110.out] at ho4)); have HO112 := am (Kd.R_lower ho4 (below_size uW)); replace HB := uS hb; clear hb ho4) | ((with_reducible refine gate_builtin (b := .append) (xs := #[.tmp 5, .tmp 6]) rfl ?_); at_builtin; refine Kd.R_append_rows k37 (w0 := w) w.heap.size rfl (.tmp 5) (.tmp 6) 31 37 (.agg #[(.int .i64 0), (.int .i64 0), (.int .i64 0)]) 24 rfl Try.underlying31 info37 rfl (by decide) (by omega) v111 y110 l0 _ _ _ (fun _ => True) (fun _ => False) rfl rfl ?aO ?aR (fun _ _ h => h) (fun _ h => h.elim) ?aF ?aB ?aS ?aL ?_; (case aR => repeat (first | exact (Kd.C_below HR0.out HB.out) | (with_reducible refine cA ?_ _) | (with_reducible refine cN ?_ _) | (with_reducible refine cD ?_))); (case aB => exact uW); (case aF => exact (fun _ _ => trivial)); (case aO => exact (uR HO112)); (case aS => exact (below_size uW)); (case aL => have := LMc2.out; omega); intro v114 w5 ho hb hg hat; rw [← Ny113.out] at ho; have HO115 := am (ho); replace HB := am (hb); clear HO112; clear ho hb hg hat))
  go_ret
  exact ⟨_, uA, by (with_reducible repeat (first | apply rA | apply rN | apply rD)); exact HO115.out, by exact uW⟩
 ·rw [if_neg c2] at H
  exact absurd H (by simp)
def impl_Clue_44.f (l0 : List (S37)) : Option ((List (S37))) := if l0.length < 5864062014805 then some l0 else none
theorem impl_Clue_44.calls (A0 : Option Addr) (c0 : Nat) (l0 : List (S37)) (r : List (S37)) (w : World) (hr0 : Kd.C k37 w A0 l0.length l0) (hc0 : l0.length ≤ c0) (h : impl_Clue_44.f l0 = some r) :
  Calls Try.prog 44 #[.slice A0 l0.length c0] w fun e w' => ∃ v0_ : Value, e = .returned (v0_) ∧ Kd.R k37 37 w' w.heap.size (fun _ => True) v0_ r ∧ Below w.heap.size w w' := by
 unfold impl_Clue_44.f at h
 by_cases hl : l0.length < 5864062014805
 ·rw [if_pos hl] at h
  obtain rfl := Option.some.inj h
  cases A0 with
  | none =>
   obtain rfl := Fun.C_none hr0
   exact impl_Clue_44_N.calls c0 [] [] w hr0 hc0 (by simp [impl_Clue_44_N.f])
  | some ad => exact impl_Clue_44_S.calls ad c0 l0 l0 w hr0 hc0 (by simp [impl_Clue_44_S.f, hl])
 ·rw [if_neg hl] at h
  cases h
def impl_doesFit.f (a0_0 : Int) (a0_1 : Int) (a1_0 : Int) (a1_1 : Int) (a1_2 : Int) (a2 : Int) : Option (Bool) := (impl_toldBy.f a0_0 a0_1 a1_0 a1_1 a1_2 a2).bind fun t103 => (some (t103 == a1_2))
def impl_doesFit.T1 : Bool × List (List Nat × List Nat) := (true, [([], []), ([], []), ([], []), ([0, 1, 2], [0, 1, 2]), ([], []), ([4], [4]), ([3, 5], [3, 5]), ([6, 3, 0, 1, 2, 3, 4, 5, 6], [6])])
def impl_doesFit.B1 : List Nat := [0, 0, 0, 7, 0, 16, 63, 127]
theorem impl_doesFit.tab1 : rtab .any (opsOf Try.f64 1) = impl_doesFit.T1 := by kernel_rfl
theorem impl_doesFit.bits1 : waitsOk impl_doesFit.T1.2 impl_doesFit.B1 = true := by kernel_rfl
theorem impl_doesFit.calls (a0_0 : Int) (a0_1 : Int) (a1_0 : Int) (a1_1 : Int) (a1_2 : Int) (a2 : Int) (r : Bool) (w : World) (h : impl_doesFit.f a0_0 a0_1 a1_0 a1_1 a1_2 a2 = some r) :
  Calls Try.prog 64 #[.agg #[.int .i64 a0_0, .int .i64 a0_1], .agg #[.int .i64 a1_0, .int .i64 a1_1, .int .i64 a1_2], .int .i64 a2] w fun e w' => e = .returned (.bool r) ∧ Below w.heap.size w w' := by
 have hu30 := Try.underlying30
 have hu37 := Try.underlying37
 have HB := am (Below.refl w.heap.size w)
 have H : ((impl_toldBy.f a0_0 a0_1 a1_0 a1_1 a1_2 a2).bind fun t103 => (some (t103 == a1_2))) = some r := h
 clear h
 replace H := bH H
 obtain ⟨t103, A40, H⟩ := H
 replace H : (some (t103 == a1_2)) = some r := H
 have A4 := am A40
 clear A40
 obtain rfl := Option.some.inj H
 go_enter Try.func64, Try.ntmps64
 try go_wp2_with (first | ((with_reducible refine gate_dst (N := 3) rfl ?_); refine uX (N := 3) (cs := #[.int .i64 a0_0, .int .i64 a0_1]) (t := 30) ?_; intro gb101 hg w5 hbox hb; have BK101 := am (hbox); have GW101 := uE hg; have GE101 := GW101; replace HB := uS hb; clear hb hbox hg) | ((with_reducible refine gate_dst (N := 4) rfl ?_); refine uX (N := 4) (cs := #[.int .i64 a1_0, .int .i64 a1_1, .int .i64 a1_2]) (t := 37) ?_; intro gb102 hg w6 hbox hb; have BK102 := am (hbox); have GW102 := uE hg; have GE102 := GW102; have NB101_102 := uL BK101 hg; have NB102_101 := uY NB101_102; replace BK101 := uB BK101 hb; replace HB := uS hb; clear hb hbox hg))
 replace BK101 := am (blk_drew BK101.out)
 replace BK102 := am (blk_drew BK102.out)
 replace HB := am (below_drew1 HB.out)
 refine start_ (n := 8) (S := fun w' => w'.cell? ⟨gb101, 0, none⟩ = some (.int .i64 a0_0) ∧ w'.cell? ⟨gb101, 1, none⟩ = some (.int .i64 a0_1) ∧ w'.cell? ⟨gb102, 0, none⟩ = some (.int .i64 a1_0) ∧ w'.cell? ⟨gb102, 1, none⟩ = some (.int .i64 a1_1) ∧ w'.cell? ⟨gb102, 2, none⟩ = some (.int .i64 a1_2)) (ds := []) #[false, false, false, false, false, false, false, false] (by kernel_rfl) rfl rfl ⟨uT BK101 0, uT BK101 1, uT BK102 0, uT BK102 1, uT BK102 2⟩ (fun hHeld => ?_); refine with_tabW impl_doesFit.tab1 impl_doesFit.bits1 (fun HT_ HW_ => ?_)
 generalize w6.drew = w7 at BK101 BK102 HB hHeld ⊢
 refine uPu (i := 2) (N := some 9) #[false, false, true, false, false, false, false, false] ?_
 refine uPu (i := 4) (N := some 11) #[false, false, true, false, true, false, false, false] ?_
 refine uTk (i := 0) (N := some 7) #[true, false, true, false, true, false, false, false] hHeld ?_
 refine uTk (i := 1) (N := some 8) #[true, true, true, false, true, false, false, false] hHeld ?_
 refine uTk (i := 5) (N := some 12) #[true, true, true, false, true, true, false, false] hHeld ?_
 refine uOn (i := 3) (N := some 10) #[true, true, true, true, true, true, false, false] (fun K hK => ?_)
 refine uGs Try.func56 #[.agg #[.int .i64 a0_0, .int .i64 a0_1], .agg #[.int .i64 a1_0, .int .i64 a1_1, .int .i64 a1_2], .int .i64 a2] ?_
 with_reducible refine (impl_toldBy.calls a0_0 a0_1 a1_0 a1_1 a1_2 a2 t103 _ A4.out).mono ?_
 rintro e w8 ⟨rfl, hb⟩
 refine ⟨_, rfl, ?_⟩
 replace BK101 := uB BK101 hb
 replace BK102 := uB BK102 hb
 replace HB := uS hb
 (try clear hb)
 (try clear hb2)
 (try clear hk)
 (try clear hi)
 refine hK.out _ _ ⟨uT BK101 0, uT BK101 1, uT BK102 0, uT BK102 1, uT BK102 2⟩ (fun hHeld => ?_)
 clear hK K
 refine uNo (some 10) ?_
 refine uPu (i := 6) (N := some 13) #[true, true, true, true, true, true, true, false] ?_
 refine uPu (i := 7) (N := some 6) #[true, true, true, true, true, true, true, true] ?_
 refine done_ (done_of HT_.out (by kernel_rfl)) ?_
 try go_wp2
 go_ret
 exact ⟨uA, by exact uW⟩
def impl_DoesFit.f (a0_0 : Int) (a0_1 : Int) (a1_0 : Int) (a1_1 : Int) (a1_2 : Int) (a2 : Int) : Option (Bool × Bool) := (impl_isHiddenStreet.f a0_0 a0_1).bind fun t103 => (if t103 = true then ((impl_isClue.f a1_0 a1_1 a1_2).bind fun t104 => (if t104 = true then ((impl_isHouse.f a0_0 a0_1 a2).bind fun t105 => (if t105 = true then ((impl_doesFit.f a0_0 a0_1 a1_0 a1_1 a1_2 a2).bind fun t106 => (some (t106, true))) else (some (false, false)))) else (some (false, false)))) else (some (false, false)))
theorem impl_DoesFit.calls (a0_0 : Int) (a0_1 : Int) (a1_0 : Int) (a1_1 : Int) (a1_2 : Int) (a2 : Int) (r1 : Bool) (r2 : Bool) (w : World) (h : impl_DoesFit.f a0_0 a0_1 a1_0 a1_1 a1_2 a2 = some (r1, r2)) :
  Calls Try.prog 21 #[.agg #[.int .i64 a0_0, .int .i64 a0_1], .agg #[.int .i64 a1_0, .int .i64 a1_1, .int .i64 a1_2], .int .i64 a2] w fun e w' => e = .returned (.tuple #[.bool r1, .bool r2]) ∧ Below w.heap.size w w' := by
 have hu30 := Try.underlying30
 have hu37 := Try.underlying37
 have HB := am (Below.refl w.heap.size w)
 have H : ((impl_isHiddenStreet.f a0_0 a0_1).bind fun t103 => (if t103 = true then ((impl_isClue.f a1_0 a1_1 a1_2).bind fun t104 => (if t104 = true then ((impl_isHouse.f a0_0 a0_1 a2).bind fun t105 => (if t105 = true then ((impl_doesFit.f a0_0 a0_1 a1_0 a1_1 a1_2 a2).bind fun t106 => (some (t106, true))) else (some (false, false)))) else (some (false, false)))) else (some (false, false)))) = some (r1, r2) := h
 clear h
 replace H := bH H
 obtain ⟨t103, A40, H⟩ := H
 replace H : (if t103 = true then ((impl_isClue.f a1_0 a1_1 a1_2).bind fun t104 => (if t104 = true then ((impl_isHouse.f a0_0 a0_1 a2).bind fun t105 => (if t105 = true then ((impl_doesFit.f a0_0 a0_1 a1_0 a1_1 a1_2 a2).bind fun t106 => (some (t106, true))) else (some (false, false)))) else (some (false, false)))) else (some (false, false))) = some (r1, r2) := H
 have A4 := am A40
 clear A40
 by_cases c5 : t103 = true
 ·subst c5
  have H1 : ((impl_isClue.f a1_0 a1_1 a1_2).bind fun t104 => (if t104 = true then ((impl_isHouse.f a0_0 a0_1 a2).bind fun t105 => (if t105 = true then ((impl_doesFit.f a0_0 a0_1 a1_0 a1_1 a1_2 a2).bind fun t106 => (some (t106, true))) else (some (false, false)))) else (some (false, false)))) = some (r1, r2) := by rw [if_pos rfl] at H; exact H
  clear H
  have H := H1
  clear H1
  replace H := bH H
  obtain ⟨t104, A60, H⟩ := H
  replace H : (if t104 = true then ((impl_isHouse.f a0_0 a0_1 a2).bind fun t105 => (if t105 = true then ((impl_doesFit.f a0_0 a0_1 a1_0 a1_1 a1_2 a2).bind fun t106 => (some (t106, true))) else (some (false, false)))) else (some (false, false))) = some (r1, r2) := H
  have A6 := am A60
  clear A60
  by_cases c7 : t104 = true
  ·subst c7
   have H1 : ((impl_isHouse.f a0_0 a0_1 a2).bind fun t105 => (if t105 = true then ((impl_doesFit.f a0_0 a0_1 a1_0 a1_1 a1_2 a2).bind fun t106 => (some (t106, true))) else (some (false, false)))) = some (r1, r2) := by rw [if_pos rfl] at H; exact H
   clear H
   have H := H1
   clear H1
   replace H := bH H
   obtain ⟨t105, A80, H⟩ := H
   replace H : (if t105 = true then ((impl_doesFit.f a0_0 a0_1 a1_0 a1_1 a1_2 a2).bind fun t106 => (some (t106, true))) else (some (false, false))) = some (r1, r2) := H
   have A8 := am A80
   clear A80
   by_cases c9 : t105 = true
   ·subst c9
    have H1 : ((impl_doesFit.f a0_0 a0_1 a1_0 a1_1 a1_2 a2).bind fun t106 => (some (t106, true))) = some (r1, r2) := by rw [if_pos rfl] at H; exact H
    clear H
    have H := H1
    clear H1
    replace H := bH H
    obtain ⟨t106, A100, H⟩ := H
    replace H : (some (t106, true)) = some (r1, r2) := H
    have A10 := am A100
    clear A100
    simp only [Option.some.injEq, Prod.mk.injEq] at H
    obtain ⟨rfl, rfl⟩ := H
    go_enter Try.func21, Try.ntmps21
    go_wp2_with (first | ((with_reducible refine gate_dst (N := 3) rfl ?_); refine uX (N := 3) (cs := #[.int .i64 a0_0, .int .i64 a0_1]) (t := 30) ?_; intro gb101 hg w11 hbox hb; have BK101 := am (hbox); have GW101 := uE hg; have GE101 := GW101; replace HB := uS hb; clear hb hbox hg) | ((with_reducible refine gate_dst (N := 4) rfl ?_); refine uX (N := 4) (cs := #[.int .i64 a1_0, .int .i64 a1_1, .int .i64 a1_2]) (t := 37) ?_; intro gb102 hg w12 hbox hb; have BK102 := am (hbox); have GW102 := uE hg; have GE102 := GW102; have NB101_102 := uL BK101 hg; have NB102_101 := uY NB101_102; replace BK101 := uB BK101 hb; replace HB := uS hb; clear hb hbox hg; have hnb13 := NB101_102.out; have hnc13 := NB102_101.out; obtain ⟨hcz14_0, hcz14_1, hfz14_0, hfz14_1⟩ := uZ2 BK101) | ((with_reducible refine gate_callee (f := 53) rfl ?_); refine uGo (some 9) Try.func53 #[.agg #[.int .i64 a0_0, .int .i64 a0_1]] ?_; (with_reducible refine (impl_isHiddenStreet.calls a0_0 a0_1 true _ A4.out).mono ?_); rintro e w15 ⟨rfl, hb⟩; refine ⟨_, rfl, ?_⟩; replace BK101 := uB BK101 hb; replace BK102 := uB BK102 hb; replace HB := uS hb; (try clear hb); (try clear hb2); (try clear hk); (try clear hi); obtain ⟨hcz16_0, hcz16_1, hcz16_2, hfz16_0, hfz16_1, hfz16_2⟩ := uZ3 BK102) | (go_at_call 63; (with_reducible refine (impl_isClue.calls a1_0 a1_1 a1_2 true _ A6.out).mono ?_); rintro e w17 ⟨rfl, hb⟩; replace BK101 := uB BK101 hb; replace BK102 := uB BK102 hb; replace HB := uS hb; (try clear hb); (try clear hb2); (try clear hk); (try clear hi); obtain ⟨hcz18_0, hcz18_1, hfz18_0, hfz18_1⟩ := uZ2 BK101) | (go_at_call 54; (with_reducible refine (impl_isHouse.calls a0_0 a0_1 a2 true _ A8.out).mono ?_); rintro e w19 ⟨rfl, hb⟩; replace BK101 := uB BK101 hb; replace BK102 := uB BK102 hb; replace HB := uS hb; (try clear hb); (try clear hb2); (try clear hk); (try clear hi); obtain ⟨hcz20_0, hcz20_1, hfz20_0, hfz20_1⟩ := uZ2 BK101; obtain ⟨hcz21_0, hcz21_1, hcz21_2, hfz21_0, hfz21_1, hfz21_2⟩ := uZ3 BK102) | ((with_reducible refine gate_callee (f := 64) rfl ?_); refine uGo (some 25) Try.func64 #[.agg #[.int .i64 a0_0, .int .i64 a0_1], .agg #[.int .i64 a1_0, .int .i64 a1_1, .int .i64 a1_2], .int .i64 a2] ?_; (with_reducible refine (impl_doesFit.calls a0_0 a0_1 a1_0 a1_1 a1_2 a2 t106 _ A10.out).mono ?_); rintro e w22 ⟨rfl, hb⟩; refine ⟨_, rfl, ?_⟩; replace BK101 := uB BK101 hb; replace BK102 := uB BK102 hb; replace HB := uS hb; (try clear hb); (try clear hb2); (try clear hk); (try clear hi)))
    go_ret2
    exact ⟨uA, by exact uW⟩
   ·replace c9 := Bool.eq_false_iff.mpr c9
    subst c9
    have H1 : (some (false, false)) = some (r1, r2) := by rw [if_neg (show ¬ (false = true) by decide)] at H; exact H
    clear H
    have H := H1
    clear H1
    simp only [Option.some.injEq, Prod.mk.injEq] at H
    obtain ⟨rfl, rfl⟩ := H
    go_enter Try.func21, Try.ntmps21
    go_wp2_with (first | ((with_reducible refine gate_dst (N := 3) rfl ?_); refine uX (N := 3) (cs := #[.int .i64 a0_0, .int .i64 a0_1]) (t := 30) ?_; intro gb101 hg w23 hbox hb; have BK101 := am (hbox); have GW101 := uE hg; have GE101 := GW101; replace HB := uS hb; clear hb hbox hg) | ((with_reducible refine gate_dst (N := 4) rfl ?_); refine uX (N := 4) (cs := #[.int .i64 a1_0, .int .i64 a1_1, .int .i64 a1_2]) (t := 37) ?_; intro gb102 hg w24 hbox hb; have BK102 := am (hbox); have GW102 := uE hg; have GE102 := GW102; have NB101_102 := uL BK101 hg; have NB102_101 := uY NB101_102; replace BK101 := uB BK101 hb; replace HB := uS hb; clear hb hbox hg; have hnb25 := NB101_102.out; have hnc25 := NB102_101.out; obtain ⟨hcz26_0, hcz26_1, hfz26_0, hfz26_1⟩ := uZ2 BK101) | ((with_reducible refine gate_callee (f := 53) rfl ?_); refine uGo (some 9) Try.func53 #[.agg #[.int .i64 a0_0, .int .i64 a0_1]] ?_; (with_reducible refine (impl_isHiddenStreet.calls a0_0 a0_1 true _ A4.out).mono ?_); rintro e w27 ⟨rfl, hb⟩; refine ⟨_, rfl, ?_⟩; replace BK101 := uB BK101 hb; replace BK102 := uB BK102 hb; replace HB := uS hb; (try clear hb); (try clear hb2); (try clear hk); (try clear hi); obtain ⟨hcz28_0, hcz28_1, hcz28_2, hfz28_0, hfz28_1, hfz28_2⟩ := uZ3 BK102) | (go_at_call 63; (with_reducible refine (impl_isClue.calls a1_0 a1_1 a1_2 true _ A6.out).mono ?_); rintro e w29 ⟨rfl, hb⟩; replace BK101 := uB BK101 hb; replace BK102 := uB BK102 hb; replace HB := uS hb; (try clear hb); (try clear hb2); (try clear hk); (try clear hi); obtain ⟨hcz30_0, hcz30_1, hfz30_0, hfz30_1⟩ := uZ2 BK101) | (go_at_call 54; (with_reducible refine (impl_isHouse.calls a0_0 a0_1 a2 false _ A8.out).mono ?_); rintro e w31 ⟨rfl, hb⟩; replace BK101 := uB BK101 hb; replace BK102 := uB BK102 hb; replace HB := uS hb; (try clear hb); (try clear hb2); (try clear hk); (try clear hi)))
    go_ret2
    exact ⟨uA, by exact uW⟩
  ·replace c7 := Bool.eq_false_iff.mpr c7
   subst c7
   have H1 : (some (false, false)) = some (r1, r2) := by rw [if_neg (show ¬ (false = true) by decide)] at H; exact H
   clear H
   have H := H1
   clear H1
   simp only [Option.some.injEq, Prod.mk.injEq] at H
   obtain ⟨rfl, rfl⟩ := H
   go_enter Try.func21, Try.ntmps21
   go_wp2_with (first | ((with_reducible refine gate_dst (N := 3) rfl ?_); refine uX (N := 3) (cs := #[.int .i64 a0_0, .int .i64 a0_1]) (t := 30) ?_; intro gb101 hg w32 hbox hb; have BK101 := am (hbox); have GW101 := uE hg; have GE101 := GW101; replace HB := uS hb; clear hb hbox hg) | ((with_reducible refine gate_dst (N := 4) rfl ?_); refine uX (N := 4) (cs := #[.int .i64 a1_0, .int .i64 a1_1, .int .i64 a1_2]) (t := 37) ?_; intro gb102 hg w33 hbox hb; have BK102 := am (hbox); have GW102 := uE hg; have GE102 := GW102; have NB101_102 := uL BK101 hg; have NB102_101 := uY NB101_102; replace BK101 := uB BK101 hb; replace HB := uS hb; clear hb hbox hg; have hnb34 := NB101_102.out; have hnc34 := NB102_101.out; obtain ⟨hcz35_0, hcz35_1, hfz35_0, hfz35_1⟩ := uZ2 BK101) | ((with_reducible refine gate_callee (f := 53) rfl ?_); refine uGo (some 9) Try.func53 #[.agg #[.int .i64 a0_0, .int .i64 a0_1]] ?_; (with_reducible refine (impl_isHiddenStreet.calls a0_0 a0_1 true _ A4.out).mono ?_); rintro e w36 ⟨rfl, hb⟩; refine ⟨_, rfl, ?_⟩; replace BK101 := uB BK101 hb; replace BK102 := uB BK102 hb; replace HB := uS hb; (try clear hb); (try clear hb2); (try clear hk); (try clear hi); obtain ⟨hcz37_0, hcz37_1, hcz37_2, hfz37_0, hfz37_1, hfz37_2⟩ := uZ3 BK102) | (go_at_call 63; (with_reducible refine (impl_isClue.calls a1_0 a1_1 a1_2 false _ A6.out).mono ?_); rintro e w38 ⟨rfl, hb⟩; replace BK101 := uB BK101 hb; replace BK102 := uB BK102 hb; replace HB := uS hb; (try clear hb); (try clear hb2); (try clear hk); (try clear hi)))
   go_ret2
   exact ⟨uA, by exact uW⟩
 ·replace c5 := Bool.eq_false_iff.mpr c5
  subst c5
  have H1 : (some (false, false)) = some (r1, r2) := by rw [if_neg (show ¬ (false = true) by decide)] at H; exact H
  clear H
  have H := H1
  clear H1
  simp only [Option.some.injEq, Prod.mk.injEq] at H
  obtain ⟨rfl, rfl⟩ := H
  go_enter Try.func21, Try.ntmps21
  go_wp2_with (first | ((with_reducible refine gate_dst (N := 3) rfl ?_); refine uX (N := 3) (cs := #[.int .i64 a0_0, .int .i64 a0_1]) (t := 30) ?_; intro gb101 hg w39 hbox hb; have BK101 := am (hbox); have GW101 := uE hg; have GE101 := GW101; replace HB := uS hb; clear hb hbox hg) | ((with_reducible refine gate_dst (N := 4) rfl ?_); refine uX (N := 4) (cs := #[.int .i64 a1_0, .int .i64 a1_1, .int .i64 a1_2]) (t := 37) ?_; intro gb102 hg w40 hbox hb; have BK102 := am (hbox); have GW102 := uE hg; have GE102 := GW102; have NB101_102 := uL BK101 hg; have NB102_101 := uY NB101_102; replace BK101 := uB BK101 hb; replace HB := uS hb; clear hb hbox hg; have hnb41 := NB101_102.out; have hnc41 := NB102_101.out; obtain ⟨hcz42_0, hcz42_1, hfz42_0, hfz42_1⟩ := uZ2 BK101) | ((with_reducible refine gate_callee (f := 53) rfl ?_); refine uGo (some 9) Try.func53 #[.agg #[.int .i64 a0_0, .int .i64 a0_1]] ?_; (with_reducible refine (impl_isHiddenStreet.calls a0_0 a0_1 false _ A4.out).mono ?_); rintro e w43 ⟨rfl, hb⟩; refine ⟨_, rfl, ?_⟩; replace BK101 := uB BK101 hb; replace BK102 := uB BK102 hb; replace HB := uS hb; (try clear hb); (try clear hb2); (try clear hk); (try clear hi)))
  go_ret2
  exact ⟨uA, by exact uW⟩
def impl_OppositeOf.j0 : Nat → Int → Bool → Int → Int → Option (Int × Bool)
 | 0, _, _, _, _ => none
 | k + 1, x1, x16, x102000, x102001 => if x16 = true then (some (0, false)) else ((impl_plotOf.f x102000 x102001 x1).bind fun bt103 => ((impl_numberAt.f x102000 x102001 (wrap64 (1 - bt103.1)) bt103.2).bind fun t105 => (some (t105, true))))
def impl_OppositeOf.f (k : Nat) (a0_0 : Int) (a0_1 : Int) (a1 : Int) : Option (Int × Bool) := (impl_isHouse.f a0_0 a0_1 a1).bind fun t102 => (if t102 = true then (impl_OppositeOf.j0 k a1 (a0_0 == 0) a0_0 a0_1) else (impl_OppositeOf.j0 k a1 true a0_0 a0_1))
theorem impl_OppositeOf.calls (k : Nat) (a0_0 : Int) (a0_1 : Int) (a1 : Int) (r1 : Int) (r2 : Bool) (w : World) (h : impl_OppositeOf.f k a0_0 a0_1 a1 = some (r1, r2)) :
  Calls Try.prog 22 #[.agg #[.int .i64 a0_0, .int .i64 a0_1], .int .i64 a1] w fun e w' => e = .returned (.tuple #[.int .i64 r1, .bool r2]) ∧ Below w.heap.size w w' := by
 have hu30 := Try.underlying30
 have HB := am (Below.refl w.heap.size w)
 have H : ((impl_isHouse.f a0_0 a0_1 a1).bind fun t102 => (if t102 = true then (impl_OppositeOf.j0 k a1 (a0_0 == 0) a0_0 a0_1) else (impl_OppositeOf.j0 k a1 true a0_0 a0_1))) = some (r1, r2) := h
 clear h
 have HC3 := am H
 clear H
 go_enter Try.func22, Try.ntmps22
 go_upto_region 1 with (first | ((with_reducible refine gate_dst (N := 2) rfl ?_); refine uX (N := 2) (cs := #[.int .i64 a0_0, .int .i64 a0_1]) (t := 30) ?_; intro gb101 hg w4 hbox hb; have BK101 := am (hbox); have GW101 := uE hg; have GE101 := GW101; replace HB := uS hb; clear hb hbox hg))
 (try simp only [Act.put, List.setIfInBounds_toArray, List.set_cons_zero, List.set_cons_succ])
 go_cut [16] (fun v16 wc => ∃ (kq : Nat) (x16_2 : Bool), v16 = .bool x16_2 ∧ Aside0 (impl_OppositeOf.j0 kq a1 x16_2 a0_0 a0_1 = some (r1, r2)) ∧ Aside0 (kq ≤ k) ∧ Aside0 (wc.heap[gb101]? = some (.cells #[.int .i64 a0_0, .int .i64 a0_1] 30 (0, 0))) ∧ Aside0 (Below w.heap.size w wc))
 case first =>
  have H := HC3.out
  clear HC3
  replace H := bH H
  obtain ⟨t102, A50, H⟩ := H
  replace H : (if t102 = true then (impl_OppositeOf.j0 k a1 (a0_0 == 0) a0_0 a0_1) else (impl_OppositeOf.j0 k a1 true a0_0 a0_1)) = some (r1, r2) := H
  have A5 := am A50
  clear A50
  by_cases c6 : t102 = true
  ·subst c6
   have H1 : (impl_OppositeOf.j0 k a1 (a0_0 == 0) a0_0 a0_1) = some (r1, r2) := by rw [if_pos rfl] at H; exact H
   clear H
   have H := H1
   clear H1
   have H' := am H
   clear H
   obtain ⟨hcz7_0, hcz7_1, hfz7_0, hfz7_1⟩ := uZ2 BK101
   go_wp2_with (first | ((with_reducible refine gate_callee (f := 54) rfl ?_); refine uGo (some 10) Try.func54 #[.agg #[.int .i64 a0_0, .int .i64 a0_1], .int .i64 a1] ?_; (with_reducible refine (impl_isHouse.calls a0_0 a0_1 a1 true _ A5.out).mono ?_); rintro e w8 ⟨rfl, hb⟩; refine ⟨_, rfl, ?_⟩; replace BK101 := uB BK101 hb; replace HB := uS hb; (try clear hb); (try clear hb2); (try clear hk); (try clear hi); obtain ⟨hcz9_0, hcz9_1, hfz9_0, hfz9_1⟩ := uZ2 BK101))
   go_meet
   case rel => exact ⟨_, ((a0_0 == 0)), (by first | rfl | (simp; done) | (simp [*]; done)), H', ⟨by first | omega | exact Nat.le_refl _⟩, ⟨by (with_reducible repeat (first | refine bN ?_ _ | refine bD ?_ | refine bA ?_ _)); exact BK101.out⟩, ⟨by exact uW⟩⟩
  ·replace c6 := Bool.eq_false_iff.mpr c6
   subst c6
   have H1 : (impl_OppositeOf.j0 k a1 true a0_0 a0_1) = some (r1, r2) := by rw [if_neg (show ¬ (false = true) by decide)] at H; exact H
   clear H
   have H := H1
   clear H1
   have H' := am H
   clear H
   obtain ⟨hcz10_0, hcz10_1, hfz10_0, hfz10_1⟩ := uZ2 BK101
   go_wp2_with (first | ((with_reducible refine gate_callee (f := 54) rfl ?_); refine uGo (some 10) Try.func54 #[.agg #[.int .i64 a0_0, .int .i64 a0_1], .int .i64 a1] ?_; (with_reducible refine (impl_isHouse.calls a0_0 a0_1 a1 false _ A5.out).mono ?_); rintro e w11 ⟨rfl, hb⟩; refine ⟨_, rfl, ?_⟩; replace BK101 := uB BK101 hb; replace HB := uS hb; (try clear hb); (try clear hb2); (try clear hk); (try clear hi)))
   go_meet
   case rel => exact ⟨_, (true), (by first | rfl | (simp; done) | (simp [*]; done)), H', ⟨by first | omega | exact Nat.le_refl _⟩, ⟨by (with_reducible repeat (first | refine bN ?_ _ | refine bD ?_ | refine bA ?_ _)); exact BK101.out⟩, ⟨by exact uW⟩⟩
 case rest =>
  clear HC3
  try clear c2
  try clear p2
  try clear c5
  try clear c6
  try clear hcz10_0
  try clear hcz10_1
  try clear hcz7_0
  try clear hcz7_1
  try clear hcz9_0
  try clear hcz9_1
  try clear hfz10_0
  try clear hfz10_1
  try clear hfz7_0
  try clear hfz7_1
  try clear hfz9_0
  try clear hfz9_1
  obtain ⟨kq, x16_2, rfl, HA, HJ2, BK101, HB⟩ := hcut
  cases kq with
  | zero => exact absurd HA.out (by simp [impl_OppositeOf.j0])
  | succ kj2 =>
   have H := HA.out
   clear HA
   simp only [impl_OppositeOf.j0] at H
   by_cases c12 : x16_2 = true
   ·subst c12
    have H1 : (some (0, false)) = some (r1, r2) := by rw [if_pos rfl] at H; exact H
    clear H
    have H := H1
    clear H1
    simp only [Option.some.injEq, Prod.mk.injEq] at H
    obtain ⟨rfl, rfl⟩ := H
    go_wp2
    go_ret2
    exact ⟨uA, by exact uW⟩
   ·replace c12 := Bool.eq_false_iff.mpr c12
    subst c12
    have H1 : ((impl_plotOf.f a0_0 a0_1 a1).bind fun bt103 => ((impl_numberAt.f a0_0 a0_1 (wrap64 (1 - bt103.1)) bt103.2).bind fun t105 => (some (t105, true)))) = some (r1, r2) := by rw [if_neg (show ¬ (false = true) by decide)] at H; exact H
    clear H
    have H := H1
    clear H1
    replace H := bH H
    obtain ⟨⟨t103, t104⟩, A130, H⟩ := H
    replace H : ((impl_numberAt.f a0_0 a0_1 (wrap64 (1 - t103)) t104).bind fun t105 => (some (t105, true))) = some (r1, r2) := H
    have A13 := am A130
    clear A130
    replace H := bH H
    obtain ⟨t105, A140, H⟩ := H
    replace H : (some (t105, true)) = some (r1, r2) := H
    have A14 := am A140
    clear A140
    simp only [Option.some.injEq, Prod.mk.injEq] at H
    obtain ⟨rfl, rfl⟩ := H
    obtain ⟨hcz15_0, hcz15_1, hfz15_0, hfz15_1⟩ := uZ2 BK101
    go_wp2_with (first | ((with_reducible refine gate_callee (f := 62) rfl ?_); refine uGo (some 20) Try.func62 #[.agg #[.int .i64 a0_0, .int .i64 a0_1], .int .i64 a1] ?_; (with_reducible refine (impl_plotOf.calls a0_0 a0_1 a1 t103 t104 _ A13.out).mono ?_); rintro e w16 ⟨rfl, hb⟩; refine ⟨_, rfl, ?_⟩; replace BK101 := uB BK101 hb; replace HB := uS hb; (try clear hb); (try clear hb2); (try clear hk); (try clear hi); obtain ⟨hcz17_0, hcz17_1, hfz17_0, hfz17_1⟩ := uZ2 BK101) | ((with_reducible refine gate_callee (f := 65) rfl ?_); refine uGo (some 27) Try.func65 #[.agg #[.int .i64 a0_0, .int .i64 a0_1], .int .i64 (wrap64 (1 - t103)), .int .i64 t104] ?_; (with_reducible refine (impl_numberAt.calls a0_0 a0_1 (wrap64 (1 - t103)) t104 t105 _ A14.out).mono ?_); rintro e w18 ⟨rfl, hb⟩; refine ⟨_, rfl, ?_⟩; replace BK101 := uB BK101 hb; replace HB := uS hb; (try clear hb); (try clear hb2); (try clear hk); (try clear hi)))
    go_ret2
    exact ⟨uA, by exact uW⟩
theorem sol_bad (gs gh : Nat) (a b hh : Int) (t : Bool) (W : World) (x : S37) (hf : impl_doesFit.f a b x.f0 x.f1 x.f2 hh = some t)
  (h0 : W.cell? ⟨gs, 0, none⟩ = some (.int .i64 a)) (h1 : W.cell? ⟨gs, 1, none⟩ = some (.int .i64 b)) (h2 : W.cell? ⟨gh, 0, none⟩ = some (.int .i64 hh)) (l0 : gs < W.heap.size) (l1 : gh < W.heap.size) :
  Calls Try.prog 86 (#[clueV x] ++ #[.pointer (some ⟨gs, 0, none⟩), .pointer (some ⟨gh, 0, none⟩)]) W fun e w' => e = .returned (.bool (!t)) ∧ Below W.heap.size W w' := by
 have hu := Try.underlying37
 have hu2 := Try.underlying30
 have key := fun W1 => impl_doesFit.calls a b x.f0 x.f1 x.f2 hh t W1 hf
 clear hf
 show Calls Try.prog 86 #[.agg #[.int .i64 x.f0, .int .i64 x.f1, .int .i64 x.f2], .pointer (some ⟨gs, 0, none⟩), .pointer (some ⟨gh, 0, none⟩)] W _
 generalize x.f0 = a0 at key ⊢
 generalize x.f1 = a1 at key ⊢
 generalize x.f2 = a2 at key ⊢
 have e0 : gs ≠ W.heap.size := by omega
 have e1 : gh ≠ W.heap.size := by omega
 go_enter Try.func86, Try.ntmps86
 go_wp2_with fail
 refine (key _).mono ?_
 rintro e w' ⟨rfl, hb'⟩
 go_wp2
 go_ret
 exact ⟨rfl, Fun.below_box hb'⟩
def fitsAll (a b : Int) (l : List S37) (h : Int) : Option Bool :=
 if l.all (fun x => (impl_doesFit.f a b x.f0 x.f1 x.f2 h).isSome) = true then some (!(l.any fun x => !((impl_doesFit.f a b x.f0 x.f1 x.f2 h).getD false))) else none
def solGo (a b : Int) (l : List S37) : Nat → List Int → Int → Option (List Int)
 | 0, acc, _ => some acc
 | m + 1, acc, h => (fitsAll a b l h).bind fun ok => if ok = true then (if acc.length < 17592186044416 then solGo a b l m (acc ++ [h]) (h + 1) else none) else solGo a b l m acc (h + 1)
def impl_solutions.f (a0_0 : Int) (a0_1 : Int) (l1 : List (S37)) : Option (List Int) := (impl_housesOf.f a0_0 a0_1).bind fun n => if n ≤ 9223372036854775806 then solGo a0_0 a0_1 l1 n.toNat [] 1 else none
theorem sol_fits {a b h : Int} {l : List S37} {t : Bool} (hf : fitsAll a b l h = some t) : t = (!(l.any fun x => !((impl_doesFit.f a b x.f0 x.f1 x.f2 h).getD false))) ∧ ∀ x ∈ l, impl_doesFit.f a b x.f0 x.f1 x.f2 h = some ((impl_doesFit.f a b x.f0 x.f1 x.f2 h).getD false) := by
 unfold fitsAll at hf
 split at hf
 ·rename_i hall
  refine ⟨(Option.some.inj hf).symm, fun x hx => ?_⟩
  have := List.all_eq_true.1 hall x hx
  obtain ⟨y, hy⟩ := Option.isSome_iff_exists.1 this
  rw [hy]
  rfl
 ·cases hf
theorem sol_keep {wr W W' : World} {gh gs : Nat} {x y z : Value} (h : W.cell? ⟨gh, 0, none⟩ = some x ∧ W.cell? ⟨gs, 0, none⟩ = some y ∧ W.cell? ⟨gs, 1, none⟩ = some z ∧ Below wr.heap.size wr W) (hb : Below W.heap.size W W') :
  W'.cell? ⟨gh, 0, none⟩ = some x ∧ W'.cell? ⟨gs, 0, none⟩ = some y ∧ W'.cell? ⟨gs, 1, none⟩ = some z ∧ Below wr.heap.size wr W' :=
 ⟨(hb.cell (World.block_lt_of_cell? W _ h.1)).trans h.1, (hb.cell (World.block_lt_of_cell? W _ h.2.1)).trans h.2.1, (hb.cell (World.block_lt_of_cell? W _ h.2.2.1)).trans h.2.2.1, below_step h.2.2.2 hb⟩
theorem sol_fresh {W : World} {gs gh : Nat} {o o' : Obj} (h : W.heap[gs]? = some o) (h' : W.heap[gh]? = some o') : ∀ k, W.heap.size ≤ k → k ≠ gh ∧ k ≠ gs := fun k hk => by
 have := blk_lt h
 have := blk_lt h'
 omega
theorem sol_left {W : World} {g : Nat} {o : Obj} (h : W.heap[g]? = some o) (o' : Obj) : (W.alloc o').heap[g]? = some o := blk_alloc h o'
theorem sol_row {W : World} {gs gh base : Nat} {o o' : Obj} {v : Value} {xs : List Int} (h : Kd.R (Kd.int .i64) 3 W base (fun k_ => k_ ≠ gh ∧ k_ ≠ gs) v xs) (h' : W.heap[gs]? = some o) : Kd.R (Kd.int .i64) 3 (W.alloc o') base (fun k_ => k_ ≠ W.heap.size ∧ k_ ≠ gs) v xs :=
 Kd.R_alloc (Kd.R_mono (Kd.R_bound h) (fun k hk => ⟨by omega, hk.1.2⟩)) o'
theorem impl_solutions.calls (a0_0 : Int) (a0_1 : Int) (A1 : Option Addr) (c1 : Nat) (l1 : List (S37)) (r : List Int) (w : World) (hr1 : Kd.C k37 w A1 l1.length l1) (hc1 : l1.length ≤ c1) (h : impl_solutions.f a0_0 a0_1 l1 = some r) :
  Calls Try.prog 69 #[.agg #[.int .i64 a0_0, .int .i64 a0_1], .slice A1 l1.length c1] w fun e w' => ∃ v0_ : Value, e = .returned (v0_) ∧ Kd.R (Kd.int .i64) 3 w' w.heap.size (fun _ => True) v0_ r ∧ Below w.heap.size w w' := by
 have hu27 := Try.underlying30
 unfold impl_solutions.f at h
 obtain ⟨n, hn, h⟩ := Option.bind_eq_some_iff.1 h
 by_cases hmax : n ≤ 9223372036854775806
 ·rw [if_pos hmax] at h
  have HR := am hr1
  have HC := am hc1
  have HH := am h
  have HN := am hn
  have HM := am hmax
  have eg := am (enters_of Try.func86 (by kernel_rfl) rfl)
  clear hr1 hc1 h hn hmax
  go_enter Try.func69, Try.ntmps69
  go_wp2
  go_loopg [5, 6] (n.toNat + 1) (fun gk v5 v6 wr => ∃ (acc : List Int) (hh : Int) (gh : Nat), v6 = .pointer (some ⟨gh, 0, none⟩) ∧ Aside0 (∃ m, m + 1 = gk ∧ solGo a0_0 a0_1 l1 m acc hh = some r ∧ 1 ≤ hh ∧ hh + m = max n 0 + 1) ∧ Aside0 (wr.heap[w.heap.size]? = some (.cells #[.int .i64 a0_0, .int .i64 a0_1] 30 (0, 0))) ∧ Aside0 (wr.heap[gh]? = some (.cells #[.int .i64 hh] 3 (0, 0))) ∧ Aside0 (w.heap.size < gh) ∧ Aside0 (Kd.R (Kd.int .i64) 3 wr w.heap.size (fun k_ => k_ ≠ gh ∧ k_ ≠ w.heap.size) v5 acc) ∧ Aside0 (Below w.heap.size w wr))
  case atStart => exact ⟨[], 1, w.heap.size + 1, rfl, ⟨n.toNat, rfl, HH.out, by omega, by omega⟩, ⟨blk_alloc (blk_new _ _) _⟩, ⟨by have := blk_new (w.alloc (.cells #[.int .i64 a0_0, .int .i64 a0_1] 30)) (.cells #[.int .i64 1] 3); simpa using this⟩, ⟨by omega⟩, ⟨Kd.R_nil _ _ _ _ _⟩, ⟨((Below.refl _ _).alloc (Nat.le_refl _) _).alloc (by simp) _⟩⟩
  case round =>
   obtain ⟨acc, hh, gh, rfl, HS, KS, KH, HL, HO, HB⟩ := hrel
   have s0 : wr.cell? ⟨gh, 0, none⟩ = some (.int .i64 hh) ∧ wr.cell? ⟨w.heap.size, 0, none⟩ = some (.int .i64 a0_0) ∧ wr.cell? ⟨w.heap.size, 1, none⟩ = some (.int .i64 a0_1) ∧ Below wr.heap.size wr wr := ⟨blk_cell KH.out 0, blk_cell KS.out 0, blk_cell KS.out 1, Below.refl _ _⟩
   go_wp2_with fail
   go_region_held3 (fun W => W.cell? ⟨gh, 0, none⟩ = some (.int .i64 hh) ∧ W.cell? ⟨w.heap.size, 0, none⟩ = some (.int .i64 a0_0) ∧ W.cell? ⟨w.heap.size, 1, none⟩ = some (.int .i64 a0_1) ∧ Below wr.heap.size wr W) (first | assumption | exact ⟨s0.1, s0.2.1, s0.2.2.1, s0.2.2.2.drew⟩ | exact sol_keep (by assumption) (by assumption)) (first | (go_at_call 80; refine (impl_housesOf.calls a0_0 a0_1 n _ HN.out).mono ?_; rintro e w' ⟨rfl, hb⟩))
   have hb2 : Below wr.heap.size wr w' := below_step ((Below.refl wr.heap.size wr).drew) hb
   have KS1 := am (blk_below KS.out hb2)
   have KH1 := am (blk_below KH.out hb2)
   have HO1 := am (Kd.R_below HO.out hb2)
   have HB1 := am (below_step HB.out hb2)
   clear hb hb2 s0 KS KH HO HB
   obtain ⟨m, hm, hgo, h1, hsum⟩ := HS.out
   clear HS
   have HG := am hgo
   clear hgo
   by_cases hle : hh ≤ n
   ·obtain ⟨m', rfl⟩ : ∃ m', m = m' + 1 := ⟨m - 1, by omega⟩
    have hgo := HG.out
    unfold solGo at hgo
    obtain ⟨ok, hfit, hgo⟩ := Option.bind_eq_some_iff.1 hgo
    obtain ⟨hok, hall⟩ := sol_fits hfit
    have HF := am hall
    have HK := am hok
    have HG2 := am hgo
    have hs : w.heap.size < w'.heap.size := Nat.lt_of_lt_of_le (blk_lt KS1.out) (Nat.le_refl _)
    have hg : gh < w'.heap.size := blk_lt KH1.out
    have hle2 : hh ≤ 9223372036854775806 := by have := HM.out; omega
    have HMg := am hm
    clear hfit hok hall hgo HG hm
    go_wp2_with fail
    refine (clue_containsFunc (fun x => !((impl_doesFit.f a0_0 a0_1 x.f0 x.f1 x.f2 hh).getD false)) 86 #[.pointer (some ⟨w.heap.size, 0, none⟩), .pointer (some ⟨gh, 0, none⟩)] eg.out A1 c1 l1 w' (Kd.C_below HR.out HB1.out) HC.out (fun W x hx hW => (sol_bad w.heap.size gh a0_0 a0_1 hh _ W x (HF.out x hx) ((blk_cell (blk_below KS1.out hW) 0).trans rfl) ((blk_cell (blk_below KS1.out hW) 1).trans rfl) ((blk_cell (blk_below KH1.out hW) 0).trans rfl) (Nat.lt_of_lt_of_le hs hW.size) (Nat.lt_of_lt_of_le hg hW.size)).mono fun e w' h => ⟨h.1, below_step hW h.2⟩)).mono ?_
    rintro e w2 ⟨rfl, hb⟩
    have hq : (l1.any fun x => !((impl_doesFit.f a0_0 a0_1 x.f0 x.f1 x.f2 hh).getD false)) = !ok := by rw [HK.out, Bool.not_not]
    rw [hq]
    clear hq
    have KS2 := am (blk_below KS1.out hb)
    have KH2 := am (blk_below KH1.out hb)
    have HO2 := am (Kd.R_below HO1.out hb)
    have HB2 := am (below_step HB1.out hb)
    clear KS1 KH1 HO1 HB1 hb hs hg HF HK
    have e0 : w2.cell? ⟨gh, 0, none⟩ = some (.int .i64 hh) := (blk_cell KH2.out 0).trans rfl
    cases ok with
    | true =>
     have hgo := HG2.out
     rw [if_pos rfl] at hgo
     by_cases hL : acc.length < 17592186044416
     ·rw [if_pos hL] at hgo
      have HG3 := am hgo
      have HLM := am hL
      clear hgo hL HG2
      go_wp2_with (first | ((with_reducible refine gate_builtin (b := .append) (xs := #[.tmp 17, .tmp 19]) rfl ?_); at_builtin; refine Kd.R_append (Kd.int .i64) (w0 := w) w.heap.size rfl (.tmp 17) (.tmp 19) 59 3 (.int .i64 0) 8 rfl Try.underlying59 info3 rfl (by decide) (by omega) u5 acc hh [.int .i64 hh] (fun k_ => k_ ≠ gh ∧ k_ ≠ w.heap.size) (fun _ => False) rfl rfl ?aP (fun _ hk => hk.elim) ?aF ?aO ?aB ?aS ?aL ?_; (case aP => exact rfl); (case aF => exact sol_fresh KS2.out KH2.out); (case aO => exact HO2.out); (case aB => exact HB2.out); (case aS => exact HB2.out.size); (case aL => have := HLM.out; omega); intro v1 w3 ho hb hg hat; have KS3 := am (blk_grown KS2.out hg (fun e => (HO2.out.1 _ e.symm).2 rfl)); have KH3 := am (blk_grown KH2.out hg (fun e => (HO2.out.1 _ e.symm).1 rfl)); have HO3 := am ho; have HB3 := am hb; clear e0 KS2 KH2 HO2 HB2 ho hb hg hat; have e0 : w3.cell? ⟨gh, 0, none⟩ = some (.int .i64 hh) := (blk_cell KH3.out 0).trans rfl))
      go_roundg (m' + 1)
      case measure => have := HMg.out; omega
      case rel => exact ⟨acc ++ [hh], hh + 1, w3.heap.size, rfl, ⟨m', rfl, HG3.out, by omega, by omega⟩, ⟨sol_left KS3.out _⟩, ⟨blk_new _ _⟩, ⟨blk_lt KS3.out⟩, ⟨sol_row HO3.out KS3.out⟩, ⟨below_alloc HB3.out _⟩⟩
     ·rw [if_neg hL] at hgo
      cases hgo
    | false =>
     have hgo := HG2.out
     rw [if_neg (by decide)] at hgo
     have HG3 := am hgo
     clear hgo HG2
     go_wp2
     go_roundg (m' + 1)
     case measure => have := HMg.out; omega
     case rel => exact ⟨acc, hh + 1, w2.heap.size, rfl, ⟨m', rfl, HG3.out, by omega, by omega⟩, ⟨sol_left KS2.out _⟩, ⟨blk_new _ _⟩, ⟨blk_lt KS2.out⟩, ⟨sol_row HO2.out KS2.out⟩, ⟨below_alloc HB2.out _⟩⟩
   ·obtain rfl : m = 0 := by omega
    have hgo := HG.out
    unfold solGo at hgo
    obtain rfl := Option.some.inj hgo
    clear hgo HG hm h1 hsum
    go_wp2
    go_ret
    exact ⟨_, rfl, Kd.R_mono HO1.out (fun _ _ => trivial), HB1.out⟩
 ·rw [if_neg hmax] at h
  cases h
theorem R_behind {α : Type} {d : Kd α} {e : Nat} {w : World} {base : Nat} {ok : Nat → Prop} {g n c off : Nat} {xs : List α} (h : d.R e w base ok (.slice (some ⟨g, 0, none⟩) n c) xs) (vs : List Value) (ho : n * d.sz ≤ off) (hf : off + vs.length ≤ c * d.sz) :
  d.R e (w.setCells g off vs) base ok (.slice (some ⟨g, 0, none⟩) n c) xs ∧ w.grownBy (w.setCells g off vs) (some g) := by
 obtain ⟨s1, s2, s3, s4⟩ := setCells_same g vs off w
 have hfar : ∀ k', k' ≠ g → (w.setCells g off vs).heap[k']? = w.heap[k']? := fun k' hk' => setCells_far vs _ k' hk'
 refine ⟨?_, ⟨s1, s2, s3, by rw [s4]; exact Nat.le_refl _, fun k' _ hk' => hfar k' (fun he => hk' (by rw [he]))⟩⟩
 obtain ⟨hn, hnc, _⟩ := Kd.R_reads' h
 obtain ⟨hok, inner, hown, hr⟩ := h
 rcases hown.2 with ⟨hv, _⟩ | ⟨g', cap', cur, hv, hb, hh, hl, hcm, hcs, htake⟩
 ·cases hv
 injection hv with ha _ hc
 injection ha with ha
 injection ha with hg
 subst hg; subst hc
 obtain ⟨cur', h3, h4, h5⟩ := setCells_row vs off w cur hh (by rw [hcs]; exact hf)
 refine ⟨hok, inner, ⟨hown.1, .inr ⟨g, c, cur', by rw [hn], hb, h3, hl, hcm, by rw [h4, hcs], ?_⟩⟩, hr.imp_ (fun p q hp => d.M_move (fun k' hk' => hfar k' (fun he => hk'.2 (by rw [he]; rfl))) hp)⟩
 have hn' : xs.length * d.sz ≤ off := by rw [← hn]; exact ho
 have hcl : cur.toList.length = c * d.sz := by rw [← hcs]; exact Array.length_toList
 rw [← htake, h5, List.append_assoc, List.take_append_of_le_length (by rw [List.length_take, hcl]; omega), List.take_take, Nat.min_eq_left hn']
theorem R_cells {α : Type} {d : Kd α} {e : Nat} {w : World} {base : Nat} {ok : Nat → Prop} {g n c : Nat} {xs : List α} (h : d.R e w base ok (.slice (some ⟨g, 0, none⟩) n c) xs) (i : Nat) (hi : i < c * d.sz) : (w.cell? ⟨g, i, none⟩).isSome = true ∧ w.frozen? ⟨g, i, none⟩ = false := by
 obtain ⟨hok, inner, hown, hr⟩ := h
 rcases hown.2 with ⟨hv, _⟩ | ⟨g', cap', cur, hv, hb, hh, hl, hcm, hcs, htake⟩
 ·cases hv
 injection hv with ha _ hc
 injection ha with ha
 injection ha with hg
 subst hg; subst hc
 refine ⟨?_, blk_frozen hh _⟩
 rw [blk_cell hh, Array.getElem?_eq_getElem (by rw [hcs]; exact hi)]
 rfl
theorem clue_clear (w : World) (ty : TypeId) (b o c : Nat) (hc : ∀ j, j < 3 → (w.cell? ⟨b, o + j, none⟩).isSome = true) (hf : ∀ j, j < 3 → w.frozen? ⟨b, o + j, none⟩ = false) :
  (Builtin.clear_ #[31] ty #[.slice (some ⟨b, o, none⟩) 1 c]).run Try.prog w = .ok (.tuple #[]) (w.setCells b o [.int .i64 0, .int .i64 0, .int .i64 0]) := by
 have hv : ∀ w, (zeroValue 37).run Try.prog w = .ok (.agg #[.int .i64 0, .int .i64 0, .int .i64 0]) w := fun w => by kernel_rfl
 have hst := run_storeCells_cells (P := Try.prog) b o [.int .i64 0, .int .i64 0, .int .i64 0] 0 w (by simpa using hc) (by simpa using hf) (by intro v hv'; simp at hv'; rw [hv']; rfl)
 have hzc : (Builtin.zeroCells (Value.agg #[.int .i64 0, .int .i64 0, .int .i64 0]).cells 1).toList = [.int .i64 0, .int .i64 0, .int .i64 0] := by kernel_rfl
 simp only [Nat.add_zero] at hst
 simp [Builtin.clear_, run_underlying Try.underlying31, hv, hzc, hst]
theorem clue_delete (base : Nat) (ok : Nat → Prop) (g n c q : Nat) (xs : List S37) (w0 w : World) (HO : Kd.R k37 37 w base ok (.slice (some ⟨g, 0, none⟩) n c) xs) (hq : q < n) (HB : Below base w0 w) (hbase : base ≤ w.heap.size) (hn : n ≤ 5864062014805) :
  Calls Try.prog 87 #[.slice (some ⟨g, 0, none⟩) n c, .int .i64 (q : Int), .int .i64 ((q : Int) + 1)] w fun e w' => e = .returned (.slice (some ⟨g, 0, none⟩) (n - 1) c) ∧ Kd.R k37 37 w' base ok (.slice (some ⟨g, 0, none⟩) (n - 1) c) (xs.eraseIdx q) ∧ Below base w0 w' := by
 have hu := Try.underlying37
 have hnc : n ≤ c := (Kd.R_reads' HO).2.1
 have h1 : ((q : Int) == (q : Int) + 1) = false := by rw [beq_eq_false_iff_ne]; omega
 obtain ⟨i0, hi0, _, hsz, _⟩ := info_parts info37
 have HOa := am HO
 have HBa := am HB
 have hsl := cut_from (P := Try.prog) 31 37 .i64 Try.underlying31 hi0 3 hsz (some ⟨g, 0, none⟩) n c ((q : Int) + 1) (by omega) (by omega)
 have hto := cut_to (P := Try.prog) 31 37 .i64 Try.underlying31 hi0 (some ⟨g, 0, none⟩) n c (q : Int) (by omega) (by omega) hnc
 rw [show ((q : Int) + 1).toNat = q + 1 by omega] at hsl
 rw [Int.toNat_natCast] at hto
 obtain ⟨A12, hA12⟩ : ∃ A1, A1 = (if c = q + 1 then some ⟨g, 0, none⟩ else (some (⟨g, 0, none⟩ : Addr)).map (·.add ((q + 1) * 3))) := ⟨_, rfl⟩
 obtain ⟨c12, hc12⟩ : ∃ c1, c1 = c - (q + 1) := ⟨_, rfl⟩
 obtain ⟨m12, hm12⟩ : ∃ m1, m1 = n - (q + 1) := ⟨_, rfl⟩
 rw [← hA12, ← hc12, ← hm12] at hsl
 have KA := am hA12
 have KM := am hm12
 clear HO HB hA12 hc12 hm12 hi0 hsz
 go_enter Try.func87, Try.ntmps87
 go_wp2
 go_region_law (refine Kd.R_delete_step k37 (w0 := w0) base rfl (.tmp 22) (.tmp 25) 31 37 rfl Try.underlying31 (by kernel_rfl) (n := n) (k := q) (c := c) (g := g) (xs := xs) (ok := ok) rfl rfl KA.out KM.out HOa.out hq (below_drew1 HBa.out) hbase ?_; intro w1 HO1 HB1 hg1)
 have HOb := am HO1
 have HBb := am HB1
 have hcl : ∀ ty, (Builtin.clear_ #[31] ty #[.slice (some ⟨g, (n - 1) * 3, none⟩) 1 (c - (n - 1))]).run Try.prog w1 = .ok (.tuple #[]) (w1.setCells g ((n - 1) * 3) [.int .i64 0, .int .i64 0, .int .i64 0]) := fun ty => clue_clear w1 ty g ((n - 1) * 3) (c - (n - 1)) (fun j hj => (R_cells HO1 ((n - 1) * 3 + j) (by show _ < c * 3; omega)).1) (fun j hj => (R_cells HO1 ((n - 1) * 3 + j) (by show _ < c * 3; omega)).2)
 have hz : n - (n - 1) = 1 := by omega
 have hcn : ¬ (c = n - 1) := by omega
 have hbase2 : base ≤ w1.heap.size := Nat.le_trans hbase hg1.size
 have hn1 : ((n - 1 : Nat) : Int) = (n : Int) - 1 := by omega
 clear HO1 HB1 hg1
 go_wp2_with (simp only [hcl])
 go_ret
 obtain ⟨r1, r2⟩ := R_behind HOb.out [.int .i64 0, .int .i64 0, .int .i64 0] (off := (n - 1) * 3) (Nat.le_refl _) (by show _ + 3 ≤ c * 3; omega)
 exact ⟨rfl, r1, HBb.out.grown r2 (Nat.le_trans hbase2 (Nat.le_refl _)) (fun k hk => by injection hk with hk; subst hk; exact Kd.R_base HOb.out _ rfl)⟩
def impl_withoutClue.f (l0 : List (S37)) (a1 : Int) : Option ((List (S37))) := if 0 ≤ a1 ∧ a1 < (l0.length : Int) ∧ l0.length < 5864062014805 then some (l0.eraseIdx a1.toNat) else none
theorem impl_withoutClue.calls (A0 : Option Addr) (c0 : Nat) (l0 : List (S37)) (a1 : Int) (r : List (S37)) (w : World) (hr0 : Kd.C k37 w A0 l0.length l0) (hc0 : l0.length ≤ c0) (h : impl_withoutClue.f l0 a1 = some r) :
  Calls Try.prog 70 #[.slice A0 l0.length c0, .int .i64 a1] w fun e w' => ∃ v0_ : Value, e = .returned (v0_) ∧ Kd.R k37 37 w' w.heap.size (fun _ => True) v0_ r ∧ Below w.heap.size w w' := by
 unfold impl_withoutClue.f at h
 by_cases hc : 0 ≤ a1 ∧ a1 < (l0.length : Int) ∧ l0.length < 5864062014805
 ·rw [if_pos hc] at h
  obtain rfl := Option.some.inj h
  clear h
  obtain ⟨h0, h1, h2⟩ := hc
  obtain ⟨q, rfl⟩ := Int.eq_ofNat_of_zero_le h0
  have key := fun W hr => impl_Clue_44.calls A0 c0 l0 l0 W hr hc0 (by unfold impl_Clue_44.f; rw [if_pos h2])
  have KY := am (key w hr0)
  clear key hr0
  go_enter Try.func70, Try.ntmps70
  go_wp2_with fail
  refine KY.out.mono ?_
  rintro e w1 ⟨v, rfl, HO, hb⟩
  obtain ⟨g, c, rfl, hbg, hgl, _⟩ := Kd.R_form HO (by omega)
  go_wp2_with fail
  refine (clue_delete w.heap.size (fun _ => True) g l0.length c q l0 w w1 HO (by omega) hb hb.size (by omega)).mono ?_
  rintro e w2 ⟨rfl, HO2, hb2⟩
  go_wp2
  go_ret
  exact ⟨_, rfl, by simpa using HO2, hb2⟩
 ·rw [if_neg hc] at h
  cases h
mutual
def impl_HarderPuzzle.j0 : Nat → Bool → Int → Int → List (S37) → Option (Int × Int × (List (S37)) × Bool)
 | 0, _, _, _, _ => none
 | k + 1, x18, x102000, x102001, x102002 => if x18 = true then (some (0, 0, ([] : List (S37)), false)) else ((impl_Clue_44.f x102002).bind fun t107 => (impl_HarderPuzzle.l0 k t107 0 x102000 x102001 x102002))
def impl_HarderPuzzle.l0 : Nat → List (S37) → Int → Int → Int → List (S37) → Option (Int × Int × (List (S37)) × Bool)
 | 0, _, _, _, _, _ => none
 | k + 1, x4, x5, x102000, x102001, x102002 => if x5 < (x4.length : Int) then ((impl_withoutClue.f x4 x5).bind fun t110 => ((impl_solutions.f x102000 x102001 t110).bind fun t113 => (if (t113.length : Int) = 1 then (impl_HarderPuzzle.l0 k t110 x5 x102000 x102001 x102002) else (impl_HarderPuzzle.l0 k x4 (wrap64 (x5 + 1)) x102000 x102001 x102002)))) else (some (x102000, x102001, x4, true))
end
def impl_HarderPuzzle.f (k : Nat) (a0_0 : Int) (a0_1 : Int) (l0_2 : List (S37)) : Option (Int × Int × (List (S37)) × Bool) := (impl_IsPuzzle.f a0_0 a0_1 l0_2).bind fun t103 => (if t103 = true then ((impl_solutions.f a0_0 a0_1 l0_2).bind fun t104 => (impl_HarderPuzzle.j0 k ((t104.length : Int) != 1) a0_0 a0_1 l0_2)) else (impl_HarderPuzzle.j0 k true a0_0 a0_1 l0_2))
theorem impl_HarderPuzzle.calls (k : Nat) (a0_0 : Int) (a0_1 : Int) (A0_2 : Option Addr) (c0_2 : Nat) (l0_2 : List (S37)) (r1 : Int) (r2 : Int) (r3 : List (S37)) (r4 : Bool) (w : World) (hr0_2 : Kd.C k37 w A0_2 l0_2.length l0_2) (hc0_2 : l0_2.length ≤ c0_2) (h : impl_HarderPuzzle.f k a0_0 a0_1 l0_2 = some (r1, r2, r3, r4)) :
  Calls Try.prog 25 #[.agg #[.int .i64 a0_0, .int .i64 a0_1, .slice A0_2 l0_2.length c0_2]] w fun e w' => ∃ v2_ : Value, e = .returned (.tuple #[.agg #[.int .i64 r1, .int .i64 r2, v2_], .bool r4]) ∧ Kd.R k37 37 w' w.heap.size (fun _ => True) v2_ r3 ∧ Below w.heap.size w w' := by
 have hu33 := Try.underlying33
 have hu30 := Try.underlying30
 have HR0_2 := am hr0_2
 have HC0_2 := am hc0_2
 clear hr0_2 hc0_2
 have HB := am (Below.refl w.heap.size w)
 have H : ((impl_IsPuzzle.f a0_0 a0_1 l0_2).bind fun t103 => (if t103 = true then ((impl_solutions.f a0_0 a0_1 l0_2).bind fun t104 => (impl_HarderPuzzle.j0 k ((t104.length : Int) != 1) a0_0 a0_1 l0_2)) else (impl_HarderPuzzle.j0 k true a0_0 a0_1 l0_2))) = some (r1, r2, r3, r4) := h
 clear h
 have HC2 := am H
 clear H
 go_enter Try.func25, Try.ntmps25
 go_upto_region 1 with (first | ((with_reducible refine gate_dst (N := 1) rfl ?_); (try (refine gate_guard (by rfl) ?_; dsimp only)); refine uX (N := 1) (cs := #[.int .i64 a0_0, .int .i64 a0_1, .slice A0_2 l0_2.length c0_2]) (t := 33) ?_; intro gb101 hg w3 hbox hb; have BK101 := am (hbox); have GW101 := uE hg; have GE101 := GW101; replace HB := uS hb; clear hb hbox hg) | ((with_reducible refine gate_dst (N := 2) rfl ?_); (try (refine gate_guard (by rfl) ?_; dsimp only)); refine uX (N := 2) (cs := #[.int .i64 0, .int .i64 0, .slice none 0 0]) (t := 33) ?_; intro gb102 hg w4 hbox hb; have BK102 := am (hbox); have GW102 := uE hg; have GE102 := GW102; have NB101_102 := uL BK101 hg; have NB102_101 := uY NB101_102; replace BK101 := uB BK101 hb; replace HB := uS hb; clear hb hbox hg))
 (try simp only [Act.put, List.setIfInBounds_toArray, List.set_cons_zero, List.set_cons_succ])
 go_cut [18] (fun v18 wc => ∃ (kq : Nat) (x18_1 : Bool), v18 = .bool x18_1 ∧ Aside0 (impl_HarderPuzzle.j0 kq x18_1 a0_0 a0_1 l0_2 = some (r1, r2, r3, r4)) ∧ Aside0 (kq ≤ k) ∧ Aside0 (wc.heap[gb101]? = some (.cells #[.int .i64 a0_0, .int .i64 a0_1, (.slice A0_2 l0_2.length c0_2)] 33 (0, 0))) ∧ Aside0 (wc.heap[gb102]? = some (.cells #[.int .i64 0, .int .i64 0, (.slice none 0 0)] 33 (0, 0))) ∧ Aside0 (Below w.heap.size w wc))
 case first =>
  have H := HC2.out
  clear HC2
  replace H := bH H
  obtain ⟨t103, A50, H⟩ := H
  replace H : (if t103 = true then ((impl_solutions.f a0_0 a0_1 l0_2).bind fun t104 => (impl_HarderPuzzle.j0 k ((t104.length : Int) != 1) a0_0 a0_1 l0_2)) else (impl_HarderPuzzle.j0 k true a0_0 a0_1 l0_2)) = some (r1, r2, r3, r4) := H
  have A5 := am A50
  clear A50
  by_cases c6 : t103 = true
  ·subst c6
   have H1 : ((impl_solutions.f a0_0 a0_1 l0_2).bind fun t104 => (impl_HarderPuzzle.j0 k ((t104.length : Int) != 1) a0_0 a0_1 l0_2)) = some (r1, r2, r3, r4) := by rw [if_pos rfl] at H; exact H
   clear H
   have H := H1
   clear H1
   replace H := bH H
   obtain ⟨t104, A70, H⟩ := H
   replace H : (impl_HarderPuzzle.j0 k ((t104.length : Int) != 1) a0_0 a0_1 l0_2) = some (r1, r2, r3, r4) := H
   have A7 := am A70
   clear A70
   have H' := am H
   clear H
   have hnb8 := NB101_102.out
   have hnc8 := NB102_101.out
   obtain ⟨hcz9_0, hcz9_1, hcz9_2, hfz9_0, hfz9_1, hfz9_2⟩ := uZ3 BK101
   go_wp2_with (first | ((with_reducible refine gate_callee (f := 23) rfl ?_); refine uGo (some 8) Try.func23 #[.agg #[.int .i64 a0_0, .int .i64 a0_1, .slice A0_2 l0_2.length c0_2]] ?_; (with_reducible refine (impl_IsPuzzle.calls a0_0 a0_1 _ _ l0_2 true _ ?side1 ?side2 A5.out).mono ?_); (case side1 => repeat (first | exact (Kd.C_below HR0_2.out HB.out) | (with_reducible refine cA ?_ _) | (with_reducible refine cN ?_ _) | (with_reducible refine cD ?_))); (case side2 => exact HC0_2.out); rintro e w10 ⟨rfl, hb⟩; refine ⟨_, rfl, ?_⟩; replace BK101 := uB BK101 hb; replace BK102 := uB BK102 hb; replace HB := uS hb; (try clear hb); (try clear hb2); (try clear hk); (try clear hi); obtain ⟨hcz11_0, hcz11_1, hcz11_2, hfz11_0, hfz11_1, hfz11_2⟩ := uZ3 BK101) | (go_at_call 69; (with_reducible refine (impl_solutions.calls a0_0 a0_1 _ _ l0_2 t104 _ ?side1 ?side2 A7.out).mono ?_); (case side1 => repeat (first | exact (Kd.C_below HR0_2.out HB.out) | (with_reducible refine cA ?_ _) | (with_reducible refine cN ?_ _) | (with_reducible refine cD ?_))); (case side2 => exact HC0_2.out); rintro e w12 ⟨v105, rfl, ho0, hb⟩; have HO106 := am (Kd.R_lower ho0 (below_size uW)); replace BK101 := uB BK101 hb; replace BK102 := uB BK102 hb; replace HB := uS hb; (try clear hb); (try clear hb2); (try clear hk); (try clear hi); (try clear ho0); obtain ⟨Ao13, co13, eo13⟩ := Kd.R_slice HO106.out; subst eo13))
   go_meet
   case rel => exact ⟨_, (((t104.length : Int) != 1)), (by first | rfl | (simp; done) | (simp [*]; done)), H', ⟨by first | omega | exact Nat.le_refl _⟩, ⟨by (with_reducible repeat (first | refine bN ?_ _ | refine bD ?_ | refine bA ?_ _)); exact BK101.out⟩, ⟨by (with_reducible repeat (first | refine bN ?_ _ | refine bD ?_ | refine bA ?_ _)); exact BK102.out⟩, ⟨by exact uW⟩⟩
  ·replace c6 := Bool.eq_false_iff.mpr c6
   subst c6
   have H1 : (impl_HarderPuzzle.j0 k true a0_0 a0_1 l0_2) = some (r1, r2, r3, r4) := by rw [if_neg (show ¬ (false = true) by decide)] at H; exact H
   clear H
   have H := H1
   clear H1
   have H' := am H
   clear H
   have hnb14 := NB101_102.out
   have hnc14 := NB102_101.out
   obtain ⟨hcz15_0, hcz15_1, hcz15_2, hfz15_0, hfz15_1, hfz15_2⟩ := uZ3 BK101
   go_wp2_with (first | ((with_reducible refine gate_callee (f := 23) rfl ?_); refine uGo (some 8) Try.func23 #[.agg #[.int .i64 a0_0, .int .i64 a0_1, .slice A0_2 l0_2.length c0_2]] ?_; (with_reducible refine (impl_IsPuzzle.calls a0_0 a0_1 _ _ l0_2 false _ ?side1 ?side2 A5.out).mono ?_); (case side1 => repeat (first | exact (Kd.C_below HR0_2.out HB.out) | (with_reducible refine cA ?_ _) | (with_reducible refine cN ?_ _) | (with_reducible refine cD ?_))); (case side2 => exact HC0_2.out); rintro e w16 ⟨rfl, hb⟩; refine ⟨_, rfl, ?_⟩; replace BK101 := uB BK101 hb; replace BK102 := uB BK102 hb; replace HB := uS hb; (try clear hb); (try clear hb2); (try clear hk); (try clear hi)))
   go_meet
   case rel => exact ⟨_, (true), (by first | rfl | (simp; done) | (simp [*]; done)), H', ⟨by first | omega | exact Nat.le_refl _⟩, ⟨by (with_reducible repeat (first | refine bN ?_ _ | refine bD ?_ | refine bA ?_ _)); exact BK101.out⟩, ⟨by (with_reducible repeat (first | refine bN ?_ _ | refine bD ?_ | refine bA ?_ _)); exact BK102.out⟩, ⟨by exact uW⟩⟩
 case rest =>
  clear HC2
  try clear c1
  try clear c2
  try clear p2
  try clear c6
  try clear c8
  try clear c14
  try clear hcz11_0
  try clear hcz11_1
  try clear hcz11_2
  try clear hcz15_0
  try clear hcz15_1
  try clear hcz15_2
  try clear hcz9_0
  try clear hcz9_1
  try clear hcz9_2
  try clear hfz11_0
  try clear hfz11_1
  try clear hfz11_2
  try clear hfz15_0
  try clear hfz15_1
  try clear hfz15_2
  try clear hfz9_0
  try clear hfz9_1
  try clear hfz9_2
  obtain ⟨kq, x18_1, rfl, HA, HJ1, BK101, BK102, HB⟩ := hcut
  cases kq with
  | zero => exact absurd HA.out (by simp [impl_HarderPuzzle.j0])
  | succ kj1 =>
   have H := HA.out
   clear HA
   simp only [impl_HarderPuzzle.j0] at H
   by_cases c17 : x18_1 = true
   ·subst c17
    have H1 : (some (0, 0, ([] : List (S37)), false)) = some (r1, r2, r3, r4) := by rw [if_pos rfl] at H; exact H
    clear H
    have H := H1
    clear H1
    simp only [Option.some.injEq, Prod.mk.injEq] at H
    obtain ⟨rfl, rfl, rfl, rfl⟩ := H
    have hnb18 := NB102_101.out
    have hnc18 := NB101_102.out
    obtain ⟨hcz19_0, hcz19_1, hcz19_2, hfz19_0, hfz19_1, hfz19_2⟩ := uZ3 BK102
    go_wp2
    refine bodyPost_ret (results_ct rfl _ _ gb102 33 #[.int .i64 0, .int .i64 0, .slice none 0 0] (0, 0) _ rfl (by refine blk_put (cs := #[.int .i64 0, .int .i64 0, .slice none 0 0]) ?_ 2 _ rfl; refine blk_put (cs := #[.int .i64 0, .int .i64 0, .slice none 0 0]) ?_ 1 _ rfl; refine blk_put (cs := #[.int .i64 0, .int .i64 0, .slice none 0 0]) ?_ 0 _ rfl; exact (uP BK102)) Try.underlying33 rfl (by kernel_rfl)) rfl ?_
    exact ⟨_, uA, uN, by exact uW⟩
   ·replace c17 := Bool.eq_false_iff.mpr c17
    subst c17
    have H1 : ((impl_Clue_44.f l0_2).bind fun t107 => (impl_HarderPuzzle.l0 kj1 t107 0 a0_0 a0_1 l0_2)) = some (r1, r2, r3, r4) := by rw [if_neg (show ¬ (false = true) by decide)] at H; exact H
    clear H
    have H := H1
    clear H1
    replace H := bH H
    obtain ⟨t107, A200, H⟩ := H
    replace H : (impl_HarderPuzzle.l0 kj1 t107 0 a0_0 a0_1 l0_2) = some (r1, r2, r3, r4) := H
    have A20 := am A200
    clear A200
    have H' := am H
    clear H
    have hnb21 := NB101_102.out
    have hnc21 := NB102_101.out
    obtain ⟨hcz22_0, hcz22_1, hcz22_2, hfz22_0, hfz22_1, hfz22_2⟩ := uZ3 BK101
    go_wp2_with (first | ((with_reducible refine gate_callee (f := 44) rfl ?_); refine uGo (some 22) Try.func44 #[.slice A0_2 l0_2.length c0_2] ?_; (with_reducible refine (impl_Clue_44.calls _ _ l0_2 t107 _ ?side1 ?side2 A20.out).mono ?_); (case side1 => repeat (first | exact (Kd.C_below HR0_2.out HB.out) | (with_reducible refine cA ?_ _) | (with_reducible refine cN ?_ _) | (with_reducible refine cD ?_))); (case side2 => exact HC0_2.out); rintro e w23 ⟨v108, rfl, ho0, hb⟩; refine ⟨_, rfl, ?_⟩; have HO109 := am (Kd.R_lower ho0 (below_size uW)); replace BK101 := uB BK101 hb; replace BK102 := uB BK102 hb; replace HB := uS hb; (try clear hb); (try clear hb2); (try clear hk); (try clear hi); (try clear ho0)))
    go_loopg [4, 5] kj1 (fun kq v4 v5 w' => ∃ (x4_2 : List (S37)) (x5_2 : Int), v5 = .int .i64 x5_2 ∧ Aside0 (impl_HarderPuzzle.l0 kq x4_2 x5_2 a0_0 a0_1 l0_2 = some (r1, r2, r3, r4)) ∧ Aside0 (kq ≤ kj1) ∧ Aside0 (Kd.R k37 37 w' w.heap.size (fun _ => True) v4 x4_2) ∧ Aside0 (w'.heap[gb101]? = some (.cells #[.int .i64 a0_0, .int .i64 a0_1, (.slice A0_2 l0_2.length c0_2)] 33 (0, 0))) ∧ Aside0 (w'.heap[gb102]? = some (.cells #[.int .i64 0, .int .i64 0, (.slice none 0 0)] 33 (0, 0))) ∧ Aside0 (Below w.heap.size w w'))
    case atStart => exact ⟨(t107), (0), (by first | rfl | (simp; done) | (simp [*]; done)), H', ⟨Nat.le_refl _⟩, ⟨by (with_reducible repeat (first | apply rA | apply rN | apply rD)); exact HO109.out⟩, ⟨by (with_reducible repeat (first | refine bN ?_ _ | refine bD ?_ | refine bA ?_ _)); exact BK101.out⟩, ⟨by (with_reducible repeat (first | refine bN ?_ _ | refine bD ?_ | refine bA ?_ _)); exact BK102.out⟩, ⟨by exact uW⟩⟩
    case round =>
     clear H'
     try clear c1
     try clear c2
     try clear p2
     try clear c4
     try clear c6
     try clear c8
     try clear c14
     try clear c17
     try clear c18
     try clear c21
     try clear c23
     try clear hcz11_0
     try clear hcz11_1
     try clear hcz11_2
     try clear hcz15_0
     try clear hcz15_1
     try clear hcz15_2
     try clear hcz19_0
     try clear hcz19_1
     try clear hcz19_2
     try clear hcz22_0
     try clear hcz22_1
     try clear hcz22_2
     try clear hcz9_0
     try clear hcz9_1
     try clear hcz9_2
     try clear hfz11_0
     try clear hfz11_1
     try clear hfz11_2
     try clear hfz15_0
     try clear hfz15_1
     try clear hfz15_2
     try clear hfz19_0
     try clear hfz19_1
     try clear hfz19_2
     try clear hfz22_0
     try clear hfz22_1
     try clear hfz22_2
     try clear hfz9_0
     try clear hfz9_1
     try clear hfz9_2
     try clear p2
     obtain ⟨x4_2, x5_2, rfl, HA, HK2, HO_4, BK101, BK102, HB⟩ := hrel
     cases gk with
     | zero => exact absurd HA.out (by simp [impl_HarderPuzzle.l0])
     | succ k2 =>
      have H := HA.out
      clear HA
      simp only [impl_HarderPuzzle.l0] at H
      by_cases c24 : x5_2 < (x4_2.length : Int)
      ·rw [if_pos c24] at H
       have c24b0 : decide (x5_2 < (x4_2.length : Int)) = true := decide_eq_true c24
       clear c24
       replace H := bH H
       obtain ⟨t110, A250, H⟩ := H
       replace H : ((impl_solutions.f a0_0 a0_1 t110).bind fun t113 => (if (t113.length : Int) = 1 then (impl_HarderPuzzle.l0 k2 t110 x5_2 a0_0 a0_1 l0_2) else (impl_HarderPuzzle.l0 k2 x4_2 (wrap64 (x5_2 + 1)) a0_0 a0_1 l0_2))) = some (r1, r2, r3, r4) := H
       have A25 := am A250
       clear A250
       replace H := bH H
       obtain ⟨t113, A260, H⟩ := H
       replace H : (if (t113.length : Int) = 1 then (impl_HarderPuzzle.l0 k2 t110 x5_2 a0_0 a0_1 l0_2) else (impl_HarderPuzzle.l0 k2 x4_2 (wrap64 (x5_2 + 1)) a0_0 a0_1 l0_2)) = some (r1, r2, r3, r4) := H
       have A26 := am A260
       clear A260
       by_cases c27 : (t113.length : Int) = 1
       ·rw [if_pos c27] at H
        have c27b0 : ((t113.length : Int) == 1) = true := beq_iff_eq.mpr c27
        have c27b1 : ((t113.length : Int) != 1) = false := bne_eq_false_iff_eq.mpr c27
        clear c27
        have H' := am H
        clear H
        obtain ⟨Ao28, co28, eo28⟩ := Kd.R_slice HO_4.out
        subst eo28
        go_wp2_with (first | ((with_reducible refine gate_callee (f := 70) rfl ?_); refine uGo (some 29) Try.func70 #[.slice Ao28 x4_2.length co28, .int .i64 x5_2] ?_; (with_reducible refine (impl_withoutClue.calls _ _ x4_2 x5_2 t110 _ ?side1 ?side2 A25.out).mono ?_); (case side1 => repeat (first | exact (Kd.R_reads' HO_4.out).2.2 | (with_reducible refine cA ?_ _) | (with_reducible refine cN ?_ _) | (with_reducible refine cD ?_))); (case side2 => exact (Kd.R_reads' HO_4.out).2.1); rintro e w29 ⟨v111, rfl, ho0, hb⟩; refine ⟨_, rfl, ?_⟩; have HO112 := am (Kd.R_lower (Kd.R_new' ho0 (Kd.R_lt (uR HO_4))) (below_size uW)); replace HO_4 := am (Kd.R_elder' (uR HO_4) (Kd.R_base ho0) hb); replace BK101 := uB BK101 hb; replace BK102 := uB BK102 hb; replace HB := uS hb; (try clear hb); (try clear hb2); (try clear hk); (try clear hi); (try clear ho0); have hnb30 := NB101_102.out; have hnc30 := NB102_101.out; obtain ⟨hcz31_0, hcz31_1, hcz31_2, hfz31_0, hfz31_1, hfz31_2⟩ := uZ3 BK101; obtain ⟨Ao32, co32, eo32⟩ := Kd.R_slice HO112.out; subst eo32) | ((with_reducible refine gate_callee (f := 69) rfl ?_); refine uGo (some 33) Try.func69 #[.agg #[.int .i64 a0_0, .int .i64 a0_1], .slice Ao32 t110.length co32] ?_; (with_reducible refine (impl_solutions.calls a0_0 a0_1 _ _ t110 t113 _ ?side1 ?side2 A26.out).mono ?_); (case side1 => repeat (first | exact (Kd.R_reads' HO112.out).2.2 | (with_reducible refine cA ?_ _) | (with_reducible refine cN ?_ _) | (with_reducible refine cD ?_))); (case side2 => exact (Kd.R_reads' HO112.out).2.1); rintro e w33 ⟨v114, rfl, ho0, hb⟩; refine ⟨_, rfl, ?_⟩; have HO115 := am (Kd.R_lower ho0 (below_size uW)); replace HO_4 := am (Kd.R_below (uR HO_4) hb); replace HO112 := am (Kd.R_below (uR HO112) hb); replace BK101 := uB BK101 hb; replace BK102 := uB BK102 hb; replace HB := uS hb; (try clear hb); (try clear hb2); (try clear hk); (try clear hi); (try clear ho0); obtain ⟨Ao34, co34, eo34⟩ := Kd.R_slice HO115.out; subst eo34))
        go_roundg k2
        case measure => have := HJ1.out; have := HK2.out; omega
        case rel => exact ⟨(t110), (x5_2), (by first | rfl | (simp; done) | (simp [*]; done)), H', ⟨by have := HJ1.out; have := HK2.out; omega⟩, ⟨by (with_reducible repeat (first | apply rA | apply rN | apply rD)); exact Kd.R_mono HO112.out (fun _ hk => trivial)⟩, ⟨by (with_reducible repeat (first | refine bN ?_ _ | refine bD ?_ | refine bA ?_ _)); exact BK101.out⟩, ⟨by (with_reducible repeat (first | refine bN ?_ _ | refine bD ?_ | refine bA ?_ _)); exact BK102.out⟩, ⟨by exact uW⟩⟩
       ·rw [if_neg c27] at H
        have c27b0 : ((t113.length : Int) == 1) = false := beq_eq_false_iff_ne.mpr c27
        have c27b1 : ((t113.length : Int) != 1) = true := bne_iff_ne.mpr c27
        have H' := am H
        clear H
        obtain ⟨Ao35, co35, eo35⟩ := Kd.R_slice HO_4.out
        subst eo35
        go_wp2_with (first | ((with_reducible refine gate_callee (f := 70) rfl ?_); refine uGo (some 29) Try.func70 #[.slice Ao35 x4_2.length co35, .int .i64 x5_2] ?_; (with_reducible refine (impl_withoutClue.calls _ _ x4_2 x5_2 t110 _ ?side1 ?side2 A25.out).mono ?_); (case side1 => repeat (first | exact (Kd.R_reads' HO_4.out).2.2 | (with_reducible refine cA ?_ _) | (with_reducible refine cN ?_ _) | (with_reducible refine cD ?_))); (case side2 => exact (Kd.R_reads' HO_4.out).2.1); rintro e w36 ⟨v111, rfl, ho0, hb⟩; refine ⟨_, rfl, ?_⟩; have HO112 := am (Kd.R_lower (Kd.R_new' ho0 (Kd.R_lt (uR HO_4))) (below_size uW)); replace HO_4 := am (Kd.R_elder' (uR HO_4) (Kd.R_base ho0) hb); replace BK101 := uB BK101 hb; replace BK102 := uB BK102 hb; replace HB := uS hb; (try clear hb); (try clear hb2); (try clear hk); (try clear hi); (try clear ho0); have hnb37 := NB101_102.out; have hnc37 := NB102_101.out; obtain ⟨hcz38_0, hcz38_1, hcz38_2, hfz38_0, hfz38_1, hfz38_2⟩ := uZ3 BK101; obtain ⟨Ao39, co39, eo39⟩ := Kd.R_slice HO112.out; subst eo39) | ((with_reducible refine gate_callee (f := 69) rfl ?_); refine uGo (some 33) Try.func69 #[.agg #[.int .i64 a0_0, .int .i64 a0_1], .slice Ao39 t110.length co39] ?_; (with_reducible refine (impl_solutions.calls a0_0 a0_1 _ _ t110 t113 _ ?side1 ?side2 A26.out).mono ?_); (case side1 => repeat (first | exact (Kd.R_reads' HO112.out).2.2 | (with_reducible refine cA ?_ _) | (with_reducible refine cN ?_ _) | (with_reducible refine cD ?_))); (case side2 => exact (Kd.R_reads' HO112.out).2.1); rintro e w40 ⟨v114, rfl, ho0, hb⟩; refine ⟨_, rfl, ?_⟩; have HO115 := am (Kd.R_lower ho0 (below_size uW)); replace HO_4 := am (Kd.R_below (uR HO_4) hb); replace HO112 := am (Kd.R_below (uR HO112) hb); replace BK101 := uB BK101 hb; replace BK102 := uB BK102 hb; replace HB := uS hb; (try clear hb); (try clear hb2); (try clear hk); (try clear hi); (try clear ho0); obtain ⟨Ao41, co41, eo41⟩ := Kd.R_slice HO115.out; subst eo41))
        go_roundg k2
        case measure => have := HJ1.out; have := HK2.out; omega
        case rel => exact ⟨(x4_2), (wrap64 (x5_2 + 1)), (by first | rfl | (simp; done) | (simp [*]; done)), H', ⟨by have := HJ1.out; have := HK2.out; omega⟩, ⟨by (with_reducible repeat (first | apply rA | apply rN | apply rD)); exact Kd.R_mono HO_4.out (fun _ hk => trivial)⟩, ⟨by (with_reducible repeat (first | refine bN ?_ _ | refine bD ?_ | refine bA ?_ _)); exact BK101.out⟩, ⟨by (with_reducible repeat (first | refine bN ?_ _ | refine bD ?_ | refine bA ?_ _)); exact BK102.out⟩, ⟨by exact uW⟩⟩
      ·rw [if_neg c24] at H
       have c24b0 : decide (x5_2 < (x4_2.length : Int)) = false := decide_eq_false c24
       clear c24
       simp only [Option.some.injEq, Prod.mk.injEq] at H
       obtain ⟨rfl, rfl, rfl, rfl⟩ := H
       obtain ⟨Ao42, co42, eo42⟩ := Kd.R_slice HO_4.out
       subst eo42
       have hnb43 := NB101_102.out
       have hnc43 := NB102_101.out
       obtain ⟨hcz44_0, hcz44_1, hcz44_2, hfz44_0, hfz44_1, hfz44_2⟩ := uZ3 BK101
       obtain ⟨hcz45_0, hcz45_1, hcz45_2, hfz45_0, hfz45_1, hfz45_2⟩ := uZ3 BK102
       go_wp2
       refine bodyPost_ret (results_ct rfl _ _ gb102 33 #[.int .i64 a0_0, .int .i64 a0_1, .slice Ao42 x4_2.length co42] (0, 0) _ rfl (by refine blk_put (cs := #[.int .i64 a0_0, .int .i64 a0_1, .slice none 0 0]) ?_ 2 _ rfl; refine blk_put (cs := #[.int .i64 a0_0, .int .i64 0, .slice none 0 0]) ?_ 1 _ rfl; refine blk_put (cs := #[.int .i64 0, .int .i64 0, .slice none 0 0]) ?_ 0 _ rfl; exact (uP BK102)) Try.underlying33 rfl (by kernel_rfl)) rfl ?_
       exact ⟨_, uA, by (with_reducible repeat (first | apply rA | apply rN | apply rD)); exact Kd.R_mono (Kd.R_far (p := ⟨gb102, 2, none⟩) (Kd.R_far (p := ⟨gb102, 1, none⟩) (Kd.R_far (p := ⟨gb102, 0, none⟩) (Kd.R_types HO_4.out BK102.out (by decide)) (fun _ hk => hk.2) (.int .i64 a0_0)) (fun _ hk => hk.2) (.int .i64 a0_1)) (fun _ hk => hk.2) (.slice Ao42 x4_2.length co42)) (fun _ hk => trivial), by exact uW⟩
def spec_pzFits.f (a0_0 : Int) (a0_1 : Int) (a1_0 : Int) (a1_1 : Int) (a1_2 : Int) (a2 : Int) : Option (Bool) := (spec_pzValue.f a0_0 a0_1 a1_0 a1_1 a2).bind fun t103 => (some (t103 == a1_2))
def spec_pzFits.T1 : Bool × List (List Nat × List Nat) := (true, [([], []), ([], []), ([1], [1]), ([], []), ([3], [3]), ([], []), ([0, 2, 4, 5], [0, 2, 4, 5]), ([], []), ([7], [7]), ([6, 8], [6, 8]), ([9, 6, 0, 1, 2, 3, 4, 5, 6, 7, 8, 9], [9])])
def spec_pzFits.B1 : List Nat := [0, 0, 2, 0, 8, 0, 63, 0, 128, 511, 1023]
theorem spec_pzFits.tab1 : rtab .any (opsOf Try.f74 1) = spec_pzFits.T1 := by kernel_rfl
theorem spec_pzFits.bits1 : waitsOk spec_pzFits.T1.2 spec_pzFits.B1 = true := by kernel_rfl
theorem spec_pzFits.calls (a0_0 : Int) (a0_1 : Int) (a1_0 : Int) (a1_1 : Int) (a1_2 : Int) (a2 : Int) (r : Bool) (w : World) (h : spec_pzFits.f a0_0 a0_1 a1_0 a1_1 a1_2 a2 = some r) :
  Calls Try.prog 74 #[.agg #[.int .i64 a0_0, .int .i64 a0_1], .agg #[.int .i64 a1_0, .int .i64 a1_1, .int .i64 a1_2], .int .i64 a2] w fun e w' => e = .returned (.bool r) ∧ Below w.heap.size w w' := by
 have hu30 := Try.underlying30
 have hu37 := Try.underlying37
 have HB := am (Below.refl w.heap.size w)
 have H : ((spec_pzValue.f a0_0 a0_1 a1_0 a1_1 a2).bind fun t103 => (some (t103 == a1_2))) = some r := h
 clear h
 replace H := bH H
 obtain ⟨t103, A40, H⟩ := H
 replace H : (some (t103 == a1_2)) = some r := H
 have A4 := am A40
 clear A40
 obtain rfl := Option.some.inj H
 go_enter Try.func74, Try.ntmps74
 try go_wp2_with (first | ((with_reducible refine gate_dst (N := 3) rfl ?_); refine uX (N := 3) (cs := #[.int .i64 a0_0, .int .i64 a0_1]) (t := 30) ?_; intro gb101 hg w5 hbox hb; have BK101 := am (hbox); have GW101 := uE hg; have GE101 := GW101; replace HB := uS hb; clear hb hbox hg) | ((with_reducible refine gate_dst (N := 4) rfl ?_); refine uX (N := 4) (cs := #[.int .i64 a1_0, .int .i64 a1_1, .int .i64 a1_2]) (t := 37) ?_; intro gb102 hg w6 hbox hb; have BK102 := am (hbox); have GW102 := uE hg; have GE102 := GW102; have NB101_102 := uL BK101 hg; have NB102_101 := uY NB101_102; replace BK101 := uB BK101 hb; replace HB := uS hb; clear hb hbox hg))
 replace BK101 := am (blk_drew BK101.out)
 replace BK102 := am (blk_drew BK102.out)
 replace HB := am (below_drew1 HB.out)
 refine start_ (n := 11) (S := fun w' => w'.cell? ⟨gb101, 0, none⟩ = some (.int .i64 a0_0) ∧ w'.cell? ⟨gb101, 1, none⟩ = some (.int .i64 a0_1) ∧ w'.cell? ⟨gb102, 0, none⟩ = some (.int .i64 a1_0) ∧ w'.cell? ⟨gb102, 1, none⟩ = some (.int .i64 a1_1) ∧ w'.cell? ⟨gb102, 2, none⟩ = some (.int .i64 a1_2)) (ds := []) #[false, false, false, false, false, false, false, false, false, false, false] (by kernel_rfl) rfl rfl ⟨uT BK101 0, uT BK101 1, uT BK102 0, uT BK102 1, uT BK102 2⟩ (fun hHeld => ?_); refine with_tabW spec_pzFits.tab1 spec_pzFits.bits1 (fun HT_ HW_ => ?_)
 generalize w6.drew = w7 at BK101 BK102 HB hHeld ⊢
 refine uPu (i := 1) (N := some 8) #[false, true, false, false, false, false, false, false, false, false, false] ?_
 refine uPu (i := 3) (N := some 10) #[false, true, false, true, false, false, false, false, false, false, false] ?_
 refine uPu (i := 5) (N := some 12) #[false, true, false, true, false, true, false, false, false, false, false] ?_
 refine uPu (i := 7) (N := some 14) #[false, true, false, true, false, true, false, true, false, false, false] ?_
 refine uTk (i := 0) (N := some 7) #[true, true, false, true, false, true, false, true, false, false, false] hHeld ?_
 refine uTk (i := 2) (N := some 9) #[true, true, true, true, false, true, false, true, false, false, false] hHeld ?_
 refine uTk (i := 4) (N := some 11) #[true, true, true, true, true, true, false, true, false, false, false] hHeld ?_
 refine uTk (i := 8) (N := some 15) #[true, true, true, true, true, true, false, true, true, false, false] hHeld ?_
 refine uOn (i := 6) (N := some 13) #[true, true, true, true, true, true, true, true, true, false, false] (fun K hK => ?_)
 refine uGs Try.func78 #[.agg #[.int .i64 a0_0, .int .i64 a0_1], .int .i64 a1_0, .int .i64 a1_1, .int .i64 a2] ?_
 with_reducible refine (spec_pzValue.calls a0_0 a0_1 a1_0 a1_1 a2 t103 _ A4.out).mono ?_
 rintro e w8 ⟨rfl, hb⟩
 refine ⟨_, rfl, ?_⟩
 replace BK101 := uB BK101 hb
 replace BK102 := uB BK102 hb
 replace HB := uS hb
 (try clear hb)
 (try clear hb2)
 (try clear hk)
 (try clear hi)
 refine hK.out _ _ ⟨uT BK101 0, uT BK101 1, uT BK102 0, uT BK102 1, uT BK102 2⟩ (fun hHeld => ?_)
 clear hK K
 refine uNo (some 13) ?_
 refine uPu (i := 9) (N := some 16) #[true, true, true, true, true, true, true, true, true, true, false] ?_
 refine uPu (i := 10) (N := some 6) #[true, true, true, true, true, true, true, true, true, true, true] ?_
 refine done_ (done_of HT_.out (by kernel_rfl)) ?_
 try go_wp2
 go_ret
 exact ⟨uA, by exact uW⟩
mutual
def spec_pzAll.l0 : Nat → List (S37) → List Int → Int → Int → Int → Option (List Int)
 | 0, _, _, _, _, _ => none
 | k + 1, x1, x5, x6, x102000, x102001 => (spec_nuHouses.f x102000 x102001).bind fun t102 => (if x6 ≤ t102 then (spec_pzAll.l1 k x1 x5 x6 true x1 (x1.length : Int) 0 x102000 x102001) else (some x5))
def spec_pzAll.l1 : Nat → List (S37) → List Int → Int → Bool → List (S37) → Int → Int → Int → Int → Option (List Int)
 | 0, _, _, _, _, _, _, _, _, _ => none
 | k + 1, x1, x5, x6, x7, x16, x17, x18, x102000, x102001 => if x18 < x17 then (if 0 ≤ x18 then (if x18 < (x16.length : Int) then (if x7 = true then ((spec_pzFits.f x102000 x102001 ((rd_T37 x16 x18).f0) ((rd_T37 x16 x18).f1) ((rd_T37 x16 x18).f2) x6).bind fun t105 => (spec_pzAll.l1 k x1 x5 x6 t105 x16 x17 (wrap64 (x18 + 1)) x102000 x102001)) else (spec_pzAll.l1 k x1 x5 x6 false x16 x17 (wrap64 (x18 + 1)) x102000 x102001)) else (none)) else (none)) else (if x7 = true then (if x5.length < 17592186044416 then (spec_pzAll.l0 k x1 (x5 ++ [x6]) (wrap64 (x6 + 1)) x102000 x102001) else (none)) else (spec_pzAll.l0 k x1 x5 (wrap64 (x6 + 1)) x102000 x102001))
end
def spec_pzAll.f (k : Nat) (a0_0 : Int) (a0_1 : Int) (l1 : List (S37)) : Option (List Int) := spec_pzAll.l0 k l1 ([] : List Int) 1 a0_0 a0_1
theorem spec_pzAll.mono_l : ∀ k, (∀ y0 y1 y2 y3 y4, LeO (spec_pzAll.l0 k y0 y1 y2 y3 y4) (spec_pzAll.l0 (k + 1) y0 y1 y2 y3 y4)) ∧ (∀ y0 y1 y2 y3 y4 y5 y6 y7 y8, LeO (spec_pzAll.l1 k y0 y1 y2 y3 y4 y5 y6 y7 y8) (spec_pzAll.l1 (k + 1) y0 y1 y2 y3 y4 y5 y6 y7 y8))
 | 0 => ⟨fun _ _ _ _ _ r h => by simp [spec_pzAll.l0] at h, fun _ _ _ _ _ _ _ _ _ r h => by simp [spec_pzAll.l1] at h⟩
 | k + 1 => by
  obtain ⟨ih0, ih1⟩ := spec_pzAll.mono_l k
  refine ⟨?_, ?_⟩
  ·intro y0 y1 y2 y3 y4
   unfold spec_pzAll.l0
   repeat' first
   | (with_reducible exact ih0 _ _ _ _ _)
   | (with_reducible exact ih1 _ _ _ _ _ _ _ _ _)
   | (with_reducible exact LeO.refl _)
   | (with_reducible exact LeO.none _)
   | (with_reducible refine LeO.ite ?_ ?_)
   | (with_reducible refine LeO.bind ?_ (fun _ => ?_))
   | exact ih0 _ _ _ _ _
   | exact ih1 _ _ _ _ _ _ _ _ _
   | exact LeO.none _
   | refine LeO.ite ?_ ?_
   | refine LeO.bind ?_ (fun _ => ?_)
  ·intro y0 y1 y2 y3 y4 y5 y6 y7 y8
   unfold spec_pzAll.l1
   repeat' first
   | (with_reducible exact ih0 _ _ _ _ _)
   | (with_reducible exact ih1 _ _ _ _ _ _ _ _ _)
   | (with_reducible exact LeO.refl _)
   | (with_reducible exact LeO.none _)
   | (with_reducible refine LeO.ite ?_ ?_)
   | (with_reducible refine LeO.bind ?_ (fun _ => ?_))
   | exact ih0 _ _ _ _ _
   | exact ih1 _ _ _ _ _ _ _ _ _
   | exact LeO.none _
   | refine LeO.ite ?_ ?_
   | refine LeO.bind ?_ (fun _ => ?_)
theorem spec_pzAll.mono : ∀ a0 a1 a2 k, LeO (spec_pzAll.f k a0 a1 a2) (spec_pzAll.f (k + 1) a0 a1 a2) := by
 intro a0 a1 a2 k
 obtain ⟨ih0, ih1⟩ := spec_pzAll.mono_l k
 unfold spec_pzAll.f
 repeat' first
   | (with_reducible exact ih0 _ _ _ _ _)
   | (with_reducible exact ih1 _ _ _ _ _ _ _ _ _)
   | (with_reducible exact LeO.refl _)
   | (with_reducible exact LeO.none _)
   | (with_reducible refine LeO.ite ?_ ?_)
   | (with_reducible refine LeO.bind ?_ (fun _ => ?_))
   | exact ih0 _ _ _ _ _
   | exact ih1 _ _ _ _ _ _ _ _ _
   | exact LeO.none _
   | refine LeO.ite ?_ ?_
   | refine LeO.bind ?_ (fun _ => ?_)
theorem spec_pzAll.calls (k : Nat) (a0_0 : Int) (a0_1 : Int) (A1 : Option Addr) (c1 : Nat) (l1 : List (S37)) (r : List Int) (w : World) (hr1 : Kd.C k37 w A1 l1.length l1) (hc1 : l1.length ≤ c1) (h : spec_pzAll.f k a0_0 a0_1 l1 = some r) :
  Calls Try.prog 88 #[.agg #[.int .i64 a0_0, .int .i64 a0_1], .slice A1 l1.length c1] w fun e w' => ∃ v0_ : Value, e = .returned (v0_) ∧ Kd.R (Kd.int .i64) 3 w' w.heap.size (fun _ => True) v0_ r ∧ Below w.heap.size w w' := by
 have hu30 := Try.underlying30
 have hu37 := Try.underlying37
 have HR1 := am hr1
 have HC1 := am hc1
 clear hr1 hc1
 have HB := am (Below.refl w.heap.size w)
 have H : (spec_pzAll.l0 k l1 ([] : List Int) 1 a0_0 a0_1) = some r := h
 clear h
 have H' := am H
 clear H
 go_enter Try.func88, Try.ntmps88
 go_wp2_with (first | ((with_reducible refine gate_dst (N := 2) rfl ?_); refine uX (N := 2) (cs := #[.int .i64 a0_0, .int .i64 a0_1]) (t := 30) ?_; intro gb101 hg w3 hbox hb; have BK101 := am (hbox); have GW101 := uE hg; have GE101 := GW101; replace HB := uS hb; clear hb hbox hg))
 go_loopg [5, 6] k (fun kq v5 v6 w' => ∃ (x5_1 : List Int) (x6_1 : Int), v6 = .int .i64 x6_1 ∧ Aside0 (spec_pzAll.l0 kq l1 x5_1 x6_1 a0_0 a0_1 = some r) ∧ Aside0 (kq ≤ k) ∧ Aside0 (Kd.R (Kd.int .i64) 3 w' w.heap.size (fun _ => True) v5 x5_1) ∧ Aside0 (w'.heap[gb101]? = some (.cells #[.int .i64 a0_0, .int .i64 a0_1] 30 (0, 0))) ∧ Aside0 (Below w.heap.size w w'))
 case atStart => exact ⟨(([] : List Int)), (1), (by first | rfl | (simp; done) | (simp [*]; done)), H', ⟨Nat.le_refl _⟩, ⟨uN⟩, ⟨by (with_reducible repeat (first | refine bN ?_ _ | refine bD ?_ | refine bA ?_ _)); exact BK101.out⟩, ⟨by exact uW⟩⟩
 case round =>
  clear H'
  try clear c1
  try clear p2
  obtain ⟨x5_1, x6_1, rfl, HA, HK1, HO_5, BK101, HB⟩ := hrel
  cases gk with
  | zero => exact absurd HA.out (by simp [spec_pzAll.l0])
  | succ k1 =>
   have H := HA.out
   clear HA
   simp only [spec_pzAll.l0] at H
   replace H := bH H
   obtain ⟨t102, A40, H⟩ := H
   replace H : (if x6_1 ≤ t102 then (spec_pzAll.l1 k1 l1 x5_1 x6_1 true l1 (l1.length : Int) 0 a0_0 a0_1) else (some x5_1)) = some r := H
   have A4 := am A40
   clear A40
   by_cases c5 : x6_1 ≤ t102
   ·rw [if_pos c5] at H
    have c5b0 : decide (x6_1 ≤ t102) = true := decide_eq_true c5
    clear c5
    have H' := am H
    clear H
    obtain ⟨hcz6_0, hcz6_1, hfz6_0, hfz6_1⟩ := uZ2 BK101
    go_wp2_with (first | ((with_reducible refine gate_callee (f := 77) rfl ?_); refine uGo (some 12) Try.func77 #[.agg #[.int .i64 a0_0, .int .i64 a0_1]] ?_; (with_reducible refine (spec_nuHouses.calls a0_0 a0_1 t102 _ A4.out).mono ?_); rintro e w7 ⟨rfl, hb⟩; refine ⟨_, rfl, ?_⟩; replace HO_5 := am (Kd.R_below (uR HO_5) hb); replace BK101 := uB BK101 hb; replace HB := uS hb; (try clear hb); (try clear hb2); (try clear hk); (try clear hi)))
    go_loopg [7, 18] k1 (fun kq v7 v18 w' => ∃ (x7_2 : Bool) (x18_2 : Int), v7 = .bool x7_2 ∧ v18 = .int .i64 x18_2 ∧ Aside0 (spec_pzAll.l1 kq l1 x5_1 x6_1 x7_2 l1 (l1.length : Int) x18_2 a0_0 a0_1 = some r) ∧ Aside0 (kq ≤ k1) ∧ Aside0 (Kd.R (Kd.int .i64) 3 w' w.heap.size (fun _ => True) u5 x5_1) ∧ Aside0 (w'.heap[gb101]? = some (.cells #[.int .i64 a0_0, .int .i64 a0_1] 30 (0, 0))) ∧ Aside0 (Below w.heap.size w w'))
    case atStart => exact ⟨(true), (0), (by first | rfl | (simp; done) | (simp [*]; done)), (by first | rfl | (simp; done) | (simp [*]; done)), H', ⟨Nat.le_refl _⟩, ⟨by (with_reducible repeat (first | apply rA | apply rN | apply rD)); exact HO_5.out⟩, ⟨by (with_reducible repeat (first | refine bN ?_ _ | refine bD ?_ | refine bA ?_ _)); exact BK101.out⟩, ⟨by exact uW⟩⟩
    case round =>
     clear H'
     try clear c1
     try clear p2
     try clear c5
     try clear c5b0
     try clear c7
     try clear hcz6_0
     try clear hcz6_1
     try clear hfz6_0
     try clear hfz6_1
     try clear p2
     obtain ⟨x7_2, x18_2, rfl, rfl, HA, HK2, HO_5, BK101, HB⟩ := hrel
     cases gk with
     | zero => exact absurd HA.out (by simp [spec_pzAll.l1])
     | succ k2 =>
      have H := HA.out
      clear HA
      simp only [spec_pzAll.l1] at H
      by_cases c8 : x18_2 < (l1.length : Int)
      ·rw [if_pos c8] at H
       have c8b0 : decide (x18_2 < (l1.length : Int)) = true := decide_eq_true c8
       clear c8
       by_cases c9 : 0 ≤ x18_2
       ·rw [if_pos c9] at H
        have c9b0 : decide (0 ≤ x18_2) = true := decide_eq_true c9
        clear c9
        by_cases c10 : x18_2 < (l1.length : Int)
        ·rw [if_pos c10] at H
         have c10b0 : decide (x18_2 < (l1.length : Int)) = true := decide_eq_true c10
         clear c10
         by_cases c11 : x7_2 = true
         ·subst c11
          have H1 : ((spec_pzFits.f a0_0 a0_1 ((rd_T37 l1 x18_2).f0) ((rd_T37 l1 x18_2).f1) ((rd_T37 l1 x18_2).f2) x6_1).bind fun t105 => (spec_pzAll.l1 k2 l1 x5_1 x6_1 t105 l1 (l1.length : Int) (wrap64 (x18_2 + 1)) a0_0 a0_1)) = some r := by rw [if_pos rfl] at H; exact H
          clear H
          have H := H1
          clear H1
          replace H := bH H
          obtain ⟨t105, A120, H⟩ := H
          replace H : (spec_pzAll.l1 k2 l1 x5_1 x6_1 t105 l1 (l1.length : Int) (wrap64 (x18_2 + 1)) a0_0 a0_1) = some r := H
          have A12 := am A120
          clear A120
          have H' := am H
          clear H
          have p103 : 0 ≤ (x18_2 : Int) := of_decide_eq_true (by first | (with_reducible assumption) | assumption)
          have q103 : x18_2 < (l1.length : Int) := of_decide_eq_true (by first | (with_reducible assumption) | assumption)
          obtain ⟨ad103, e103, hx103_0, hx103_1, hx103_2⟩ := at_T37 HR1.out x18_2 p103 q103
          cases e103
          try replace hx103_0 := (HB.out.cell (World.block_lt_of_cell? w _ hx103_0)).trans hx103_0
          try replace hx103_1 := (HB.out.cell (World.block_lt_of_cell? w _ hx103_1)).trans hx103_1
          try replace hx103_2 := (HB.out.cell (World.block_lt_of_cell? w _ hx103_2)).trans hx103_2
          replace p103 := eq_true p103
          replace q103 := eq_true q103
          go_wp2_with (first | ((with_reducible refine gate_dst (N := 9) rfl ?_); refine uX (N := 9) (cs := #[.int .i64 0, .int .i64 0, .int .i64 0]) (t := 37) ?_; intro gb104 hg w13 hbox hb; have BK104 := am (hbox); have GW104 := uE hg; have GE104 := GW104; have NB101_104 := uL BK101 hg; have NB104_101 := uY NB101_104; replace HO_5 := am (Kd.R_below (uR HO_5) hb); replace BK101 := uB BK101 hb; replace HB := uS hb; clear hb hbox hg; have hnb14 := NB104_101.out; have hnc14 := NB101_104.out; obtain ⟨hcz15_0, hcz15_1, hcz15_2, hfz15_0, hfz15_1, hfz15_2⟩ := uZ3 BK104; obtain ⟨hcz16_0, hcz16_1, hfz16_0, hfz16_1⟩ := uZ2 BK101) | (go_at_call 74; (with_reducible refine (spec_pzFits.calls a0_0 a0_1 ((rd_T37 l1 x18_2).f0) ((rd_T37 l1 x18_2).f1) ((rd_T37 l1 x18_2).f2) x6_1 t105 _ A12.out).mono ?_); rintro e w17 ⟨rfl, hb⟩; replace HO_5 := am (Kd.R_below (by (with_reducible repeat (first | apply rA | apply rN | apply rD)); exact (Kd.R_mono (Kd.R_far (p := ⟨gb104, 2, none⟩) (Kd.R_far (p := ⟨gb104, 1, none⟩) (Kd.R_far (p := ⟨gb104, 0, none⟩) (Kd.R_types HO_5.out BK104.out (by decide)) (fun _ hk => hk.2) (.int .i64 ((rd_T37 l1 x18_2).f0))) (fun _ hk => hk.2) (.int .i64 ((rd_T37 l1 x18_2).f1))) (fun _ hk => hk.2) (.int .i64 ((rd_T37 l1 x18_2).f2))) (fun _ h_ => h_.1))) hb); replace BK101 := am (blk_below (g := gb101) (o := .cells #[.int .i64 a0_0, .int .i64 a0_1] 30 (0, 0)) (by refine blk_far ?_ NB101_104.out _; refine blk_far ?_ NB101_104.out _; refine blk_far ?_ NB101_104.out _; exact (uP BK101)) hb); replace BK104 := am (blk_below (g := gb104) (o := .cells #[.int .i64 ((rd_T37 l1 x18_2).f0), .int .i64 ((rd_T37 l1 x18_2).f1), .int .i64 ((rd_T37 l1 x18_2).f2)] 37 (0, 0)) (by refine blk_put (cs := #[.int .i64 ((rd_T37 l1 x18_2).f0), .int .i64 ((rd_T37 l1 x18_2).f1), .int .i64 0]) ?_ 2 _ rfl; refine blk_put (cs := #[.int .i64 ((rd_T37 l1 x18_2).f0), .int .i64 0, .int .i64 0]) ?_ 1 _ rfl; refine blk_put (cs := #[.int .i64 0, .int .i64 0, .int .i64 0]) ?_ 0 _ rfl; exact (uP BK104)) hb); replace HB := uS hb; (try clear hb); (try clear hb2); (try clear hk); (try clear hi)))
          go_roundg k2
          case measure => have := HK1.out; have := HK2.out; omega
          case rel => exact ⟨(t105), (wrap64 (x18_2 + 1)), (by first | rfl | (simp; done) | (simp [*]; done)), (by first | rfl | (simp; done) | (simp [*]; done)), H', ⟨by have := HK1.out; have := HK2.out; omega⟩, ⟨by (with_reducible repeat (first | apply rA | apply rN | apply rD)); exact HO_5.out⟩, ⟨by (with_reducible repeat (first | refine bN ?_ _ | refine bD ?_ | refine bA ?_ _)); exact BK101.out⟩, ⟨by exact uW⟩⟩
         ·replace c11 := Bool.eq_false_iff.mpr c11
          subst c11
          have H1 : (spec_pzAll.l1 k2 l1 x5_1 x6_1 false l1 (l1.length : Int) (wrap64 (x18_2 + 1)) a0_0 a0_1) = some r := by rw [if_neg (show ¬ (false = true) by decide)] at H; exact H
          clear H
          have H := H1
          clear H1
          have H' := am H
          clear H
          have p103 : 0 ≤ (x18_2 : Int) := of_decide_eq_true (by first | (with_reducible assumption) | assumption)
          have q103 : x18_2 < (l1.length : Int) := of_decide_eq_true (by first | (with_reducible assumption) | assumption)
          obtain ⟨ad103, e103, hx103_0, hx103_1, hx103_2⟩ := at_T37 HR1.out x18_2 p103 q103
          cases e103
          try replace hx103_0 := (HB.out.cell (World.block_lt_of_cell? w _ hx103_0)).trans hx103_0
          try replace hx103_1 := (HB.out.cell (World.block_lt_of_cell? w _ hx103_1)).trans hx103_1
          try replace hx103_2 := (HB.out.cell (World.block_lt_of_cell? w _ hx103_2)).trans hx103_2
          replace p103 := eq_true p103
          replace q103 := eq_true q103
          go_wp2_with (first | ((with_reducible refine gate_dst (N := 9) rfl ?_); refine uX (N := 9) (cs := #[.int .i64 0, .int .i64 0, .int .i64 0]) (t := 37) ?_; intro gb104 hg w18 hbox hb; have BK104 := am (hbox); have GW104 := uE hg; have GE104 := GW104; have NB101_104 := uL BK101 hg; have NB104_101 := uY NB101_104; replace HO_5 := am (Kd.R_below (uR HO_5) hb); replace BK101 := uB BK101 hb; replace HB := uS hb; clear hb hbox hg; have hnb19 := NB104_101.out; have hnc19 := NB101_104.out; obtain ⟨hcz20_0, hcz20_1, hcz20_2, hfz20_0, hfz20_1, hfz20_2⟩ := uZ3 BK104))
          go_roundg k2
          case measure => have := HK1.out; have := HK2.out; omega
          case rel => exact ⟨(false), (wrap64 (x18_2 + 1)), (by first | rfl | (simp; done) | (simp [*]; done)), (by first | rfl | (simp; done) | (simp [*]; done)), H', ⟨by have := HK1.out; have := HK2.out; omega⟩, ⟨by (with_reducible repeat (first | apply rA | apply rN | apply rD)); exact Kd.R_mono (Kd.R_far (p := ⟨gb104, 2, none⟩) (Kd.R_far (p := ⟨gb104, 1, none⟩) (Kd.R_far (p := ⟨gb104, 0, none⟩) (Kd.R_types HO_5.out BK104.out (by decide)) (fun _ hk => hk.2) (.int .i64 ((rd_T37 l1 x18_2).f0))) (fun _ hk => hk.2) (.int .i64 ((rd_T37 l1 x18_2).f1))) (fun _ hk => hk.2) (.int .i64 ((rd_T37 l1 x18_2).f2))) (fun _ hk => trivial)⟩, ⟨by refine blk_far ?_ NB101_104.out _; refine blk_far ?_ NB101_104.out _; refine blk_far ?_ NB101_104.out _; exact (uP BK101)⟩, ⟨by exact uW⟩⟩
        ·rw [if_neg c10] at H
         exact absurd H (by simp)
       ·rw [if_neg c9] at H
        exact absurd H (by simp)
      ·rw [if_neg c8] at H
       have c8b0 : decide (x18_2 < (l1.length : Int)) = false := decide_eq_false c8
       clear c8
       by_cases c21 : x7_2 = true
       ·subst c21
        have H1 : (if x5_1.length < 17592186044416 then (spec_pzAll.l0 k2 l1 (x5_1 ++ [x6_1]) (wrap64 (x6_1 + 1)) a0_0 a0_1) else (none)) = some r := by rw [if_pos rfl] at H; exact H
        clear H
        have H := H1
        clear H1
        by_cases c22 : x5_1.length < 17592186044416
        ·rw [if_pos c22] at H
         have LMc22 := am c22
         clear c22
         obtain ⟨y106, hy106⟩ : ∃ y_ : List Int, y_ = (x5_1 ++ [x6_1]) := ⟨_, rfl⟩
         replace H : (spec_pzAll.l0 k2 l1 y106 (wrap64 (x6_1 + 1)) a0_0 a0_1) = some r := by first | (rw [hy106]; with_reducible exact H) | (have H2_ := (Option.bind_some _ _).symm.trans H; rw [hy106]; with_reducible exact H2_) | (have H2_ := (Option.bind_some _ _).symm.trans H; with_reducible exact H2_) | with_reducible exact H | (rw [hy106]; exact H) | exact H
         have Ny106 := am hy106
         clear hy106
         have H' := am H
         clear H
         go_wp2_with (first | ((with_reducible refine gate_builtin (b := .append) (xs := #[.tmp 31, .tmp 33]) rfl ?_); at_builtin; refine Kd.R_append (Kd.int .i64) (w0 := w) w.heap.size rfl (.tmp 31) (.tmp 33) 59 3 (.int .i64 0) 8 rfl Try.underlying59 info3 rfl (by decide) (by omega) u5 x5_1 x6_1 [.int .i64 x6_1] (fun _ => True) (fun _ => False) rfl rfl ?aP (fun _ hk => hk.elim) ?aF ?aO ?aB ?aS ?aL ?_; (case aP => exact rfl); (case aB => exact uW); (case aF => exact (fun _ _ => trivial)); (case aO => exact (uR HO_5)); (case aS => exact (below_size uW)); (case aL => have := LMc22.out; omega); intro v107 w23 ho hb hg hat; rw [← Ny106.out] at ho; have HO108 := am (ho); replace BK101 := am (blk_grown (uP BK101) hg (Kd.R_ne HO_5.out BK101.out (by decide))); replace HB := am (hb); clear HO_5; clear ho hb hg hat))
         go_roundg k2
         case measure => have := HK1.out; have := HK2.out; omega
         case rel => exact ⟨(y106), (wrap64 (x6_1 + 1)), (by first | rfl | (simp; done) | (simp [*]; done)), H', ⟨by have := HK1.out; have := HK2.out; omega⟩, ⟨by (with_reducible repeat (first | apply rA | apply rN | apply rD)); exact HO108.out⟩, ⟨by (with_reducible repeat (first | refine bN ?_ _ | refine bD ?_ | refine bA ?_ _)); exact BK101.out⟩, ⟨by exact uW⟩⟩
        ·rw [if_neg c22] at H
         exact absurd H (by simp)
       ·replace c21 := Bool.eq_false_iff.mpr c21
        subst c21
        have H1 : (spec_pzAll.l0 k2 l1 x5_1 (wrap64 (x6_1 + 1)) a0_0 a0_1) = some r := by rw [if_neg (show ¬ (false = true) by decide)] at H; exact H
        clear H
        have H := H1
        clear H1
        have H' := am H
        clear H
        go_wp2
        go_roundg k2
        case measure => have := HK1.out; have := HK2.out; omega
        case rel => exact ⟨(x5_1), (wrap64 (x6_1 + 1)), (by first | rfl | (simp; done) | (simp [*]; done)), H', ⟨by have := HK1.out; have := HK2.out; omega⟩, ⟨by (with_reducible repeat (first | apply rA | apply rN | apply rD)); exact HO_5.out⟩, ⟨by (with_reducible repeat (first | refine bN ?_ _ | refine bD ?_ | refine bA ?_ _)); exact BK101.out⟩, ⟨by exact uW⟩⟩
   ·rw [if_neg c5] at H
    have c5b0 : decide (x6_1 ≤ t102) = false := decide_eq_false c5
    clear c5
    obtain rfl := Option.some.inj H
    obtain ⟨hcz24_0, hcz24_1, hfz24_0, hfz24_1⟩ := uZ2 BK101
    go_wp2_with (first | ((with_reducible refine gate_callee (f := 77) rfl ?_); refine uGo (some 12) Try.func77 #[.agg #[.int .i64 a0_0, .int .i64 a0_1]] ?_; (with_reducible refine (spec_nuHouses.calls a0_0 a0_1 t102 _ A4.out).mono ?_); rintro e w25 ⟨rfl, hb⟩; refine ⟨_, rfl, ?_⟩; replace HO_5 := am (Kd.R_below (uR HO_5) hb); replace BK101 := uB BK101 hb; replace HB := uS hb; (try clear hb); (try clear hb2); (try clear hk); (try clear hi)))
    go_ret
    exact ⟨_, uA, by (with_reducible repeat (first | apply rA | apply rN | apply rD)); exact HO_5.out, by exact uW⟩
def spec_pzSolved.f (k : Nat) (a0_0 : Int) (a0_1 : Int) (l1 : List (S37)) : Option (Bool) := (spec_pzAll.f k a0_0 a0_1 l1).bind fun t102 => (some ((t102.length : Int) == 1))
theorem spec_pzSolved.calls (k : Nat) (a0_0 : Int) (a0_1 : Int) (A1 : Option Addr) (c1 : Nat) (l1 : List (S37)) (r : Bool) (w : World) (hr1 : Kd.C k37 w A1 l1.length l1) (hc1 : l1.length ≤ c1) (h : spec_pzSolved.f k a0_0 a0_1 l1 = some r) :
  Calls Try.prog 71 #[.agg #[.int .i64 a0_0, .int .i64 a0_1], .slice A1 l1.length c1] w fun e w' => e = .returned (.bool r) ∧ Below w.heap.size w w' := by
 have hu30 := Try.underlying30
 have HR1 := am hr1
 have HC1 := am hc1
 clear hr1 hc1
 have HB := am (Below.refl w.heap.size w)
 have H : ((spec_pzAll.f k a0_0 a0_1 l1).bind fun t102 => (some ((t102.length : Int) == 1))) = some r := h
 clear h
 replace H := bH H
 obtain ⟨t102, A30, H⟩ := H
 replace H : (some ((t102.length : Int) == 1)) = some r := H
 have A3 := am A30
 clear A30
 obtain rfl := Option.some.inj H
 go_enter Try.func71, Try.ntmps71
 go_wp2_with (first | ((with_reducible refine gate_dst (N := 2) rfl ?_); refine uX (N := 2) (cs := #[.int .i64 a0_0, .int .i64 a0_1]) (t := 30) ?_; intro gb101 hg w4 hbox hb; have BK101 := am (hbox); have GW101 := uE hg; have GE101 := GW101; replace HB := uS hb; clear hb hbox hg; obtain ⟨hcz5_0, hcz5_1, hfz5_0, hfz5_1⟩ := uZ2 BK101) | ((with_reducible refine gate_callee (f := 88) rfl ?_); refine uGo (some 7) Try.func88 #[.agg #[.int .i64 a0_0, .int .i64 a0_1], .slice A1 l1.length c1] ?_; (with_reducible refine (spec_pzAll.calls k a0_0 a0_1 _ _ l1 t102 _ ?side1 ?side2 A3.out).mono ?_); (case side1 => repeat (first | exact (Kd.C_below HR1.out HB.out) | (with_reducible refine cA ?_ _) | (with_reducible refine cN ?_ _) | (with_reducible refine cD ?_))); (case side2 => exact HC1.out); rintro e w6 ⟨v103, rfl, ho0, hb⟩; refine ⟨_, rfl, ?_⟩; have HO104 := am (Kd.R_lower ho0 (below_size uW)); replace BK101 := uB BK101 hb; replace HB := uS hb; (try clear hb); (try clear hb2); (try clear hk); (try clear hi); (try clear ho0); obtain ⟨Ao7, co7, eo7⟩ := Kd.R_slice HO104.out; subst eo7))
 go_ret
 exact ⟨uA, by exact uW⟩
mutual
def spec_HarderPuzzle.j0 : Nat → Bool → Int → Int → List (S37) → Option (Int × Int × (List (S37)) × Bool)
 | 0, _, _, _, _ => none
 | k + 1, x17, x102000, x102001, x102002 => if x17 = true then (some (0, 0, ([] : List (S37)), false)) else ((some (([] : List (S37)) : List (S37))).bind fun y105 => (if y105.length + x102002.length < 5864062014805 then (spec_HarderPuzzle.l0 k (y105 ++ x102002) 0 x102000 x102001 x102002) else (none)))
def spec_HarderPuzzle.l0 : Nat → List (S37) → Int → Int → Int → List (S37) → Option (Int × Int × (List (S37)) × Bool)
 | 0, _, _, _, _, _ => none
 | k + 1, x4, x5, x102000, x102001, x102002 => if x5 < (x4.length : Int) then ((spec_pzWithout.f x4 x5).bind fun t111 => ((spec_pzSolved.f k x102000 x102001 t111).bind fun t114 => (if t114 = true then (spec_HarderPuzzle.l0 k t111 x5 x102000 x102001 x102002) else (spec_HarderPuzzle.l0 k x4 (wrap64 (x5 + 1)) x102000 x102001 x102002)))) else (some (x102000, x102001, x4, true))
end
def spec_HarderPuzzle.f (k : Nat) (a0_0 : Int) (a0_1 : Int) (l0_2 : List (S37)) : Option (Int × Int × (List (S37)) × Bool) := (spec_pzGood.f k a0_0 a0_1 l0_2).bind fun t103 => (if t103 = true then ((spec_pzSolved.f k a0_0 a0_1 l0_2).bind fun t104 => (spec_HarderPuzzle.j0 k (!t104) a0_0 a0_1 l0_2)) else (spec_HarderPuzzle.j0 k true a0_0 a0_1 l0_2))
theorem spec_HarderPuzzle.calls (k : Nat) (a0_0 : Int) (a0_1 : Int) (A0_2 : Option Addr) (c0_2 : Nat) (l0_2 : List (S37)) (r1 : Int) (r2 : Int) (r3 : List (S37)) (r4 : Bool) (w : World) (hr0_2 : Kd.C k37 w A0_2 l0_2.length l0_2) (hc0_2 : l0_2.length ≤ c0_2) (h : spec_HarderPuzzle.f k a0_0 a0_1 l0_2 = some (r1, r2, r3, r4)) :
  Calls Try.prog 26 #[.agg #[.int .i64 a0_0, .int .i64 a0_1, .slice A0_2 l0_2.length c0_2]] w fun e w' => ∃ v2_ : Value, e = .returned (.tuple #[.agg #[.int .i64 r1, .int .i64 r2, v2_], .bool r4]) ∧ Kd.R k37 37 w' w.heap.size (fun _ => True) v2_ r3 ∧ Below w.heap.size w w' := by
 have hu33 := Try.underlying33
 have hu30 := Try.underlying30
 have HR0_2 := am hr0_2
 have HC0_2 := am hc0_2
 clear hr0_2 hc0_2
 have HB := am (Below.refl w.heap.size w)
 have H : ((spec_pzGood.f k a0_0 a0_1 l0_2).bind fun t103 => (if t103 = true then ((spec_pzSolved.f k a0_0 a0_1 l0_2).bind fun t104 => (spec_HarderPuzzle.j0 k (!t104) a0_0 a0_1 l0_2)) else (spec_HarderPuzzle.j0 k true a0_0 a0_1 l0_2))) = some (r1, r2, r3, r4) := h
 clear h
 have HC2 := am H
 clear H
 go_enter Try.func26, Try.ntmps26
 go_upto_region 1 with (first | ((with_reducible refine gate_dst (N := 1) rfl ?_); refine uX (N := 1) (cs := #[.int .i64 a0_0, .int .i64 a0_1, .slice A0_2 l0_2.length c0_2]) (t := 33) ?_; intro gb101 hg w3 hbox hb; have BK101 := am (hbox); have GW101 := uE hg; have GE101 := GW101; replace HB := uS hb; clear hb hbox hg) | ((with_reducible refine gate_dst (N := 2) rfl ?_); refine uX (N := 2) (cs := #[.int .i64 0, .int .i64 0, .slice none 0 0]) (t := 33) ?_; intro gb102 hg w4 hbox hb; have BK102 := am (hbox); have GW102 := uE hg; have GE102 := GW102; have NB101_102 := uL BK101 hg; have NB102_101 := uY NB101_102; replace BK101 := uB BK101 hb; replace HB := uS hb; clear hb hbox hg))
 (try simp only [Act.put, List.setIfInBounds_toArray, List.set_cons_zero, List.set_cons_succ])
 go_cut [17] (fun v17 wc => ∃ (kq : Nat) (x17_1 : Bool), v17 = .bool x17_1 ∧ Aside0 (spec_HarderPuzzle.j0 kq x17_1 a0_0 a0_1 l0_2 = some (r1, r2, r3, r4)) ∧ Aside0 (kq ≤ k) ∧ Aside0 (wc.heap[gb101]? = some (.cells #[.int .i64 a0_0, .int .i64 a0_1, (.slice A0_2 l0_2.length c0_2)] 33 (0, 0))) ∧ Aside0 (wc.heap[gb102]? = some (.cells #[.int .i64 0, .int .i64 0, (.slice none 0 0)] 33 (0, 0))) ∧ Aside0 (Below w.heap.size w wc))
 case first =>
  have H := HC2.out
  clear HC2
  replace H := bH H
  obtain ⟨t103, A50, H⟩ := H
  replace H : (if t103 = true then ((spec_pzSolved.f k a0_0 a0_1 l0_2).bind fun t104 => (spec_HarderPuzzle.j0 k (!t104) a0_0 a0_1 l0_2)) else (spec_HarderPuzzle.j0 k true a0_0 a0_1 l0_2)) = some (r1, r2, r3, r4) := H
  have A5 := am A50
  clear A50
  by_cases c6 : t103 = true
  ·subst c6
   have H1 : ((spec_pzSolved.f k a0_0 a0_1 l0_2).bind fun t104 => (spec_HarderPuzzle.j0 k (!t104) a0_0 a0_1 l0_2)) = some (r1, r2, r3, r4) := by rw [if_pos rfl] at H; exact H
   clear H
   have H := H1
   clear H1
   replace H := bH H
   obtain ⟨t104, A70, H⟩ := H
   replace H : (spec_HarderPuzzle.j0 k (!t104) a0_0 a0_1 l0_2) = some (r1, r2, r3, r4) := H
   have A7 := am A70
   clear A70
   have H' := am H
   clear H
   have hnb8 := NB101_102.out
   have hnc8 := NB102_101.out
   obtain ⟨hcz9_0, hcz9_1, hcz9_2, hfz9_0, hfz9_1, hfz9_2⟩ := uZ3 BK101
   go_wp2_with (first | ((with_reducible refine gate_callee (f := 41) rfl ?_); refine uGo (some 8) Try.func41 #[.agg #[.int .i64 a0_0, .int .i64 a0_1, .slice A0_2 l0_2.length c0_2]] ?_; (with_reducible refine (spec_pzGood.calls k a0_0 a0_1 _ _ l0_2 true _ ?side1 ?side2 A5.out).mono ?_); (case side1 => repeat (first | exact (Kd.C_below HR0_2.out HB.out) | (with_reducible refine cA ?_ _) | (with_reducible refine cN ?_ _) | (with_reducible refine cD ?_))); (case side2 => exact HC0_2.out); rintro e w10 ⟨rfl, hb⟩; refine ⟨_, rfl, ?_⟩; replace BK101 := uB BK101 hb; replace BK102 := uB BK102 hb; replace HB := uS hb; (try clear hb); (try clear hb2); (try clear hk); (try clear hi); obtain ⟨hcz11_0, hcz11_1, hcz11_2, hfz11_0, hfz11_1, hfz11_2⟩ := uZ3 BK101) | (go_at_call 71; (with_reducible refine (spec_pzSolved.calls k a0_0 a0_1 _ _ l0_2 t104 _ ?side1 ?side2 A7.out).mono ?_); (case side1 => repeat (first | exact (Kd.C_below HR0_2.out HB.out) | (with_reducible refine cA ?_ _) | (with_reducible refine cN ?_ _) | (with_reducible refine cD ?_))); (case side2 => exact HC0_2.out); rintro e w12 ⟨rfl, hb⟩; replace BK101 := uB BK101 hb; replace BK102 := uB BK102 hb; replace HB := uS hb; (try clear hb); (try clear hb2); (try clear hk); (try clear hi)))
   go_meet
   case rel => exact ⟨_, (!t104), (by first | rfl | (simp; done) | (simp [*]; done)), H', ⟨by first | omega | exact Nat.le_refl _⟩, ⟨by (with_reducible repeat (first | refine bN ?_ _ | refine bD ?_ | refine bA ?_ _)); exact BK101.out⟩, ⟨by (with_reducible repeat (first | refine bN ?_ _ | refine bD ?_ | refine bA ?_ _)); exact BK102.out⟩, ⟨by exact uW⟩⟩
  ·replace c6 := Bool.eq_false_iff.mpr c6
   subst c6
   have H1 : (spec_HarderPuzzle.j0 k true a0_0 a0_1 l0_2) = some (r1, r2, r3, r4) := by rw [if_neg (show ¬ (false = true) by decide)] at H; exact H
   clear H
   have H := H1
   clear H1
   have H' := am H
   clear H
   have hnb13 := NB101_102.out
   have hnc13 := NB102_101.out
   obtain ⟨hcz14_0, hcz14_1, hcz14_2, hfz14_0, hfz14_1, hfz14_2⟩ := uZ3 BK101
   go_wp2_with (first | ((with_reducible refine gate_callee (f := 41) rfl ?_); refine uGo (some 8) Try.func41 #[.agg #[.int .i64 a0_0, .int .i64 a0_1, .slice A0_2 l0_2.length c0_2]] ?_; (with_reducible refine (spec_pzGood.calls k a0_0 a0_1 _ _ l0_2 false _ ?side1 ?side2 A5.out).mono ?_); (case side1 => repeat (first | exact (Kd.C_below HR0_2.out HB.out) | (with_reducible refine cA ?_ _) | (with_reducible refine cN ?_ _) | (with_reducible refine cD ?_))); (case side2 => exact HC0_2.out); rintro e w15 ⟨rfl, hb⟩; refine ⟨_, rfl, ?_⟩; replace BK101 := uB BK101 hb; replace BK102 := uB BK102 hb; replace HB := uS hb; (try clear hb); (try clear hb2); (try clear hk); (try clear hi)))
   go_meet
   case rel => exact ⟨_, (true), (by first | rfl | (simp; done) | (simp [*]; done)), H', ⟨by first | omega | exact Nat.le_refl _⟩, ⟨by (with_reducible repeat (first | refine bN ?_ _ | refine bD ?_ | refine bA ?_ _)); exact BK101.out⟩, ⟨by (with_reducible repeat (first | refine bN ?_ _ | refine bD ?_ | refine bA ?_ _)); exact BK102.out⟩, ⟨by exact uW⟩⟩
 case rest =>
  clear HC2
  try clear c1
  try clear c2
  try clear p2
  try clear c4
  try clear c6
  try clear c8
  try clear c13
  try clear hcz11_0
  try clear hcz11_1
  try clear hcz11_2
  try clear hcz14_0
  try clear hcz14_1
  try clear hcz14_2
  try clear hcz9_0
  try clear hcz9_1
  try clear hcz9_2
  try clear hfz11_0
  try clear hfz11_1
  try clear hfz11_2
  try clear hfz14_0
  try clear hfz14_1
  try clear hfz14_2
  try clear hfz9_0
  try clear hfz9_1
  try clear hfz9_2
  obtain ⟨kq, x17_1, rfl, HA, HJ1, BK101, BK102, HB⟩ := hcut
  cases kq with
  | zero => exact absurd HA.out (by simp [spec_HarderPuzzle.j0])
  | succ kj1 =>
   have H := HA.out
   clear HA
   simp only [spec_HarderPuzzle.j0] at H
   by_cases c16 : x17_1 = true
   ·subst c16
    have H1 : (some (0, 0, ([] : List (S37)), false)) = some (r1, r2, r3, r4) := by rw [if_pos rfl] at H; exact H
    clear H
    have H := H1
    clear H1
    simp only [Option.some.injEq, Prod.mk.injEq] at H
    obtain ⟨rfl, rfl, rfl, rfl⟩ := H
    have hnb17 := NB102_101.out
    have hnc17 := NB101_102.out
    obtain ⟨hcz18_0, hcz18_1, hcz18_2, hfz18_0, hfz18_1, hfz18_2⟩ := uZ3 BK102
    go_wp2
    refine bodyPost_ret (results_ct rfl _ _ gb102 33 #[.int .i64 0, .int .i64 0, .slice none 0 0] (0, 0) _ rfl (by refine blk_put (cs := #[.int .i64 0, .int .i64 0, .slice none 0 0]) ?_ 2 _ rfl; refine blk_put (cs := #[.int .i64 0, .int .i64 0, .slice none 0 0]) ?_ 1 _ rfl; refine blk_put (cs := #[.int .i64 0, .int .i64 0, .slice none 0 0]) ?_ 0 _ rfl; exact (uP BK102)) Try.underlying33 rfl (by kernel_rfl)) rfl ?_
    exact ⟨_, uA, uN, by exact uW⟩
   ·replace c16 := Bool.eq_false_iff.mpr c16
    subst c16
    have H1 : ((some (([] : List (S37)) : List (S37))).bind fun y105 => (if y105.length + l0_2.length < 5864062014805 then (spec_HarderPuzzle.l0 kj1 (y105 ++ l0_2) 0 a0_0 a0_1 l0_2) else (none))) = some (r1, r2, r3, r4) := by rw [if_neg (show ¬ (false = true) by decide)] at H; exact H
    clear H
    have H := H1
    clear H1
    obtain ⟨y105, hy105⟩ : ∃ y_ : List (S37), y_ = (([] : List (S37))) := ⟨_, rfl⟩
    replace H : (if y105.length + l0_2.length < 5864062014805 then (spec_HarderPuzzle.l0 kj1 (y105 ++ l0_2) 0 a0_0 a0_1 l0_2) else (none)) = some (r1, r2, r3, r4) := by first | (rw [hy105]; with_reducible exact H) | (have H2_ := (Option.bind_some _ _).symm.trans H; rw [hy105]; with_reducible exact H2_) | (have H2_ := (Option.bind_some _ _).symm.trans H; with_reducible exact H2_) | with_reducible exact H | (rw [hy105]; exact H) | exact H
    have Ny105 := am hy105
    clear hy105
    by_cases c19 : y105.length + l0_2.length < 5864062014805
    ·rw [if_pos c19] at H
     have LMc19 := am c19
     clear c19
     obtain ⟨y108, hy108⟩ : ∃ y_ : List (S37), y_ = (y105 ++ l0_2) := ⟨_, rfl⟩
     replace H : (spec_HarderPuzzle.l0 kj1 y108 0 a0_0 a0_1 l0_2) = some (r1, r2, r3, r4) := by first | (rw [hy108]; with_reducible exact H) | (have H2_ := (Option.bind_some _ _).symm.trans H; rw [hy108]; with_reducible exact H2_) | (have H2_ := (Option.bind_some _ _).symm.trans H; with_reducible exact H2_) | with_reducible exact H | (rw [hy108]; exact H) | exact H
     have Ny108 := am hy108
     clear hy108
     have H' := am H
     clear H
     go_wp2_with (first | ((with_reducible refine gate_dst (N := 19) rfl ?_); refine Kd.R_lit k37 _ 37 ?hg (N := 19) ?hd (xs := ([] : List (S37))) (inner := []) (ok := fun _ => True) (okp := fun _ => True) ?hr ?hp (fun _ hk => hk) trivial (Below.refl _ _) (Nat.le_refl _) (by simp) ?_; (case hd => rfl); (case hg => rfl); (case hr => first | (go_simp; done) | (go_simp; rfl)); (case hp => exact (Reps.none _ _)); intro v106 w20 ho21 hb hg_ hnew_; clear hg_ hnew_; (first | rw [← Ny105.out] at ho21 | (simp only [Int.reduceToNat] at ho21; rw [← Ny105.out] at ho21)); have HO107 := am (Kd.R_lower ho21 (below_size uW)); replace BK101 := uB BK101 hb; replace BK102 := uB BK102 hb; replace HB := uS hb; clear hb ho21; have hnb22 := NB101_102.out; have hnc22 := NB102_101.out; obtain ⟨hcz23_0, hcz23_1, hcz23_2, hfz23_0, hfz23_1, hfz23_2⟩ := uZ3 BK101) | ((with_reducible refine gate_builtin (b := .append) (xs := #[.tmp 19, .tmp 21]) rfl ?_); at_builtin; refine Kd.R_append_rows k37 (w0 := w) w.heap.size rfl (.tmp 19) (.tmp 21) 31 37 (.agg #[(.int .i64 0), (.int .i64 0), (.int .i64 0)]) 24 rfl Try.underlying31 info37 rfl (by decide) (by omega) v106 y105 l0_2 _ _ _ (fun _ => True) (fun _ => False) rfl rfl ?aO ?aR (fun _ _ h => h) (fun _ h => h.elim) ?aF ?aB ?aS ?aL ?_; (case aR => repeat (first | exact (Kd.C_below HR0_2.out HB.out) | (with_reducible refine cA ?_ _) | (with_reducible refine cN ?_ _) | (with_reducible refine cD ?_))); (case aB => exact uW); (case aF => exact (fun _ _ => trivial)); (case aO => exact (uR HO107)); (case aS => exact (below_size uW)); (case aL => have := LMc19.out; omega); intro v109 w24 ho hb hg hat; rw [← Ny108.out] at ho; have HO110 := am (ho); replace BK101 := am (blk_grown (uP BK101) hg (Kd.R_ne HO107.out BK101.out (by decide))); replace BK102 := am (blk_grown (uP BK102) hg (Kd.R_ne HO107.out BK102.out (by decide))); replace HB := am (hb); clear HO107; clear ho hb hg hat))
     go_loopg [4, 5] kj1 (fun kq v4 v5 w' => ∃ (x4_2 : List (S37)) (x5_2 : Int), v5 = .int .i64 x5_2 ∧ Aside0 (spec_HarderPuzzle.l0 kq x4_2 x5_2 a0_0 a0_1 l0_2 = some (r1, r2, r3, r4)) ∧ Aside0 (kq ≤ kj1) ∧ Aside0 (Kd.R k37 37 w' w.heap.size (fun _ => True) v4 x4_2) ∧ Aside0 (w'.heap[gb101]? = some (.cells #[.int .i64 a0_0, .int .i64 a0_1, (.slice A0_2 l0_2.length c0_2)] 33 (0, 0))) ∧ Aside0 (w'.heap[gb102]? = some (.cells #[.int .i64 0, .int .i64 0, (.slice none 0 0)] 33 (0, 0))) ∧ Aside0 (Below w.heap.size w w'))
     case atStart => exact ⟨(y108), (0), (by first | rfl | (simp; done) | (simp [*]; done)), H', ⟨Nat.le_refl _⟩, ⟨by (with_reducible repeat (first | apply rA | apply rN | apply rD)); exact HO110.out⟩, ⟨by (with_reducible repeat (first | refine bN ?_ _ | refine bD ?_ | refine bA ?_ _)); exact BK101.out⟩, ⟨by (with_reducible repeat (first | refine bN ?_ _ | refine bD ?_ | refine bA ?_ _)); exact BK102.out⟩, ⟨by exact uW⟩⟩
     case round =>
      clear H'
      try clear c1
      try clear c2
      try clear p2
      try clear c4
      try clear c6
      try clear c8
      try clear c13
      try clear c16
      try clear c17
      try clear c19
      try clear c22
      try clear hcz11_0
      try clear hcz11_1
      try clear hcz11_2
      try clear hcz14_0
      try clear hcz14_1
      try clear hcz14_2
      try clear hcz18_0
      try clear hcz18_1
      try clear hcz18_2
      try clear hcz23_0
      try clear hcz23_1
      try clear hcz23_2
      try clear hcz9_0
      try clear hcz9_1
      try clear hcz9_2
      try clear hfz11_0
      try clear hfz11_1
      try clear hfz11_2
      try clear hfz14_0
      try clear hfz14_1
      try clear hfz14_2
      try clear hfz18_0
      try clear hfz18_1
      try clear hfz18_2
      try clear hfz23_0
      try clear hfz23_1
      try clear hfz23_2
      try clear hfz9_0
      try clear hfz9_1
      try clear hfz9_2
      try clear p2
      obtain ⟨x4_2, x5_2, rfl, HA, HK2, HO_4, BK101, BK102, HB⟩ := hrel
      cases gk with
      | zero => exact absurd HA.out (by simp [spec_HarderPuzzle.l0])
      | succ k2 =>
       have H := HA.out
       clear HA
       simp only [spec_HarderPuzzle.l0] at H
       by_cases c25 : x5_2 < (x4_2.length : Int)
       ·rw [if_pos c25] at H
        have c25b0 : decide (x5_2 < (x4_2.length : Int)) = true := decide_eq_true c25
        clear c25
        replace H := bH H
        obtain ⟨t111, A260, H⟩ := H
        replace H : ((spec_pzSolved.f k2 a0_0 a0_1 t111).bind fun t114 => (if t114 = true then (spec_HarderPuzzle.l0 k2 t111 x5_2 a0_0 a0_1 l0_2) else (spec_HarderPuzzle.l0 k2 x4_2 (wrap64 (x5_2 + 1)) a0_0 a0_1 l0_2))) = some (r1, r2, r3, r4) := H
        have A26 := am A260
        clear A260
        replace H := bH H
        obtain ⟨t114, A270, H⟩ := H
        replace H : (if t114 = true then (spec_HarderPuzzle.l0 k2 t111 x5_2 a0_0 a0_1 l0_2) else (spec_HarderPuzzle.l0 k2 x4_2 (wrap64 (x5_2 + 1)) a0_0 a0_1 l0_2)) = some (r1, r2, r3, r4) := H
        have A27 := am A270
        clear A270
        by_cases c28 : t114 = true
        ·subst c28
         have H1 : (spec_HarderPuzzle.l0 k2 t111 x5_2 a0_0 a0_1 l0_2) = some (r1, r2, r3, r4) := by rw [if_pos rfl] at H; exact H
         clear H
         have H := H1
         clear H1
         have H' := am H
         clear H
         obtain ⟨Ao29, co29, eo29⟩ := Kd.R_slice HO_4.out
         subst eo29
         go_wp2_with (first | ((with_reducible refine gate_callee (f := 72) rfl ?_); refine uGo (some 29) Try.func72 #[.slice Ao29 x4_2.length co29, .int .i64 x5_2] ?_; (with_reducible refine (spec_pzWithout.calls _ _ x4_2 x5_2 t111 _ ?side1 ?side2 A26.out).mono ?_); (case side1 => repeat (first | exact (Kd.R_reads' HO_4.out).2.2 | (with_reducible refine cA ?_ _) | (with_reducible refine cN ?_ _) | (with_reducible refine cD ?_))); (case side2 => exact (Kd.R_reads' HO_4.out).2.1); rintro e w30 ⟨v112, rfl, ho0, hb⟩; refine ⟨_, rfl, ?_⟩; have HO113 := am (Kd.R_lower (Kd.R_new' ho0 (Kd.R_lt (uR HO_4))) (below_size uW)); replace HO_4 := am (Kd.R_elder' (uR HO_4) (Kd.R_base ho0) hb); replace BK101 := uB BK101 hb; replace BK102 := uB BK102 hb; replace HB := uS hb; (try clear hb); (try clear hb2); (try clear hk); (try clear hi); (try clear ho0); have hnb31 := NB101_102.out; have hnc31 := NB102_101.out; obtain ⟨hcz32_0, hcz32_1, hcz32_2, hfz32_0, hfz32_1, hfz32_2⟩ := uZ3 BK101; obtain ⟨Ao33, co33, eo33⟩ := Kd.R_slice HO113.out; subst eo33) | ((with_reducible refine gate_callee (f := 71) rfl ?_); refine uGo (some 33) Try.func71 #[.agg #[.int .i64 a0_0, .int .i64 a0_1], .slice Ao33 t111.length co33] ?_; (with_reducible refine (spec_pzSolved.calls k2 a0_0 a0_1 _ _ t111 true _ ?side1 ?side2 A27.out).mono ?_); (case side1 => repeat (first | exact (Kd.R_reads' HO113.out).2.2 | (with_reducible refine cA ?_ _) | (with_reducible refine cN ?_ _) | (with_reducible refine cD ?_))); (case side2 => exact (Kd.R_reads' HO113.out).2.1); rintro e w34 ⟨rfl, hb⟩; refine ⟨_, rfl, ?_⟩; replace HO_4 := am (Kd.R_below (uR HO_4) hb); replace HO113 := am (Kd.R_below (uR HO113) hb); replace BK101 := uB BK101 hb; replace BK102 := uB BK102 hb; replace HB := uS hb; (try clear hb); (try clear hb2); (try clear hk); (try clear hi)))
         go_roundg k2
         case measure => have := HJ1.out; have := HK2.out; omega
         case rel => exact ⟨(t111), (x5_2), (by first | rfl | (simp; done) | (simp [*]; done)), H', ⟨by have := HJ1.out; have := HK2.out; omega⟩, ⟨by (with_reducible repeat (first | apply rA | apply rN | apply rD)); exact Kd.R_mono HO113.out (fun _ hk => trivial)⟩, ⟨by (with_reducible repeat (first | refine bN ?_ _ | refine bD ?_ | refine bA ?_ _)); exact BK101.out⟩, ⟨by (with_reducible repeat (first | refine bN ?_ _ | refine bD ?_ | refine bA ?_ _)); exact BK102.out⟩, ⟨by exact uW⟩⟩
        ·replace c28 := Bool.eq_false_iff.mpr c28
         subst c28
         have H1 : (spec_HarderPuzzle.l0 k2 x4_2 (wrap64 (x5_2 + 1)) a0_0 a0_1 l0_2) = some (r1, r2, r3, r4) := by rw [if_neg (show ¬ (false = true) by decide)] at H; exact H
         clear H
         have H := H1
         clear H1
         have H' := am H
         clear H
         obtain ⟨Ao35, co35, eo35⟩ := Kd.R_slice HO_4.out
         subst eo35
         go_wp2_with (first | ((with_reducible refine gate_callee (f := 72) rfl ?_); refine uGo (some 29) Try.func72 #[.slice Ao35 x4_2.length co35, .int .i64 x5_2] ?_; (with_reducible refine (spec_pzWithout.calls _ _ x4_2 x5_2 t111 _ ?side1 ?side2 A26.out).mono ?_); (case side1 => repeat (first | exact (Kd.R_reads' HO_4.out).2.2 | (with_reducible refine cA ?_ _) | (with_reducible refine cN ?_ _) | (with_reducible refine cD ?_))); (case side2 => exact (Kd.R_reads' HO_4.out).2.1); rintro e w36 ⟨v112, rfl, ho0, hb⟩; refine ⟨_, rfl, ?_⟩; have HO113 := am (Kd.R_lower (Kd.R_new' ho0 (Kd.R_lt (uR HO_4))) (below_size uW)); replace HO_4 := am (Kd.R_elder' (uR HO_4) (Kd.R_base ho0) hb); replace BK101 := uB BK101 hb; replace BK102 := uB BK102 hb; replace HB := uS hb; (try clear hb); (try clear hb2); (try clear hk); (try clear hi); (try clear ho0); have hnb37 := NB101_102.out; have hnc37 := NB102_101.out; obtain ⟨hcz38_0, hcz38_1, hcz38_2, hfz38_0, hfz38_1, hfz38_2⟩ := uZ3 BK101; obtain ⟨Ao39, co39, eo39⟩ := Kd.R_slice HO113.out; subst eo39) | ((with_reducible refine gate_callee (f := 71) rfl ?_); refine uGo (some 33) Try.func71 #[.agg #[.int .i64 a0_0, .int .i64 a0_1], .slice Ao39 t111.length co39] ?_; (with_reducible refine (spec_pzSolved.calls k2 a0_0 a0_1 _ _ t111 false _ ?side1 ?side2 A27.out).mono ?_); (case side1 => repeat (first | exact (Kd.R_reads' HO113.out).2.2 | (with_reducible refine cA ?_ _) | (with_reducible refine cN ?_ _) | (with_reducible refine cD ?_))); (case side2 => exact (Kd.R_reads' HO113.out).2.1); rintro e w40 ⟨rfl, hb⟩; refine ⟨_, rfl, ?_⟩; replace HO_4 := am (Kd.R_below (uR HO_4) hb); replace HO113 := am (Kd.R_below (uR HO113) hb); replace BK101 := uB BK101 hb; replace BK102 := uB BK102 hb; replace HB := uS hb; (try clear hb); (try clear hb2); (try clear hk); (try clear hi)))
         go_roundg k2
         case measure => have := HJ1.out; have := HK2.out; omega
         case rel => exact ⟨(x4_2), (wrap64 (x5_2 + 1)), (by first | rfl | (simp; done) | (simp [*]; done)), H', ⟨by have := HJ1.out; have := HK2.out; omega⟩, ⟨by (with_reducible repeat (first | apply rA | apply rN | apply rD)); exact Kd.R_mono HO_4.out (fun _ hk => trivial)⟩, ⟨by (with_reducible repeat (first | refine bN ?_ _ | refine bD ?_ | refine bA ?_ _)); exact BK101.out⟩, ⟨by (with_reducible repeat (first | refine bN ?_ _ | refine bD ?_ | refine bA ?_ _)); exact BK102.out⟩, ⟨by exact uW⟩⟩
       ·rw [if_neg c25] at H
        have c25b0 : decide (x5_2 < (x4_2.length : Int)) = false := decide_eq_false c25
        clear c25
        simp only [Option.some.injEq, Prod.mk.injEq] at H
        obtain ⟨rfl, rfl, rfl, rfl⟩ := H
        obtain ⟨Ao41, co41, eo41⟩ := Kd.R_slice HO_4.out
        subst eo41
        have hnb42 := NB101_102.out
        have hnc42 := NB102_101.out
        obtain ⟨hcz43_0, hcz43_1, hcz43_2, hfz43_0, hfz43_1, hfz43_2⟩ := uZ3 BK101
        obtain ⟨hcz44_0, hcz44_1, hcz44_2, hfz44_0, hfz44_1, hfz44_2⟩ := uZ3 BK102
        go_wp2
        refine bodyPost_ret (results_ct rfl _ _ gb102 33 #[.int .i64 a0_0, .int .i64 a0_1, .slice Ao41 x4_2.length co41] (0, 0) _ rfl (by refine blk_put (cs := #[.int .i64 a0_0, .int .i64 a0_1, .slice none 0 0]) ?_ 2 _ rfl; refine blk_put (cs := #[.int .i64 a0_0, .int .i64 0, .slice none 0 0]) ?_ 1 _ rfl; refine blk_put (cs := #[.int .i64 0, .int .i64 0, .slice none 0 0]) ?_ 0 _ rfl; exact (uP BK102)) Try.underlying33 rfl (by kernel_rfl)) rfl ?_
        exact ⟨_, uA, by (with_reducible repeat (first | apply rA | apply rN | apply rD)); exact Kd.R_mono (Kd.R_far (p := ⟨gb102, 2, none⟩) (Kd.R_far (p := ⟨gb102, 1, none⟩) (Kd.R_far (p := ⟨gb102, 0, none⟩) (Kd.R_types HO_4.out BK102.out (by decide)) (fun _ hk => hk.2) (.int .i64 a0_0)) (fun _ hk => hk.2) (.int .i64 a0_1)) (fun _ hk => hk.2) (.slice Ao41 x4_2.length co41)) (fun _ hk => trivial), by exact uW⟩
    ·rw [if_neg c19] at H
     exact absurd H (by simp)
def impl_IsSolved.f (a0_0 : Int) (a0_1 : Int) (l0_2 : List (S37)) : Option (Bool × Bool) := (impl_IsPuzzle.f a0_0 a0_1 l0_2).bind fun t102 => (if t102 = true then ((impl_solutions.f a0_0 a0_1 l0_2).bind fun t103 => (some (((t103.length : Int) == 1), true))) else (some (false, false)))
theorem impl_IsSolved.calls (a0_0 : Int) (a0_1 : Int) (A0_2 : Option Addr) (c0_2 : Nat) (l0_2 : List (S37)) (r1 : Bool) (r2 : Bool) (w : World) (hr0_2 : Kd.C k37 w A0_2 l0_2.length l0_2) (hc0_2 : l0_2.length ≤ c0_2) (h : impl_IsSolved.f a0_0 a0_1 l0_2 = some (r1, r2)) :
  Calls Try.prog 27 #[.agg #[.int .i64 a0_0, .int .i64 a0_1, .slice A0_2 l0_2.length c0_2]] w fun e w' => e = .returned (.tuple #[.bool r1, .bool r2]) ∧ Below w.heap.size w w' := by
 have hu33 := Try.underlying33
 have hu30 := Try.underlying30
 have HR0_2 := am hr0_2
 have HC0_2 := am hc0_2
 clear hr0_2 hc0_2
 have HB := am (Below.refl w.heap.size w)
 have H : ((impl_IsPuzzle.f a0_0 a0_1 l0_2).bind fun t102 => (if t102 = true then ((impl_solutions.f a0_0 a0_1 l0_2).bind fun t103 => (some (((t103.length : Int) == 1), true))) else (some (false, false)))) = some (r1, r2) := h
 clear h
 replace H := bH H
 obtain ⟨t102, A20, H⟩ := H
 replace H : (if t102 = true then ((impl_solutions.f a0_0 a0_1 l0_2).bind fun t103 => (some (((t103.length : Int) == 1), true))) else (some (false, false))) = some (r1, r2) := H
 have A2 := am A20
 clear A20
 by_cases c3 : t102 = true
 ·subst c3
  have H1 : ((impl_solutions.f a0_0 a0_1 l0_2).bind fun t103 => (some (((t103.length : Int) == 1), true))) = some (r1, r2) := by rw [if_pos rfl] at H; exact H
  clear H
  have H := H1
  clear H1
  replace H := bH H
  obtain ⟨t103, A40, H⟩ := H
  replace H : (some (((t103.length : Int) == 1), true)) = some (r1, r2) := H
  have A4 := am A40
  clear A40
  simp only [Option.some.injEq, Prod.mk.injEq] at H
  obtain ⟨rfl, rfl⟩ := H
  go_enter Try.func27, Try.ntmps27
  go_wp2_with (first | ((with_reducible refine gate_dst (N := 1) rfl ?_); refine uX (N := 1) (cs := #[.int .i64 a0_0, .int .i64 a0_1, .slice A0_2 l0_2.length c0_2]) (t := 33) ?_; intro gb101 hg w5 hbox hb; have BK101 := am (hbox); have GW101 := uE hg; have GE101 := GW101; replace HB := uS hb; clear hb hbox hg; obtain ⟨hcz6_0, hcz6_1, hcz6_2, hfz6_0, hfz6_1, hfz6_2⟩ := uZ3 BK101) | ((with_reducible refine gate_callee (f := 23) rfl ?_); refine uGo (some 5) Try.func23 #[.agg #[.int .i64 a0_0, .int .i64 a0_1, .slice A0_2 l0_2.length c0_2]] ?_; (with_reducible refine (impl_IsPuzzle.calls a0_0 a0_1 _ _ l0_2 true _ ?side1 ?side2 A2.out).mono ?_); (case side1 => repeat (first | exact (Kd.C_below HR0_2.out HB.out) | (with_reducible refine cA ?_ _) | (with_reducible refine cN ?_ _) | (with_reducible refine cD ?_))); (case side2 => exact HC0_2.out); rintro e w7 ⟨rfl, hb⟩; refine ⟨_, rfl, ?_⟩; replace BK101 := uB BK101 hb; replace HB := uS hb; (try clear hb); (try clear hb2); (try clear hk); (try clear hi); obtain ⟨hcz8_0, hcz8_1, hcz8_2, hfz8_0, hfz8_1, hfz8_2⟩ := uZ3 BK101) | ((with_reducible refine gate_callee (f := 69) rfl ?_); refine uGo (some 11) Try.func69 #[.agg #[.int .i64 a0_0, .int .i64 a0_1], .slice A0_2 l0_2.length c0_2] ?_; (with_reducible refine (impl_solutions.calls a0_0 a0_1 _ _ l0_2 t103 _ ?side1 ?side2 A4.out).mono ?_); (case side1 => repeat (first | exact (Kd.C_below HR0_2.out HB.out) | (with_reducible refine cA ?_ _) | (with_reducible refine cN ?_ _) | (with_reducible refine cD ?_))); (case side2 => exact HC0_2.out); rintro e w9 ⟨v104, rfl, ho0, hb⟩; refine ⟨_, rfl, ?_⟩; have HO105 := am (Kd.R_lower ho0 (below_size uW)); replace BK101 := uB BK101 hb; replace HB := uS hb; (try clear hb); (try clear hb2); (try clear hk); (try clear hi); (try clear ho0); obtain ⟨Ao10, co10, eo10⟩ := Kd.R_slice HO105.out; subst eo10))
  go_ret2
  exact ⟨uA, by exact uW⟩
 ·replace c3 := Bool.eq_false_iff.mpr c3
  subst c3
  have H1 : (some (false, false)) = some (r1, r2) := by rw [if_neg (show ¬ (false = true) by decide)] at H; exact H
  clear H
  have H := H1
  clear H1
  simp only [Option.some.injEq, Prod.mk.injEq] at H
  obtain ⟨rfl, rfl⟩ := H
  go_enter Try.func27, Try.ntmps27
  go_wp2_with (first | ((with_reducible refine gate_dst (N := 1) rfl ?_); refine uX (N := 1) (cs := #[.int .i64 a0_0, .int .i64 a0_1, .slice A0_2 l0_2.length c0_2]) (t := 33) ?_; intro gb101 hg w11 hbox hb; have BK101 := am (hbox); have GW101 := uE hg; have GE101 := GW101; replace HB := uS hb; clear hb hbox hg; obtain ⟨hcz12_0, hcz12_1, hcz12_2, hfz12_0, hfz12_1, hfz12_2⟩ := uZ3 BK101) | ((with_reducible refine gate_callee (f := 23) rfl ?_); refine uGo (some 5) Try.func23 #[.agg #[.int .i64 a0_0, .int .i64 a0_1, .slice A0_2 l0_2.length c0_2]] ?_; (with_reducible refine (impl_IsPuzzle.calls a0_0 a0_1 _ _ l0_2 false _ ?side1 ?side2 A2.out).mono ?_); (case side1 => repeat (first | exact (Kd.C_below HR0_2.out HB.out) | (with_reducible refine cA ?_ _) | (with_reducible refine cN ?_ _) | (with_reducible refine cD ?_))); (case side2 => exact HC0_2.out); rintro e w13 ⟨rfl, hb⟩; refine ⟨_, rfl, ?_⟩; replace BK101 := uB BK101 hb; replace HB := uS hb; (try clear hb); (try clear hb2); (try clear hk); (try clear hi)))
  go_ret2
  exact ⟨uA, by exact uW⟩
def impl_Solutions.f (a0_0 : Int) (a0_1 : Int) (l0_2 : List (S37)) : Option (List Int × Bool) := (impl_IsPuzzle.f a0_0 a0_1 l0_2).bind fun t102 => (if t102 = true then ((impl_solutions.f a0_0 a0_1 l0_2).bind fun t103 => (some (t103, true))) else (some (([] : List Int), false)))
theorem impl_Solutions.calls (a0_0 : Int) (a0_1 : Int) (A0_2 : Option Addr) (c0_2 : Nat) (l0_2 : List (S37)) (r1 : List Int) (r2 : Bool) (w : World) (hr0_2 : Kd.C k37 w A0_2 l0_2.length l0_2) (hc0_2 : l0_2.length ≤ c0_2) (h : impl_Solutions.f a0_0 a0_1 l0_2 = some (r1, r2)) :
  Calls Try.prog 28 #[.agg #[.int .i64 a0_0, .int .i64 a0_1, .slice A0_2 l0_2.length c0_2]] w fun e w' => ∃ v0_ : Value, e = .returned (.tuple #[v0_, .bool r2]) ∧ Kd.R (Kd.int .i64) 3 w' w.heap.size (fun _ => True) v0_ r1 ∧ Below w.heap.size w w' := by
 have hu33 := Try.underlying33
 have hu30 := Try.underlying30
 have HR0_2 := am hr0_2
 have HC0_2 := am hc0_2
 clear hr0_2 hc0_2
 have HB := am (Below.refl w.heap.size w)
 have H : ((impl_IsPuzzle.f a0_0 a0_1 l0_2).bind fun t102 => (if t102 = true then ((impl_solutions.f a0_0 a0_1 l0_2).bind fun t103 => (some (t103, true))) else (some (([] : List Int), false)))) = some (r1, r2) := h
 clear h
 replace H := bH H
 obtain ⟨t102, A20, H⟩ := H
 replace H : (if t102 = true then ((impl_solutions.f a0_0 a0_1 l0_2).bind fun t103 => (some (t103, true))) else (some (([] : List Int), false))) = some (r1, r2) := H
 have A2 := am A20
 clear A20
 by_cases c3 : t102 = true
 ·subst c3
  have H1 : ((impl_solutions.f a0_0 a0_1 l0_2).bind fun t103 => (some (t103, true))) = some (r1, r2) := by rw [if_pos rfl] at H; exact H
  clear H
  have H := H1
  clear H1
  replace H := bH H
  obtain ⟨t103, A40, H⟩ := H
  replace H : (some (t103, true)) = some (r1, r2) := H
  have A4 := am A40
  clear A40
  simp only [Option.some.injEq, Prod.mk.injEq] at H
  obtain ⟨rfl, rfl⟩ := H
  go_enter Try.func28, Try.ntmps28
  go_wp2_with (first | ((with_reducible refine gate_dst (N := 1) rfl ?_); refine uX (N := 1) (cs := #[.int .i64 a0_0, .int .i64 a0_1, .slice A0_2 l0_2.length c0_2]) (t := 33) ?_; intro gb101 hg w5 hbox hb; have BK101 := am (hbox); have GW101 := uE hg; have GE101 := GW101; replace HB := uS hb; clear hb hbox hg; obtain ⟨hcz6_0, hcz6_1, hcz6_2, hfz6_0, hfz6_1, hfz6_2⟩ := uZ3 BK101) | ((with_reducible refine gate_callee (f := 23) rfl ?_); refine uGo (some 5) Try.func23 #[.agg #[.int .i64 a0_0, .int .i64 a0_1, .slice A0_2 l0_2.length c0_2]] ?_; (with_reducible refine (impl_IsPuzzle.calls a0_0 a0_1 _ _ l0_2 true _ ?side1 ?side2 A2.out).mono ?_); (case side1 => repeat (first | exact (Kd.C_below HR0_2.out HB.out) | (with_reducible refine cA ?_ _) | (with_reducible refine cN ?_ _) | (with_reducible refine cD ?_))); (case side2 => exact HC0_2.out); rintro e w7 ⟨rfl, hb⟩; refine ⟨_, rfl, ?_⟩; replace BK101 := uB BK101 hb; replace HB := uS hb; (try clear hb); (try clear hb2); (try clear hk); (try clear hi); obtain ⟨hcz8_0, hcz8_1, hcz8_2, hfz8_0, hfz8_1, hfz8_2⟩ := uZ3 BK101) | ((with_reducible refine gate_callee (f := 69) rfl ?_); refine uGo (some 11) Try.func69 #[.agg #[.int .i64 a0_0, .int .i64 a0_1], .slice A0_2 l0_2.length c0_2] ?_; (with_reducible refine (impl_solutions.calls a0_0 a0_1 _ _ l0_2 t103 _ ?side1 ?side2 A4.out).mono ?_); (case side1 => repeat (first | exact (Kd.C_below HR0_2.out HB.out) | (with_reducible refine cA ?_ _) | (with_reducible refine cN ?_ _) | (with_reducible refine cD ?_))); (case side2 => exact HC0_2.out); rintro e w9 ⟨v104, rfl, ho0, hb⟩; refine ⟨_, rfl, ?_⟩; have HO105 := am (Kd.R_lower ho0 (below_size uW)); replace BK101 := uB BK101 hb; replace HB := uS hb; (try clear hb); (try clear hb2); (try clear hk); (try clear hi); (try clear ho0)))
  go_ret2
  exact ⟨_, uA, by (with_reducible repeat (first | apply rA | apply rN | apply rD)); exact HO105.out, by exact uW⟩
 ·replace c3 := Bool.eq_false_iff.mpr c3
  subst c3
  have H1 : (some (([] : List Int), false)) = some (r1, r2) := by rw [if_neg (show ¬ (false = true) by decide)] at H; exact H
  clear H
  have H := H1
  clear H1
  simp only [Option.some.injEq, Prod.mk.injEq] at H
  obtain ⟨rfl, rfl⟩ := H
  go_enter Try.func28, Try.ntmps28
  go_wp2_with (first | ((with_reducible refine gate_dst (N := 1) rfl ?_); refine uX (N := 1) (cs := #[.int .i64 a0_0, .int .i64 a0_1, .slice A0_2 l0_2.length c0_2]) (t := 33) ?_; intro gb101 hg w10 hbox hb; have BK101 := am (hbox); have GW101 := uE hg; have GE101 := GW101; replace HB := uS hb; clear hb hbox hg; obtain ⟨hcz11_0, hcz11_1, hcz11_2, hfz11_0, hfz11_1, hfz11_2⟩ := uZ3 BK101) | ((with_reducible refine gate_callee (f := 23) rfl ?_); refine uGo (some 5) Try.func23 #[.agg #[.int .i64 a0_0, .int .i64 a0_1, .slice A0_2 l0_2.length c0_2]] ?_; (with_reducible refine (impl_IsPuzzle.calls a0_0 a0_1 _ _ l0_2 false _ ?side1 ?side2 A2.out).mono ?_); (case side1 => repeat (first | exact (Kd.C_below HR0_2.out HB.out) | (with_reducible refine cA ?_ _) | (with_reducible refine cN ?_ _) | (with_reducible refine cD ?_))); (case side2 => exact HC0_2.out); rintro e w12 ⟨rfl, hb⟩; refine ⟨_, rfl, ?_⟩; replace BK101 := uB BK101 hb; replace HB := uS hb; (try clear hb); (try clear hb2); (try clear hk); (try clear hi)))
  go_ret2
  exact ⟨_, uA, uN, by exact uW⟩
end Go.Proofs.Ytcloklakffgbmaa.G
end
