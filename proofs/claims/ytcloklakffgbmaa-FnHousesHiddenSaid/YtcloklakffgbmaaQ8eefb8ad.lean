/- Texts of this seat's proofs: contracts of its functions and plain laws about them, with no condition beyond those that each theorem states. -/
import Derived.Test.YtcloklakffgbmaaQca8d1d27
import Derived.Test.YtcloklakffgbmaaQb642afe6
import Derived.Test.YtcloklakffgbmaaQd6440bb5
set_option maxHeartbeats 8000000
set_option maxRecDepth 100000
section
namespace Go.Proofs.Ytcloklakffgbmaa.G
open Go.RowKit Go.Proofs.YtcloklakffgbmaaW.PrintWords Go.Proofs.YtcloklakffgbmaaW.PrintLast Go.Proofs.YtcloklakffgbmaaW.PrintMore
attribute [local go_sem] max2_int min2_int max_two min_two max_three min_three max_four min_four
set_option linter.unusedVariables false
set_option linter.unusedSimpArgs false
def spec_DoesFit.f (a0_0 : Int) (a0_1 : Int) (a1_0 : Int) (a1_1 : Int) (a1_2 : Int) (a2 : Int) : Option (Bool × Bool) := (spec_pzHidden.f a0_0 a0_1 a2).bind fun t103 => (if t103 = true then ((spec_pzClue.f a1_0 a1_1 a1_2).bind fun t104 => (if t104 = true then ((spec_pzFits.f a0_0 a0_1 a1_0 a1_1 a1_2 a2).bind fun t105 => (some (t105, true))) else (some (false, false)))) else (some (false, false)))
theorem spec_DoesFit.calls (a0_0 : Int) (a0_1 : Int) (a1_0 : Int) (a1_1 : Int) (a1_2 : Int) (a2 : Int) (r1 : Bool) (r2 : Bool) (w : World) (h : spec_DoesFit.f a0_0 a0_1 a1_0 a1_1 a1_2 a2 = some (r1, r2)) :
  Calls Try.prog 36 #[.agg #[.int .i64 a0_0, .int .i64 a0_1], .agg #[.int .i64 a1_0, .int .i64 a1_1, .int .i64 a1_2], .int .i64 a2] w fun e w' => e = .returned (.tuple #[.bool r1, .bool r2]) ∧ Below w.heap.size w w' := by
 have hu30 := Try.underlying30
 have hu37 := Try.underlying37
 have HB := am (Below.refl w.heap.size w)
 have H : ((spec_pzHidden.f a0_0 a0_1 a2).bind fun t103 => (if t103 = true then ((spec_pzClue.f a1_0 a1_1 a1_2).bind fun t104 => (if t104 = true then ((spec_pzFits.f a0_0 a0_1 a1_0 a1_1 a1_2 a2).bind fun t105 => (some (t105, true))) else (some (false, false)))) else (some (false, false)))) = some (r1, r2) := h
 clear h
 replace H := bH H
 obtain ⟨t103, A40, H⟩ := H
 replace H : (if t103 = true then ((spec_pzClue.f a1_0 a1_1 a1_2).bind fun t104 => (if t104 = true then ((spec_pzFits.f a0_0 a0_1 a1_0 a1_1 a1_2 a2).bind fun t105 => (some (t105, true))) else (some (false, false)))) else (some (false, false))) = some (r1, r2) := H
 have A4 := am A40
 clear A40
 by_cases c5 : t103 = true
 ·subst c5
  have H1 : ((spec_pzClue.f a1_0 a1_1 a1_2).bind fun t104 => (if t104 = true then ((spec_pzFits.f a0_0 a0_1 a1_0 a1_1 a1_2 a2).bind fun t105 => (some (t105, true))) else (some (false, false)))) = some (r1, r2) := by rw [if_pos rfl] at H; exact H
  clear H
  have H := H1
  clear H1
  replace H := bH H
  obtain ⟨t104, A60, H⟩ := H
  replace H : (if t104 = true then ((spec_pzFits.f a0_0 a0_1 a1_0 a1_1 a1_2 a2).bind fun t105 => (some (t105, true))) else (some (false, false))) = some (r1, r2) := H
  have A6 := am A60
  clear A60
  by_cases c7 : t104 = true
  ·subst c7
   have H1 : ((spec_pzFits.f a0_0 a0_1 a1_0 a1_1 a1_2 a2).bind fun t105 => (some (t105, true))) = some (r1, r2) := by rw [if_pos rfl] at H; exact H
   clear H
   have H := H1
   clear H1
   replace H := bH H
   obtain ⟨t105, A80, H⟩ := H
   replace H : (some (t105, true)) = some (r1, r2) := H
   have A8 := am A80
   clear A80
   simp only [Option.some.injEq, Prod.mk.injEq] at H
   obtain ⟨rfl, rfl⟩ := H
   go_enter Try.func36, Try.ntmps36
   go_wp2_with (first | ((with_reducible refine gate_dst (N := 3) rfl ?_); refine uX (N := 3) (cs := #[.int .i64 a0_0, .int .i64 a0_1]) (t := 30) ?_; intro gb101 hg w9 hbox hb; have BK101 := am (hbox); have GW101 := uE hg; have GE101 := GW101; replace HB := uS hb; clear hb hbox hg) | ((with_reducible refine gate_dst (N := 4) rfl ?_); refine uX (N := 4) (cs := #[.int .i64 a1_0, .int .i64 a1_1, .int .i64 a1_2]) (t := 37) ?_; intro gb102 hg w10 hbox hb; have BK102 := am (hbox); have GW102 := uE hg; have GE102 := GW102; have NB101_102 := uL BK101 hg; have NB102_101 := uY NB101_102; replace BK101 := uB BK101 hb; replace HB := uS hb; clear hb hbox hg; have hnb11 := NB101_102.out; have hnc11 := NB102_101.out; obtain ⟨hcz12_0, hcz12_1, hfz12_0, hfz12_1⟩ := uZ2 BK101) | ((with_reducible refine gate_callee (f := 49) rfl ?_); refine uGo (some 10) Try.func49 #[.agg #[.int .i64 a0_0, .int .i64 a0_1], .int .i64 a2] ?_; (with_reducible refine (spec_pzHidden.calls a0_0 a0_1 a2 true _ A4.out).mono ?_); rintro e w13 ⟨rfl, hb⟩; refine ⟨_, rfl, ?_⟩; replace BK101 := uB BK101 hb; replace BK102 := uB BK102 hb; replace HB := uS hb; (try clear hb); (try clear hb2); (try clear hk); (try clear hi); obtain ⟨hcz14_0, hcz14_1, hcz14_2, hfz14_0, hfz14_1, hfz14_2⟩ := uZ3 BK102) | (go_at_call 42; (with_reducible refine (spec_pzClue.calls a1_0 a1_1 a1_2 true _ A6.out).mono ?_); rintro e w15 ⟨rfl, hb⟩; replace BK101 := uB BK101 hb; replace BK102 := uB BK102 hb; replace HB := uS hb; (try clear hb); (try clear hb2); (try clear hk); (try clear hi); obtain ⟨hcz16_0, hcz16_1, hfz16_0, hfz16_1⟩ := uZ2 BK101; obtain ⟨hcz17_0, hcz17_1, hcz17_2, hfz17_0, hfz17_1, hfz17_2⟩ := uZ3 BK102) | ((with_reducible refine gate_callee (f := 74) rfl ?_); refine uGo (some 20) Try.func74 #[.agg #[.int .i64 a0_0, .int .i64 a0_1], .agg #[.int .i64 a1_0, .int .i64 a1_1, .int .i64 a1_2], .int .i64 a2] ?_; (with_reducible refine (spec_pzFits.calls a0_0 a0_1 a1_0 a1_1 a1_2 a2 t105 _ A8.out).mono ?_); rintro e w18 ⟨rfl, hb⟩; refine ⟨_, rfl, ?_⟩; replace BK101 := uB BK101 hb; replace BK102 := uB BK102 hb; replace HB := uS hb; (try clear hb); (try clear hb2); (try clear hk); (try clear hi)))
   go_ret2
   exact ⟨uA, by exact uW⟩
  ·replace c7 := Bool.eq_false_iff.mpr c7
   subst c7
   have H1 : (some (false, false)) = some (r1, r2) := by rw [if_neg (show ¬ (false = true) by decide)] at H; exact H
   clear H
   have H := H1
   clear H1
   simp only [Option.some.injEq, Prod.mk.injEq] at H
   obtain ⟨rfl, rfl⟩ := H
   go_enter Try.func36, Try.ntmps36
   go_wp2_with (first | ((with_reducible refine gate_dst (N := 3) rfl ?_); refine uX (N := 3) (cs := #[.int .i64 a0_0, .int .i64 a0_1]) (t := 30) ?_; intro gb101 hg w19 hbox hb; have BK101 := am (hbox); have GW101 := uE hg; have GE101 := GW101; replace HB := uS hb; clear hb hbox hg) | ((with_reducible refine gate_dst (N := 4) rfl ?_); refine uX (N := 4) (cs := #[.int .i64 a1_0, .int .i64 a1_1, .int .i64 a1_2]) (t := 37) ?_; intro gb102 hg w20 hbox hb; have BK102 := am (hbox); have GW102 := uE hg; have GE102 := GW102; have NB101_102 := uL BK101 hg; have NB102_101 := uY NB101_102; replace BK101 := uB BK101 hb; replace HB := uS hb; clear hb hbox hg; have hnb21 := NB101_102.out; have hnc21 := NB102_101.out; obtain ⟨hcz22_0, hcz22_1, hfz22_0, hfz22_1⟩ := uZ2 BK101) | ((with_reducible refine gate_callee (f := 49) rfl ?_); refine uGo (some 10) Try.func49 #[.agg #[.int .i64 a0_0, .int .i64 a0_1], .int .i64 a2] ?_; (with_reducible refine (spec_pzHidden.calls a0_0 a0_1 a2 true _ A4.out).mono ?_); rintro e w23 ⟨rfl, hb⟩; refine ⟨_, rfl, ?_⟩; replace BK101 := uB BK101 hb; replace BK102 := uB BK102 hb; replace HB := uS hb; (try clear hb); (try clear hb2); (try clear hk); (try clear hi); obtain ⟨hcz24_0, hcz24_1, hcz24_2, hfz24_0, hfz24_1, hfz24_2⟩ := uZ3 BK102) | (go_at_call 42; (with_reducible refine (spec_pzClue.calls a1_0 a1_1 a1_2 false _ A6.out).mono ?_); rintro e w25 ⟨rfl, hb⟩; replace BK101 := uB BK101 hb; replace BK102 := uB BK102 hb; replace HB := uS hb; (try clear hb); (try clear hb2); (try clear hk); (try clear hi)))
   go_ret2
   exact ⟨uA, by exact uW⟩
 ·replace c5 := Bool.eq_false_iff.mpr c5
  subst c5
  have H1 : (some (false, false)) = some (r1, r2) := by rw [if_neg (show ¬ (false = true) by decide)] at H; exact H
  clear H
  have H := H1
  clear H1
  simp only [Option.some.injEq, Prod.mk.injEq] at H
  obtain ⟨rfl, rfl⟩ := H
  go_enter Try.func36, Try.ntmps36
  go_wp2_with (first | ((with_reducible refine gate_dst (N := 3) rfl ?_); refine uX (N := 3) (cs := #[.int .i64 a0_0, .int .i64 a0_1]) (t := 30) ?_; intro gb101 hg w26 hbox hb; have BK101 := am (hbox); have GW101 := uE hg; have GE101 := GW101; replace HB := uS hb; clear hb hbox hg) | ((with_reducible refine gate_dst (N := 4) rfl ?_); refine uX (N := 4) (cs := #[.int .i64 a1_0, .int .i64 a1_1, .int .i64 a1_2]) (t := 37) ?_; intro gb102 hg w27 hbox hb; have BK102 := am (hbox); have GW102 := uE hg; have GE102 := GW102; have NB101_102 := uL BK101 hg; have NB102_101 := uY NB101_102; replace BK101 := uB BK101 hb; replace HB := uS hb; clear hb hbox hg; have hnb28 := NB101_102.out; have hnc28 := NB102_101.out; obtain ⟨hcz29_0, hcz29_1, hfz29_0, hfz29_1⟩ := uZ2 BK101) | ((with_reducible refine gate_callee (f := 49) rfl ?_); refine uGo (some 10) Try.func49 #[.agg #[.int .i64 a0_0, .int .i64 a0_1], .int .i64 a2] ?_; (with_reducible refine (spec_pzHidden.calls a0_0 a0_1 a2 false _ A4.out).mono ?_); rintro e w30 ⟨rfl, hb⟩; refine ⟨_, rfl, ?_⟩; replace BK101 := uB BK101 hb; replace BK102 := uB BK102 hb; replace HB := uS hb; (try clear hb); (try clear hb2); (try clear hk); (try clear hi)))
  go_ret2
  exact ⟨uA, by exact uW⟩
def spec_DrawIsClue.f (k : Nat) (l0 : List Int) : Option (Int × Int × Int × Int × Int) := (spec_l1Cur_one.f l0 0 0 3).bind fun bt104 => (if bt104.1 = true then ((spec_l1Cur_street.f l0 bt104.2.1 bt104.2.2).bind fun bt107 => ((spec_l1Cur_pick.f l0 bt107.2.2.1 bt107.2.2.2 7).bind fun bt111 => ((spec_l1Cur_pick.f l0 bt111.2.1 bt111.2.2 9).bind fun bt114 => ((spec_l1Cur_among.f l0 bt114.2.1 bt114.2.2 (([(-1), 0, 0, 1, 2, 9, 10, 40, 41, 4611686018427387904] : List Int))).bind fun bt120 => ((spec_l1Cur_among.f l0 bt120.2.1 bt120.2.2 (([(-1), 0, 1, 2, 13, 14, 20, 21, 40, 41] : List Int))).bind fun bt126 => (some (bt107.1, bt107.2.1, wrap64 (bt111.1 - (wrap64 (Int.tdiv bt114.1 8))), bt120.1, bt126.1))))))) else ((spec_l1Cur_hidden.f l0 bt104.2.1 bt104.2.2).bind fun bt129 => ((spec_l1Cur_clue.f k l0 bt129.2.2.2.1 bt129.2.2.2.2).bind fun bt135 => (some (bt129.1, bt129.2.1, bt135.1, bt135.2.1, bt135.2.2.1)))))
theorem spec_DrawIsClue.calls (k : Nat) (A0 : Option Addr) (c0 : Nat) (l0 : List Int) (r1 : Int) (r2 : Int) (r3 : Int) (r4 : Int) (r5 : Int) (w : World) (hr0 : Kd.C (Kd.int .u8) w A0 l0.length l0) (hc0 : l0.length ≤ c0) (h : spec_DrawIsClue.f k l0 = some (r1, r2, r3, r4, r5)) :
  Calls Try.prog 37 #[.slice A0 l0.length c0] w fun e w' => e = .returned (.tuple #[.agg #[.int .i64 r1, .int .i64 r2], .agg #[.int .i64 r3, .int .i64 r4, .int .i64 r5]]) ∧ Below w.heap.size w w' := by
 have hu30 := Try.underlying30
 have hu37 := Try.underlying37
 have hu89 := Try.underlying89
 have HR0 := am hr0
 have HC0 := am hc0
 clear hr0 hc0
 have HB := am (Below.refl w.heap.size w)
 have H : ((spec_l1Cur_one.f l0 0 0 3).bind fun bt104 => (if bt104.1 = true then ((spec_l1Cur_street.f l0 bt104.2.1 bt104.2.2).bind fun bt107 => ((spec_l1Cur_pick.f l0 bt107.2.2.1 bt107.2.2.2 7).bind fun bt111 => ((spec_l1Cur_pick.f l0 bt111.2.1 bt111.2.2 9).bind fun bt114 => ((spec_l1Cur_among.f l0 bt114.2.1 bt114.2.2 (([(-1), 0, 0, 1, 2, 9, 10, 40, 41, 4611686018427387904] : List Int))).bind fun bt120 => ((spec_l1Cur_among.f l0 bt120.2.1 bt120.2.2 (([(-1), 0, 1, 2, 13, 14, 20, 21, 40, 41] : List Int))).bind fun bt126 => (some (bt107.1, bt107.2.1, wrap64 (bt111.1 - (wrap64 (Int.tdiv bt114.1 8))), bt120.1, bt126.1))))))) else ((spec_l1Cur_hidden.f l0 bt104.2.1 bt104.2.2).bind fun bt129 => ((spec_l1Cur_clue.f k l0 bt129.2.2.2.1 bt129.2.2.2.2).bind fun bt135 => (some (bt129.1, bt129.2.1, bt135.1, bt135.2.1, bt135.2.2.1)))))) = some (r1, r2, r3, r4, r5) := h
 clear h
 replace H := bH H
 obtain ⟨⟨t104, t105, t106⟩, A20, H⟩ := H
 replace H : (if t104 = true then ((spec_l1Cur_street.f l0 t105 t106).bind fun bt107 => ((spec_l1Cur_pick.f l0 bt107.2.2.1 bt107.2.2.2 7).bind fun bt111 => ((spec_l1Cur_pick.f l0 bt111.2.1 bt111.2.2 9).bind fun bt114 => ((spec_l1Cur_among.f l0 bt114.2.1 bt114.2.2 (([(-1), 0, 0, 1, 2, 9, 10, 40, 41, 4611686018427387904] : List Int))).bind fun bt120 => ((spec_l1Cur_among.f l0 bt120.2.1 bt120.2.2 (([(-1), 0, 1, 2, 13, 14, 20, 21, 40, 41] : List Int))).bind fun bt126 => (some (bt107.1, bt107.2.1, wrap64 (bt111.1 - (wrap64 (Int.tdiv bt114.1 8))), bt120.1, bt126.1))))))) else ((spec_l1Cur_hidden.f l0 t105 t106).bind fun bt129 => ((spec_l1Cur_clue.f k l0 bt129.2.2.2.1 bt129.2.2.2.2).bind fun bt135 => (some (bt129.1, bt129.2.1, bt135.1, bt135.2.1, bt135.2.2.1))))) = some (r1, r2, r3, r4, r5) := H
 have A2 := am A20
 clear A20
 by_cases c3 : t104 = true
 ·subst c3
  have H1 : ((spec_l1Cur_street.f l0 t105 t106).bind fun bt107 => ((spec_l1Cur_pick.f l0 bt107.2.2.1 bt107.2.2.2 7).bind fun bt111 => ((spec_l1Cur_pick.f l0 bt111.2.1 bt111.2.2 9).bind fun bt114 => ((spec_l1Cur_among.f l0 bt114.2.1 bt114.2.2 (([(-1), 0, 0, 1, 2, 9, 10, 40, 41, 4611686018427387904] : List Int))).bind fun bt120 => ((spec_l1Cur_among.f l0 bt120.2.1 bt120.2.2 (([(-1), 0, 1, 2, 13, 14, 20, 21, 40, 41] : List Int))).bind fun bt126 => (some (bt107.1, bt107.2.1, wrap64 (bt111.1 - (wrap64 (Int.tdiv bt114.1 8))), bt120.1, bt126.1))))))) = some (r1, r2, r3, r4, r5) := by rw [if_pos rfl] at H; exact H
  clear H
  have H := H1
  clear H1
  replace H := bH H
  obtain ⟨⟨t107, t108, t109, t110⟩, A40, H⟩ := H
  replace H : ((spec_l1Cur_pick.f l0 t109 t110 7).bind fun bt111 => ((spec_l1Cur_pick.f l0 bt111.2.1 bt111.2.2 9).bind fun bt114 => ((spec_l1Cur_among.f l0 bt114.2.1 bt114.2.2 (([(-1), 0, 0, 1, 2, 9, 10, 40, 41, 4611686018427387904] : List Int))).bind fun bt120 => ((spec_l1Cur_among.f l0 bt120.2.1 bt120.2.2 (([(-1), 0, 1, 2, 13, 14, 20, 21, 40, 41] : List Int))).bind fun bt126 => (some (t107, t108, wrap64 (bt111.1 - (wrap64 (Int.tdiv bt114.1 8))), bt120.1, bt126.1)))))) = some (r1, r2, r3, r4, r5) := H
  have A4 := am A40
  clear A40
  replace H := bH H
  obtain ⟨⟨t111, t112, t113⟩, A50, H⟩ := H
  replace H : ((spec_l1Cur_pick.f l0 t112 t113 9).bind fun bt114 => ((spec_l1Cur_among.f l0 bt114.2.1 bt114.2.2 (([(-1), 0, 0, 1, 2, 9, 10, 40, 41, 4611686018427387904] : List Int))).bind fun bt120 => ((spec_l1Cur_among.f l0 bt120.2.1 bt120.2.2 (([(-1), 0, 1, 2, 13, 14, 20, 21, 40, 41] : List Int))).bind fun bt126 => (some (t107, t108, wrap64 (t111 - (wrap64 (Int.tdiv bt114.1 8))), bt120.1, bt126.1))))) = some (r1, r2, r3, r4, r5) := H
  have A5 := am A50
  clear A50
  replace H := bH H
  obtain ⟨⟨t114, t115, t116⟩, A60, H⟩ := H
  replace H : ((spec_l1Cur_among.f l0 t115 t116 (([(-1), 0, 0, 1, 2, 9, 10, 40, 41, 4611686018427387904] : List Int))).bind fun bt120 => ((spec_l1Cur_among.f l0 bt120.2.1 bt120.2.2 (([(-1), 0, 1, 2, 13, 14, 20, 21, 40, 41] : List Int))).bind fun bt126 => (some (t107, t108, wrap64 (t111 - (wrap64 (Int.tdiv t114 8))), bt120.1, bt126.1)))) = some (r1, r2, r3, r4, r5) := H
  have A6 := am A60
  clear A60
  obtain ⟨y117, hy117⟩ : ∃ y_ : List Int, y_ = (([(-1), 0, 0, 1, 2, 9, 10, 40, 41, 4611686018427387904] : List Int)) := ⟨_, rfl⟩
  replace H : ((spec_l1Cur_among.f l0 t115 t116 y117).bind fun bt120 => ((spec_l1Cur_among.f l0 bt120.2.1 bt120.2.2 (([(-1), 0, 1, 2, 13, 14, 20, 21, 40, 41] : List Int))).bind fun bt126 => (some (t107, t108, wrap64 (t111 - (wrap64 (Int.tdiv t114 8))), bt120.1, bt126.1)))) = some (r1, r2, r3, r4, r5) := by first | (rw [hy117]; with_reducible exact H) | (have H2_ := (Option.bind_some _ _).symm.trans H; rw [hy117]; with_reducible exact H2_) | (have H2_ := (Option.bind_some _ _).symm.trans H; with_reducible exact H2_) | with_reducible exact H | (rw [hy117]; exact H) | exact H
  have Ny117 := am hy117
  clear hy117
  replace H := bH H
  obtain ⟨⟨t120, t121, t122⟩, A70, H⟩ := H
  replace H : ((spec_l1Cur_among.f l0 t121 t122 (([(-1), 0, 1, 2, 13, 14, 20, 21, 40, 41] : List Int))).bind fun bt126 => (some (t107, t108, wrap64 (t111 - (wrap64 (Int.tdiv t114 8))), t120, bt126.1))) = some (r1, r2, r3, r4, r5) := H
  have A7 := am A70
  clear A70
  obtain ⟨y123, hy123⟩ : ∃ y_ : List Int, y_ = (([(-1), 0, 1, 2, 13, 14, 20, 21, 40, 41] : List Int)) := ⟨_, rfl⟩
  replace H : ((spec_l1Cur_among.f l0 t121 t122 y123).bind fun bt126 => (some (t107, t108, wrap64 (t111 - (wrap64 (Int.tdiv t114 8))), t120, bt126.1))) = some (r1, r2, r3, r4, r5) := by first | (rw [hy123]; with_reducible exact H) | (have H2_ := (Option.bind_some _ _).symm.trans H; rw [hy123]; with_reducible exact H2_) | (have H2_ := (Option.bind_some _ _).symm.trans H; with_reducible exact H2_) | with_reducible exact H | (rw [hy123]; exact H) | exact H
  have Ny123 := am hy123
  clear hy123
  replace H := bH H
  obtain ⟨⟨t126, t127, t128⟩, A80, H⟩ := H
  replace H : (some (t107, t108, wrap64 (t111 - (wrap64 (Int.tdiv t114 8))), t120, t126)) = some (r1, r2, r3, r4, r5) := H
  have A8 := am A80
  clear A80
  simp only [Option.some.injEq, Prod.mk.injEq] at H
  obtain ⟨rfl, rfl, rfl, rfl, rfl⟩ := H
  go_enter Try.func37, Try.ntmps37
  go_wp2_with (first | ((with_reducible refine gate_dst (N := 2) rfl ?_); refine uX (N := 2) (cs := #[.int .i64 0, .int .i64 0]) (t := 30) ?_; intro gb101 hg w9 hbox hb; have BK101 := am (hbox); have GW101 := uE hg; have GE101 := GW101; replace HB := uS hb; clear hb hbox hg) | ((with_reducible refine gate_dst (N := 3) rfl ?_); refine uX (N := 3) (cs := #[.int .i64 0, .int .i64 0, .int .i64 0]) (t := 37) ?_; intro gb102 hg w10 hbox hb; have BK102 := am (hbox); have GW102 := uE hg; have GE102 := GW102; have NB101_102 := uL BK101 hg; have NB102_101 := uY NB101_102; replace BK101 := uB BK101 hb; replace HB := uS hb; clear hb hbox hg) | ((with_reducible refine gate_dst (N := 9) rfl ?_); refine uX (N := 9) (cs := #[.slice A0 l0.length c0, .int .i64 0, .int .u64 0]) (t := 89) ?_; intro gb103 hg w11 hbox hb; have BK103 := am (hbox); have GW103 := uE hg; have GE103 := GW103; have NB101_103 := uL BK101 hg; have NB103_101 := uY NB101_103; have NB102_103 := uL BK102 hg; have NB103_102 := uY NB102_103; replace BK101 := uB BK101 hb; replace BK102 := uB BK102 hb; replace HB := uS hb; clear hb hbox hg) | ((with_reducible refine gate_callee (f := 57) rfl ?_); refine uGo (some 11) Try.func57 #[.pointer (some ⟨gb103, 0, none⟩), .int .i64 3] ?_; (with_reducible refine (spec_l1Cur_one.calls gb103 l0 0 0 3 true t105 t106 w _ ?side1 ?side2 A2.out).mono ?_); (case side1 => exact ⟨_, _, by (with_reducible repeat (first | refine bN ?_ _ | refine bD ?_ | refine bA ?_ _)); exact BK103.out, GE103.out, HR0.out⟩); (case side2 => exact uW); rintro e w12 ⟨rfl, hi, hb, hk⟩; refine ⟨_, rfl, ?_⟩; have HI103 := am (hi); replace BK101 := am (KeepBut.blk hk (uP BK101) NB101_103.out (by simp)); replace BK102 := am (KeepBut.blk hk (uP BK102) NB102_103.out (by simp)); replace HB := am (hb); clear BK103; (try clear hb); (try clear hb2); (try clear hk); (try clear hi)) | ((with_reducible refine gate_callee (f := 58) rfl ?_); refine uGo (some 13) Try.func58 #[.pointer (some ⟨gb103, 0, none⟩)] ?_; (with_reducible refine (spec_l1Cur_street.calls gb103 l0 t105 t106 t107 t108 t109 t110 w _ ?side1 ?side2 A4.out).mono ?_); (case side1 => exact uI); (case side2 => exact uW); rintro e w13 ⟨rfl, hi, hb, hk⟩; refine ⟨_, rfl, ?_⟩; replace BK101 := am (KeepBut.blk hk (uP BK101) NB101_103.out (by simp)); replace BK102 := am (KeepBut.blk hk (uP BK102) NB102_103.out (by simp)); replace HB := am (hb); replace HI103 := am (hi); (try clear hb); (try clear hb2); (try clear hk); (try clear hi)) | ((with_reducible refine gate_callee (f := 61) rfl ?_); refine uGo (some 15) Try.func61 #[.pointer (some ⟨gb103, 0, none⟩), .int .i64 7] ?_; (with_reducible refine (spec_l1Cur_pick.calls gb103 l0 t109 t110 7 t111 t112 t113 w _ ?side1 ?side2 A5.out).mono ?_); (case side1 => exact uI); (case side2 => exact uW); rintro e w14 ⟨rfl, hi, hb, hk⟩; refine ⟨_, rfl, ?_⟩; replace BK101 := am (KeepBut.blk hk (uP BK101) NB101_103.out (by simp)); replace BK102 := am (KeepBut.blk hk (uP BK102) NB102_103.out (by simp)); replace HB := am (hb); replace HI103 := am (hi); (try clear hb); (try clear hb2); (try clear hk); (try clear hi)) | ((with_reducible refine gate_callee (f := 61) rfl ?_); refine uGo (some 17) Try.func61 #[.pointer (some ⟨gb103, 0, none⟩), .int .i64 9] ?_; (with_reducible refine (spec_l1Cur_pick.calls gb103 l0 t112 t113 9 t114 t115 t116 w _ ?side1 ?side2 A6.out).mono ?_); (case side1 => exact uI); (case side2 => exact uW); rintro e w15 ⟨rfl, hi, hb, hk⟩; refine ⟨_, rfl, ?_⟩; replace BK101 := am (KeepBut.blk hk (uP BK101) NB101_103.out (by simp)); replace BK102 := am (KeepBut.blk hk (uP BK102) NB102_103.out (by simp)); replace HB := am (hb); replace HI103 := am (hi); (try clear hb); (try clear hb2); (try clear hk); (try clear hi)) | ((with_reducible refine gate_dst (N := 21) rfl ?_); refine Kd.R_lit (Kd.int .i64) _ 3 ?hg (N := 21) ?hd (xs := ([(-1), 0, 0, 1, 2, 9, 10, 40, 41, 4611686018427387904] : List Int)) (inner := [.int .i64 (-1), .int .i64 0, .int .i64 0, .int .i64 1, .int .i64 2, .int .i64 9, .int .i64 10, .int .i64 40, .int .i64 41, .int .i64 4611686018427387904]) (ok := fun _ => True) (okp := fun _ => True) ?hr ?hp (fun _ hk => hk) trivial (Below.refl _ _) (Nat.le_refl _) (by simp) ?_; (case hd => rfl); (case hg => rfl); (case hr => first | (go_simp; done) | (go_simp; rfl)); (case hp => exact (Reps.one (show Kd.M (Kd.int .i64) _ _ _ (-1) [.int .i64 (-1)] from rfl) (Reps.one (show Kd.M (Kd.int .i64) _ _ _ 0 [.int .i64 0] from rfl) (Reps.one (show Kd.M (Kd.int .i64) _ _ _ 0 [.int .i64 0] from rfl) (Reps.one (show Kd.M (Kd.int .i64) _ _ _ 1 [.int .i64 1] from rfl) (Reps.one (show Kd.M (Kd.int .i64) _ _ _ 2 [.int .i64 2] from rfl) (Reps.one (show Kd.M (Kd.int .i64) _ _ _ 9 [.int .i64 9] from rfl) (Reps.one (show Kd.M (Kd.int .i64) _ _ _ 10 [.int .i64 10] from rfl) (Reps.one (show Kd.M (Kd.int .i64) _ _ _ 40 [.int .i64 40] from rfl) (Reps.one (show Kd.M (Kd.int .i64) _ _ _ 41 [.int .i64 41] from rfl) (Reps.one (show Kd.M (Kd.int .i64) _ _ _ 4611686018427387904 [.int .i64 4611686018427387904] from rfl) (Reps.none _ _)))))))))))); intro v118 w16 ho17 hb hg_ hnew_; clear hg_ hnew_; (first | rw [← Ny117.out] at ho17 | (simp only [Int.reduceToNat] at ho17; rw [← Ny117.out] at ho17)); have HO119 := am (Kd.R_lower ho17 (below_size uW)); replace BK101 := uB BK101 hb; replace BK102 := uB BK102 hb; replace HI103 := am (IsS89.below uI hb); replace HB := uS hb; clear hb ho17; obtain ⟨Ao18, co18, eo18⟩ := Kd.R_slice HO119.out; subst eo18) | ((with_reducible refine gate_callee (f := 59) rfl ?_); refine uGo (some 22) Try.func59 #[.pointer (some ⟨gb103, 0, none⟩), .slice Ao18 y117.length co18] ?_; (with_reducible refine (spec_l1Cur_among.calls gb103 l0 t115 t116 _ _ y117 t120 t121 t122 w _ ?side1 ?side2 ?side3 ?side4 ?side5 A7.out).mono ?_); (case side1 => exact uI); (case side2 => exact uW); (case side3 => repeat (first | exact (Kd.R_reads' HO119.out).2.2 | (with_reducible refine cA ?_ _) | (with_reducible refine cN ?_ _) | (with_reducible refine cD ?_))); (case side4 => exact (Kd.R_reads' HO119.out).2.1); (case side5 => exact far_slice (IsS89.own_ne HI103.out HO119.out (by decide))); rintro e w19 ⟨rfl, hi, hb, hk⟩; refine ⟨_, rfl, ?_⟩; replace BK101 := am (KeepBut.blk hk (uP BK101) NB101_103.out (by simp)); replace BK102 := am (KeepBut.blk hk (uP BK102) NB102_103.out (by simp)); replace HO119 := am (Kd.R_mono (Kd.R_keep (IsS89.apart (show IsS89 w _ gb103 l0 t115 t116 from by exact uI) (uR HO119) (by decide)) hk (fun _ h => h.2)) (fun _ h => h.1)); replace HB := am (hb); replace HI103 := am (hi); (try clear hb); (try clear hb2); (try clear hk); (try clear hi)) | ((with_reducible refine gate_dst (N := 24) rfl ?_); refine Kd.R_lit (Kd.int .i64) _ 3 ?hg (N := 24) ?hd (xs := ([(-1), 0, 1, 2, 13, 14, 20, 21, 40, 41] : List Int)) (inner := [.int .i64 (-1), .int .i64 0, .int .i64 1, .int .i64 2, .int .i64 13, .int .i64 14, .int .i64 20, .int .i64 21, .int .i64 40, .int .i64 41]) (ok := fun _ => True) (okp := fun _ => True) ?hr ?hp (fun _ hk => hk) trivial (Below.refl _ _) (Nat.le_refl _) (by simp) ?_; (case hd => rfl); (case hg => rfl); (case hr => first | (go_simp; done) | (go_simp; rfl)); (case hp => exact (Reps.one (show Kd.M (Kd.int .i64) _ _ _ (-1) [.int .i64 (-1)] from rfl) (Reps.one (show Kd.M (Kd.int .i64) _ _ _ 0 [.int .i64 0] from rfl) (Reps.one (show Kd.M (Kd.int .i64) _ _ _ 1 [.int .i64 1] from rfl) (Reps.one (show Kd.M (Kd.int .i64) _ _ _ 2 [.int .i64 2] from rfl) (Reps.one (show Kd.M (Kd.int .i64) _ _ _ 13 [.int .i64 13] from rfl) (Reps.one (show Kd.M (Kd.int .i64) _ _ _ 14 [.int .i64 14] from rfl) (Reps.one (show Kd.M (Kd.int .i64) _ _ _ 20 [.int .i64 20] from rfl) (Reps.one (show Kd.M (Kd.int .i64) _ _ _ 21 [.int .i64 21] from rfl) (Reps.one (show Kd.M (Kd.int .i64) _ _ _ 40 [.int .i64 40] from rfl) (Reps.one (show Kd.M (Kd.int .i64) _ _ _ 41 [.int .i64 41] from rfl) (Reps.none _ _)))))))))))); intro v124 w20 ho21 hb hg_ hnew_; clear hg_ hnew_; (first | rw [← Ny123.out] at ho21 | (simp only [Int.reduceToNat] at ho21; rw [← Ny123.out] at ho21)); have HO125 := am (Kd.R_lower (Kd.R_new' ho21 (Kd.R_lt (uR HO119))) (below_size uW)); replace HO119 := am (Kd.R_elder' (uR HO119) (Kd.R_base ho21) hb); replace BK101 := uB BK101 hb; replace BK102 := uB BK102 hb; replace HI103 := am (IsS89.below uI hb); replace HB := uS hb; clear hb ho21; obtain ⟨Ao22, co22, eo22⟩ := Kd.R_slice HO125.out; subst eo22) | ((with_reducible refine gate_callee (f := 59) rfl ?_); refine uGo (some 25) Try.func59 #[.pointer (some ⟨gb103, 0, none⟩), .slice Ao22 y123.length co22] ?_; (with_reducible refine (spec_l1Cur_among.calls gb103 l0 t121 t122 _ _ y123 t126 t127 t128 w _ ?side1 ?side2 ?side3 ?side4 ?side5 A8.out).mono ?_); (case side1 => exact uI); (case side2 => exact uW); (case side3 => repeat (first | exact (Kd.R_reads' HO125.out).2.2 | (with_reducible refine cA ?_ _) | (with_reducible refine cN ?_ _) | (with_reducible refine cD ?_))); (case side4 => exact (Kd.R_reads' HO125.out).2.1); (case side5 => exact far_slice (IsS89.own_ne HI103.out HO125.out (by decide))); rintro e w23 ⟨rfl, hi, hb, hk⟩; refine ⟨_, rfl, ?_⟩; replace BK101 := am (KeepBut.blk hk (uP BK101) NB101_103.out (by simp)); replace BK102 := am (KeepBut.blk hk (uP BK102) NB102_103.out (by simp)); replace HO119 := am (Kd.R_mono (Kd.R_keep (IsS89.apart (show IsS89 w _ gb103 l0 t121 t122 from by exact uI) (uR HO119) (by decide)) hk (fun _ h => h.2)) (fun _ h => h.1)); replace HO125 := am (Kd.R_mono (Kd.R_keep (IsS89.apart (show IsS89 w _ gb103 l0 t121 t122 from by exact uI) (uR HO125) (by decide)) hk (fun _ h => h.2)) (fun _ h => h.1)); replace HB := am (hb); replace HI103 := am (hi); (try clear hb); (try clear hb2); (try clear hk); (try clear hi); have hnb24 := NB101_102.out; have hnc24 := NB102_101.out; have hnb25 := NB101_103.out; have hnc25 := NB103_101.out; obtain ⟨hcz26_0, hcz26_1, hfz26_0, hfz26_1⟩ := uZ2 BK101; have hnb27 := NB102_103.out; have hnc27 := NB103_102.out; obtain ⟨hcz28_0, hcz28_1, hcz28_2, hfz28_0, hfz28_1, hfz28_2⟩ := uZ3 BK102))
  refine bodyPost_ret (results_cc rfl _ _ gb101 gb102 30 37 #[.int .i64 t107, .int .i64 t108] #[.int .i64 (wrap64 (t111 - (wrap64 (Int.tdiv t114 8)))), .int .i64 t120, .int .i64 t126] (0, 0) (0, 0) _ _ rfl (by refine blk_far ?_ NB101_102.out _; refine blk_far ?_ NB101_102.out _; refine blk_far ?_ NB101_102.out _; refine blk_put (cs := #[.int .i64 t107, .int .i64 0]) ?_ 1 _ rfl; refine blk_put (cs := #[.int .i64 0, .int .i64 0]) ?_ 0 _ rfl; exact (uP BK101)) Try.underlying30 rfl (by kernel_rfl) rfl (by refine blk_put (cs := #[.int .i64 (wrap64 (t111 - (wrap64 (Int.tdiv t114 8)))), .int .i64 t120, .int .i64 0]) ?_ 2 _ rfl; refine blk_put (cs := #[.int .i64 (wrap64 (t111 - (wrap64 (Int.tdiv t114 8)))), .int .i64 0, .int .i64 0]) ?_ 1 _ rfl; refine blk_put (cs := #[.int .i64 0, .int .i64 0, .int .i64 0]) ?_ 0 _ rfl; refine blk_far ?_ NB102_101.out _; refine blk_far ?_ NB102_101.out _; exact (uP BK102)) Try.underlying37 rfl (by kernel_rfl)) rfl ?_
  exact ⟨uA, by exact uW⟩
 ·replace c3 := Bool.eq_false_iff.mpr c3
  subst c3
  have H1 : ((spec_l1Cur_hidden.f l0 t105 t106).bind fun bt129 => ((spec_l1Cur_clue.f k l0 bt129.2.2.2.1 bt129.2.2.2.2).bind fun bt135 => (some (bt129.1, bt129.2.1, bt135.1, bt135.2.1, bt135.2.2.1)))) = some (r1, r2, r3, r4, r5) := by rw [if_neg (show ¬ (false = true) by decide)] at H; exact H
  clear H
  have H := H1
  clear H1
  replace H := bH H
  obtain ⟨⟨t129, t130, t131, t132, t133⟩, A290, H⟩ := H
  replace H : ((spec_l1Cur_clue.f k l0 t132 t133).bind fun bt135 => (some (t129, t130, bt135.1, bt135.2.1, bt135.2.2.1))) = some (r1, r2, r3, r4, r5) := H
  have A29 := am A290
  clear A290
  replace H := bH H
  obtain ⟨⟨t135, t136, t137, t138, t139⟩, A300, H⟩ := H
  replace H : (some (t129, t130, t135, t136, t137)) = some (r1, r2, r3, r4, r5) := H
  have A30 := am A300
  clear A300
  simp only [Option.some.injEq, Prod.mk.injEq] at H
  obtain ⟨rfl, rfl, rfl, rfl, rfl⟩ := H
  go_enter Try.func37, Try.ntmps37
  try go_wp2_with (first | ((with_reducible refine gate_dst (N := 2) rfl ?_); refine uX (N := 2) (cs := #[.int .i64 0, .int .i64 0]) (t := 30) ?_; intro gb101 hg w31 hbox hb; have BK101 := am (hbox); have GW101 := uE hg; have GE101 := GW101; replace HB := uS hb; clear hb hbox hg) | ((with_reducible refine gate_dst (N := 3) rfl ?_); refine uX (N := 3) (cs := #[.int .i64 0, .int .i64 0, .int .i64 0]) (t := 37) ?_; intro gb102 hg w32 hbox hb; have BK102 := am (hbox); have GW102 := uE hg; have GE102 := GW102; have NB101_102 := uL BK101 hg; have NB102_101 := uY NB101_102; replace BK101 := uB BK101 hb; replace HB := uS hb; clear hb hbox hg) | ((with_reducible refine gate_dst (N := 9) rfl ?_); refine uX (N := 9) (cs := #[.slice A0 l0.length c0, .int .i64 0, .int .u64 0]) (t := 89) ?_; intro gb103 hg w33 hbox hb; have BK103 := am (hbox); have GW103 := uE hg; have GE103 := GW103; have NB101_103 := uL BK101 hg; have NB103_101 := uY NB101_103; have NB102_103 := uL BK102 hg; have NB103_102 := uY NB102_103; replace BK101 := uB BK101 hb; replace BK102 := uB BK102 hb; replace HB := uS hb; clear hb hbox hg) | ((with_reducible refine gate_callee (f := 57) rfl ?_); refine uGo (some 11) Try.func57 #[.pointer (some ⟨gb103, 0, none⟩), .int .i64 3] ?_; (with_reducible refine (spec_l1Cur_one.calls gb103 l0 0 0 3 false t105 t106 w _ ?side1 ?side2 A2.out).mono ?_); (case side1 => exact ⟨_, _, by (with_reducible repeat (first | refine bN ?_ _ | refine bD ?_ | refine bA ?_ _)); exact BK103.out, GE103.out, HR0.out⟩); (case side2 => exact uW); rintro e w34 ⟨rfl, hi, hb, hk⟩; refine ⟨_, rfl, ?_⟩; have HI103 := am (hi); replace BK101 := am (KeepBut.blk hk (uP BK101) NB101_103.out (by simp)); replace BK102 := am (KeepBut.blk hk (uP BK102) NB102_103.out (by simp)); replace HB := am (hb); clear BK103; (try clear hb); (try clear hb2); (try clear hk); (try clear hi)) | ((with_reducible refine gate_callee (f := 60) rfl ?_); refine uGo (some 29) Try.func60 #[.pointer (some ⟨gb103, 0, none⟩)] ?_; (with_reducible refine (spec_l1Cur_hidden.calls gb103 l0 t105 t106 t129 t130 t131 t132 t133 w _ ?side1 ?side2 A29.out).mono ?_); (case side1 => exact uI); (case side2 => exact uW); rintro e w35 ⟨rfl, hi, hb, hk⟩; refine ⟨_, rfl, ?_⟩; replace BK101 := am (KeepBut.blk hk (uP BK101) NB101_103.out (by simp)); replace BK102 := am (KeepBut.blk hk (uP BK102) NB102_103.out (by simp)); replace HB := am (hb); replace HI103 := am (hi); (try clear hb); (try clear hb2); (try clear hk); (try clear hi)) | ((with_reducible refine gate_dst (N := 5) rfl ?_); refine uX (N := 5) (cs := #[.int .i64 0, .int .i64 0]) (t := 30) ?_; intro gb134 hg w36 hbox hb; have BK134 := am (hbox); have GW134 := uE hg; have GE134 := GW134; have NB101_134 := uL BK101 hg; have NB134_101 := uY NB101_134; have NB102_134 := uL BK102 hg; have NB134_102 := uY NB102_134; have NB103_134 := am ((by rw [hg]; exact Nat.ne_of_lt (IsS89.lt (show IsS89 w _ gb103 l0 t132 t133 from by exact uI)) : gb103 ≠ gb134)); have NB134_103 := am ((by rw [hg]; exact Nat.ne_of_gt (IsS89.lt (show IsS89 w _ gb103 l0 t132 t133 from by exact uI)) : gb134 ≠ gb103)); replace BK101 := uB BK101 hb; replace BK102 := uB BK102 hb; replace HI103 := am (IsS89.below uI hb); replace HB := uS hb; clear hb hbox hg; have hnb37 := NB134_101.out; have hnc37 := NB101_134.out; have hnb38 := NB134_102.out; have hnc38 := NB102_134.out; have hnb39 := NB134_103.out; have hnc39 := NB103_134.out; obtain ⟨hcz40_0, hcz40_1, hfz40_0, hfz40_1⟩ := uZ2 BK134))
  have n0_ : Aside0 (((w36.setCell ⟨gb134, 0, none⟩ (.int .i64 t129)).setCell ⟨gb134, 1, none⟩ (.int .i64 t130)).heap[gb101]? = some (.cells #[.int .i64 0, .int .i64 0] 30 (0, 0))) := ⟨by refine blk_far ?_ NB101_134.out _; refine blk_far ?_ NB101_134.out _; exact (uP BK101)⟩
  have n1_ : Aside0 (((w36.setCell ⟨gb134, 0, none⟩ (.int .i64 t129)).setCell ⟨gb134, 1, none⟩ (.int .i64 t130)).heap[gb102]? = some (.cells #[.int .i64 0, .int .i64 0, .int .i64 0] 37 (0, 0))) := ⟨by refine blk_far ?_ NB102_134.out _; refine blk_far ?_ NB102_134.out _; exact (uP BK102)⟩
  have n2_ : Aside0 (((w36.setCell ⟨gb134, 0, none⟩ (.int .i64 t129)).setCell ⟨gb134, 1, none⟩ (.int .i64 t130)).heap[gb134]? = some (.cells #[.int .i64 t129, .int .i64 t130] 30 (0, 0))) := ⟨by refine blk_put (cs := #[.int .i64 t129, .int .i64 0]) ?_ 1 _ rfl; refine blk_put (cs := #[.int .i64 0, .int .i64 0]) ?_ 0 _ rfl; exact (uP BK134)⟩
  have n3_ : Aside0 (IsS89 w ((w36.setCell ⟨gb134, 0, none⟩ (.int .i64 t129)).setCell ⟨gb134, 1, none⟩ (.int .i64 t130)) gb103 l0 t132 t133) := ⟨by exact uI⟩
  have n4_ : Aside0 (Below w.heap.size w ((w36.setCell ⟨gb134, 0, none⟩ (.int .i64 t129)).setCell ⟨gb134, 1, none⟩ (.int .i64 t130))) := ⟨by exact uW⟩
  (try clear BK101)
  (try clear BK102)
  (try clear BK134)
  (try clear HI103)
  (try clear HB)
  generalize ((w36.setCell ⟨gb134, 0, none⟩ (.int .i64 t129)).setCell ⟨gb134, 1, none⟩ (.int .i64 t130)) = w41 at n0_ n1_ n2_ n3_ n4_ ⊢
  have BK101 := n0_
  have BK102 := n1_
  have BK134 := n2_
  have HI103 := n3_
  have HB := n4_
  clear n0_ n1_ n2_ n3_ n4_
  replace BK101 := am (blk_drew BK101.out)
  replace BK102 := am (blk_drew BK102.out)
  replace BK134 := am (blk_drew BK134.out)
  replace HI103 := am (IsS89.drew HI103.out)
  replace HB := am (below_drew1 HB.out)
  refine start_ (n := 5) (S := fun w' => w'.cell? ⟨gb134, 0, none⟩ = some (.int .i64 t129) ∧ w'.cell? ⟨gb134, 1, none⟩ = some (.int .i64 t130)) (ds := []) #[false, false, false, false, false] (by kernel_rfl) rfl rfl ⟨uT BK134 0, uT BK134 1⟩ (fun hHeld => ?_)
  generalize w41.drew = w42 at BK101 BK102 BK134 HI103 HB hHeld ⊢
  refine pure_ (i := 1) (N := some 33) (v := ?_) (a' := ?_) #[false, true, false, false, false] rfl rfl (by kernel_rfl) (fun _ _ _ h => h) (Or.inl ⟨by rfl, ?_⟩) ?_ ?_
  rotate_left
  ·intro w'
   go_simp
   with_reducible rfl
  rotate_left
  ·simp only [Act.put, List.setIfInBounds_toArray, List.set_cons_zero, List.set_cons_succ, i64_w, i32_w]
   rfl
  refine take_ (i := 0) (N := some 32) (v := ?_) (a' := ?_) #[true, true, false, false, false] rfl rfl (by kernel_rfl) (fun _ _ _ h => h) (Or.inl ⟨by rfl, ?_⟩) hHeld ?_ ?_
  rotate_left
  ·rintro w' ⟨s0, s1⟩
   go_simp
   with_reducible rfl
  rotate_left
  ·simp only [Act.put, List.setIfInBounds_toArray, List.set_cons_zero, List.set_cons_succ, i64_w, i32_w]
   rfl
  refine one_ (i := 2) (N := some 34) #[true, true, true, false, false] rfl rfl (by kernel_rfl) (by decide) (fun K hK => ?_)
  refine uGs Try.func73 #[.pointer (some ⟨gb103, 0, none⟩)] ?_
  with_reducible refine (spec_l1Cur_clue.calls k gb103 l0 t132 t133 t135 t136 t137 t138 t139 w _ ?side1 ?side2 A30.out).mono ?_
  (case side1 => exact uI)
  (case side2 => exact uW)
  rintro e w43 ⟨rfl, hi, hb, hk⟩
  refine ⟨_, rfl, ?_⟩
  replace BK101 := am (KeepBut.blk hk (uP BK101) NB101_103.out (by simp))
  replace BK102 := am (KeepBut.blk hk (uP BK102) NB102_103.out (by simp))
  replace BK134 := am (KeepBut.blk hk (uP BK134) NB134_103.out (by simp))
  replace HB := am (hb)
  replace HI103 := am (hi)
  (try clear hb)
  (try clear hb2)
  (try clear hk)
  (try clear hi)
  refine hK.out _ _ ⟨uT BK134 0, uT BK134 1⟩ (fun hHeld => ?_)
  clear hK K
  refine uNo (some 34) ?_
  refine one_ (i := 3) (N := none) #[true, true, true, true, false] rfl rfl (by kernel_rfl) (by decide) (fun K hK => ?_)
  have hs44 : w43.cell? ⟨gb101, 0, none⟩ = some (.int .i64 0) := uT BK101 0
  have hfs44 := blk_frozen BK101.out 0
  have hns44_1 := NB102_101.out
  have hns44_2 := NB134_101.out
  have hms44_1 := NB101_102.out
  have hms44_2 := NB101_134.out
  have hs45 : w43.cell? ⟨gb101, 1, none⟩ = some (.int .i64 0) := uT BK101 1
  have hfs45 := blk_frozen BK101.out 1
  have hns45_1 := NB102_101.out
  have hns45_2 := NB134_101.out
  have hms45_1 := NB101_102.out
  have hms45_2 := NB101_134.out
  refine skip_ (w1 := ?_) (by rfl) rfl ?_ ?_
  rotate_left
  ·go_simp
   rfl
  refine hK.out _ _ ⟨((cell_far (p := ⟨gb101, _, none⟩) NB134_101.out _).trans (((cell_far (p := ⟨gb101, _, none⟩) NB134_101.out _).trans (hHeld.1)))), ((cell_far (p := ⟨gb101, _, none⟩) NB134_101.out _).trans (((cell_far (p := ⟨gb101, _, none⟩) NB134_101.out _).trans (hHeld.2))))⟩ (fun hHeld => ?_)
  clear hK K
  refine one_ (i := 4) (N := none) #[true, true, true, true, true] rfl rfl (by kernel_rfl) (by decide) (fun K hK => ?_)
  have hs46 : w43.cell? ⟨gb102, 0, none⟩ = some (.int .i64 0) := uT BK102 0
  have hfs46 := blk_frozen BK102.out 0
  have hns46_0 := NB101_102.out
  have hns46_2 := NB134_102.out
  have hms46_0 := NB102_101.out
  have hms46_2 := NB102_134.out
  have hs47 : w43.cell? ⟨gb102, 1, none⟩ = some (.int .i64 0) := uT BK102 1
  have hfs47 := blk_frozen BK102.out 1
  have hns47_0 := NB101_102.out
  have hns47_2 := NB134_102.out
  have hms47_0 := NB102_101.out
  have hms47_2 := NB102_134.out
  have hs48 : w43.cell? ⟨gb102, 2, none⟩ = some (.int .i64 0) := uT BK102 2
  have hfs48 := blk_frozen BK102.out 2
  have hns48_0 := NB101_102.out
  have hns48_2 := NB134_102.out
  have hms48_0 := NB102_101.out
  have hms48_2 := NB102_134.out
  refine skip_ (w1 := ?_) (by rfl) rfl ?_ ?_
  rotate_left
  ·go_simp
   rfl
  refine hK.out _ _ ⟨((cell_far (p := ⟨gb102, _, none⟩) NB134_102.out _).trans (((cell_far (p := ⟨gb102, _, none⟩) NB134_102.out _).trans (((cell_far (p := ⟨gb102, _, none⟩) NB134_102.out _).trans (hHeld.1)))))), ((cell_far (p := ⟨gb102, _, none⟩) NB134_102.out _).trans (((cell_far (p := ⟨gb102, _, none⟩) NB134_102.out _).trans (((cell_far (p := ⟨gb102, _, none⟩) NB134_102.out _).trans (hHeld.2))))))⟩ (fun hHeld => ?_)
  clear hK K
  refine done_ (by kernel_rfl) ?_
  try go_wp2
  refine bodyPost_ret (results_cc rfl _ _ gb101 gb102 30 37 #[.int .i64 t129, .int .i64 t130] #[.int .i64 t135, .int .i64 t136, .int .i64 t137] (0, 0) (0, 0) _ _ rfl (by refine blk_far ?_ NB101_102.out _; refine blk_far ?_ NB101_102.out _; refine blk_far ?_ NB101_102.out _; refine blk_put (cs := #[.int .i64 t129, .int .i64 0]) ?_ 1 _ rfl; refine blk_put (cs := #[.int .i64 0, .int .i64 0]) ?_ 0 _ rfl; exact (uP BK101)) Try.underlying30 rfl (by kernel_rfl) rfl (by refine blk_put (cs := #[.int .i64 t135, .int .i64 t136, .int .i64 0]) ?_ 2 _ rfl; refine blk_put (cs := #[.int .i64 t135, .int .i64 0, .int .i64 0]) ?_ 1 _ rfl; refine blk_put (cs := #[.int .i64 0, .int .i64 0, .int .i64 0]) ?_ 0 _ rfl; refine blk_far ?_ NB102_101.out _; refine blk_far ?_ NB102_101.out _; exact (uP BK102)) Try.underlying37 rfl (by kernel_rfl)) rfl ?_
  exact ⟨uA, by exact uW⟩
def impl_IsClue.f (a0_0 : Int) (a0_1 : Int) (a1_0 : Int) (a1_1 : Int) (a1_2 : Int) : Option (Bool) := (impl_isHiddenStreet.f a0_0 a0_1).bind fun t103 => (if t103 = true then ((impl_isClue.f a1_0 a1_1 a1_2).bind fun t104 => (some t104)) else (some false))
theorem impl_IsClue.calls (a0_0 : Int) (a0_1 : Int) (a1_0 : Int) (a1_1 : Int) (a1_2 : Int) (r : Bool) (w : World) (h : impl_IsClue.f a0_0 a0_1 a1_0 a1_1 a1_2 = some r) :
  Calls Try.prog 38 #[.agg #[.int .i64 a0_0, .int .i64 a0_1], .agg #[.int .i64 a1_0, .int .i64 a1_1, .int .i64 a1_2]] w fun e w' => e = .returned (.bool r) ∧ Below w.heap.size w w' := by
 have hu30 := Try.underlying30
 have hu37 := Try.underlying37
 have HB := am (Below.refl w.heap.size w)
 have H : ((impl_isHiddenStreet.f a0_0 a0_1).bind fun t103 => (if t103 = true then ((impl_isClue.f a1_0 a1_1 a1_2).bind fun t104 => (some t104)) else (some false))) = some r := h
 clear h
 replace H := bH H
 obtain ⟨t103, A30, H⟩ := H
 replace H : (if t103 = true then ((impl_isClue.f a1_0 a1_1 a1_2).bind fun t104 => (some t104)) else (some false)) = some r := H
 have A3 := am A30
 clear A30
 by_cases c4 : t103 = true
 ·subst c4
  have H1 : ((impl_isClue.f a1_0 a1_1 a1_2).bind fun t104 => (some t104)) = some r := by rw [if_pos rfl] at H; exact H
  clear H
  have H := H1
  clear H1
  replace H := bH H
  obtain ⟨t104, A50, H⟩ := H
  replace H : (some t104) = some r := H
  have A5 := am A50
  clear A50
  obtain rfl := Option.some.inj H
  go_enter Try.func38, Try.ntmps38
  go_wp2_with (first | ((with_reducible refine gate_dst (N := 2) rfl ?_); refine uX (N := 2) (cs := #[.int .i64 a0_0, .int .i64 a0_1]) (t := 30) ?_; intro gb101 hg w6 hbox hb; have BK101 := am (hbox); have GW101 := uE hg; have GE101 := GW101; replace HB := uS hb; clear hb hbox hg) | ((with_reducible refine gate_dst (N := 3) rfl ?_); refine uX (N := 3) (cs := #[.int .i64 a1_0, .int .i64 a1_1, .int .i64 a1_2]) (t := 37) ?_; intro gb102 hg w7 hbox hb; have BK102 := am (hbox); have GW102 := uE hg; have GE102 := GW102; have NB101_102 := uL BK101 hg; have NB102_101 := uY NB101_102; replace BK101 := uB BK101 hb; replace HB := uS hb; clear hb hbox hg; have hnb8 := NB101_102.out; have hnc8 := NB102_101.out; obtain ⟨hcz9_0, hcz9_1, hfz9_0, hfz9_1⟩ := uZ2 BK101) | ((with_reducible refine gate_callee (f := 53) rfl ?_); refine uGo (some 6) Try.func53 #[.agg #[.int .i64 a0_0, .int .i64 a0_1]] ?_; (with_reducible refine (impl_isHiddenStreet.calls a0_0 a0_1 true _ A3.out).mono ?_); rintro e w10 ⟨rfl, hb⟩; refine ⟨_, rfl, ?_⟩; replace BK101 := uB BK101 hb; replace BK102 := uB BK102 hb; replace HB := uS hb; (try clear hb); (try clear hb2); (try clear hk); (try clear hi); obtain ⟨hcz11_0, hcz11_1, hcz11_2, hfz11_0, hfz11_1, hfz11_2⟩ := uZ3 BK102) | (go_at_call 63; (with_reducible refine (impl_isClue.calls a1_0 a1_1 a1_2 t104 _ A5.out).mono ?_); rintro e w12 ⟨rfl, hb⟩; replace BK101 := uB BK101 hb; replace BK102 := uB BK102 hb; replace HB := uS hb; (try clear hb); (try clear hb2); (try clear hk); (try clear hi)))
  go_ret
  exact ⟨uA, by exact uW⟩
 ·replace c4 := Bool.eq_false_iff.mpr c4
  subst c4
  have H1 : (some false) = some r := by rw [if_neg (show ¬ (false = true) by decide)] at H; exact H
  clear H
  have H := H1
  clear H1
  obtain rfl := Option.some.inj H
  go_enter Try.func38, Try.ntmps38
  go_wp2_with (first | ((with_reducible refine gate_dst (N := 2) rfl ?_); refine uX (N := 2) (cs := #[.int .i64 a0_0, .int .i64 a0_1]) (t := 30) ?_; intro gb101 hg w13 hbox hb; have BK101 := am (hbox); have GW101 := uE hg; have GE101 := GW101; replace HB := uS hb; clear hb hbox hg) | ((with_reducible refine gate_dst (N := 3) rfl ?_); refine uX (N := 3) (cs := #[.int .i64 a1_0, .int .i64 a1_1, .int .i64 a1_2]) (t := 37) ?_; intro gb102 hg w14 hbox hb; have BK102 := am (hbox); have GW102 := uE hg; have GE102 := GW102; have NB101_102 := uL BK101 hg; have NB102_101 := uY NB101_102; replace BK101 := uB BK101 hb; replace HB := uS hb; clear hb hbox hg; have hnb15 := NB101_102.out; have hnc15 := NB102_101.out; obtain ⟨hcz16_0, hcz16_1, hfz16_0, hfz16_1⟩ := uZ2 BK101) | ((with_reducible refine gate_callee (f := 53) rfl ?_); refine uGo (some 6) Try.func53 #[.agg #[.int .i64 a0_0, .int .i64 a0_1]] ?_; (with_reducible refine (impl_isHiddenStreet.calls a0_0 a0_1 false _ A3.out).mono ?_); rintro e w17 ⟨rfl, hb⟩; refine ⟨_, rfl, ?_⟩; replace BK101 := uB BK101 hb; replace BK102 := uB BK102 hb; replace HB := uS hb; (try clear hb); (try clear hb2); (try clear hk); (try clear hi)))
  go_ret
  exact ⟨uA, by exact uW⟩
def spec_IsClue.f (a0_0 : Int) (a0_1 : Int) (a1_0 : Int) (a1_1 : Int) (a1_2 : Int) : Option (Bool) := (spec_pzStreet.f a0_0 a0_1).bind fun t103 => (if t103 = true then ((spec_pzClue.f a1_0 a1_1 a1_2).bind fun t104 => (some t104)) else (some false))
theorem spec_IsClue.calls (a0_0 : Int) (a0_1 : Int) (a1_0 : Int) (a1_1 : Int) (a1_2 : Int) (r : Bool) (w : World) (h : spec_IsClue.f a0_0 a0_1 a1_0 a1_1 a1_2 = some r) :
  Calls Try.prog 39 #[.agg #[.int .i64 a0_0, .int .i64 a0_1], .agg #[.int .i64 a1_0, .int .i64 a1_1, .int .i64 a1_2]] w fun e w' => e = .returned (.bool r) ∧ Below w.heap.size w w' := by
 have hu30 := Try.underlying30
 have hu37 := Try.underlying37
 have HB := am (Below.refl w.heap.size w)
 have H : ((spec_pzStreet.f a0_0 a0_1).bind fun t103 => (if t103 = true then ((spec_pzClue.f a1_0 a1_1 a1_2).bind fun t104 => (some t104)) else (some false))) = some r := h
 clear h
 replace H := bH H
 obtain ⟨t103, A30, H⟩ := H
 replace H : (if t103 = true then ((spec_pzClue.f a1_0 a1_1 a1_2).bind fun t104 => (some t104)) else (some false)) = some r := H
 have A3 := am A30
 clear A30
 by_cases c4 : t103 = true
 ·subst c4
  have H1 : ((spec_pzClue.f a1_0 a1_1 a1_2).bind fun t104 => (some t104)) = some r := by rw [if_pos rfl] at H; exact H
  clear H
  have H := H1
  clear H1
  replace H := bH H
  obtain ⟨t104, A50, H⟩ := H
  replace H : (some t104) = some r := H
  have A5 := am A50
  clear A50
  obtain rfl := Option.some.inj H
  go_enter Try.func39, Try.ntmps39
  go_wp2_with (first | ((with_reducible refine gate_dst (N := 2) rfl ?_); refine uX (N := 2) (cs := #[.int .i64 a0_0, .int .i64 a0_1]) (t := 30) ?_; intro gb101 hg w6 hbox hb; have BK101 := am (hbox); have GW101 := uE hg; have GE101 := GW101; replace HB := uS hb; clear hb hbox hg) | ((with_reducible refine gate_dst (N := 3) rfl ?_); refine uX (N := 3) (cs := #[.int .i64 a1_0, .int .i64 a1_1, .int .i64 a1_2]) (t := 37) ?_; intro gb102 hg w7 hbox hb; have BK102 := am (hbox); have GW102 := uE hg; have GE102 := GW102; have NB101_102 := uL BK101 hg; have NB102_101 := uY NB101_102; replace BK101 := uB BK101 hb; replace HB := uS hb; clear hb hbox hg; have hnb8 := NB101_102.out; have hnc8 := NB102_101.out; obtain ⟨hcz9_0, hcz9_1, hfz9_0, hfz9_1⟩ := uZ2 BK101) | ((with_reducible refine gate_callee (f := 75) rfl ?_); refine uGo (some 6) Try.func75 #[.agg #[.int .i64 a0_0, .int .i64 a0_1]] ?_; (with_reducible refine (spec_pzStreet.calls a0_0 a0_1 true _ A3.out).mono ?_); rintro e w10 ⟨rfl, hb⟩; refine ⟨_, rfl, ?_⟩; replace BK101 := uB BK101 hb; replace BK102 := uB BK102 hb; replace HB := uS hb; (try clear hb); (try clear hb2); (try clear hk); (try clear hi); obtain ⟨hcz11_0, hcz11_1, hcz11_2, hfz11_0, hfz11_1, hfz11_2⟩ := uZ3 BK102) | (go_at_call 42; (with_reducible refine (spec_pzClue.calls a1_0 a1_1 a1_2 t104 _ A5.out).mono ?_); rintro e w12 ⟨rfl, hb⟩; replace BK101 := uB BK101 hb; replace BK102 := uB BK102 hb; replace HB := uS hb; (try clear hb); (try clear hb2); (try clear hk); (try clear hi)))
  go_ret
  exact ⟨uA, by exact uW⟩
 ·replace c4 := Bool.eq_false_iff.mpr c4
  subst c4
  have H1 : (some false) = some r := by rw [if_neg (show ¬ (false = true) by decide)] at H; exact H
  clear H
  have H := H1
  clear H1
  obtain rfl := Option.some.inj H
  go_enter Try.func39, Try.ntmps39
  go_wp2_with (first | ((with_reducible refine gate_dst (N := 2) rfl ?_); refine uX (N := 2) (cs := #[.int .i64 a0_0, .int .i64 a0_1]) (t := 30) ?_; intro gb101 hg w13 hbox hb; have BK101 := am (hbox); have GW101 := uE hg; have GE101 := GW101; replace HB := uS hb; clear hb hbox hg) | ((with_reducible refine gate_dst (N := 3) rfl ?_); refine uX (N := 3) (cs := #[.int .i64 a1_0, .int .i64 a1_1, .int .i64 a1_2]) (t := 37) ?_; intro gb102 hg w14 hbox hb; have BK102 := am (hbox); have GW102 := uE hg; have GE102 := GW102; have NB101_102 := uL BK101 hg; have NB102_101 := uY NB101_102; replace BK101 := uB BK101 hb; replace HB := uS hb; clear hb hbox hg; have hnb15 := NB101_102.out; have hnc15 := NB102_101.out; obtain ⟨hcz16_0, hcz16_1, hfz16_0, hfz16_1⟩ := uZ2 BK101) | ((with_reducible refine gate_callee (f := 75) rfl ?_); refine uGo (some 6) Try.func75 #[.agg #[.int .i64 a0_0, .int .i64 a0_1]] ?_; (with_reducible refine (spec_pzStreet.calls a0_0 a0_1 false _ A3.out).mono ?_); rintro e w17 ⟨rfl, hb⟩; refine ⟨_, rfl, ?_⟩; replace BK101 := uB BK101 hb; replace BK102 := uB BK102 hb; replace HB := uS hb; (try clear hb); (try clear hb2); (try clear hk); (try clear hi)))
  go_ret
  exact ⟨uA, by exact uW⟩
def spec_l1Cur_surePuzzle.f (k : Nat) (s0_0 : List Int) (s0_1 : Int) (s0_2 : Int) (a1 : Int) : Option (Int × Int × (List (S37)) × Int × Int) := (spec_l1Cur_hidden.f s0_0 s0_1 s0_2).bind fun bt102 => ((spec_l1Cur_pick.f s0_0 bt102.2.2.2.1 bt102.2.2.2.2 (wrap64 (a1 + 1))).bind fun bt108 => ((spec_l1Cur_pick.f s0_0 bt108.2.1 bt108.2.2 10000).bind fun bt111 => ((spec_MakePuzzle.f k bt102.1 bt102.2.1 bt102.2.2.1 bt108.1 bt111.1).bind fun bt114 => (some (bt114.1, bt114.2.1, bt114.2.2.1, bt111.2.1, bt111.2.2)))))
def spec_l1Cur_surePuzzle.T2 : Bool × List (List Nat × List Nat) := (true, [([], []), ([], []), ([], []), ([], []), ([3], [3]), ([2, 4], [2, 4]), ([], []), ([6, 5], [6]), ([0, 1, 5, 7, 7], [0, 1, 5, 7]), ([8], [8]), ([9], [9]), ([9], [9]), ([], []), ([12, 10, 8, 0, 1, 2, 3, 4, 5, 6, 7, 8, 9, 10, 12], [10, 12]), ([11, 13, 0, 1, 2, 3, 4, 5, 6, 7, 8, 9, 10, 11, 12, 13], [11])])
def spec_l1Cur_surePuzzle.B2 : List Nat := [0, 0, 0, 0, 8, 28, 0, 124, 255, 511, 1023, 1023, 0, 6143, 16383]
theorem spec_l1Cur_surePuzzle.tab2 : rtab .any (opsOf Try.f85 2) = spec_l1Cur_surePuzzle.T2 := by kernel_rfl
theorem spec_l1Cur_surePuzzle.bits2 : waitsOk spec_l1Cur_surePuzzle.T2.2 spec_l1Cur_surePuzzle.B2 = true := by kernel_rfl
theorem spec_l1Cur_surePuzzle.calls (k : Nat) (g : Nat) (s0_0 : List Int) (s0_1 : Int) (s0_2 : Int) (a1 : Int) (r1 : Int) (r2 : Int) (r3 : List (S37)) (r4 : Int) (r5 : Int) (w0 w : World) (hI : IsS89 w0 w g s0_0 s0_1 s0_2) (hB : Below w0.heap.size w0 w) (h : spec_l1Cur_surePuzzle.f k s0_0 s0_1 s0_2 a1 = some (r1, r2, r3, r4, r5)) :
  Calls Try.prog 85 #[.pointer (some ⟨g, 0, none⟩), .int .i64 a1] w fun e w' => ∃ v2_ : Value, e = .returned (.agg #[.int .i64 r1, .int .i64 r2, v2_]) ∧ Kd.R k37 37 w' w.heap.size (fun _ => True) v2_ r3 ∧ IsS89 w0 w' g s0_0 r4 r5 ∧ Below w0.heap.size w0 w' ∧ KeepBut w w' g none := by
 have hu33 := Try.underlying33
 have hu30 := Try.underlying30
 have HI0 := am hI
 have HK := am (KeepBut.refl w g none)
 have HL := am hB.size
 clear hI
 have HW0 := am hB.size
 have HB := am hB
 clear hB
 have H : ((spec_l1Cur_hidden.f s0_0 s0_1 s0_2).bind fun bt102 => ((spec_l1Cur_pick.f s0_0 bt102.2.2.2.1 bt102.2.2.2.2 (wrap64 (a1 + 1))).bind fun bt108 => ((spec_l1Cur_pick.f s0_0 bt108.2.1 bt108.2.2 10000).bind fun bt111 => ((spec_MakePuzzle.f k bt102.1 bt102.2.1 bt102.2.2.1 bt108.1 bt111.1).bind fun bt114 => (some (bt114.1, bt114.2.1, bt114.2.2.1, bt111.2.1, bt111.2.2)))))) = some (r1, r2, r3, r4, r5) := h
 clear h
 replace H := bH H
 obtain ⟨⟨t102, t103, t104, t105, t106⟩, A30, H⟩ := H
 replace H : ((spec_l1Cur_pick.f s0_0 t105 t106 (wrap64 (a1 + 1))).bind fun bt108 => ((spec_l1Cur_pick.f s0_0 bt108.2.1 bt108.2.2 10000).bind fun bt111 => ((spec_MakePuzzle.f k t102 t103 t104 bt108.1 bt111.1).bind fun bt114 => (some (bt114.1, bt114.2.1, bt114.2.2.1, bt111.2.1, bt111.2.2))))) = some (r1, r2, r3, r4, r5) := H
 have A3 := am A30
 clear A30
 replace H := bH H
 obtain ⟨⟨t108, t109, t110⟩, A40, H⟩ := H
 replace H : ((spec_l1Cur_pick.f s0_0 t109 t110 10000).bind fun bt111 => ((spec_MakePuzzle.f k t102 t103 t104 t108 bt111.1).bind fun bt114 => (some (bt114.1, bt114.2.1, bt114.2.2.1, bt111.2.1, bt111.2.2)))) = some (r1, r2, r3, r4, r5) := H
 have A4 := am A40
 clear A40
 replace H := bH H
 obtain ⟨⟨t111, t112, t113⟩, A50, H⟩ := H
 replace H : ((spec_MakePuzzle.f k t102 t103 t104 t108 t111).bind fun bt114 => (some (bt114.1, bt114.2.1, bt114.2.2.1, t112, t113))) = some (r1, r2, r3, r4, r5) := H
 have A5 := am A50
 clear A50
 replace H := bH H
 obtain ⟨⟨t114, t115, t116, t119⟩, A60, H⟩ := H
 replace H : (some (t114, t115, t116, t112, t113)) = some (r1, r2, r3, r4, r5) := H
 have A6 := am A60
 clear A60
 simp only [Option.some.injEq, Prod.mk.injEq] at H
 obtain ⟨rfl, rfl, rfl, rfl, rfl⟩ := H
 go_enter Try.func85, Try.ntmps85
 try go_wp2_with (first | ((with_reducible refine gate_dst (N := 4) rfl ?_); refine uX (N := 4) (cs := #[.int .i64 0, .int .i64 0, .slice none 0 0]) (t := 33) ?_; intro gb101 hg w7 hbox hb; have BK101 := am (hbox); have GW101 := am ((by rw [hg]; exact (keep_size (w := w) (g := g) (row := none) uV) : w.heap.size ≤ gb101)); have GE101 := am ((Nat.le_trans HW0.out (by rw [hg]; exact (keep_size (w := w) (g := g) (row := none) uV) : w.heap.size ≤ gb101) : w0.heap.size ≤ gb101)); have NB0_101 := am ((by rw [hg]; exact Nat.ne_of_lt (IsS89.lt (show IsS89 w0 _ g s0_0 s0_1 s0_2 from by exact uI)) : g ≠ gb101)); have NB101_0 := am ((by rw [hg]; exact Nat.ne_of_gt (IsS89.lt (show IsS89 w0 _ g s0_0 s0_1 s0_2 from by exact uI)) : gb101 ≠ g)); replace HI0 := am (IsS89.below uI hb); replace HK := am (KeepBut.trans uV (KeepBut.of_below hb g none) (.inl rfl)); replace HB := uS hb; clear hb hbox hg) | ((with_reducible refine gate_callee (f := 60) rfl ?_); refine uGo (some 11) Try.func60 #[.pointer (some ⟨g, 0, none⟩)] ?_; (with_reducible refine (spec_l1Cur_hidden.calls g s0_0 s0_1 s0_2 t102 t103 t104 t105 t106 w0 _ ?side1 ?side2 A3.out).mono ?_); (case side1 => exact uI); (case side2 => exact uW); rintro e w8 ⟨rfl, hi, hb, hk⟩; refine ⟨_, rfl, ?_⟩; replace BK101 := am (KeepBut.blk hk (uP BK101) NB101_0.out (by simp)); replace HK := am (KeepBut.trans uV hk (.inl rfl)); replace HB := am (hb); replace HI0 := am (hi); (try clear hb); (try clear hb2); (try clear hk); (try clear hi)) | ((with_reducible refine gate_dst (N := 5) rfl ?_); refine uX (N := 5) (cs := #[.int .i64 0, .int .i64 0]) (t := 30) ?_; intro gb107 hg w9 hbox hb; have BK107 := am (hbox); have GW107 := am ((by rw [hg]; exact (keep_size (w := w) (g := g) (row := none) uV) : w.heap.size ≤ gb107)); have GE107 := am ((Nat.le_trans HW0.out (by rw [hg]; exact (keep_size (w := w) (g := g) (row := none) uV) : w.heap.size ≤ gb107) : w0.heap.size ≤ gb107)); have NB101_107 := uL BK101 hg; have NB107_101 := uY NB101_107; have NB0_107 := am ((by rw [hg]; exact Nat.ne_of_lt (IsS89.lt (show IsS89 w0 _ g s0_0 t105 t106 from by exact uI)) : g ≠ gb107)); have NB107_0 := am ((by rw [hg]; exact Nat.ne_of_gt (IsS89.lt (show IsS89 w0 _ g s0_0 t105 t106 from by exact uI)) : gb107 ≠ g)); replace HI0 := am (IsS89.below uI hb); replace BK101 := uB BK101 hb; replace HK := am (KeepBut.trans uV (KeepBut.of_below hb g none) (.inl rfl)); replace HB := uS hb; clear hb hbox hg; have hnb10 := NB107_101.out; have hnc10 := NB101_107.out; have hnb11 := NB107_0.out; have hnc11 := NB0_107.out; obtain ⟨hcz12_0, hcz12_1, hfz12_0, hfz12_1⟩ := uZ2 BK107))
 have n0_ : Aside0 (((w9.setCell ⟨gb107, 0, none⟩ (.int .i64 t102)).setCell ⟨gb107, 1, none⟩ (.int .i64 t103)).heap[gb101]? = some (.cells #[.int .i64 0, .int .i64 0, .slice none 0 0] 33 (0, 0))) := ⟨by refine blk_far ?_ NB101_107.out _; refine blk_far ?_ NB101_107.out _; exact (uP BK101)⟩
 have n1_ : Aside0 (((w9.setCell ⟨gb107, 0, none⟩ (.int .i64 t102)).setCell ⟨gb107, 1, none⟩ (.int .i64 t103)).heap[gb107]? = some (.cells #[.int .i64 t102, .int .i64 t103] 30 (0, 0))) := ⟨by refine blk_put (cs := #[.int .i64 t102, .int .i64 0]) ?_ 1 _ rfl; refine blk_put (cs := #[.int .i64 0, .int .i64 0]) ?_ 0 _ rfl; exact (uP BK107)⟩
 have n2_ : Aside0 (IsS89 w0 ((w9.setCell ⟨gb107, 0, none⟩ (.int .i64 t102)).setCell ⟨gb107, 1, none⟩ (.int .i64 t103)) g s0_0 t105 t106) := ⟨by exact uI⟩
 have n3_ : Aside0 (KeepBut w ((w9.setCell ⟨gb107, 0, none⟩ (.int .i64 t102)).setCell ⟨gb107, 1, none⟩ (.int .i64 t103)) g none) := ⟨by exact uV⟩
 have n4_ : Aside0 (Below w0.heap.size w0 ((w9.setCell ⟨gb107, 0, none⟩ (.int .i64 t102)).setCell ⟨gb107, 1, none⟩ (.int .i64 t103))) := ⟨by exact uW⟩
 (try clear BK101)
 (try clear BK107)
 (try clear HI0)
 (try clear HK)
 (try clear HB)
 generalize ((w9.setCell ⟨gb107, 0, none⟩ (.int .i64 t102)).setCell ⟨gb107, 1, none⟩ (.int .i64 t103)) = w13 at n0_ n1_ n2_ n3_ n4_ ⊢
 have BK101 := n0_
 have BK107 := n1_
 have HI0 := n2_
 have HK := n3_
 have HB := n4_
 clear n0_ n1_ n2_ n3_ n4_
 replace BK101 := am (blk_drew BK101.out)
 replace BK107 := am (blk_drew BK107.out)
 replace HI0 := am (IsS89.drew HI0.out)
 replace HK := am (keep_drew HK.out)
 replace HB := am (below_drew1 HB.out)
 refine start_ (n := 15) (S := fun w' => w'.cell? ⟨gb107, 0, none⟩ = some (.int .i64 t102) ∧ w'.cell? ⟨gb107, 1, none⟩ = some (.int .i64 t103)) (ds := []) #[false, false, false, false, false, false, false, false, false, false, false, false, false, false, false] (by kernel_rfl) rfl rfl ⟨uT BK107 0, uT BK107 1⟩ (fun hHeld => ?_); refine with_tabW spec_l1Cur_surePuzzle.tab2 spec_l1Cur_surePuzzle.bits2 (fun HT_ HW_ => ?_)
 generalize w13.drew = w14 at BK101 BK107 HI0 HK HB hHeld ⊢
 refine uPu (i := 1) (N := some 16) #[false, true, false, false, false, false, false, false, false, false, false, false, false, false, false] ?_
 refine uPu (i := 2) (N := some 17) #[false, true, true, false, false, false, false, false, false, false, false, false, false, false, false] ?_
 refine uPu (i := 3) (N := some 18) #[false, true, true, true, false, false, false, false, false, false, false, false, false, false, false] ?_
 refine uPu (i := 4) (N := some 19) #[false, true, true, true, true, false, false, false, false, false, false, false, false, false, false] ?_
 refine uPu (i := 6) (N := some 21) #[false, true, true, true, true, false, true, false, false, false, false, false, false, false, false] ?_
 refine uTk (i := 0) (N := some 15) #[true, true, true, true, true, false, true, false, false, false, false, false, false, false, false] hHeld ?_
 refine join_ (σ := Value × Nat) 2 #[true, true, true, true, true, true, true, true, true, true, true, true, true, false, false] (fun s_ => [(20, .int .i64 t108), (22, .int .i64 t111), (23, .tuple #[.agg #[.int .i64 t114, .int .i64 t115, s_.1], .bool t119]), (7, .pointer (some ⟨s_.2, 0, none⟩)), (14, .tuple #[.agg #[.int .i64 t114, .int .i64 t115, s_.1], .bool t119]), (24, .agg #[.int .i64 t114, .int .i64 t115, s_.1]), (25, .bool t119)]) (fun s_ w' => (w'.cell? ⟨gb107, 0, none⟩ = some (.int .i64 t102) ∧ w'.cell? ⟨gb107, 1, none⟩ = some (.int .i64 t103)) ∧ (Kd.R k37 37 w' w.heap.size (fun _ => True) s_.1 t116) ∧ (w'.heap[gb101]? = some (.cells #[.int .i64 0, .int .i64 0, .slice none 0 0] 33 (0, 0))) ∧ (w'.heap[gb107]? = some (.cells #[.int .i64 t102, .int .i64 t103] 30 (0, 0))) ∧ (w'.heap[s_.2]? = some (.cells #[.int .i64 0, .int .i64 0, .slice none 0 0] 33 (0, 0))) ∧ (w.heap.size ≤ s_.2) ∧ (w0.heap.size ≤ s_.2) ∧ (g ≠ s_.2) ∧ (s_.2 ≠ g) ∧ (gb101 ≠ s_.2) ∧ (s_.2 ≠ gb101) ∧ (gb107 ≠ s_.2) ∧ (s_.2 ≠ gb107) ∧ (IsS89 w0 w' g s0_0 t112 t113) ∧ (KeepBut w w' g none) ∧ (Below w0.heap.size w0 w')) ?_ ?_
 rotate_left
 ·intro hCont
  refine two_ (i := 5) (j := 12) (Ni := some 20) (Nj := some 7) #[true, true, true, true, true, true, true, false, false, false, false, false, false, false, false] #[true, true, true, true, true, false, true, false, false, false, false, false, true, false, false] rfl rfl rfl rfl (two_of HT_.out (by kernel_rfl)) (by decide) (by decide) (fun K hK => ?_) (fun K hK => ?_)
  ·skip
   refine uGs Try.func61 #[.pointer (some ⟨g, 0, none⟩), .int .i64 (wrap64 (a1 + 1))] ?_
   with_reducible refine (spec_l1Cur_pick.calls g s0_0 t105 t106 (wrap64 (a1 + 1)) t108 t109 t110 w0 _ ?side1 ?side2 A4.out).mono ?_
   (case side1 => exact uI)
   (case side2 => exact uW)
   rintro e w15 ⟨rfl, hi, hb, hk⟩
   refine ⟨_, rfl, ?_⟩
   replace BK101 := am (KeepBut.blk hk (uP BK101) NB101_0.out (by simp))
   replace BK107 := am (KeepBut.blk hk (uP BK107) NB107_0.out (by simp))
   replace HK := am (KeepBut.trans uV hk (.inl rfl))
   replace HB := am (hb)
   replace HI0 := am (hi)
   (try clear hb)
   (try clear hb2)
   (try clear hk)
   (try clear hi)
   refine hK.out _ _ ⟨uT BK107 0, uT BK107 1⟩ (fun hHeld => ?_)
   clear hK K
   refine uNo (some 20) ?_
   refine two_ (i := 7) (j := 12) (Ni := some 22) (Nj := some 7) #[true, true, true, true, true, true, true, true, false, false, false, false, false, false, false] #[true, true, true, true, true, true, true, false, false, false, false, false, true, false, false] rfl rfl rfl rfl (two_of HT_.out (by kernel_rfl)) (by decide) (by decide) (fun K hK => ?_) (fun K hK => ?_)
   ·skip
    refine uGs Try.func61 #[.pointer (some ⟨g, 0, none⟩), .int .i64 10000] ?_
    with_reducible refine (spec_l1Cur_pick.calls g s0_0 t109 t110 10000 t111 t112 t113 w0 _ ?side1 ?side2 A5.out).mono ?_
    (case side1 => exact uI)
    (case side2 => exact uW)
    rintro e w16 ⟨rfl, hi, hb, hk⟩
    refine ⟨_, rfl, ?_⟩
    replace BK101 := am (KeepBut.blk hk (uP BK101) NB101_0.out (by simp))
    replace BK107 := am (KeepBut.blk hk (uP BK107) NB107_0.out (by simp))
    replace HK := am (KeepBut.trans uV hk (.inl rfl))
    replace HB := am (hb)
    replace HI0 := am (hi)
    (try clear hb)
    (try clear hb2)
    (try clear hk)
    (try clear hi)
    refine hK.out _ _ ⟨uT BK107 0, uT BK107 1⟩ (fun hHeld => ?_)
    clear hK K
    refine uNo (some 22) ?_
    refine two_ (i := 8) (j := 12) (Ni := some 23) (Nj := some 7) #[true, true, true, true, true, true, true, true, true, false, false, false, false, false, false] #[true, true, true, true, true, true, true, true, false, false, false, false, true, false, false] rfl rfl rfl rfl (two_of HT_.out (by kernel_rfl)) (by decide) (by decide) (fun K hK => ?_) (fun K hK => ?_)
    ·skip
     refine uGs Try.func14 #[.agg #[.int .i64 t102, .int .i64 t103], .int .i64 t104, .int .i64 t108, .int .i64 t111] ?_
     with_reducible refine (spec_MakePuzzle.calls k t102 t103 t104 t108 t111 t114 t115 t116 t119 _ A6.out).mono ?_
     rintro e w17 ⟨v117, rfl, ho0, hb⟩
     refine ⟨_, rfl, ?_⟩
     have HO118 := am (Kd.R_lower ho0 (keep_size (w := w) (g := g) (row := none) uV))
     replace HI0 := am (IsS89.below uI hb)
     replace BK101 := uB BK101 hb
     replace BK107 := uB BK107 hb
     replace HK := am (KeepBut.trans uV (KeepBut.of_below hb g none) (.inl rfl))
     replace HB := uS hb
     (try clear hb)
     (try clear hb2)
     (try clear hk)
     (try clear hi)
     (try clear ho0)
     refine hK.out _ _ ⟨uT BK107 0, uT BK107 1⟩ (fun hHeld => ?_)
     clear hK K
     refine uNo (some 23) ?_
     refine uPu (i := 9) (N := some 14) #[true, true, true, true, true, true, true, true, true, true, false, false, false, false, false] ?_
     refine uPu (i := 10) (N := some 24) #[true, true, true, true, true, true, true, true, true, true, true, false, false, false, false] ?_
     refine uPu (i := 11) (N := some 25) #[true, true, true, true, true, true, true, true, true, true, true, true, false, false, false] ?_
     refine uOn (i := 12) (N := some 7) #[true, true, true, true, true, true, true, true, true, true, true, true, true, false, false] (fun K hK => ?_)
     refine box_step ?hg (N := 7) ?hd (cs := #[.int .i64 0, .int .i64 0, .slice none 0 0]) (t := 33) ?hr ?_; (case hd => rfl); (case hg => rfl); (case hr => first | (go_simp; done) | (go_simp; rfl))
     intro gb120 hg w18 hbox hb
     have BK120 := am (hbox)
     have GW120 := am ((by rw [hg]; exact (keep_size (w := w) (g := g) (row := none) uV) : w.heap.size ≤ gb120))
     have GE120 := am ((Nat.le_trans HW0.out (by rw [hg]; exact (keep_size (w := w) (g := g) (row := none) uV) : w.heap.size ≤ gb120) : w0.heap.size ≤ gb120))
     have NB101_120 := uL BK101 hg
     have NB120_101 := uY NB101_120
     have NB107_120 := uL BK107 hg
     have NB120_107 := uY NB107_120
     have NB0_120 := am ((by rw [hg]; exact Nat.ne_of_lt (IsS89.lt (show IsS89 w0 _ g s0_0 t112 t113 from by exact uI)) : g ≠ gb120))
     have NB120_0 := am ((by rw [hg]; exact Nat.ne_of_gt (IsS89.lt (show IsS89 w0 _ g s0_0 t112 t113 from by exact uI)) : gb120 ≠ g))
     replace HO118 := am (Kd.R_below (uR HO118) hb)
     replace HI0 := am (IsS89.below uI hb)
     replace BK101 := uB BK101 hb
     replace BK107 := uB BK107 hb
     replace HK := am (KeepBut.trans uV (KeepBut.of_below hb g none) (.inl rfl))
     replace HB := uS hb
     clear hb hbox hg
     refine hK.out _ _ ⟨uT BK107 0, uT BK107 1⟩ (fun hHeld => ?_)
     clear hK K
     refine uNo (some 7) ?_
     exact norm_ (by simp only [putAll, Act.put, List.setIfInBounds_toArray, List.set_cons_zero, List.set_cons_succ]) (hCont (v117, gb120) _ ⟨hHeld, (uR HO118), (uP BK101), (uP BK107), (uP BK120), GW120.out, GE120.out, NB0_120.out, NB120_0.out, NB101_120.out, NB120_101.out, NB107_120.out, NB120_107.out, uI, uV, uW⟩)
    ·skip
     refine box_step ?hg (N := 7) ?hd (cs := #[.int .i64 0, .int .i64 0, .slice none 0 0]) (t := 33) ?hr ?_; (case hd => rfl); (case hg => rfl); (case hr => first | (go_simp; done) | (go_simp; rfl))
     intro gb120 hg w17 hbox hb
     have BK120 := am (hbox)
     have GW120 := am ((by rw [hg]; exact (keep_size (w := w) (g := g) (row := none) uV) : w.heap.size ≤ gb120))
     have GE120 := am ((Nat.le_trans HW0.out (by rw [hg]; exact (keep_size (w := w) (g := g) (row := none) uV) : w.heap.size ≤ gb120) : w0.heap.size ≤ gb120))
     have NB101_120 := uL BK101 hg
     have NB120_101 := uY NB101_120
     have NB107_120 := uL BK107 hg
     have NB120_107 := uY NB107_120
     have NB0_120 := am ((by rw [hg]; exact Nat.ne_of_lt (IsS89.lt (show IsS89 w0 _ g s0_0 t112 t113 from by exact uI)) : g ≠ gb120))
     have NB120_0 := am ((by rw [hg]; exact Nat.ne_of_gt (IsS89.lt (show IsS89 w0 _ g s0_0 t112 t113 from by exact uI)) : gb120 ≠ g))
     replace HI0 := am (IsS89.below uI hb)
     replace BK101 := uB BK101 hb
     replace BK107 := uB BK107 hb
     replace HK := am (KeepBut.trans uV (KeepBut.of_below hb g none) (.inl rfl))
     replace HB := uS hb
     clear hb hbox hg
     refine hK.out _ _ ⟨uT BK107 0, uT BK107 1⟩ (fun hHeld => ?_)
     clear hK K
     refine uNo (some 7) ?_
     refine uOn (i := 8) (N := some 23) #[true, true, true, true, true, true, true, true, true, false, false, false, true, false, false] (fun K hK => ?_)
     refine uGs Try.func14 #[.agg #[.int .i64 t102, .int .i64 t103], .int .i64 t104, .int .i64 t108, .int .i64 t111] ?_
     with_reducible refine (spec_MakePuzzle.calls k t102 t103 t104 t108 t111 t114 t115 t116 t119 _ A6.out).mono ?_
     rintro e w18 ⟨v117, rfl, ho0, hb⟩
     refine ⟨_, rfl, ?_⟩
     have HO118 := am (Kd.R_lower ho0 (keep_size (w := w) (g := g) (row := none) uV))
     replace HI0 := am (IsS89.below uI hb)
     replace BK101 := uB BK101 hb
     replace BK107 := uB BK107 hb
     replace BK120 := uB BK120 hb
     replace HK := am (KeepBut.trans uV (KeepBut.of_below hb g none) (.inl rfl))
     replace HB := uS hb
     (try clear hb)
     (try clear hb2)
     (try clear hk)
     (try clear hi)
     (try clear ho0)
     refine hK.out _ _ ⟨uT BK107 0, uT BK107 1⟩ (fun hHeld => ?_)
     clear hK K
     refine uNo (some 23) ?_
     refine uPu (i := 9) (N := some 14) #[true, true, true, true, true, true, true, true, true, true, false, false, true, false, false] ?_
     refine uPu (i := 10) (N := some 24) #[true, true, true, true, true, true, true, true, true, true, true, false, true, false, false] ?_
     refine uPu (i := 11) (N := some 25) #[true, true, true, true, true, true, true, true, true, true, true, true, true, false, false] ?_
     exact norm_ (by simp only [putAll, Act.put, List.setIfInBounds_toArray, List.set_cons_zero, List.set_cons_succ]) (hCont (v117, gb120) _ ⟨hHeld, (uR HO118), (uP BK101), (uP BK107), (uP BK120), GW120.out, GE120.out, NB0_120.out, NB120_0.out, NB101_120.out, NB120_101.out, NB107_120.out, NB120_107.out, uI, uV, uW⟩)
   ·skip
    refine box_step ?hg (N := 7) ?hd (cs := #[.int .i64 0, .int .i64 0, .slice none 0 0]) (t := 33) ?hr ?_; (case hd => rfl); (case hg => rfl); (case hr => first | (go_simp; done) | (go_simp; rfl))
    intro gb120 hg w16 hbox hb
    have BK120 := am (hbox)
    have GW120 := am ((by rw [hg]; exact (keep_size (w := w) (g := g) (row := none) uV) : w.heap.size ≤ gb120))
    have GE120 := am ((Nat.le_trans HW0.out (by rw [hg]; exact (keep_size (w := w) (g := g) (row := none) uV) : w.heap.size ≤ gb120) : w0.heap.size ≤ gb120))
    have NB101_120 := uL BK101 hg
    have NB120_101 := uY NB101_120
    have NB107_120 := uL BK107 hg
    have NB120_107 := uY NB107_120
    have NB0_120 := am ((by rw [hg]; exact Nat.ne_of_lt (IsS89.lt (show IsS89 w0 _ g s0_0 t109 t110 from by exact uI)) : g ≠ gb120))
    have NB120_0 := am ((by rw [hg]; exact Nat.ne_of_gt (IsS89.lt (show IsS89 w0 _ g s0_0 t109 t110 from by exact uI)) : gb120 ≠ g))
    replace HI0 := am (IsS89.below uI hb)
    replace BK101 := uB BK101 hb
    replace BK107 := uB BK107 hb
    replace HK := am (KeepBut.trans uV (KeepBut.of_below hb g none) (.inl rfl))
    replace HB := uS hb
    clear hb hbox hg
    refine hK.out _ _ ⟨uT BK107 0, uT BK107 1⟩ (fun hHeld => ?_)
    clear hK K
    refine uNo (some 7) ?_
    refine uOn (i := 7) (N := some 22) #[true, true, true, true, true, true, true, true, false, false, false, false, true, false, false] (fun K hK => ?_)
    refine uGs Try.func61 #[.pointer (some ⟨g, 0, none⟩), .int .i64 10000] ?_
    with_reducible refine (spec_l1Cur_pick.calls g s0_0 t109 t110 10000 t111 t112 t113 w0 _ ?side1 ?side2 A5.out).mono ?_
    (case side1 => exact uI)
    (case side2 => exact uW)
    rintro e w17 ⟨rfl, hi, hb, hk⟩
    refine ⟨_, rfl, ?_⟩
    replace BK101 := am (KeepBut.blk hk (uP BK101) NB101_0.out (by simp))
    replace BK107 := am (KeepBut.blk hk (uP BK107) NB107_0.out (by simp))
    replace BK120 := am (KeepBut.blk hk (uP BK120) NB120_0.out (by simp))
    replace HK := am (KeepBut.trans uV hk (.inl rfl))
    replace HB := am (hb)
    replace HI0 := am (hi)
    (try clear hb)
    (try clear hb2)
    (try clear hk)
    (try clear hi)
    refine hK.out _ _ ⟨uT BK107 0, uT BK107 1⟩ (fun hHeld => ?_)
    clear hK K
    refine uNo (some 22) ?_
    refine uOn (i := 8) (N := some 23) #[true, true, true, true, true, true, true, true, true, false, false, false, true, false, false] (fun K hK => ?_)
    refine uGs Try.func14 #[.agg #[.int .i64 t102, .int .i64 t103], .int .i64 t104, .int .i64 t108, .int .i64 t111] ?_
    with_reducible refine (spec_MakePuzzle.calls k t102 t103 t104 t108 t111 t114 t115 t116 t119 _ A6.out).mono ?_
    rintro e w18 ⟨v117, rfl, ho0, hb⟩
    refine ⟨_, rfl, ?_⟩
    have HO118 := am (Kd.R_lower ho0 (keep_size (w := w) (g := g) (row := none) uV))
    replace HI0 := am (IsS89.below uI hb)
    replace BK101 := uB BK101 hb
    replace BK107 := uB BK107 hb
    replace BK120 := uB BK120 hb
    replace HK := am (KeepBut.trans uV (KeepBut.of_below hb g none) (.inl rfl))
    replace HB := uS hb
    (try clear hb)
    (try clear hb2)
    (try clear hk)
    (try clear hi)
    (try clear ho0)
    refine hK.out _ _ ⟨uT BK107 0, uT BK107 1⟩ (fun hHeld => ?_)
    clear hK K
    refine uNo (some 23) ?_
    refine uPu (i := 9) (N := some 14) #[true, true, true, true, true, true, true, true, true, true, false, false, true, false, false] ?_
    refine uPu (i := 10) (N := some 24) #[true, true, true, true, true, true, true, true, true, true, true, false, true, false, false] ?_
    refine uPu (i := 11) (N := some 25) #[true, true, true, true, true, true, true, true, true, true, true, true, true, false, false] ?_
    exact norm_ (by simp only [putAll, Act.put, List.setIfInBounds_toArray, List.set_cons_zero, List.set_cons_succ]) (hCont (v117, gb120) _ ⟨hHeld, (uR HO118), (uP BK101), (uP BK107), (uP BK120), GW120.out, GE120.out, NB0_120.out, NB120_0.out, NB101_120.out, NB120_101.out, NB107_120.out, NB120_107.out, uI, uV, uW⟩)
  ·skip
   refine box_step ?hg (N := 7) ?hd (cs := #[.int .i64 0, .int .i64 0, .slice none 0 0]) (t := 33) ?hr ?_; (case hd => rfl); (case hg => rfl); (case hr => first | (go_simp; done) | (go_simp; rfl))
   intro gb120 hg w15 hbox hb
   have BK120 := am (hbox)
   have GW120 := am ((by rw [hg]; exact (keep_size (w := w) (g := g) (row := none) uV) : w.heap.size ≤ gb120))
   have GE120 := am ((Nat.le_trans HW0.out (by rw [hg]; exact (keep_size (w := w) (g := g) (row := none) uV) : w.heap.size ≤ gb120) : w0.heap.size ≤ gb120))
   have NB101_120 := uL BK101 hg
   have NB120_101 := uY NB101_120
   have NB107_120 := uL BK107 hg
   have NB120_107 := uY NB107_120
   have NB0_120 := am ((by rw [hg]; exact Nat.ne_of_lt (IsS89.lt (show IsS89 w0 _ g s0_0 t105 t106 from by exact uI)) : g ≠ gb120))
   have NB120_0 := am ((by rw [hg]; exact Nat.ne_of_gt (IsS89.lt (show IsS89 w0 _ g s0_0 t105 t106 from by exact uI)) : gb120 ≠ g))
   replace HI0 := am (IsS89.below uI hb)
   replace BK101 := uB BK101 hb
   replace BK107 := uB BK107 hb
   replace HK := am (KeepBut.trans uV (KeepBut.of_below hb g none) (.inl rfl))
   replace HB := uS hb
   clear hb hbox hg
   refine hK.out _ _ ⟨uT BK107 0, uT BK107 1⟩ (fun hHeld => ?_)
   clear hK K
   refine uNo (some 7) ?_
   refine uOn (i := 5) (N := some 20) #[true, true, true, true, true, true, true, false, false, false, false, false, true, false, false] (fun K hK => ?_)
   refine uGs Try.func61 #[.pointer (some ⟨g, 0, none⟩), .int .i64 (wrap64 (a1 + 1))] ?_
   with_reducible refine (spec_l1Cur_pick.calls g s0_0 t105 t106 (wrap64 (a1 + 1)) t108 t109 t110 w0 _ ?side1 ?side2 A4.out).mono ?_
   (case side1 => exact uI)
   (case side2 => exact uW)
   rintro e w16 ⟨rfl, hi, hb, hk⟩
   refine ⟨_, rfl, ?_⟩
   replace BK101 := am (KeepBut.blk hk (uP BK101) NB101_0.out (by simp))
   replace BK107 := am (KeepBut.blk hk (uP BK107) NB107_0.out (by simp))
   replace BK120 := am (KeepBut.blk hk (uP BK120) NB120_0.out (by simp))
   replace HK := am (KeepBut.trans uV hk (.inl rfl))
   replace HB := am (hb)
   replace HI0 := am (hi)
   (try clear hb)
   (try clear hb2)
   (try clear hk)
   (try clear hi)
   refine hK.out _ _ ⟨uT BK107 0, uT BK107 1⟩ (fun hHeld => ?_)
   clear hK K
   refine uNo (some 20) ?_
   refine uOn (i := 7) (N := some 22) #[true, true, true, true, true, true, true, true, false, false, false, false, true, false, false] (fun K hK => ?_)
   refine uGs Try.func61 #[.pointer (some ⟨g, 0, none⟩), .int .i64 10000] ?_
   with_reducible refine (spec_l1Cur_pick.calls g s0_0 t109 t110 10000 t111 t112 t113 w0 _ ?side1 ?side2 A5.out).mono ?_
   (case side1 => exact uI)
   (case side2 => exact uW)
   rintro e w17 ⟨rfl, hi, hb, hk⟩
   refine ⟨_, rfl, ?_⟩
   replace BK101 := am (KeepBut.blk hk (uP BK101) NB101_0.out (by simp))
   replace BK107 := am (KeepBut.blk hk (uP BK107) NB107_0.out (by simp))
   replace BK120 := am (KeepBut.blk hk (uP BK120) NB120_0.out (by simp))
   replace HK := am (KeepBut.trans uV hk (.inl rfl))
   replace HB := am (hb)
   replace HI0 := am (hi)
   (try clear hb)
   (try clear hb2)
   (try clear hk)
   (try clear hi)
   refine hK.out _ _ ⟨uT BK107 0, uT BK107 1⟩ (fun hHeld => ?_)
   clear hK K
   refine uNo (some 22) ?_
   refine uOn (i := 8) (N := some 23) #[true, true, true, true, true, true, true, true, true, false, false, false, true, false, false] (fun K hK => ?_)
   refine uGs Try.func14 #[.agg #[.int .i64 t102, .int .i64 t103], .int .i64 t104, .int .i64 t108, .int .i64 t111] ?_
   with_reducible refine (spec_MakePuzzle.calls k t102 t103 t104 t108 t111 t114 t115 t116 t119 _ A6.out).mono ?_
   rintro e w18 ⟨v117, rfl, ho0, hb⟩
   refine ⟨_, rfl, ?_⟩
   have HO118 := am (Kd.R_lower ho0 (keep_size (w := w) (g := g) (row := none) uV))
   replace HI0 := am (IsS89.below uI hb)
   replace BK101 := uB BK101 hb
   replace BK107 := uB BK107 hb
   replace BK120 := uB BK120 hb
   replace HK := am (KeepBut.trans uV (KeepBut.of_below hb g none) (.inl rfl))
   replace HB := uS hb
   (try clear hb)
   (try clear hb2)
   (try clear hk)
   (try clear hi)
   (try clear ho0)
   refine hK.out _ _ ⟨uT BK107 0, uT BK107 1⟩ (fun hHeld => ?_)
   clear hK K
   refine uNo (some 23) ?_
   refine uPu (i := 9) (N := some 14) #[true, true, true, true, true, true, true, true, true, true, false, false, true, false, false] ?_
   refine uPu (i := 10) (N := some 24) #[true, true, true, true, true, true, true, true, true, true, true, false, true, false, false] ?_
   refine uPu (i := 11) (N := some 25) #[true, true, true, true, true, true, true, true, true, true, true, true, true, false, false] ?_
   exact norm_ (by simp only [putAll, Act.put, List.setIfInBounds_toArray, List.set_cons_zero, List.set_cons_succ]) (hCont (v117, gb120) _ ⟨hHeld, (uR HO118), (uP BK101), (uP BK107), (uP BK120), GW120.out, GE120.out, NB0_120.out, NB120_0.out, NB101_120.out, NB120_101.out, NB107_120.out, NB120_107.out, uI, uV, uW⟩)
 rintro ⟨v117, gb120⟩ w19 ⟨hS_, h0_, h1_, h2_, h3_, h4_, h5_, h6_, h7_, h8_, h9_, h10_, h11_, h12_, h13_, h14_⟩
 have n0_ : Aside0 (Kd.R k37 37 w19 w.heap.size (fun _ => True) v117 t116) := ⟨h0_⟩
 have n1_ : Aside0 (w19.heap[gb101]? = some (.cells #[.int .i64 0, .int .i64 0, .slice none 0 0] 33 (0, 0))) := ⟨h1_⟩
 have n2_ : Aside0 (w19.heap[gb107]? = some (.cells #[.int .i64 t102, .int .i64 t103] 30 (0, 0))) := ⟨h2_⟩
 have n3_ : Aside0 (w19.heap[gb120]? = some (.cells #[.int .i64 0, .int .i64 0, .slice none 0 0] 33 (0, 0))) := ⟨h3_⟩
 have n4_ : Aside0 (w.heap.size ≤ gb120) := ⟨h4_⟩
 have n5_ : Aside0 (w0.heap.size ≤ gb120) := ⟨h5_⟩
 have n6_ : Aside0 (g ≠ gb120) := ⟨h6_⟩
 have n7_ : Aside0 (gb120 ≠ g) := ⟨h7_⟩
 have n8_ : Aside0 (gb101 ≠ gb120) := ⟨h8_⟩
 have n9_ : Aside0 (gb120 ≠ gb101) := ⟨h9_⟩
 have n10_ : Aside0 (gb107 ≠ gb120) := ⟨h10_⟩
 have n11_ : Aside0 (gb120 ≠ gb107) := ⟨h11_⟩
 have n12_ : Aside0 (IsS89 w0 w19 g s0_0 t112 t113) := ⟨h12_⟩
 have n13_ : Aside0 (KeepBut w w19 g none) := ⟨h13_⟩
 have n14_ : Aside0 (Below w0.heap.size w0 w19) := ⟨h14_⟩
 clear BK101
 clear BK107
 clear HI0
 clear HK
 clear HB
 clear h0_ h1_ h2_ h3_ h4_ h5_ h6_ h7_ h8_ h9_ h10_ h11_ h12_ h13_ h14_
 have HO118 := n0_
 have BK101 := n1_
 have BK107 := n2_
 have BK120 := n3_
 have GW120 := n4_
 have GE120 := n5_
 have NB0_120 := n6_
 have NB120_0 := n7_
 have NB101_120 := n8_
 have NB120_101 := n9_
 have NB107_120 := n10_
 have NB120_107 := n11_
 have HI0 := n12_
 have HK := n13_
 have HB := n14_
 clear n0_ n1_ n2_ n3_ n4_ n5_ n6_ n7_ n8_ n9_ n10_ n11_ n12_ n13_ n14_
 have hHeld : w19.cell? ⟨gb107, 0, none⟩ = some (.int .i64 t102) ∧ w19.cell? ⟨gb107, 1, none⟩ = some (.int .i64 t103) := hS_
 obtain ⟨Ao22, co22, eo22⟩ := Kd.R_slice HO118.out
 (first | subst eo22 | (injection eo22 with f1_ f2_ f3_; have f4_ := f1_.symm; have f5_ := f3_.symm; clear f1_ f2_ f3_; subst f4_; subst f5_))
 refine uNp ?_
 refine uOn (i := 13) (N := none) #[true, true, true, true, true, true, true, true, true, true, true, true, true, true, false] (fun K hK => ?_)
 have hs20 : w19.cell? ⟨gb120, 0, none⟩ = some (.int .i64 0) := uT BK120 0
 have hfs20 := blk_frozen BK120.out 0
 have hns20_0 := NB101_120.out
 have hns20_1 := NB107_120.out
 have hms20_0 := NB120_101.out
 have hms20_1 := NB120_107.out
 have hs21 : w19.cell? ⟨gb120, 1, none⟩ = some (.int .i64 0) := uT BK120 1
 have hfs21 := blk_frozen BK120.out 1
 have hns21_0 := NB101_120.out
 have hns21_1 := NB107_120.out
 have hms21_0 := NB120_101.out
 have hms21_1 := NB120_107.out
 have hs23 : w19.cell? ⟨gb120, 2, none⟩ = some (.slice none 0 0) := uT BK120 2
 have hfs23 := blk_frozen BK120.out 2
 have hns23_0 := NB101_120.out
 have hns23_1 := NB107_120.out
 have hms23_0 := NB120_101.out
 have hms23_1 := NB120_107.out
 refine skip_ (w1 := ?_) (by rfl) rfl ?_ ?_
 rotate_left
 ·go_simp
  rfl
 refine hK.out _ _ ⟨((cell_far (p := ⟨gb120, _, none⟩) NB107_120.out _).trans (((cell_far (p := ⟨gb120, _, none⟩) NB107_120.out _).trans (((cell_far (p := ⟨gb120, _, none⟩) NB107_120.out _).trans (hHeld.1)))))), ((cell_far (p := ⟨gb120, _, none⟩) NB107_120.out _).trans (((cell_far (p := ⟨gb120, _, none⟩) NB107_120.out _).trans (((cell_far (p := ⟨gb120, _, none⟩) NB107_120.out _).trans (hHeld.2))))))⟩ (fun hHeld => ?_)
 clear hK K
 refine uPu (i := 14) (N := some 8) #[true, true, true, true, true, true, true, true, true, true, true, true, true, true, true] ?_
 refine done_ (done_of HT_.out (by kernel_rfl)) ?_
 have hnb24 := NB120_101.out
 have hnc24 := NB101_120.out
 have hnb25 := NB120_107.out
 have hnc25 := NB107_120.out
 have hnb26 := NB120_0.out
 have hnc26 := NB0_120.out
 obtain ⟨hcz27_0, hcz27_1, hcz27_2, hfz27_0, hfz27_1, hfz27_2⟩ := uZ3 BK120
 have hnb28 := NB101_0.out
 have hnc28 := NB0_101.out
 obtain ⟨hcz29_0, hcz29_1, hcz29_2, hfz29_0, hfz29_1, hfz29_2⟩ := uZ3 BK101
 try go_wp2
 refine bodyPost_ret (results_cell_row rfl _ _ gb101 33 #[.int .i64 t114, .int .i64 t115, .slice Ao22 t116.length co22] (0, 0) _ rfl (by refine blk_put (cs := #[.int .i64 t114, .int .i64 t115, .slice none 0 0]) ?_ 2 _ rfl; refine blk_put (cs := #[.int .i64 t114, .int .i64 0, .slice none 0 0]) ?_ 1 _ rfl; refine blk_put (cs := #[.int .i64 0, .int .i64 0, .slice none 0 0]) ?_ 0 _ rfl; refine blk_far ?_ NB101_120.out _; refine blk_far ?_ NB101_120.out _; refine blk_far ?_ NB101_120.out _; exact (uP BK101)) Try.underlying33 rfl (by kernel_rfl)) rfl ?_
 exact ⟨_, uA, by (with_reducible repeat (first | apply rA | apply rN | apply rD)); exact Kd.R_mono (Kd.R_far (p := ⟨gb101, 2, none⟩) (Kd.R_far (p := ⟨gb101, 1, none⟩) (Kd.R_far (p := ⟨gb101, 0, none⟩) (Kd.R_far (p := ⟨gb120, 2, none⟩) (Kd.R_far (p := ⟨gb120, 1, none⟩) (Kd.R_far (p := ⟨gb120, 0, none⟩) (Kd.R_types (Kd.R_types HO118.out BK120.out (by decide)) BK101.out (by decide)) (fun _ hk => hk.1.2) (.int .i64 t114)) (fun _ hk => hk.1.2) (.int .i64 t115)) (fun _ hk => hk.1.2) (.slice Ao22 t116.length co22)) (fun _ hk => hk.2) (.int .i64 t114)) (fun _ hk => hk.2) (.int .i64 t115)) (fun _ hk => hk.2) (.slice Ao22 t116.length co22)) (fun _ hk => trivial), by exact uI, by exact uW, by exact uV⟩
def spec_l1Cur_puzzle.l0 : Nat → List Int → Int → Int → Int → Int → List (S37) → Option (Int × Int × (List (S37)) × Int × Int)
 | 0, _, _, _, _, _, _ => none
 | k + 1, x1000, x1001, x1002, x110000, x110001, x110002 => (spec_l1Cur_pick.f x1000 x1001 x1002 2).bind fun bt125 => (if (x110002.length : Int) < (wrap64 (6 + bt125.1)) then (if x110002.length < 5864062014805 then (spec_l1Cur_puzzle.l0 k x1000 bt125.2.1 bt125.2.2 x110000 x110001 (x110002 ++ [(⟨3, 0, 5⟩ : S37)])) else (none)) else (some (x110000, x110001, x110002, bt125.2.1, bt125.2.2)))
def spec_l1Cur_puzzle.f (k : Nat) (s0_0 : List Int) (s0_1 : Int) (s0_2 : Int) : Option (Int × Int × (List (S37)) × Int × Int) := (spec_l1Cur_surePuzzle.f k s0_0 s0_1 s0_2 5).bind fun bt102 => ((spec_l1Cur_pick.f s0_0 bt102.2.2.2.1 bt102.2.2.2.2 12).bind fun bt110 => (if bt110.1 = 0 then ((spec_l1Cur_street.f s0_0 bt110.2.1 bt110.2.2).bind fun bt113 => (some (bt113.1, bt113.2.1, bt102.2.2.1, bt113.2.2.1, bt113.2.2.2))) else (if bt110.1 = 1 then ((spec_l1Cur_clue.f k s0_0 bt110.2.1 bt110.2.2).bind fun bt117 => (if bt102.2.2.1.length < 5864062014805 then (some (bt102.1, bt102.2.1, (bt102.2.2.1 ++ [(⟨bt117.1, bt117.2.1, bt117.2.2.1⟩ : S37)]), bt117.2.2.2.1, bt117.2.2.2.2)) else (none))) else (if bt110.1 = 2 then (spec_l1Cur_puzzle.l0 k s0_0 bt110.2.1 bt110.2.2 bt102.1 bt102.2.1 bt102.2.2.1) else (some (bt102.1, bt102.2.1, bt102.2.2.1, bt110.2.1, bt110.2.2))))))
def spec_l1Cur_puzzle.T6 : Bool × List (List Nat × List Nat) := (true, [([], []), ([0], [0]), ([], []), ([2], [2]), ([3], [3]), ([1, 4, 3], [1, 4]), ([0, 1, 2, 3, 4, 5], []), ([6, 5, 5, 0, 1, 2, 3, 4, 5], [5, 6])])
def spec_l1Cur_puzzle.B6 : List Nat := [0, 1, 0, 4, 12, 31, 63, 127]
theorem spec_l1Cur_puzzle.tab6 : rtab .any (opsOf Try.f68 6) = spec_l1Cur_puzzle.T6 := by kernel_rfl
theorem spec_l1Cur_puzzle.bits6 : waitsOk spec_l1Cur_puzzle.T6.2 spec_l1Cur_puzzle.B6 = true := by kernel_rfl
theorem spec_l1Cur_puzzle.calls (k : Nat) (g : Nat) (s0_0 : List Int) (s0_1 : Int) (s0_2 : Int) (r1 : Int) (r2 : Int) (r3 : List (S37)) (r4 : Int) (r5 : Int) (w0 w : World) (hI : IsS89 w0 w g s0_0 s0_1 s0_2) (hB : Below w0.heap.size w0 w) (h : spec_l1Cur_puzzle.f k s0_0 s0_1 s0_2 = some (r1, r2, r3, r4, r5)) :
  Calls Try.prog 68 #[.pointer (some ⟨g, 0, none⟩)] w fun e w' => ∃ v2_ : Value, e = .returned (.agg #[.int .i64 r1, .int .i64 r2, v2_]) ∧ Kd.R k37 37 w' w.heap.size (fun _ => True) v2_ r3 ∧ IsS89 w0 w' g s0_0 r4 r5 ∧ Below w0.heap.size w0 w' ∧ KeepBut w w' g none := by
 have hu33 := Try.underlying33
 have hu30 := Try.underlying30
 have hu37 := Try.underlying37
 have HI0 := am hI
 have HK := am (KeepBut.refl w g none)
 have HL := am hB.size
 clear hI
 have HW0 := am hB.size
 have HB := am hB
 clear hB
 have H : ((spec_l1Cur_surePuzzle.f k s0_0 s0_1 s0_2 5).bind fun bt102 => ((spec_l1Cur_pick.f s0_0 bt102.2.2.2.1 bt102.2.2.2.2 12).bind fun bt110 => (if bt110.1 = 0 then ((spec_l1Cur_street.f s0_0 bt110.2.1 bt110.2.2).bind fun bt113 => (some (bt113.1, bt113.2.1, bt102.2.2.1, bt113.2.2.1, bt113.2.2.2))) else (if bt110.1 = 1 then ((spec_l1Cur_clue.f k s0_0 bt110.2.1 bt110.2.2).bind fun bt117 => (if bt102.2.2.1.length < 5864062014805 then (some (bt102.1, bt102.2.1, (bt102.2.2.1 ++ [(⟨bt117.1, bt117.2.1, bt117.2.2.1⟩ : S37)]), bt117.2.2.2.1, bt117.2.2.2.2)) else (none))) else (if bt110.1 = 2 then (spec_l1Cur_puzzle.l0 k s0_0 bt110.2.1 bt110.2.2 bt102.1 bt102.2.1 bt102.2.2.1) else (some (bt102.1, bt102.2.1, bt102.2.2.1, bt110.2.1, bt110.2.2))))))) = some (r1, r2, r3, r4, r5) := h
 clear h
 replace H := bH H
 obtain ⟨⟨t102, t103, t104, t107, t108⟩, A20, H⟩ := H
 replace H : ((spec_l1Cur_pick.f s0_0 t107 t108 12).bind fun bt110 => (if bt110.1 = 0 then ((spec_l1Cur_street.f s0_0 bt110.2.1 bt110.2.2).bind fun bt113 => (some (bt113.1, bt113.2.1, t104, bt113.2.2.1, bt113.2.2.2))) else (if bt110.1 = 1 then ((spec_l1Cur_clue.f k s0_0 bt110.2.1 bt110.2.2).bind fun bt117 => (if t104.length < 5864062014805 then (some (t102, t103, (t104 ++ [(⟨bt117.1, bt117.2.1, bt117.2.2.1⟩ : S37)]), bt117.2.2.2.1, bt117.2.2.2.2)) else (none))) else (if bt110.1 = 2 then (spec_l1Cur_puzzle.l0 k s0_0 bt110.2.1 bt110.2.2 t102 t103 t104) else (some (t102, t103, t104, bt110.2.1, bt110.2.2)))))) = some (r1, r2, r3, r4, r5) := H
 have A2 := am A20
 clear A20
 replace H := bH H
 obtain ⟨⟨t110, t111, t112⟩, A30, H⟩ := H
 replace H : (if t110 = 0 then ((spec_l1Cur_street.f s0_0 t111 t112).bind fun bt113 => (some (bt113.1, bt113.2.1, t104, bt113.2.2.1, bt113.2.2.2))) else (if t110 = 1 then ((spec_l1Cur_clue.f k s0_0 t111 t112).bind fun bt117 => (if t104.length < 5864062014805 then (some (t102, t103, (t104 ++ [(⟨bt117.1, bt117.2.1, bt117.2.2.1⟩ : S37)]), bt117.2.2.2.1, bt117.2.2.2.2)) else (none))) else (if t110 = 2 then (spec_l1Cur_puzzle.l0 k s0_0 t111 t112 t102 t103 t104) else (some (t102, t103, t104, t111, t112))))) = some (r1, r2, r3, r4, r5) := H
 have A3 := am A30
 clear A30
 by_cases c4 : t110 = 0
 ·rw [if_pos c4] at H
  have c4b0 : (t110 == 0) = true := beq_iff_eq.mpr c4
  have c4b1 : (t110 != 0) = false := bne_eq_false_iff_eq.mpr c4
  clear c4
  replace H := bH H
  obtain ⟨⟨t113, t114, t115, t116⟩, A50, H⟩ := H
  replace H : (some (t113, t114, t104, t115, t116)) = some (r1, r2, r3, r4, r5) := H
  have A5 := am A50
  clear A50
  simp only [Option.some.injEq, Prod.mk.injEq] at H
  obtain ⟨rfl, rfl, rfl, rfl, rfl⟩ := H
  go_enter Try.func68, Try.ntmps68
  go_wp2_with (first | ((with_reducible refine gate_dst (N := 2) rfl ?_); refine uX (N := 2) (cs := #[.int .i64 0, .int .i64 0, .slice none 0 0]) (t := 33) ?_; intro gb101 hg w6 hbox hb; have BK101 := am (hbox); have GW101 := am ((by rw [hg]; exact (keep_size (w := w) (g := g) (row := none) uV) : w.heap.size ≤ gb101)); have GE101 := am ((Nat.le_trans HW0.out (by rw [hg]; exact (keep_size (w := w) (g := g) (row := none) uV) : w.heap.size ≤ gb101) : w0.heap.size ≤ gb101)); have NB0_101 := am ((by rw [hg]; exact Nat.ne_of_lt (IsS89.lt (show IsS89 w0 _ g s0_0 s0_1 s0_2 from by exact uI)) : g ≠ gb101)); have NB101_0 := am ((by rw [hg]; exact Nat.ne_of_gt (IsS89.lt (show IsS89 w0 _ g s0_0 s0_1 s0_2 from by exact uI)) : gb101 ≠ g)); replace HI0 := am (IsS89.below uI hb); replace HK := am (KeepBut.trans uV (KeepBut.of_below hb g none) (.inl rfl)); replace HB := uS hb; clear hb hbox hg) | ((with_reducible refine gate_callee (f := 85) rfl ?_); refine uGo (some 5) Try.func85 #[.pointer (some ⟨g, 0, none⟩), .int .i64 5] ?_; (with_reducible refine (spec_l1Cur_surePuzzle.calls k g s0_0 s0_1 s0_2 5 t102 t103 t104 t107 t108 w0 _ ?side1 ?side2 A2.out).mono ?_); (case side1 => exact uI); (case side2 => exact uW); rintro e w7 ⟨v105, rfl, ho0, hi, hb, hk⟩; refine ⟨_, rfl, ?_⟩; have HO106 := am (Kd.R_lower ho0 (keep_size (w := w) (g := g) (row := none) uV)); replace BK101 := am (KeepBut.blk hk (uP BK101) NB101_0.out (by simp)); replace HK := am (KeepBut.trans uV hk (.inl rfl)); replace HB := am (hb); replace HI0 := am (hi); (try clear hb); (try clear hb2); (try clear hk); (try clear hi); (try clear ho0)) | ((with_reducible refine gate_dst (N := 3) rfl ?_); refine uX (N := 3) (cs := #[.int .i64 0, .int .i64 0, .slice none 0 0]) (t := 33) ?_; intro gb109 hg w8 hbox hb; have BK109 := am (hbox); have GW109 := am ((by rw [hg]; exact (keep_size (w := w) (g := g) (row := none) uV) : w.heap.size ≤ gb109)); have GE109 := am ((Nat.le_trans HW0.out (by rw [hg]; exact (keep_size (w := w) (g := g) (row := none) uV) : w.heap.size ≤ gb109) : w0.heap.size ≤ gb109)); have NB101_109 := uL BK101 hg; have NB109_101 := uY NB101_109; have NB0_109 := am ((by rw [hg]; exact Nat.ne_of_lt (IsS89.lt (show IsS89 w0 _ g s0_0 t107 t108 from by exact uI)) : g ≠ gb109)); have NB109_0 := am ((by rw [hg]; exact Nat.ne_of_gt (IsS89.lt (show IsS89 w0 _ g s0_0 t107 t108 from by exact uI)) : gb109 ≠ g)); replace HO106 := am (Kd.R_below (uR HO106) hb); replace HI0 := am (IsS89.below uI hb); replace BK101 := uB BK101 hb; replace HK := am (KeepBut.trans uV (KeepBut.of_below hb g none) (.inl rfl)); replace HB := uS hb; clear hb hbox hg; have hnb9 := NB109_101.out; have hnc9 := NB101_109.out; have hnb10 := NB109_0.out; have hnc10 := NB0_109.out; obtain ⟨hcz11_0, hcz11_1, hcz11_2, hfz11_0, hfz11_1, hfz11_2⟩ := uZ3 BK109; obtain ⟨Ao12, co12, eo12⟩ := Kd.R_slice HO106.out; subst eo12) | ((with_reducible refine gate_callee (f := 61) rfl ?_); refine uGo (some 7) Try.func61 #[.pointer (some ⟨g, 0, none⟩), .int .i64 12] ?_; (with_reducible refine (spec_l1Cur_pick.calls g s0_0 t107 t108 12 t110 t111 t112 w0 _ ?side1 ?side2 A3.out).mono ?_); (case side1 => exact uI); (case side2 => exact uW); rintro e w13 ⟨rfl, hi, hb, hk⟩; refine ⟨_, rfl, ?_⟩; replace BK101 := am (KeepBut.blk hk (g' := gb101) (o := .cells #[.int .i64 0, .int .i64 0, .slice none 0 0] 33 (0, 0)) (by refine blk_far ?_ NB101_109.out _; refine blk_far ?_ NB101_109.out _; refine blk_far ?_ NB101_109.out _; exact (uP BK101)) NB101_0.out (by simp)); replace HO106 := am (Kd.R_mono (Kd.R_keep (IsS89.apart (show IsS89 w0 _ g s0_0 t107 t108 from by exact uI) (by (with_reducible repeat (first | apply rA | apply rN | apply rD)); exact (Kd.R_mono (Kd.R_far (p := ⟨gb109, 2, none⟩) (Kd.R_far (p := ⟨gb109, 1, none⟩) (Kd.R_far (p := ⟨gb109, 0, none⟩) (Kd.R_types HO106.out BK109.out (by decide)) (fun _ hk => hk.2) (.int .i64 t102)) (fun _ hk => hk.2) (.int .i64 t103)) (fun _ hk => hk.2) (.slice Ao12 t104.length co12)) (fun _ h_ => h_.1))) (by decide)) hk (fun _ h => h.2)) (fun _ h => h.1)); replace BK109 := am (KeepBut.blk hk (g' := gb109) (o := .cells #[.int .i64 t102, .int .i64 t103, .slice Ao12 t104.length co12] 33 (0, 0)) (by refine blk_put (cs := #[.int .i64 t102, .int .i64 t103, .slice none 0 0]) ?_ 2 _ rfl; refine blk_put (cs := #[.int .i64 t102, .int .i64 0, .slice none 0 0]) ?_ 1 _ rfl; refine blk_put (cs := #[.int .i64 0, .int .i64 0, .slice none 0 0]) ?_ 0 _ rfl; exact (uP BK109)) NB109_0.out (by simp)); replace HK := am (KeepBut.trans uV hk (.inl rfl)); replace HB := am (hb); replace HI0 := am (hi); (try clear hb); (try clear hb2); (try clear hk); (try clear hi)) | ((with_reducible refine gate_callee (f := 58) rfl ?_); refine uGo (some 11) Try.func58 #[.pointer (some ⟨g, 0, none⟩)] ?_; (with_reducible refine (spec_l1Cur_street.calls g s0_0 t111 t112 t113 t114 t115 t116 w0 _ ?side1 ?side2 A5.out).mono ?_); (case side1 => exact uI); (case side2 => exact uW); rintro e w14 ⟨rfl, hi, hb, hk⟩; refine ⟨_, rfl, ?_⟩; replace BK101 := am (KeepBut.blk hk (uP BK101) NB101_0.out (by simp)); replace HO106 := am (Kd.R_mono (Kd.R_keep (IsS89.apart (show IsS89 w0 _ g s0_0 t111 t112 from by exact uI) (uR HO106) (by decide)) hk (fun _ h => h.2)) (fun _ h => h.1)); replace BK109 := am (KeepBut.blk hk (uP BK109) NB109_0.out (by simp)); replace HK := am (KeepBut.trans uV hk (.inl rfl)); replace HB := am (hb); replace HI0 := am (hi); (try clear hb); (try clear hb2); (try clear hk); (try clear hi); obtain ⟨hcz15_0, hcz15_1, hcz15_2, hfz15_0, hfz15_1, hfz15_2⟩ := uZ3 BK109; have hnb16 := NB101_0.out; have hnc16 := NB0_101.out; obtain ⟨hcz17_0, hcz17_1, hcz17_2, hfz17_0, hfz17_1, hfz17_2⟩ := uZ3 BK101))
  refine bodyPost_ret (results_cell_row rfl _ _ gb101 33 #[.int .i64 t113, .int .i64 t114, .slice Ao12 t104.length co12] (0, 0) _ rfl (by refine blk_put (cs := #[.int .i64 t113, .int .i64 t114, .slice none 0 0]) ?_ 2 _ rfl; refine blk_put (cs := #[.int .i64 t113, .int .i64 0, .slice none 0 0]) ?_ 1 _ rfl; refine blk_put (cs := #[.int .i64 0, .int .i64 0, .slice none 0 0]) ?_ 0 _ rfl; refine blk_far ?_ NB101_109.out _; refine blk_far ?_ NB101_109.out _; exact (uP BK101)) Try.underlying33 rfl (by kernel_rfl)) rfl ?_
  exact ⟨_, uA, by (with_reducible repeat (first | apply rA | apply rN | apply rD)); exact Kd.R_mono (Kd.R_far (p := ⟨gb101, 2, none⟩) (Kd.R_far (p := ⟨gb101, 1, none⟩) (Kd.R_far (p := ⟨gb101, 0, none⟩) (Kd.R_far (p := ⟨gb109, 1, none⟩) (Kd.R_far (p := ⟨gb109, 0, none⟩) (Kd.R_types (Kd.R_types HO106.out BK109.out (by decide)) BK101.out (by decide)) (fun _ hk => hk.1.2) (.int .i64 t113)) (fun _ hk => hk.1.2) (.int .i64 t114)) (fun _ hk => hk.2) (.int .i64 t113)) (fun _ hk => hk.2) (.int .i64 t114)) (fun _ hk => hk.2) (.slice Ao12 t104.length co12)) (fun _ hk => trivial), by exact uI, by exact uW, by exact uV⟩
 ·rw [if_neg c4] at H
  have c4b0 : (t110 == 0) = false := beq_eq_false_iff_ne.mpr c4
  have c4b1 : (t110 != 0) = true := bne_iff_ne.mpr c4
  by_cases c18 : t110 = 1
  ·rw [if_pos c18] at H
   have c18b0 : (t110 == 1) = true := beq_iff_eq.mpr c18
   have c18b1 : (t110 != 1) = false := bne_eq_false_iff_eq.mpr c18
   clear c18
   replace H := bH H
   obtain ⟨⟨t117, t118, t119, t120, t121⟩, A190, H⟩ := H
   replace H : (if t104.length < 5864062014805 then (some (t102, t103, (t104 ++ [(⟨t117, t118, t119⟩ : S37)]), t120, t121)) else (none)) = some (r1, r2, r3, r4, r5) := H
   have A19 := am A190
   clear A190
   by_cases c20 : t104.length < 5864062014805
   ·rw [if_pos c20] at H
    have LMc20 := am c20
    clear c20
    obtain ⟨y122, hy122⟩ : ∃ y_ : List (S37), y_ = (t104 ++ [(⟨t117, t118, t119⟩ : S37)]) := ⟨_, rfl⟩
    replace H : (some (t102, t103, y122, t120, t121)) = some (r1, r2, r3, r4, r5) := by first | (rw [hy122]; with_reducible exact H) | (have H2_ := (Option.bind_some _ _).symm.trans H; rw [hy122]; with_reducible exact H2_) | (have H2_ := (Option.bind_some _ _).symm.trans H; with_reducible exact H2_) | with_reducible exact H | (rw [hy122]; exact H) | exact H
    have Ny122 := am hy122
    clear hy122
    simp only [Option.some.injEq, Prod.mk.injEq] at H
    obtain ⟨rfl, rfl, rfl, rfl, rfl⟩ := H
    go_enter Try.func68, Try.ntmps68
    try go_wp2_with (first | ((with_reducible refine gate_dst (N := 2) rfl ?_); refine uX (N := 2) (cs := #[.int .i64 0, .int .i64 0, .slice none 0 0]) (t := 33) ?_; intro gb101 hg w21 hbox hb; have BK101 := am (hbox); have GW101 := am ((by rw [hg]; exact (keep_size (w := w) (g := g) (row := none) uV) : w.heap.size ≤ gb101)); have GE101 := am ((Nat.le_trans HW0.out (by rw [hg]; exact (keep_size (w := w) (g := g) (row := none) uV) : w.heap.size ≤ gb101) : w0.heap.size ≤ gb101)); have NB0_101 := am ((by rw [hg]; exact Nat.ne_of_lt (IsS89.lt (show IsS89 w0 _ g s0_0 s0_1 s0_2 from by exact uI)) : g ≠ gb101)); have NB101_0 := am ((by rw [hg]; exact Nat.ne_of_gt (IsS89.lt (show IsS89 w0 _ g s0_0 s0_1 s0_2 from by exact uI)) : gb101 ≠ g)); replace HI0 := am (IsS89.below uI hb); replace HK := am (KeepBut.trans uV (KeepBut.of_below hb g none) (.inl rfl)); replace HB := uS hb; clear hb hbox hg) | ((with_reducible refine gate_callee (f := 85) rfl ?_); refine uGo (some 5) Try.func85 #[.pointer (some ⟨g, 0, none⟩), .int .i64 5] ?_; (with_reducible refine (spec_l1Cur_surePuzzle.calls k g s0_0 s0_1 s0_2 5 t102 t103 t104 t107 t108 w0 _ ?side1 ?side2 A2.out).mono ?_); (case side1 => exact uI); (case side2 => exact uW); rintro e w22 ⟨v105, rfl, ho0, hi, hb, hk⟩; refine ⟨_, rfl, ?_⟩; have HO106 := am (Kd.R_lower ho0 (keep_size (w := w) (g := g) (row := none) uV)); replace BK101 := am (KeepBut.blk hk (uP BK101) NB101_0.out (by simp)); replace HK := am (KeepBut.trans uV hk (.inl rfl)); replace HB := am (hb); replace HI0 := am (hi); (try clear hb); (try clear hb2); (try clear hk); (try clear hi); (try clear ho0)) | ((with_reducible refine gate_dst (N := 3) rfl ?_); refine uX (N := 3) (cs := #[.int .i64 0, .int .i64 0, .slice none 0 0]) (t := 33) ?_; intro gb109 hg w23 hbox hb; have BK109 := am (hbox); have GW109 := am ((by rw [hg]; exact (keep_size (w := w) (g := g) (row := none) uV) : w.heap.size ≤ gb109)); have GE109 := am ((Nat.le_trans HW0.out (by rw [hg]; exact (keep_size (w := w) (g := g) (row := none) uV) : w.heap.size ≤ gb109) : w0.heap.size ≤ gb109)); have NB101_109 := uL BK101 hg; have NB109_101 := uY NB101_109; have NB0_109 := am ((by rw [hg]; exact Nat.ne_of_lt (IsS89.lt (show IsS89 w0 _ g s0_0 t107 t108 from by exact uI)) : g ≠ gb109)); have NB109_0 := am ((by rw [hg]; exact Nat.ne_of_gt (IsS89.lt (show IsS89 w0 _ g s0_0 t107 t108 from by exact uI)) : gb109 ≠ g)); replace HO106 := am (Kd.R_below (uR HO106) hb); replace HI0 := am (IsS89.below uI hb); replace BK101 := uB BK101 hb; replace HK := am (KeepBut.trans uV (KeepBut.of_below hb g none) (.inl rfl)); replace HB := uS hb; clear hb hbox hg; have hnb24 := NB109_101.out; have hnc24 := NB101_109.out; have hnb25 := NB109_0.out; have hnc25 := NB0_109.out; obtain ⟨hcz26_0, hcz26_1, hcz26_2, hfz26_0, hfz26_1, hfz26_2⟩ := uZ3 BK109; obtain ⟨Ao27, co27, eo27⟩ := Kd.R_slice HO106.out; subst eo27) | ((with_reducible refine gate_callee (f := 61) rfl ?_); refine uGo (some 7) Try.func61 #[.pointer (some ⟨g, 0, none⟩), .int .i64 12] ?_; (with_reducible refine (spec_l1Cur_pick.calls g s0_0 t107 t108 12 t110 t111 t112 w0 _ ?side1 ?side2 A3.out).mono ?_); (case side1 => exact uI); (case side2 => exact uW); rintro e w28 ⟨rfl, hi, hb, hk⟩; refine ⟨_, rfl, ?_⟩; replace BK101 := am (KeepBut.blk hk (g' := gb101) (o := .cells #[.int .i64 0, .int .i64 0, .slice none 0 0] 33 (0, 0)) (by refine blk_far ?_ NB101_109.out _; refine blk_far ?_ NB101_109.out _; refine blk_far ?_ NB101_109.out _; exact (uP BK101)) NB101_0.out (by simp)); replace HO106 := am (Kd.R_mono (Kd.R_keep (IsS89.apart (show IsS89 w0 _ g s0_0 t107 t108 from by exact uI) (by (with_reducible repeat (first | apply rA | apply rN | apply rD)); exact (Kd.R_mono (Kd.R_far (p := ⟨gb109, 2, none⟩) (Kd.R_far (p := ⟨gb109, 1, none⟩) (Kd.R_far (p := ⟨gb109, 0, none⟩) (Kd.R_types HO106.out BK109.out (by decide)) (fun _ hk => hk.2) (.int .i64 t102)) (fun _ hk => hk.2) (.int .i64 t103)) (fun _ hk => hk.2) (.slice Ao27 t104.length co27)) (fun _ h_ => h_.1))) (by decide)) hk (fun _ h => h.2)) (fun _ h => h.1)); replace BK109 := am (KeepBut.blk hk (g' := gb109) (o := .cells #[.int .i64 t102, .int .i64 t103, .slice Ao27 t104.length co27] 33 (0, 0)) (by refine blk_put (cs := #[.int .i64 t102, .int .i64 t103, .slice none 0 0]) ?_ 2 _ rfl; refine blk_put (cs := #[.int .i64 t102, .int .i64 0, .slice none 0 0]) ?_ 1 _ rfl; refine blk_put (cs := #[.int .i64 0, .int .i64 0, .slice none 0 0]) ?_ 0 _ rfl; exact (uP BK109)) NB109_0.out (by simp)); replace HK := am (KeepBut.trans uV hk (.inl rfl)); replace HB := am (hb); replace HI0 := am (hi); (try clear hb); (try clear hb2); (try clear hk); (try clear hi)))
    replace HO106 := am (Kd.R_drew HO106.out)
    replace BK101 := am (blk_drew BK101.out)
    replace BK109 := am (blk_drew BK109.out)
    replace HI0 := am (IsS89.drew HI0.out)
    replace HK := am (keep_drew HK.out)
    replace HB := am (below_drew1 HB.out)
    refine start_ (n := 8) (S := fun w' => w'.cell? ⟨gb109, 0, none⟩ = some (.int .i64 t102) ∧ w'.cell? ⟨gb109, 1, none⟩ = some (.int .i64 t103) ∧ w'.cell? ⟨gb109, 2, none⟩ = some (.slice Ao27 t104.length co27)) (ds := [7]) #[false, false, false, false, false, false, false, false] (by kernel_rfl) rfl rfl ⟨uT BK109 0, uT BK109 1, uT BK109 2⟩ (fun hHeld => ?_); refine with_tabW spec_l1Cur_puzzle.tab6 spec_l1Cur_puzzle.bits6 (fun HT_ HW_ => ?_)
    generalize w28.drew = w29 at HO106 BK101 BK109 HI0 HK HB hHeld ⊢
    refine uPu (i := 0) (N := some 15) #[true, false, false, false, false, false, false, false] ?_
    refine uPu (i := 2) (N := some 17) #[true, false, true, false, false, false, false, false] ?_
    refine uTk (i := 1) (N := some 16) #[true, true, true, false, false, false, false, false] hHeld ?_
    refine uOn (i := 3) (N := some 18) #[true, true, true, true, false, false, false, false] (fun K hK => ?_)
    refine uGs Try.func73 #[.pointer (some ⟨g, 0, none⟩)] ?_
    with_reducible refine (spec_l1Cur_clue.calls k g s0_0 t111 t112 t117 t118 t119 t120 t121 w0 _ ?side1 ?side2 A19.out).mono ?_
    (case side1 => exact uI)
    (case side2 => exact uW)
    rintro e w30 ⟨rfl, hi, hb, hk⟩
    refine ⟨_, rfl, ?_⟩
    replace BK101 := am (KeepBut.blk hk (uP BK101) NB101_0.out (by simp))
    replace HO106 := am (Kd.R_mono (Kd.R_keep (IsS89.apart (show IsS89 w0 _ g s0_0 t111 t112 from by exact uI) (uR HO106) (by decide)) hk (fun _ h => h.2)) (fun _ h => h.1))
    replace BK109 := am (KeepBut.blk hk (uP BK109) NB109_0.out (by simp))
    replace HK := am (KeepBut.trans uV hk (.inl rfl))
    replace HB := am (hb)
    replace HI0 := am (hi)
    (try clear hb)
    (try clear hb2)
    (try clear hk)
    (try clear hi)
    refine hK.out _ _ ⟨uT BK109 0, uT BK109 1, uT BK109 2⟩ (fun hHeld => ?_)
    clear hK K
    refine uNo (some 18) ?_
    refine uOn (i := 4) (N := some 19) #[true, true, true, true, true, false, false, false] (fun K hK => ?_)
    refine value_ (w1 := ?_) (v := ?_) (by rfl) rfl ?_ ?_
    rotate_left 2
    ·go_simp
     constructor
     ·rfl
     ·rfl
    refine hK.out _ _ ⟨(blk_cell (blk_alloc BK109.out _) 0).trans rfl, (blk_cell (blk_alloc BK109.out _) 1).trans rfl, (blk_cell (blk_alloc BK109.out _) 2).trans rfl⟩ (fun hHeld => ?_)
    clear hK K
    refine uNo (some 19) ?_
    refine uOn (i := 5) (N := some 20) #[true, true, true, true, true, true, false, false] (fun K hK => ?_)
    refine Kd.R_append_step k37 w.heap.size (by rfl) (.tmp 16) (.tmp 19) 31 37 (.agg #[(.int .i64 0), (.int .i64 0), (.int .i64 0)]) 24 rfl Try.underlying31 info37 rfl (by decide) (by omega) (.slice Ao27 t104.length co27) t104 (⟨t117, t118, t119⟩ : S37) [.int .i64 t117, .int .i64 t118, .int .i64 t119] (fun _ => True) (fun _ => False) rfl rfl ?aP (fun _ hk => hk.elim) ?aF ?aO (Below.refl _ _) ?aS ?aL ?_
    (case aP => exact k37_mkM _ _ _ (⟨t117, t118, t119⟩ : S37))
    (case aF => exact (fun _ _ => trivial))
    (case aO => exact (uR HO106))
    (case aS => exact (keep_size (w := w) (g := g) (row := none) uV))
    (case aL => have := LMc20.out; omega)
    intro v123 w31 ho hb hg hat
    rw [← Ny122.out] at ho
    have HO124 := am (ho)
    replace HI0 := am (IsS89.grown uI hg (IsS89.own_ne HI0.out HO106.out (by decide)))
    replace BK101 := am (blk_grown (uP BK101) hg (Kd.R_ne HO106.out BK101.out (by decide)))
    replace BK109 := am (blk_grown (uP BK109) hg (Kd.R_ne HO106.out BK109.out (by decide)))
    replace HB := am (below_weaken uW HL.out hb)
    replace HK := am (KeepBut.trans uV (KeepBut.of_grown hg g) (Kd.R_base2 HO106.out))
    clear HO106
    clear ho hb hg hat
    obtain ⟨Ao32, co32, eo32⟩ := Kd.R_slice HO124.out
    (first | subst eo32 | (injection eo32 with f1_ f2_ f3_; have f4_ := f1_.symm; have f5_ := f3_.symm; clear f1_ f2_ f3_; subst f4_; subst f5_))
    refine hK.out _ _ ⟨uT BK109 0, uT BK109 1, uT BK109 2⟩ (fun hHeld => ?_)
    clear hK K
    refine uNo (some 20) ?_
    refine uPu (i := 6) (N := some 21) #[true, true, true, true, true, true, true, false] ?_
    refine last_ (i := 7) (N := none) #[true, true, true, true, true, true, true, true] rfl rfl (one_of HT_.out (by kernel_rfl)) (by decide) (fun K hK => ?_)
    have hs33 : w31.cell? ⟨gb109, 2, none⟩ = some (.slice Ao27 t104.length co27) := uT BK109 2
    have hfs33 := blk_frozen BK109.out 2
    have hns33_0 := NB101_109.out
    have hms33_0 := NB109_101.out
    refine skip_ (w1 := ?_) (by rfl) rfl ?_ ?_
    rotate_left
    ·go_simp
     rfl
    refine hK.out _ _ ?_
    clear hK K
    refine done_ (done_of HT_.out (by kernel_rfl)) ?_
    obtain ⟨hcz34_0, hcz34_1, hcz34_2, hfz34_0, hfz34_1, hfz34_2⟩ := uZ3 BK109
    have hnb35 := NB101_0.out
    have hnc35 := NB0_101.out
    obtain ⟨hcz36_0, hcz36_1, hcz36_2, hfz36_0, hfz36_1, hfz36_2⟩ := uZ3 BK101
    try go_wp2
    refine bodyPost_ret (results_cell_row rfl _ _ gb101 33 #[.int .i64 t102, .int .i64 t103, .slice Ao32 y122.length co32] (0, 0) _ rfl (by refine blk_put (cs := #[.int .i64 t102, .int .i64 t103, .slice none 0 0]) ?_ 2 _ rfl; refine blk_put (cs := #[.int .i64 t102, .int .i64 0, .slice none 0 0]) ?_ 1 _ rfl; refine blk_put (cs := #[.int .i64 0, .int .i64 0, .slice none 0 0]) ?_ 0 _ rfl; refine blk_far ?_ NB101_109.out _; exact (uP BK101)) Try.underlying33 rfl (by kernel_rfl)) rfl ?_
    exact ⟨_, uA, by (with_reducible repeat (first | apply rA | apply rN | apply rD)); exact Kd.R_mono (Kd.R_far (p := ⟨gb101, 2, none⟩) (Kd.R_far (p := ⟨gb101, 1, none⟩) (Kd.R_far (p := ⟨gb101, 0, none⟩) (Kd.R_far (p := ⟨gb109, 2, none⟩) (Kd.R_types (Kd.R_types HO124.out BK109.out (by decide)) BK101.out (by decide)) (fun _ hk => hk.1.2) (.slice Ao32 y122.length co32)) (fun _ hk => hk.2) (.int .i64 t102)) (fun _ hk => hk.2) (.int .i64 t103)) (fun _ hk => hk.2) (.slice Ao32 y122.length co32)) (fun _ hk => trivial), by exact uI, by exact uW, by exact uV⟩
   ·rw [if_neg c20] at H
    exact absurd H (by simp)
  ·rw [if_neg c18] at H
   have c18b0 : (t110 == 1) = false := beq_eq_false_iff_ne.mpr c18
   have c18b1 : (t110 != 1) = true := bne_iff_ne.mpr c18
   by_cases c37 : t110 = 2
   ·rw [if_pos c37] at H
    have c37b0 : (t110 == 2) = true := beq_iff_eq.mpr c37
    have c37b1 : (t110 != 2) = false := bne_eq_false_iff_eq.mpr c37
    clear c37
    have H' := am H
    clear H
    go_enter Try.func68, Try.ntmps68
    go_wp2_with (first | ((with_reducible refine gate_dst (N := 2) rfl ?_); refine uX (N := 2) (cs := #[.int .i64 0, .int .i64 0, .slice none 0 0]) (t := 33) ?_; intro gb101 hg w38 hbox hb; have BK101 := am (hbox); have GW101 := am ((by rw [hg]; exact (keep_size (w := w) (g := g) (row := none) uV) : w.heap.size ≤ gb101)); have GE101 := am ((Nat.le_trans HW0.out (by rw [hg]; exact (keep_size (w := w) (g := g) (row := none) uV) : w.heap.size ≤ gb101) : w0.heap.size ≤ gb101)); have NB0_101 := am ((by rw [hg]; exact Nat.ne_of_lt (IsS89.lt (show IsS89 w0 _ g s0_0 s0_1 s0_2 from by exact uI)) : g ≠ gb101)); have NB101_0 := am ((by rw [hg]; exact Nat.ne_of_gt (IsS89.lt (show IsS89 w0 _ g s0_0 s0_1 s0_2 from by exact uI)) : gb101 ≠ g)); replace HI0 := am (IsS89.below uI hb); replace HK := am (KeepBut.trans uV (KeepBut.of_below hb g none) (.inl rfl)); replace HB := uS hb; clear hb hbox hg) | ((with_reducible refine gate_callee (f := 85) rfl ?_); refine uGo (some 5) Try.func85 #[.pointer (some ⟨g, 0, none⟩), .int .i64 5] ?_; (with_reducible refine (spec_l1Cur_surePuzzle.calls k g s0_0 s0_1 s0_2 5 t102 t103 t104 t107 t108 w0 _ ?side1 ?side2 A2.out).mono ?_); (case side1 => exact uI); (case side2 => exact uW); rintro e w39 ⟨v105, rfl, ho0, hi, hb, hk⟩; refine ⟨_, rfl, ?_⟩; have HO106 := am (Kd.R_lower ho0 (keep_size (w := w) (g := g) (row := none) uV)); replace BK101 := am (KeepBut.blk hk (uP BK101) NB101_0.out (by simp)); replace HK := am (KeepBut.trans uV hk (.inl rfl)); replace HB := am (hb); replace HI0 := am (hi); (try clear hb); (try clear hb2); (try clear hk); (try clear hi); (try clear ho0)) | ((with_reducible refine gate_dst (N := 3) rfl ?_); refine uX (N := 3) (cs := #[.int .i64 0, .int .i64 0, .slice none 0 0]) (t := 33) ?_; intro gb109 hg w40 hbox hb; have BK109 := am (hbox); have GW109 := am ((by rw [hg]; exact (keep_size (w := w) (g := g) (row := none) uV) : w.heap.size ≤ gb109)); have GE109 := am ((Nat.le_trans HW0.out (by rw [hg]; exact (keep_size (w := w) (g := g) (row := none) uV) : w.heap.size ≤ gb109) : w0.heap.size ≤ gb109)); have NB101_109 := uL BK101 hg; have NB109_101 := uY NB101_109; have NB0_109 := am ((by rw [hg]; exact Nat.ne_of_lt (IsS89.lt (show IsS89 w0 _ g s0_0 t107 t108 from by exact uI)) : g ≠ gb109)); have NB109_0 := am ((by rw [hg]; exact Nat.ne_of_gt (IsS89.lt (show IsS89 w0 _ g s0_0 t107 t108 from by exact uI)) : gb109 ≠ g)); replace HO106 := am (Kd.R_below (uR HO106) hb); replace HI0 := am (IsS89.below uI hb); replace BK101 := uB BK101 hb; replace HK := am (KeepBut.trans uV (KeepBut.of_below hb g none) (.inl rfl)); replace HB := uS hb; clear hb hbox hg; have hnb41 := NB109_101.out; have hnc41 := NB101_109.out; have hnb42 := NB109_0.out; have hnc42 := NB0_109.out; obtain ⟨hcz43_0, hcz43_1, hcz43_2, hfz43_0, hfz43_1, hfz43_2⟩ := uZ3 BK109; obtain ⟨Ao44, co44, eo44⟩ := Kd.R_slice HO106.out; subst eo44) | ((with_reducible refine gate_callee (f := 61) rfl ?_); refine uGo (some 7) Try.func61 #[.pointer (some ⟨g, 0, none⟩), .int .i64 12] ?_; (with_reducible refine (spec_l1Cur_pick.calls g s0_0 t107 t108 12 t110 t111 t112 w0 _ ?side1 ?side2 A3.out).mono ?_); (case side1 => exact uI); (case side2 => exact uW); rintro e w45 ⟨rfl, hi, hb, hk⟩; refine ⟨_, rfl, ?_⟩; replace BK101 := am (KeepBut.blk hk (g' := gb101) (o := .cells #[.int .i64 0, .int .i64 0, .slice none 0 0] 33 (0, 0)) (by refine blk_far ?_ NB101_109.out _; refine blk_far ?_ NB101_109.out _; refine blk_far ?_ NB101_109.out _; exact (uP BK101)) NB101_0.out (by simp)); replace HO106 := am (Kd.R_mono (Kd.R_keep (IsS89.apart (show IsS89 w0 _ g s0_0 t107 t108 from by exact uI) (by (with_reducible repeat (first | apply rA | apply rN | apply rD)); exact (Kd.R_mono (Kd.R_far (p := ⟨gb109, 2, none⟩) (Kd.R_far (p := ⟨gb109, 1, none⟩) (Kd.R_far (p := ⟨gb109, 0, none⟩) (Kd.R_types HO106.out BK109.out (by decide)) (fun _ hk => hk.2) (.int .i64 t102)) (fun _ hk => hk.2) (.int .i64 t103)) (fun _ hk => hk.2) (.slice Ao44 t104.length co44)) (fun _ h_ => h_.1))) (by decide)) hk (fun _ h => h.2)) (fun _ h => h.1)); replace BK109 := am (KeepBut.blk hk (g' := gb109) (o := .cells #[.int .i64 t102, .int .i64 t103, .slice Ao44 t104.length co44] 33 (0, 0)) (by refine blk_put (cs := #[.int .i64 t102, .int .i64 t103, .slice none 0 0]) ?_ 2 _ rfl; refine blk_put (cs := #[.int .i64 t102, .int .i64 0, .slice none 0 0]) ?_ 1 _ rfl; refine blk_put (cs := #[.int .i64 0, .int .i64 0, .slice none 0 0]) ?_ 0 _ rfl; exact (uP BK109)) NB109_0.out (by simp)); replace HK := am (KeepBut.trans uV hk (.inl rfl)); replace HB := am (hb); replace HI0 := am (hi); (try clear hb); (try clear hb2); (try clear hk); (try clear hi)))
    go_loopg [] k (fun kq w' => ∃ (x1001_1 : Int) (x1002_1 : Int) (x110002_1 : List (S37)) (u110002 : Value), Aside0 (spec_l1Cur_puzzle.l0 kq s0_0 x1001_1 x1002_1 t102 t103 x110002_1 = some (r1, r2, r3, r4, r5)) ∧ Aside0 (kq ≤ k) ∧ Aside0 (Kd.R k37 37 w' w.heap.size (fun _ => True) u110002 x110002_1) ∧ Aside0 (w'.heap[gb101]? = some (.cells #[.int .i64 0, .int .i64 0, (.slice none 0 0)] 33 (0, 0))) ∧ Aside0 (w'.heap[gb109]? = some (.cells #[.int .i64 t102, .int .i64 t103, u110002] 33 (0, 0))) ∧ Aside0 (IsS89 w0 w' g s0_0 x1001_1 x1002_1) ∧ Aside0 (KeepBut w w' g none) ∧ Aside0 (Below w0.heap.size w0 w'))
    case atStart => exact ⟨(t111), (t112), (t104), (.slice Ao44 t104.length co44), H', ⟨Nat.le_refl _⟩, ⟨by (with_reducible repeat (first | apply rA | apply rN | apply rD)); exact HO106.out⟩, ⟨by (with_reducible repeat (first | refine bN ?_ _ | refine bD ?_ | refine bA ?_ _)); exact BK101.out⟩, ⟨by (with_reducible repeat (first | refine bN ?_ _ | refine bD ?_ | refine bA ?_ _)); exact BK109.out⟩, ⟨by exact uI⟩, ⟨by exact uV⟩, ⟨by exact uW⟩⟩
    case round =>
     clear H'
     try clear c1
     try clear c2
     try clear p2
     try clear c3
     try clear c4
     try clear c4b0
     try clear c4b1
     try clear c5
     try clear c6
     try clear c7
     try clear c8
     try clear c9
     try clear c10
     try clear c16
     try clear c18
     try clear c18b0
     try clear c18b1
     try clear c20
     try clear c24
     try clear c25
     try clear c35
     try clear c37
     try clear c37b0
     try clear c37b1
     try clear c41
     try clear c42
     try clear hcz11_0
     try clear hcz11_1
     try clear hcz11_2
     try clear hcz15_0
     try clear hcz15_1
     try clear hcz15_2
     try clear hcz17_0
     try clear hcz17_1
     try clear hcz17_2
     try clear hcz26_0
     try clear hcz26_1
     try clear hcz26_2
     try clear hcz34_0
     try clear hcz34_1
     try clear hcz34_2
     try clear hcz36_0
     try clear hcz36_1
     try clear hcz36_2
     try clear hcz43_0
     try clear hcz43_1
     try clear hcz43_2
     try clear hfz11_0
     try clear hfz11_1
     try clear hfz11_2
     try clear hfz15_0
     try clear hfz15_1
     try clear hfz15_2
     try clear hfz17_0
     try clear hfz17_1
     try clear hfz17_2
     try clear hfz26_0
     try clear hfz26_1
     try clear hfz26_2
     try clear hfz34_0
     try clear hfz34_1
     try clear hfz34_2
     try clear hfz36_0
     try clear hfz36_1
     try clear hfz36_2
     try clear hfz43_0
     try clear hfz43_1
     try clear hfz43_2
     obtain ⟨x1001_1, x1002_1, x110002_1, u110002, HA, HK1, HO_110002, BK101, BK109, HI0, HK, HB⟩ := hrel
     cases gk with
     | zero => exact absurd HA.out (by simp [spec_l1Cur_puzzle.l0])
     | succ k1 =>
      have H := HA.out
      clear HA
      simp only [spec_l1Cur_puzzle.l0] at H
      replace H := bH H
      obtain ⟨⟨t125, t126, t127⟩, A460, H⟩ := H
      replace H : (if (x110002_1.length : Int) < (wrap64 (6 + t125)) then (if x110002_1.length < 5864062014805 then (spec_l1Cur_puzzle.l0 k1 s0_0 t126 t127 t102 t103 (x110002_1 ++ [(⟨3, 0, 5⟩ : S37)])) else (none)) else (some (t102, t103, x110002_1, t126, t127))) = some (r1, r2, r3, r4, r5) := H
      have A46 := am A460
      clear A460
      by_cases c47 : (x110002_1.length : Int) < (wrap64 (6 + t125))
      ·rw [if_pos c47] at H
       have c47b0 : decide ((x110002_1.length : Int) < (wrap64 (6 + t125))) = true := decide_eq_true c47
       clear c47
       by_cases c48 : x110002_1.length < 5864062014805
       ·rw [if_pos c48] at H
        have LMc48 := am c48
        clear c48
        obtain ⟨y128, hy128⟩ : ∃ y_ : List (S37), y_ = (x110002_1 ++ [(⟨3, 0, 5⟩ : S37)]) := ⟨_, rfl⟩
        replace H : (spec_l1Cur_puzzle.l0 k1 s0_0 t126 t127 t102 t103 y128) = some (r1, r2, r3, r4, r5) := by first | (rw [hy128]; with_reducible exact H) | (have H2_ := (Option.bind_some _ _).symm.trans H; rw [hy128]; with_reducible exact H2_) | (have H2_ := (Option.bind_some _ _).symm.trans H; with_reducible exact H2_) | with_reducible exact H | (rw [hy128]; exact H) | exact H
        have Ny128 := am hy128
        clear hy128
        have H' := am H
        clear H
        try go_wp2
        replace HO_110002 := am (Kd.R_drew HO_110002.out)
        replace BK101 := am (blk_drew BK101.out)
        replace BK109 := am (blk_drew BK109.out)
        replace HI0 := am (IsS89.drew HI0.out)
        replace HK := am (keep_drew HK.out)
        replace HB := am (below_drew1 HB.out)
        obtain ⟨Ao50, co50, eo50⟩ := Kd.R_slice HO_110002.out
        (first | subst eo50 | (injection eo50 with f1_ f2_ f3_; have f4_ := f1_.symm; have f5_ := f3_.symm; clear f1_ f2_ f3_; subst f4_; subst f5_))
        refine start_ (n := 7) (S := fun w' => w'.cell? ⟨gb109, 0, none⟩ = some (.int .i64 t102) ∧ w'.cell? ⟨gb109, 1, none⟩ = some (.int .i64 t103) ∧ w'.cell? ⟨gb109, 2, none⟩ = some (.slice Ao50 x110002_1.length co50)) (ds := []) #[false, false, false, false, false, false, false] (by kernel_rfl) rfl rfl ⟨uT BK109 0, uT BK109 1, uT BK109 2⟩ (fun hHeld => ?_)
        generalize wr.drew = w49 at HO_110002 BK101 BK109 HI0 HK HB hHeld ⊢
        refine pure_ (i := 0) (N := some 24) (v := ?_) (a' := ?_) #[true, false, false, false, false, false, false] rfl rfl (by kernel_rfl) (fun _ _ _ h => h) (Or.inl ⟨by rfl, ?_⟩) ?_ ?_
        rotate_left
        ·intro w'
         go_simp
         with_reducible rfl
        rotate_left
        ·simp only [Act.put, List.setIfInBounds_toArray, List.set_cons_zero, List.set_cons_succ, i64_w, i32_w]
         rfl
        refine pure_ (i := 3) (N := some 27) (v := ?_) (a' := ?_) #[true, false, false, true, false, false, false] rfl rfl (by kernel_rfl) (fun _ _ _ h => h) (Or.inl ⟨by rfl, ?_⟩) ?_ ?_
        rotate_left
        ·intro w'
         go_simp
         with_reducible rfl
        rotate_left
        ·simp only [Act.put, List.setIfInBounds_toArray, List.set_cons_zero, List.set_cons_succ, i64_w, i32_w]
         rfl
        refine take_ (i := 1) (N := some 25) (v := ?_) (a' := ?_) #[true, true, false, true, false, false, false] rfl rfl (by kernel_rfl) (fun _ _ _ h => h) (Or.inl ⟨by rfl, ?_⟩) hHeld ?_ ?_
        rotate_left
        ·rintro w' ⟨s0, s1, s2⟩
         go_simp
         with_reducible rfl
        rotate_left
        ·simp only [Act.put, List.setIfInBounds_toArray, List.set_cons_zero, List.set_cons_succ, i64_w, i32_w]
         rfl
        refine pure_ (i := 2) (N := some 26) (v := ?_) (a' := ?_) #[true, true, true, true, false, false, false] rfl rfl (by kernel_rfl) (fun _ _ _ h => h) (Or.inl ⟨by rfl, ?_⟩) ?_ ?_
        rotate_left
        ·intro w'
         go_simp
         with_reducible rfl
        rotate_left
        ·simp only [Act.put, List.setIfInBounds_toArray, List.set_cons_zero, List.set_cons_succ, i64_w, i32_w]
         rfl
        refine one_ (i := 4) (N := some 28) #[true, true, true, true, true, false, false] rfl rfl (by kernel_rfl) (by decide) (fun K hK => ?_)
        refine uGs Try.func61 #[.pointer (some ⟨g, 0, none⟩), .int .i64 2] ?_
        with_reducible refine (spec_l1Cur_pick.calls g s0_0 x1001_1 x1002_1 2 t125 t126 t127 w0 _ ?side1 ?side2 A46.out).mono ?_
        (case side1 => exact uI)
        (case side2 => exact uW)
        rintro e w51 ⟨rfl, hi, hb, hk⟩
        refine ⟨_, rfl, ?_⟩
        replace HO_110002 := am (Kd.R_mono (Kd.R_keep (IsS89.apart (show IsS89 w0 _ g s0_0 x1001_1 x1002_1 from by exact uI) (uR HO_110002) (by decide)) hk (fun _ h => h.2)) (fun _ h => h.1))
        replace BK101 := am (KeepBut.blk hk (uP BK101) NB101_0.out (by simp))
        replace BK109 := am (KeepBut.blk hk (uP BK109) NB109_0.out (by simp))
        replace HK := am (KeepBut.trans uV hk (.inl rfl))
        replace HB := am (hb)
        replace HI0 := am (hi)
        (try clear hb)
        (try clear hb2)
        (try clear hk)
        (try clear hi)
        refine hK.out _ _ ⟨uT BK109 0, uT BK109 1, uT BK109 2⟩ (fun hHeld => ?_)
        clear hK K
        refine uNo (some 28) ?_
        refine pure_ (i := 5) (N := some 29) (v := ?_) (a' := ?_) #[true, true, true, true, true, true, false] rfl rfl (by kernel_rfl) (fun _ _ _ h => h) (Or.inl ⟨by rfl, ?_⟩) ?_ ?_
        rotate_left
        ·intro w'
         go_simp
         with_reducible rfl
        rotate_left
        ·simp only [Act.put, List.setIfInBounds_toArray, List.set_cons_zero, List.set_cons_succ, i64_w, i32_w]
         rfl
        refine pure_ (i := 6) (N := some 30) (v := ?_) (a' := ?_) #[true, true, true, true, true, true, true] rfl rfl (by kernel_rfl) (fun _ _ _ h => h) (Or.inl ⟨by rfl, ?_⟩) ?_ ?_
        rotate_left
        ·intro w'
         go_simp
         with_reducible rfl
        rotate_left
        ·simp only [Act.put, List.setIfInBounds_toArray, List.set_cons_zero, List.set_cons_succ, i64_w, i32_w]
         rfl
        refine done_ (by kernel_rfl) ?_
        have hnb52 := NB109_101.out
        have hnc52 := NB101_109.out
        have hnb53 := NB109_0.out
        have hnc53 := NB0_109.out
        obtain ⟨hcz54_0, hcz54_1, hcz54_2, hfz54_0, hfz54_1, hfz54_2⟩ := uZ3 BK109
        try go_wp2_with (first | ((with_reducible refine gate_builtin (b := .append) (xs := #[.tmp 32, .tmp 34]) rfl ?_); at_builtin; refine Kd.R_append k37 w.heap.size rfl (.tmp 32) (.tmp 34) 31 37 (.agg #[(.int .i64 0), (.int .i64 0), (.int .i64 0)]) 24 rfl Try.underlying31 info37 rfl (by decide) (by omega) (.slice Ao50 x110002_1.length co50) x110002_1 (⟨3, 0, 5⟩ : S37) [.int .i64 3, .int .i64 0, .int .i64 5] (fun _ => True) (fun _ => False) rfl rfl ?aP (fun _ hk => hk.elim) ?aF ?aO (Below.refl _ _) ?aS ?aL ?_; (case aP => exact k37_mkM _ _ _ (⟨3, 0, 5⟩ : S37)); (case aF => exact (fun _ _ => trivial)); (case aO => exact (uR HO_110002)); (case aS => exact (keep_size (w := w) (g := g) (row := none) uV)); (case aL => have := LMc48.out; omega); intro v129 w55 ho hb hg hat; rw [← Ny128.out] at ho; have HO130 := am (ho); replace BK101 := am (blk_grown (uP BK101) hg (Kd.R_ne HO_110002.out BK101.out (by decide))); replace BK109 := am (blk_grown (uP BK109) hg (Kd.R_ne HO_110002.out BK109.out (by decide))); replace HI0 := am (IsS89.grown uI hg (IsS89.own_ne HI0.out HO_110002.out (by decide))); replace HB := am (below_weaken uW HL.out hb); replace HK := am (KeepBut.trans uV (KeepBut.of_grown hg g) (Kd.R_base2 HO_110002.out)); clear HO_110002; clear ho hb hg hat; obtain ⟨Ao56, co56, eo56⟩ := Kd.R_slice HO130.out; subst eo56; obtain ⟨hcz57_0, hcz57_1, hcz57_2, hfz57_0, hfz57_1, hfz57_2⟩ := uZ3 BK109))
        go_roundg k1
        case measure => have := HK1.out; omega
        case rel => exact ⟨(t126), (t127), (y128), (.slice Ao56 y128.length co56), H', ⟨by have := HK1.out; omega⟩, ⟨by (with_reducible repeat (first | apply rA | apply rN | apply rD)); exact Kd.R_mono (Kd.R_far (p := ⟨gb109, 2, none⟩) (Kd.R_types HO130.out BK109.out (by decide)) (fun _ hk => hk.2) (.slice Ao56 y128.length co56)) (fun _ hk => trivial)⟩, ⟨by refine blk_far ?_ NB101_109.out _; exact (uP BK101)⟩, ⟨by refine blk_put (cs := #[.int .i64 t102, .int .i64 t103, .slice Ao50 x110002_1.length co50]) ?_ 2 _ rfl; exact (uP BK109)⟩, ⟨by exact uI⟩, ⟨by exact uV⟩, ⟨by exact uW⟩⟩
       ·rw [if_neg c48] at H
        exact absurd H (by simp)
      ·rw [if_neg c47] at H
       have c47b0 : decide ((x110002_1.length : Int) < (wrap64 (6 + t125))) = false := decide_eq_false c47
       clear c47
       simp only [Option.some.injEq, Prod.mk.injEq] at H
       obtain ⟨rfl, rfl, rfl, rfl, rfl⟩ := H
       try go_wp2
       replace HO_110002 := am (Kd.R_drew HO_110002.out)
       replace BK101 := am (blk_drew BK101.out)
       replace BK109 := am (blk_drew BK109.out)
       replace HI0 := am (IsS89.drew HI0.out)
       replace HK := am (keep_drew HK.out)
       replace HB := am (below_drew1 HB.out)
       obtain ⟨Ao59, co59, eo59⟩ := Kd.R_slice HO_110002.out
       (first | subst eo59 | (injection eo59 with f1_ f2_ f3_; have f4_ := f1_.symm; have f5_ := f3_.symm; clear f1_ f2_ f3_; subst f4_; subst f5_))
       refine start_ (n := 7) (S := fun w' => w'.cell? ⟨gb109, 0, none⟩ = some (.int .i64 t102) ∧ w'.cell? ⟨gb109, 1, none⟩ = some (.int .i64 t103) ∧ w'.cell? ⟨gb109, 2, none⟩ = some (.slice Ao59 x110002_1.length co59)) (ds := []) #[false, false, false, false, false, false, false] (by kernel_rfl) rfl rfl ⟨uT BK109 0, uT BK109 1, uT BK109 2⟩ (fun hHeld => ?_)
       generalize wr.drew = w58 at HO_110002 BK101 BK109 HI0 HK HB hHeld ⊢
       refine pure_ (i := 0) (N := some 24) (v := ?_) (a' := ?_) #[true, false, false, false, false, false, false] rfl rfl (by kernel_rfl) (fun _ _ _ h => h) (Or.inl ⟨by rfl, ?_⟩) ?_ ?_
       rotate_left
       ·intro w'
        go_simp
        with_reducible rfl
       rotate_left
       ·simp only [Act.put, List.setIfInBounds_toArray, List.set_cons_zero, List.set_cons_succ, i64_w, i32_w]
        rfl
       refine pure_ (i := 3) (N := some 27) (v := ?_) (a' := ?_) #[true, false, false, true, false, false, false] rfl rfl (by kernel_rfl) (fun _ _ _ h => h) (Or.inl ⟨by rfl, ?_⟩) ?_ ?_
       rotate_left
       ·intro w'
        go_simp
        with_reducible rfl
       rotate_left
       ·simp only [Act.put, List.setIfInBounds_toArray, List.set_cons_zero, List.set_cons_succ, i64_w, i32_w]
        rfl
       refine take_ (i := 1) (N := some 25) (v := ?_) (a' := ?_) #[true, true, false, true, false, false, false] rfl rfl (by kernel_rfl) (fun _ _ _ h => h) (Or.inl ⟨by rfl, ?_⟩) hHeld ?_ ?_
       rotate_left
       ·rintro w' ⟨s0, s1, s2⟩
        go_simp
        with_reducible rfl
       rotate_left
       ·simp only [Act.put, List.setIfInBounds_toArray, List.set_cons_zero, List.set_cons_succ, i64_w, i32_w]
        rfl
       refine pure_ (i := 2) (N := some 26) (v := ?_) (a' := ?_) #[true, true, true, true, false, false, false] rfl rfl (by kernel_rfl) (fun _ _ _ h => h) (Or.inl ⟨by rfl, ?_⟩) ?_ ?_
       rotate_left
       ·intro w'
        go_simp
        with_reducible rfl
       rotate_left
       ·simp only [Act.put, List.setIfInBounds_toArray, List.set_cons_zero, List.set_cons_succ, i64_w, i32_w]
        rfl
       refine one_ (i := 4) (N := some 28) #[true, true, true, true, true, false, false] rfl rfl (by kernel_rfl) (by decide) (fun K hK => ?_)
       refine uGs Try.func61 #[.pointer (some ⟨g, 0, none⟩), .int .i64 2] ?_
       with_reducible refine (spec_l1Cur_pick.calls g s0_0 x1001_1 x1002_1 2 t125 t126 t127 w0 _ ?side1 ?side2 A46.out).mono ?_
       (case side1 => exact uI)
       (case side2 => exact uW)
       rintro e w60 ⟨rfl, hi, hb, hk⟩
       refine ⟨_, rfl, ?_⟩
       replace HO_110002 := am (Kd.R_mono (Kd.R_keep (IsS89.apart (show IsS89 w0 _ g s0_0 x1001_1 x1002_1 from by exact uI) (uR HO_110002) (by decide)) hk (fun _ h => h.2)) (fun _ h => h.1))
       replace BK101 := am (KeepBut.blk hk (uP BK101) NB101_0.out (by simp))
       replace BK109 := am (KeepBut.blk hk (uP BK109) NB109_0.out (by simp))
       replace HK := am (KeepBut.trans uV hk (.inl rfl))
       replace HB := am (hb)
       replace HI0 := am (hi)
       (try clear hb)
       (try clear hb2)
       (try clear hk)
       (try clear hi)
       refine hK.out _ _ ⟨uT BK109 0, uT BK109 1, uT BK109 2⟩ (fun hHeld => ?_)
       clear hK K
       refine uNo (some 28) ?_
       refine pure_ (i := 5) (N := some 29) (v := ?_) (a' := ?_) #[true, true, true, true, true, true, false] rfl rfl (by kernel_rfl) (fun _ _ _ h => h) (Or.inl ⟨by rfl, ?_⟩) ?_ ?_
       rotate_left
       ·intro w'
        go_simp
        with_reducible rfl
       rotate_left
       ·simp only [Act.put, List.setIfInBounds_toArray, List.set_cons_zero, List.set_cons_succ, i64_w, i32_w]
        rfl
       refine pure_ (i := 6) (N := some 30) (v := ?_) (a' := ?_) #[true, true, true, true, true, true, true] rfl rfl (by kernel_rfl) (fun _ _ _ h => h) (Or.inl ⟨by rfl, ?_⟩) ?_ ?_
       rotate_left
       ·intro w'
        go_simp
        with_reducible rfl
       rotate_left
       ·simp only [Act.put, List.setIfInBounds_toArray, List.set_cons_zero, List.set_cons_succ, i64_w, i32_w]
        rfl
       refine done_ (by kernel_rfl) ?_
       have hnb61 := NB109_101.out
       have hnc61 := NB101_109.out
       have hnb62 := NB109_0.out
       have hnc62 := NB0_109.out
       obtain ⟨hcz63_0, hcz63_1, hcz63_2, hfz63_0, hfz63_1, hfz63_2⟩ := uZ3 BK109
       have hnb64 := NB101_0.out
       have hnc64 := NB0_101.out
       obtain ⟨hcz65_0, hcz65_1, hcz65_2, hfz65_0, hfz65_1, hfz65_2⟩ := uZ3 BK101
       try go_wp2
       refine bodyPost_ret (results_cell_row rfl _ _ gb101 33 #[.int .i64 t102, .int .i64 t103, .slice Ao59 x110002_1.length co59] (0, 0) _ rfl (by refine blk_put (cs := #[.int .i64 t102, .int .i64 t103, .slice none 0 0]) ?_ 2 _ rfl; refine blk_put (cs := #[.int .i64 t102, .int .i64 0, .slice none 0 0]) ?_ 1 _ rfl; refine blk_put (cs := #[.int .i64 0, .int .i64 0, .slice none 0 0]) ?_ 0 _ rfl; exact (uP BK101)) Try.underlying33 rfl (by kernel_rfl)) rfl ?_
       exact ⟨_, uA, by (with_reducible repeat (first | apply rA | apply rN | apply rD)); exact Kd.R_mono (Kd.R_far (p := ⟨gb101, 2, none⟩) (Kd.R_far (p := ⟨gb101, 1, none⟩) (Kd.R_far (p := ⟨gb101, 0, none⟩) (Kd.R_types HO_110002.out BK101.out (by decide)) (fun _ hk => hk.2) (.int .i64 t102)) (fun _ hk => hk.2) (.int .i64 t103)) (fun _ hk => hk.2) (.slice Ao59 x110002_1.length co59)) (fun _ hk => trivial), by exact uI, by exact uW, by exact uV⟩
   ·rw [if_neg c37] at H
    have c37b0 : (t110 == 2) = false := beq_eq_false_iff_ne.mpr c37
    have c37b1 : (t110 != 2) = true := bne_iff_ne.mpr c37
    simp only [Option.some.injEq, Prod.mk.injEq] at H
    obtain ⟨rfl, rfl, rfl, rfl, rfl⟩ := H
    go_enter Try.func68, Try.ntmps68
    go_wp2_with (first | ((with_reducible refine gate_dst (N := 2) rfl ?_); refine uX (N := 2) (cs := #[.int .i64 0, .int .i64 0, .slice none 0 0]) (t := 33) ?_; intro gb101 hg w66 hbox hb; have BK101 := am (hbox); have GW101 := am ((by rw [hg]; exact (keep_size (w := w) (g := g) (row := none) uV) : w.heap.size ≤ gb101)); have GE101 := am ((Nat.le_trans HW0.out (by rw [hg]; exact (keep_size (w := w) (g := g) (row := none) uV) : w.heap.size ≤ gb101) : w0.heap.size ≤ gb101)); have NB0_101 := am ((by rw [hg]; exact Nat.ne_of_lt (IsS89.lt (show IsS89 w0 _ g s0_0 s0_1 s0_2 from by exact uI)) : g ≠ gb101)); have NB101_0 := am ((by rw [hg]; exact Nat.ne_of_gt (IsS89.lt (show IsS89 w0 _ g s0_0 s0_1 s0_2 from by exact uI)) : gb101 ≠ g)); replace HI0 := am (IsS89.below uI hb); replace HK := am (KeepBut.trans uV (KeepBut.of_below hb g none) (.inl rfl)); replace HB := uS hb; clear hb hbox hg) | ((with_reducible refine gate_callee (f := 85) rfl ?_); refine uGo (some 5) Try.func85 #[.pointer (some ⟨g, 0, none⟩), .int .i64 5] ?_; (with_reducible refine (spec_l1Cur_surePuzzle.calls k g s0_0 s0_1 s0_2 5 t102 t103 t104 t107 t108 w0 _ ?side1 ?side2 A2.out).mono ?_); (case side1 => exact uI); (case side2 => exact uW); rintro e w67 ⟨v105, rfl, ho0, hi, hb, hk⟩; refine ⟨_, rfl, ?_⟩; have HO106 := am (Kd.R_lower ho0 (keep_size (w := w) (g := g) (row := none) uV)); replace BK101 := am (KeepBut.blk hk (uP BK101) NB101_0.out (by simp)); replace HK := am (KeepBut.trans uV hk (.inl rfl)); replace HB := am (hb); replace HI0 := am (hi); (try clear hb); (try clear hb2); (try clear hk); (try clear hi); (try clear ho0)) | ((with_reducible refine gate_dst (N := 3) rfl ?_); refine uX (N := 3) (cs := #[.int .i64 0, .int .i64 0, .slice none 0 0]) (t := 33) ?_; intro gb109 hg w68 hbox hb; have BK109 := am (hbox); have GW109 := am ((by rw [hg]; exact (keep_size (w := w) (g := g) (row := none) uV) : w.heap.size ≤ gb109)); have GE109 := am ((Nat.le_trans HW0.out (by rw [hg]; exact (keep_size (w := w) (g := g) (row := none) uV) : w.heap.size ≤ gb109) : w0.heap.size ≤ gb109)); have NB101_109 := uL BK101 hg; have NB109_101 := uY NB101_109; have NB0_109 := am ((by rw [hg]; exact Nat.ne_of_lt (IsS89.lt (show IsS89 w0 _ g s0_0 t107 t108 from by exact uI)) : g ≠ gb109)); have NB109_0 := am ((by rw [hg]; exact Nat.ne_of_gt (IsS89.lt (show IsS89 w0 _ g s0_0 t107 t108 from by exact uI)) : gb109 ≠ g)); replace HO106 := am (Kd.R_below (uR HO106) hb); replace HI0 := am (IsS89.below uI hb); replace BK101 := uB BK101 hb; replace HK := am (KeepBut.trans uV (KeepBut.of_below hb g none) (.inl rfl)); replace HB := uS hb; clear hb hbox hg; have hnb69 := NB109_101.out; have hnc69 := NB101_109.out; have hnb70 := NB109_0.out; have hnc70 := NB0_109.out; obtain ⟨hcz71_0, hcz71_1, hcz71_2, hfz71_0, hfz71_1, hfz71_2⟩ := uZ3 BK109; obtain ⟨Ao72, co72, eo72⟩ := Kd.R_slice HO106.out; subst eo72) | ((with_reducible refine gate_callee (f := 61) rfl ?_); refine uGo (some 7) Try.func61 #[.pointer (some ⟨g, 0, none⟩), .int .i64 12] ?_; (with_reducible refine (spec_l1Cur_pick.calls g s0_0 t107 t108 12 t110 t111 t112 w0 _ ?side1 ?side2 A3.out).mono ?_); (case side1 => exact uI); (case side2 => exact uW); rintro e w73 ⟨rfl, hi, hb, hk⟩; refine ⟨_, rfl, ?_⟩; replace BK101 := am (KeepBut.blk hk (g' := gb101) (o := .cells #[.int .i64 0, .int .i64 0, .slice none 0 0] 33 (0, 0)) (by refine blk_far ?_ NB101_109.out _; refine blk_far ?_ NB101_109.out _; refine blk_far ?_ NB101_109.out _; exact (uP BK101)) NB101_0.out (by simp)); replace HO106 := am (Kd.R_mono (Kd.R_keep (IsS89.apart (show IsS89 w0 _ g s0_0 t107 t108 from by exact uI) (by (with_reducible repeat (first | apply rA | apply rN | apply rD)); exact (Kd.R_mono (Kd.R_far (p := ⟨gb109, 2, none⟩) (Kd.R_far (p := ⟨gb109, 1, none⟩) (Kd.R_far (p := ⟨gb109, 0, none⟩) (Kd.R_types HO106.out BK109.out (by decide)) (fun _ hk => hk.2) (.int .i64 t102)) (fun _ hk => hk.2) (.int .i64 t103)) (fun _ hk => hk.2) (.slice Ao72 t104.length co72)) (fun _ h_ => h_.1))) (by decide)) hk (fun _ h => h.2)) (fun _ h => h.1)); replace BK109 := am (KeepBut.blk hk (g' := gb109) (o := .cells #[.int .i64 t102, .int .i64 t103, .slice Ao72 t104.length co72] 33 (0, 0)) (by refine blk_put (cs := #[.int .i64 t102, .int .i64 t103, .slice none 0 0]) ?_ 2 _ rfl; refine blk_put (cs := #[.int .i64 t102, .int .i64 0, .slice none 0 0]) ?_ 1 _ rfl; refine blk_put (cs := #[.int .i64 0, .int .i64 0, .slice none 0 0]) ?_ 0 _ rfl; exact (uP BK109)) NB109_0.out (by simp)); replace HK := am (KeepBut.trans uV hk (.inl rfl)); replace HB := am (hb); replace HI0 := am (hi); (try clear hb); (try clear hb2); (try clear hk); (try clear hi); obtain ⟨hcz74_0, hcz74_1, hcz74_2, hfz74_0, hfz74_1, hfz74_2⟩ := uZ3 BK109; have hnb75 := NB101_0.out; have hnc75 := NB0_101.out; obtain ⟨hcz76_0, hcz76_1, hcz76_2, hfz76_0, hfz76_1, hfz76_2⟩ := uZ3 BK101))
    refine bodyPost_ret (results_cell_row rfl _ _ gb101 33 #[.int .i64 t102, .int .i64 t103, .slice Ao72 t104.length co72] (0, 0) _ rfl (by refine blk_put (cs := #[.int .i64 t102, .int .i64 t103, .slice none 0 0]) ?_ 2 _ rfl; refine blk_put (cs := #[.int .i64 t102, .int .i64 0, .slice none 0 0]) ?_ 1 _ rfl; refine blk_put (cs := #[.int .i64 0, .int .i64 0, .slice none 0 0]) ?_ 0 _ rfl; exact (uP BK101)) Try.underlying33 rfl (by kernel_rfl)) rfl ?_
    exact ⟨_, uA, by (with_reducible repeat (first | apply rA | apply rN | apply rD)); exact Kd.R_mono (Kd.R_far (p := ⟨gb101, 2, none⟩) (Kd.R_far (p := ⟨gb101, 1, none⟩) (Kd.R_far (p := ⟨gb101, 0, none⟩) (Kd.R_types HO106.out BK101.out (by decide)) (fun _ hk => hk.2) (.int .i64 t102)) (fun _ hk => hk.2) (.int .i64 t103)) (fun _ hk => hk.2) (.slice Ao72 t104.length co72)) (fun _ hk => trivial), by exact uI, by exact uW, by exact uV⟩
def laws_aSame.l0 : Nat → List Int → List Int → Int → Int → Option (Bool)
 | 0, _, _, _, _ => none
 | k + 1, x0, x1, x12, x13 => if x13 < x12 then (if 0 ≤ x13 then (if x13 < (x0.length : Int) then (if x13 < (x1.length : Int) then (if (rd x0 x13) = (rd x1 x13) then (laws_aSame.l0 k x0 x1 x12 (wrap64 (x13 + 1))) else (some false)) else (none)) else (none)) else (none)) else (some true)
def laws_aSame.f (k : Nat) (l0 : List Int) (l1 : List Int) : Option (Bool) := if (l0.length : Int) = (l1.length : Int) then (laws_aSame.l0 k l0 l1 (l0.length : Int) 0) else (some false)
theorem laws_aSame.calls (k : Nat) (A0 : Option Addr) (c0 : Nat) (l0 : List Int) (A1 : Option Addr) (c1 : Nat) (l1 : List Int) (r : Bool) (w : World) (hr0 : Kd.C (Kd.int .i64) w A0 l0.length l0) (hc0 : l0.length ≤ c0) (hr1 : Kd.C (Kd.int .i64) w A1 l1.length l1) (hc1 : l1.length ≤ c1) (h : laws_aSame.f k l0 l1 = some r) :
  Calls Try.prog 30 #[.slice A0 l0.length c0, .slice A1 l1.length c1] w fun e w' => e = .returned (.bool r) ∧ Drawn0 w w' := by
 have HR0 := am hr0
 have HC0 := am hc0
 clear hr0 hc0
 have HR1 := am hr1
 have HC1 := am hc1
 clear hr1 hc1
 have H : (if (l0.length : Int) = (l1.length : Int) then (laws_aSame.l0 k l0 l1 (l0.length : Int) 0) else (some false)) = some r := h
 clear h
 by_cases c3 : (l0.length : Int) = (l1.length : Int)
 ·rw [if_pos c3] at H
  have c3b0 : ((l0.length : Int) == (l1.length : Int)) = true := beq_iff_eq.mpr c3
  have c3b1 : ((l0.length : Int) != (l1.length : Int)) = false := bne_eq_false_iff_eq.mpr c3
  have c3b2 : (l0.length == l1.length) = true := by first | simpa using c3 | (simp at c3 ⊢; omega)
  clear c3
  have H' := am H
  clear H
  go_enter Try.func30, Try.ntmps30
  go_wp2
  repeat (go_quiet (fail); try go_wp2)
  go_loopg [13] k (fun kq v13 w' => ∃ (x13_1 : Int), v13 = .int .i64 x13_1 ∧ Aside0 (laws_aSame.l0 kq l0 l1 (l0.length : Int) x13_1 = some r) ∧ Aside0 (kq ≤ k) ∧ Drawn0 w w')
  case atStart => exact ⟨(0), (by first | rfl | (simp; done) | (simp [*]; done)), H', ⟨Nat.le_refl _⟩, by repeat (first | exact Drawn0.refl _ | apply Drawn0.step)⟩
  case round =>
   clear H'
   try clear c1
   try clear p2
   try clear c3
   try clear c3b0
   try clear c3b1
   try clear c3b2
   obtain ⟨x13_1, rfl, HA, HK1, ⟨m1, rfl⟩⟩ := hrel
   cases gk with
   | zero => exact absurd HA.out (by simp [laws_aSame.l0])
   | succ k1 =>
    have H := HA.out
    clear HA
    simp only [laws_aSame.l0] at H
    by_cases c4 : x13_1 < (l0.length : Int)
    ·rw [if_pos c4] at H
     have c4b0 : decide (x13_1 < (l0.length : Int)) = true := decide_eq_true c4
     clear c4
     by_cases c5 : 0 ≤ x13_1
     ·rw [if_pos c5] at H
      have c5b0 : decide (0 ≤ x13_1) = true := decide_eq_true c5
      clear c5
      by_cases c6 : x13_1 < (l0.length : Int)
      ·rw [if_pos c6] at H
       have c6b0 : decide (x13_1 < (l0.length : Int)) = true := decide_eq_true c6
       clear c6
       by_cases c7 : x13_1 < (l1.length : Int)
       ·rw [if_pos c7] at H
        have c7b0 : decide (x13_1 < (l1.length : Int)) = true := decide_eq_true c7
        clear c7
        by_cases c8 : (rd l0 x13_1) = (rd l1 x13_1)
        ·rw [if_pos c8] at H
         have c8b0 : ((rd l0 x13_1) == (rd l1 x13_1)) = true := beq_iff_eq.mpr c8
         have c8b1 : ((rd l0 x13_1) != (rd l1 x13_1)) = false := bne_eq_false_iff_eq.mpr c8
         clear c8
         have H' := am H
         clear H
         have p101 : 0 ≤ (x13_1 : Int) := of_decide_eq_true (by first | (with_reducible assumption) | assumption)
         have q101 : x13_1 < (l0.length : Int) := of_decide_eq_true (by first | (with_reducible assumption) | assumption)
         obtain ⟨ad101, e101, hx101_0⟩ := Kd.at_int HR0.out x13_1 p101 q101
         cases e101
         replace p101 := eq_true p101
         replace q101 := eq_true q101
         have p102 : 0 ≤ (x13_1 : Int) := of_decide_eq_true (by first | (with_reducible assumption) | assumption)
         have q102 : x13_1 < (l1.length : Int) := of_decide_eq_true (by first | (with_reducible assumption) | assumption)
         obtain ⟨ad102, e102, hx102_0⟩ := Kd.at_int HR1.out x13_1 p102 q102
         cases e102
         replace p102 := eq_true p102
         replace q102 := eq_true q102
         go_wp2
         repeat (go_quiet (fail); try go_wp2)
         go_roundg k1
         case measure => have := HK1.out; omega
         case rel => exact ⟨(wrap64 (x13_1 + 1)), (by first | rfl | (simp; done) | (simp [*]; done)), H', ⟨by have := HK1.out; omega⟩, by repeat (first | exact Drawn0.refl _ | apply Drawn0.step)⟩
        ·rw [if_neg c8] at H
         have c8b0 : ((rd l0 x13_1) == (rd l1 x13_1)) = false := beq_eq_false_iff_ne.mpr c8
         have c8b1 : ((rd l0 x13_1) != (rd l1 x13_1)) = true := bne_iff_ne.mpr c8
         obtain rfl := Option.some.inj H
         have p101 : 0 ≤ (x13_1 : Int) := of_decide_eq_true (by first | (with_reducible assumption) | assumption)
         have q101 : x13_1 < (l0.length : Int) := of_decide_eq_true (by first | (with_reducible assumption) | assumption)
         obtain ⟨ad101, e101, hx101_0⟩ := Kd.at_int HR0.out x13_1 p101 q101
         cases e101
         replace p101 := eq_true p101
         replace q101 := eq_true q101
         have p102 : 0 ≤ (x13_1 : Int) := of_decide_eq_true (by first | (with_reducible assumption) | assumption)
         have q102 : x13_1 < (l1.length : Int) := of_decide_eq_true (by first | (with_reducible assumption) | assumption)
         obtain ⟨ad102, e102, hx102_0⟩ := Kd.at_int HR1.out x13_1 p102 q102
         cases e102
         replace p102 := eq_true p102
         replace q102 := eq_true q102
         go_wp2
         repeat (go_quiet (fail); try go_wp2)
         go_ret
         exact ⟨by first | rfl | (simp; done) | (simp [*]; done), by repeat (first | exact Drawn0.refl _ | apply Drawn0.step)⟩
       ·rw [if_neg c7] at H
        exact absurd H (by simp)
      ·rw [if_neg c6] at H
       exact absurd H (by simp)
     ·rw [if_neg c5] at H
      exact absurd H (by simp)
    ·rw [if_neg c4] at H
     have c4b0 : decide (x13_1 < (l0.length : Int)) = false := decide_eq_false c4
     clear c4
     obtain rfl := Option.some.inj H
     go_wp2
     repeat (go_quiet (fail); try go_wp2)
     go_ret
     exact ⟨by first | rfl | (simp; done) | (simp [*]; done), by repeat (first | exact Drawn0.refl _ | apply Drawn0.step)⟩
 ·rw [if_neg c3] at H
  have c3b0 : ((l0.length : Int) == (l1.length : Int)) = false := beq_eq_false_iff_ne.mpr c3
  have c3b1 : ((l0.length : Int) != (l1.length : Int)) = true := bne_iff_ne.mpr c3
  have c3b2 : (l0.length == l1.length) = false := by first | simpa using c3 | (simp at c3 ⊢; omega)
  obtain rfl := Option.some.inj H
  go_enter Try.func30, Try.ntmps30
  go_wp2
  repeat (go_quiet (fail); try go_wp2)
  go_ret
  exact ⟨by first | rfl | (simp; done) | (simp [*]; done), by repeat (first | exact Drawn0.refl _ | apply Drawn0.step)⟩
def spec_DrawAddClue.f (k : Nat) (l0 : List Int) : Option (Int × Int × (List (S37)) × Int × Int × Int) := (spec_l1Cur_puzzle.f k l0 0 0).bind fun bt104 => ((spec_l1Cur_clue.f k l0 bt104.2.2.2.1 bt104.2.2.2.2).bind fun bt111 => (some (bt104.1, bt104.2.1, bt104.2.2.1, bt111.1, bt111.2.1, bt111.2.2.1)))
theorem spec_DrawAddClue.calls (k : Nat) (A0 : Option Addr) (c0 : Nat) (l0 : List Int) (r1 : Int) (r2 : Int) (r3 : List (S37)) (r4 : Int) (r5 : Int) (r6 : Int) (w : World) (hr0 : Kd.C (Kd.int .u8) w A0 l0.length l0) (hc0 : l0.length ≤ c0) (h : spec_DrawAddClue.f k l0 = some (r1, r2, r3, r4, r5, r6)) :
  Calls Try.prog 31 #[.slice A0 l0.length c0] w fun e w' => ∃ v2_ : Value, e = .returned (.tuple #[.agg #[.int .i64 r1, .int .i64 r2, v2_], .agg #[.int .i64 r4, .int .i64 r5, .int .i64 r6]]) ∧ Kd.R k37 37 w' w.heap.size (fun _ => True) v2_ r3 ∧ Below w.heap.size w w' := by
 have hu33 := Try.underlying33
 have hu37 := Try.underlying37
 have hu89 := Try.underlying89
 have HR0 := am hr0
 have HC0 := am hc0
 clear hr0 hc0
 have HB := am (Below.refl w.heap.size w)
 have H : ((spec_l1Cur_puzzle.f k l0 0 0).bind fun bt104 => ((spec_l1Cur_clue.f k l0 bt104.2.2.2.1 bt104.2.2.2.2).bind fun bt111 => (some (bt104.1, bt104.2.1, bt104.2.2.1, bt111.1, bt111.2.1, bt111.2.2.1)))) = some (r1, r2, r3, r4, r5, r6) := h
 clear h
 replace H := bH H
 obtain ⟨⟨t104, t105, t106, t109, t110⟩, A20, H⟩ := H
 replace H : ((spec_l1Cur_clue.f k l0 t109 t110).bind fun bt111 => (some (t104, t105, t106, bt111.1, bt111.2.1, bt111.2.2.1))) = some (r1, r2, r3, r4, r5, r6) := H
 have A2 := am A20
 clear A20
 replace H := bH H
 obtain ⟨⟨t111, t112, t113, t114, t115⟩, A30, H⟩ := H
 replace H : (some (t104, t105, t106, t111, t112, t113)) = some (r1, r2, r3, r4, r5, r6) := H
 have A3 := am A30
 clear A30
 simp only [Option.some.injEq, Prod.mk.injEq] at H
 obtain ⟨rfl, rfl, rfl, rfl, rfl, rfl⟩ := H
 go_enter Try.func31, Try.ntmps31
 go_wp2_with (first | ((with_reducible refine gate_dst (N := 2) rfl ?_); refine uX (N := 2) (cs := #[.int .i64 0, .int .i64 0, .slice none 0 0]) (t := 33) ?_; intro gb101 hg w4 hbox hb; have BK101 := am (hbox); have GW101 := uE hg; have GE101 := GW101; replace HB := uS hb; clear hb hbox hg) | ((with_reducible refine gate_dst (N := 3) rfl ?_); refine uX (N := 3) (cs := #[.int .i64 0, .int .i64 0, .int .i64 0]) (t := 37) ?_; intro gb102 hg w5 hbox hb; have BK102 := am (hbox); have GW102 := uE hg; have GE102 := GW102; have NB101_102 := uL BK101 hg; have NB102_101 := uY NB101_102; replace BK101 := uB BK101 hb; replace HB := uS hb; clear hb hbox hg) | ((with_reducible refine gate_dst (N := 7) rfl ?_); refine uX (N := 7) (cs := #[.slice A0 l0.length c0, .int .i64 0, .int .u64 0]) (t := 89) ?_; intro gb103 hg w6 hbox hb; have BK103 := am (hbox); have GW103 := uE hg; have GE103 := GW103; have NB101_103 := uL BK101 hg; have NB103_101 := uY NB101_103; have NB102_103 := uL BK102 hg; have NB103_102 := uY NB102_103; replace BK101 := uB BK101 hb; replace BK102 := uB BK102 hb; replace HB := uS hb; clear hb hbox hg) | ((with_reducible refine gate_callee (f := 68) rfl ?_); refine uGo (some 9) Try.func68 #[.pointer (some ⟨gb103, 0, none⟩)] ?_; (with_reducible refine (spec_l1Cur_puzzle.calls k gb103 l0 0 0 t104 t105 t106 t109 t110 w _ ?side1 ?side2 A2.out).mono ?_); (case side1 => exact ⟨_, _, by (with_reducible repeat (first | refine bN ?_ _ | refine bD ?_ | refine bA ?_ _)); exact BK103.out, GE103.out, HR0.out⟩); (case side2 => exact uW); rintro e w7 ⟨v107, rfl, ho0, hi, hb, hk⟩; refine ⟨_, rfl, ?_⟩; have HO108 := am (Kd.R_lower (Kd.R_newB ho0 (uP BK102)) (below_size uW)); have HI103 := am (hi); replace BK101 := am (KeepBut.blk hk (uP BK101) NB101_103.out (by simp)); replace BK102 := am (KeepBut.blk hk (uP BK102) NB102_103.out (by simp)); replace HB := am (hb); clear BK103; (try clear hb); (try clear hb2); (try clear hk); (try clear hi); (try clear ho0)) | ((with_reducible refine gate_callee (f := 73) rfl ?_); refine uGo (some 11) Try.func73 #[.pointer (some ⟨gb103, 0, none⟩)] ?_; (with_reducible refine (spec_l1Cur_clue.calls k gb103 l0 t109 t110 t111 t112 t113 t114 t115 w _ ?side1 ?side2 A3.out).mono ?_); (case side1 => exact uI); (case side2 => exact uW); rintro e w8 ⟨rfl, hi, hb, hk⟩; refine ⟨_, rfl, ?_⟩; replace BK101 := am (KeepBut.blk hk (uP BK101) NB101_103.out (by simp)); replace BK102 := am (KeepBut.blk hk (uP BK102) NB102_103.out (by simp)); replace HO108 := am (Kd.R_mono (Kd.R_keep (IsS89.apart (show IsS89 w _ gb103 l0 t109 t110 from by exact uI) (uR HO108) (by decide)) hk (fun _ h => h.2)) (fun _ h => h.1)); replace HB := am (hb); replace HI103 := am (hi); (try clear hb); (try clear hb2); (try clear hk); (try clear hi); have hnb9 := NB101_102.out; have hnc9 := NB102_101.out; have hnb10 := NB101_103.out; have hnc10 := NB103_101.out; obtain ⟨hcz11_0, hcz11_1, hcz11_2, hfz11_0, hfz11_1, hfz11_2⟩ := uZ3 BK101; obtain ⟨Ao12, co12, eo12⟩ := Kd.R_slice HO108.out; subst eo12; have hnb13 := NB102_103.out; have hnc13 := NB103_102.out; obtain ⟨hcz14_0, hcz14_1, hcz14_2, hfz14_0, hfz14_1, hfz14_2⟩ := uZ3 BK102))
 refine bodyPost_ret (results_cc rfl _ _ gb101 gb102 33 37 #[.int .i64 t104, .int .i64 t105, .slice Ao12 t106.length co12] #[.int .i64 t111, .int .i64 t112, .int .i64 t113] (0, 0) (0, 0) _ _ rfl (by refine blk_far ?_ NB101_102.out _; refine blk_far ?_ NB101_102.out _; refine blk_far ?_ NB101_102.out _; refine blk_put (cs := #[.int .i64 t104, .int .i64 t105, .slice none 0 0]) ?_ 2 _ rfl; refine blk_put (cs := #[.int .i64 t104, .int .i64 0, .slice none 0 0]) ?_ 1 _ rfl; refine blk_put (cs := #[.int .i64 0, .int .i64 0, .slice none 0 0]) ?_ 0 _ rfl; exact (uP BK101)) Try.underlying33 rfl (by kernel_rfl) rfl (by refine blk_put (cs := #[.int .i64 t111, .int .i64 t112, .int .i64 0]) ?_ 2 _ rfl; refine blk_put (cs := #[.int .i64 t111, .int .i64 0, .int .i64 0]) ?_ 1 _ rfl; refine blk_put (cs := #[.int .i64 0, .int .i64 0, .int .i64 0]) ?_ 0 _ rfl; refine blk_far ?_ NB102_101.out _; refine blk_far ?_ NB102_101.out _; refine blk_far ?_ NB102_101.out _; exact (uP BK102)) Try.underlying37 rfl (by kernel_rfl)) rfl ?_
 exact ⟨_, uA, by (with_reducible repeat (first | apply rA | apply rN | apply rD)); exact Kd.R_mono (Kd.R_far (p := ⟨gb102, 2, none⟩) (Kd.R_far (p := ⟨gb102, 1, none⟩) (Kd.R_far (p := ⟨gb102, 0, none⟩) (Kd.R_far (p := ⟨gb101, 2, none⟩) (Kd.R_far (p := ⟨gb101, 1, none⟩) (Kd.R_far (p := ⟨gb101, 0, none⟩) (Kd.R_mono (Kd.R_types HO108.out BK101.out (by decide)) (fun k_ hk => (⟨hk, hk.1.2⟩ : _ ∧ k_ ≠ gb102))) (fun _ hk => hk.1.2) (.int .i64 t104)) (fun _ hk => hk.1.2) (.int .i64 t105)) (fun _ hk => hk.1.2) (.slice Ao12 t106.length co12)) (fun _ hk => hk.2) (.int .i64 t111)) (fun _ hk => hk.2) (.int .i64 t112)) (fun _ hk => hk.2) (.int .i64 t113)) (fun _ hk => trivial), by exact uW⟩
def spec_DrawDropClue.f (k : Nat) (l0 : List Int) : Option (Int × Int × (List (S37)) × Int) := (spec_l1Cur_puzzle.f k l0 0 0).bind fun bt103 => ((spec_l1Cur_pick.f l0 bt103.2.2.2.1 bt103.2.2.2.2 6).bind fun bt110 => ((spec_l1Cur_pick.f l0 bt110.2.1 bt110.2.2 9).bind fun bt113 => (some (bt103.1, bt103.2.1, bt103.2.2.1, wrap64 (bt110.1 - (wrap64 (Int.tdiv bt113.1 8)))))))
theorem spec_DrawDropClue.calls (k : Nat) (A0 : Option Addr) (c0 : Nat) (l0 : List Int) (r1 : Int) (r2 : Int) (r3 : List (S37)) (r4 : Int) (w : World) (hr0 : Kd.C (Kd.int .u8) w A0 l0.length l0) (hc0 : l0.length ≤ c0) (h : spec_DrawDropClue.f k l0 = some (r1, r2, r3, r4)) :
  Calls Try.prog 32 #[.slice A0 l0.length c0] w fun e w' => ∃ v2_ : Value, e = .returned (.tuple #[.agg #[.int .i64 r1, .int .i64 r2, v2_], .int .i64 r4]) ∧ Kd.R k37 37 w' w.heap.size (fun _ => True) v2_ r3 ∧ Below w.heap.size w w' := by
 have hu33 := Try.underlying33
 have hu89 := Try.underlying89
 have HR0 := am hr0
 have HC0 := am hc0
 clear hr0 hc0
 have HB := am (Below.refl w.heap.size w)
 have H : ((spec_l1Cur_puzzle.f k l0 0 0).bind fun bt103 => ((spec_l1Cur_pick.f l0 bt103.2.2.2.1 bt103.2.2.2.2 6).bind fun bt110 => ((spec_l1Cur_pick.f l0 bt110.2.1 bt110.2.2 9).bind fun bt113 => (some (bt103.1, bt103.2.1, bt103.2.2.1, wrap64 (bt110.1 - (wrap64 (Int.tdiv bt113.1 8)))))))) = some (r1, r2, r3, r4) := h
 clear h
 replace H := bH H
 obtain ⟨⟨t103, t104, t105, t108, t109⟩, A20, H⟩ := H
 replace H : ((spec_l1Cur_pick.f l0 t108 t109 6).bind fun bt110 => ((spec_l1Cur_pick.f l0 bt110.2.1 bt110.2.2 9).bind fun bt113 => (some (t103, t104, t105, wrap64 (bt110.1 - (wrap64 (Int.tdiv bt113.1 8))))))) = some (r1, r2, r3, r4) := H
 have A2 := am A20
 clear A20
 replace H := bH H
 obtain ⟨⟨t110, t111, t112⟩, A30, H⟩ := H
 replace H : ((spec_l1Cur_pick.f l0 t111 t112 9).bind fun bt113 => (some (t103, t104, t105, wrap64 (t110 - (wrap64 (Int.tdiv bt113.1 8)))))) = some (r1, r2, r3, r4) := H
 have A3 := am A30
 clear A30
 replace H := bH H
 obtain ⟨⟨t113, t114, t115⟩, A40, H⟩ := H
 replace H : (some (t103, t104, t105, wrap64 (t110 - (wrap64 (Int.tdiv t113 8))))) = some (r1, r2, r3, r4) := H
 have A4 := am A40
 clear A40
 simp only [Option.some.injEq, Prod.mk.injEq] at H
 obtain ⟨rfl, rfl, rfl, rfl⟩ := H
 go_enter Try.func32, Try.ntmps32
 go_wp2_with (first | ((with_reducible refine gate_dst (N := 2) rfl ?_); refine uX (N := 2) (cs := #[.int .i64 0, .int .i64 0, .slice none 0 0]) (t := 33) ?_; intro gb101 hg w5 hbox hb; have BK101 := am (hbox); have GW101 := uE hg; have GE101 := GW101; replace HB := uS hb; clear hb hbox hg) | ((with_reducible refine gate_dst (N := 7) rfl ?_); refine uX (N := 7) (cs := #[.slice A0 l0.length c0, .int .i64 0, .int .u64 0]) (t := 89) ?_; intro gb102 hg w6 hbox hb; have BK102 := am (hbox); have GW102 := uE hg; have GE102 := GW102; have NB101_102 := uL BK101 hg; have NB102_101 := uY NB101_102; replace BK101 := uB BK101 hb; replace HB := uS hb; clear hb hbox hg) | ((with_reducible refine gate_callee (f := 68) rfl ?_); refine uGo (some 9) Try.func68 #[.pointer (some ⟨gb102, 0, none⟩)] ?_; (with_reducible refine (spec_l1Cur_puzzle.calls k gb102 l0 0 0 t103 t104 t105 t108 t109 w _ ?side1 ?side2 A2.out).mono ?_); (case side1 => exact ⟨_, _, by (with_reducible repeat (first | refine bN ?_ _ | refine bD ?_ | refine bA ?_ _)); exact BK102.out, GE102.out, HR0.out⟩); (case side2 => exact uW); rintro e w7 ⟨v106, rfl, ho0, hi, hb, hk⟩; refine ⟨_, rfl, ?_⟩; have HO107 := am (Kd.R_lower ho0 (below_size uW)); have HI102 := am (hi); replace BK101 := am (KeepBut.blk hk (uP BK101) NB101_102.out (by simp)); replace HB := am (hb); clear BK102; (try clear hb); (try clear hb2); (try clear hk); (try clear hi); (try clear ho0)) | ((with_reducible refine gate_callee (f := 61) rfl ?_); refine uGo (some 11) Try.func61 #[.pointer (some ⟨gb102, 0, none⟩), .int .i64 6] ?_; (with_reducible refine (spec_l1Cur_pick.calls gb102 l0 t108 t109 6 t110 t111 t112 w _ ?side1 ?side2 A3.out).mono ?_); (case side1 => exact uI); (case side2 => exact uW); rintro e w8 ⟨rfl, hi, hb, hk⟩; refine ⟨_, rfl, ?_⟩; replace BK101 := am (KeepBut.blk hk (uP BK101) NB101_102.out (by simp)); replace HO107 := am (Kd.R_mono (Kd.R_keep (IsS89.apart (show IsS89 w _ gb102 l0 t108 t109 from by exact uI) (uR HO107) (by decide)) hk (fun _ h => h.2)) (fun _ h => h.1)); replace HB := am (hb); replace HI102 := am (hi); (try clear hb); (try clear hb2); (try clear hk); (try clear hi)) | ((with_reducible refine gate_callee (f := 61) rfl ?_); refine uGo (some 13) Try.func61 #[.pointer (some ⟨gb102, 0, none⟩), .int .i64 9] ?_; (with_reducible refine (spec_l1Cur_pick.calls gb102 l0 t111 t112 9 t113 t114 t115 w _ ?side1 ?side2 A4.out).mono ?_); (case side1 => exact uI); (case side2 => exact uW); rintro e w9 ⟨rfl, hi, hb, hk⟩; refine ⟨_, rfl, ?_⟩; replace BK101 := am (KeepBut.blk hk (uP BK101) NB101_102.out (by simp)); replace HO107 := am (Kd.R_mono (Kd.R_keep (IsS89.apart (show IsS89 w _ gb102 l0 t111 t112 from by exact uI) (uR HO107) (by decide)) hk (fun _ h => h.2)) (fun _ h => h.1)); replace HB := am (hb); replace HI102 := am (hi); (try clear hb); (try clear hb2); (try clear hk); (try clear hi); have hnb10 := NB101_102.out; have hnc10 := NB102_101.out; obtain ⟨hcz11_0, hcz11_1, hcz11_2, hfz11_0, hfz11_1, hfz11_2⟩ := uZ3 BK101; obtain ⟨Ao12, co12, eo12⟩ := Kd.R_slice HO107.out; subst eo12))
 refine bodyPost_ret (results_ct rfl _ _ gb101 33 #[.int .i64 t103, .int .i64 t104, .slice Ao12 t105.length co12] (0, 0) _ rfl (by refine blk_put (cs := #[.int .i64 t103, .int .i64 t104, .slice none 0 0]) ?_ 2 _ rfl; refine blk_put (cs := #[.int .i64 t103, .int .i64 0, .slice none 0 0]) ?_ 1 _ rfl; refine blk_put (cs := #[.int .i64 0, .int .i64 0, .slice none 0 0]) ?_ 0 _ rfl; exact (uP BK101)) Try.underlying33 rfl (by kernel_rfl)) rfl ?_
 exact ⟨_, uA, by (with_reducible repeat (first | apply rA | apply rN | apply rD)); exact Kd.R_mono (Kd.R_far (p := ⟨gb101, 2, none⟩) (Kd.R_far (p := ⟨gb101, 1, none⟩) (Kd.R_far (p := ⟨gb101, 0, none⟩) (Kd.R_types HO107.out BK101.out (by decide)) (fun _ hk => hk.2) (.int .i64 t103)) (fun _ hk => hk.2) (.int .i64 t104)) (fun _ hk => hk.2) (.slice Ao12 t105.length co12)) (fun _ hk => trivial), by exact uW⟩
def impl_DropClue.f (a0_0 : Int) (a0_1 : Int) (l0_2 : List (S37)) (a1 : Int) : Option (Int × Int × (List (S37)) × Bool) := (impl_IsPuzzle.f a0_0 a0_1 l0_2).bind fun t103 => (if t103 = true then ((impl_within.f a1 0 (wrap64 ((l0_2.length : Int) - 1))).bind fun t104 => (if t104 = true then ((impl_withoutClue.f l0_2 a1).bind fun t105 => (some (a0_0, a0_1, t105, true))) else (some (0, 0, ([] : List (S37)), false)))) else (some (0, 0, ([] : List (S37)), false)))
def impl_DropClue.T3 : Bool × List (List Nat × List Nat) := (true, [([], []), ([0], [0]), ([], []), ([2], [2]), ([], []), ([3, 4], [3, 4]), ([1, 5], [1, 5]), ([6, 5, 0, 1, 2, 3, 4, 5, 6], [6]), ([7, 0, 1, 2, 3, 4, 5, 6, 7], [])])
def impl_DropClue.B3 : List Nat := [0, 1, 0, 4, 0, 28, 63, 127, 255]
theorem impl_DropClue.tab3 : rtab .any (opsOf Try.f33 3) = impl_DropClue.T3 := by kernel_rfl
theorem impl_DropClue.bits3 : waitsOk impl_DropClue.T3.2 impl_DropClue.B3 = true := by kernel_rfl
theorem impl_DropClue.calls (a0_0 : Int) (a0_1 : Int) (A0_2 : Option Addr) (c0_2 : Nat) (l0_2 : List (S37)) (a1 : Int) (r1 : Int) (r2 : Int) (r3 : List (S37)) (r4 : Bool) (w : World) (hr0_2 : Kd.C k37 w A0_2 l0_2.length l0_2) (hc0_2 : l0_2.length ≤ c0_2) (h : impl_DropClue.f a0_0 a0_1 l0_2 a1 = some (r1, r2, r3, r4)) :
  Calls Try.prog 33 #[.agg #[.int .i64 a0_0, .int .i64 a0_1, .slice A0_2 l0_2.length c0_2], .int .i64 a1] w fun e w' => ∃ v2_ : Value, e = .returned (.tuple #[.agg #[.int .i64 r1, .int .i64 r2, v2_], .bool r4]) ∧ Kd.R k37 37 w' w.heap.size (fun _ => True) v2_ r3 ∧ Below w.heap.size w w' := by
 have hu33 := Try.underlying33
 have hu30 := Try.underlying30
 have HR0_2 := am hr0_2
 have HC0_2 := am hc0_2
 clear hr0_2 hc0_2
 have HB := am (Below.refl w.heap.size w)
 have H : ((impl_IsPuzzle.f a0_0 a0_1 l0_2).bind fun t103 => (if t103 = true then ((impl_within.f a1 0 (wrap64 ((l0_2.length : Int) - 1))).bind fun t104 => (if t104 = true then ((impl_withoutClue.f l0_2 a1).bind fun t105 => (some (a0_0, a0_1, t105, true))) else (some (0, 0, ([] : List (S37)), false)))) else (some (0, 0, ([] : List (S37)), false)))) = some (r1, r2, r3, r4) := h
 clear h
 replace H := bH H
 obtain ⟨t103, A30, H⟩ := H
 replace H : (if t103 = true then ((impl_within.f a1 0 (wrap64 ((l0_2.length : Int) - 1))).bind fun t104 => (if t104 = true then ((impl_withoutClue.f l0_2 a1).bind fun t105 => (some (a0_0, a0_1, t105, true))) else (some (0, 0, ([] : List (S37)), false)))) else (some (0, 0, ([] : List (S37)), false))) = some (r1, r2, r3, r4) := H
 have A3 := am A30
 clear A30
 by_cases c4 : t103 = true
 ·subst c4
  have H1 : ((impl_within.f a1 0 (wrap64 ((l0_2.length : Int) - 1))).bind fun t104 => (if t104 = true then ((impl_withoutClue.f l0_2 a1).bind fun t105 => (some (a0_0, a0_1, t105, true))) else (some (0, 0, ([] : List (S37)), false)))) = some (r1, r2, r3, r4) := by rw [if_pos rfl] at H; exact H
  clear H
  have H := H1
  clear H1
  replace H := bH H
  obtain ⟨t104, A50, H⟩ := H
  replace H : (if t104 = true then ((impl_withoutClue.f l0_2 a1).bind fun t105 => (some (a0_0, a0_1, t105, true))) else (some (0, 0, ([] : List (S37)), false))) = some (r1, r2, r3, r4) := H
  have A5 := am A50
  clear A50
  by_cases c6 : t104 = true
  ·subst c6
   have H1 : ((impl_withoutClue.f l0_2 a1).bind fun t105 => (some (a0_0, a0_1, t105, true))) = some (r1, r2, r3, r4) := by rw [if_pos rfl] at H; exact H
   clear H
   have H := H1
   clear H1
   replace H := bH H
   obtain ⟨t105, A70, H⟩ := H
   replace H : (some (a0_0, a0_1, t105, true)) = some (r1, r2, r3, r4) := H
   have A7 := am A70
   clear A70
   simp only [Option.some.injEq, Prod.mk.injEq] at H
   obtain ⟨rfl, rfl, rfl, rfl⟩ := H
   go_enter Try.func33, Try.ntmps33
   try go_wp2_with (first | ((with_reducible refine gate_dst (N := 2) rfl ?_); (try (refine gate_guard (by rfl) ?_; dsimp only)); refine uX (N := 2) (cs := #[.int .i64 a0_0, .int .i64 a0_1, .slice A0_2 l0_2.length c0_2]) (t := 33) ?_; intro gb101 hg w8 hbox hb; have BK101 := am (hbox); have GW101 := uE hg; have GE101 := GW101; replace HB := uS hb; clear hb hbox hg) | ((with_reducible refine gate_dst (N := 4) rfl ?_); (try (refine gate_guard (by rfl) ?_; dsimp only)); refine uX (N := 4) (cs := #[.int .i64 0, .int .i64 0, .slice none 0 0]) (t := 33) ?_; intro gb102 hg w9 hbox hb; have BK102 := am (hbox); have GW102 := uE hg; have GE102 := GW102; have NB101_102 := uL BK101 hg; have NB102_101 := uY NB101_102; replace BK101 := uB BK101 hb; replace HB := uS hb; clear hb hbox hg; have hnb10 := NB101_102.out; have hnc10 := NB102_101.out; obtain ⟨hcz11_0, hcz11_1, hcz11_2, hfz11_0, hfz11_1, hfz11_2⟩ := uZ3 BK101) | ((with_reducible refine gate_callee (f := 23) rfl ?_); refine uGo (some 7) Try.func23 #[.agg #[.int .i64 a0_0, .int .i64 a0_1, .slice A0_2 l0_2.length c0_2]] ?_; (with_reducible refine (impl_IsPuzzle.calls a0_0 a0_1 _ _ l0_2 true _ ?side1 ?side2 A3.out).mono ?_); (case side1 => repeat (first | exact (Kd.C_below HR0_2.out HB.out) | (with_reducible refine cA ?_ _) | (with_reducible refine cN ?_ _) | (with_reducible refine cD ?_))); (case side2 => exact HC0_2.out); rintro e w12 ⟨rfl, hb⟩; refine ⟨_, rfl, ?_⟩; replace BK101 := uB BK101 hb; replace BK102 := uB BK102 hb; replace HB := uS hb; (try clear hb); (try clear hb2); (try clear hk); (try clear hi); obtain ⟨hcz13_0, hcz13_1, hcz13_2, hfz13_0, hfz13_1, hfz13_2⟩ := uZ3 BK101) | (go_at_call 55; (with_reducible refine (impl_within.calls a1 0 (wrap64 ((l0_2.length : Int) - 1)) true _ A5.out).mono ?_); rintro e w' ⟨rfl, ⟨nd, rfl⟩⟩; (try (rw [drewN_self w12]; generalize hq_ : World.drewN w12 _ = w12; have n0_ : Aside0 (w12.heap[gb101]? = some (.cells #[.int .i64 a0_0, .int .i64 a0_1, .slice A0_2 l0_2.length c0_2] 33 (0, 0))) := ⟨by rw [← hq_]; exact (uP BK101)⟩; have n1_ : Aside0 (w12.heap[gb102]? = some (.cells #[.int .i64 0, .int .i64 0, .slice none 0 0] 33 (0, 0))) := ⟨by rw [← hq_]; exact (uP BK102)⟩; have n2_ : Aside0 (Below w.heap.size w w12) := ⟨by rw [← hq_]; exact uW⟩; clear BK101 BK102 HB hq_; have BK101 := n0_; have BK102 := n1_; have HB := n2_; clear n0_ n1_ n2_))))
   replace BK101 := am (blk_drew BK101.out)
   replace BK102 := am (blk_drew BK102.out)
   replace HB := am (below_drew1 HB.out)
   refine start_ (n := 9) (S := fun w' => w'.cell? ⟨gb101, 0, none⟩ = some (.int .i64 a0_0) ∧ w'.cell? ⟨gb101, 1, none⟩ = some (.int .i64 a0_1) ∧ w'.cell? ⟨gb101, 2, none⟩ = some (.slice A0_2 l0_2.length c0_2)) (ds := []) #[false, false, false, false, false, false, false, false, false] (by kernel_rfl) rfl rfl ⟨uT BK101 0, uT BK101 1, uT BK101 2⟩ (fun hHeld => ?_); refine with_tabW impl_DropClue.tab3 impl_DropClue.bits3 (fun HT_ HW_ => ?_)
   generalize w12.drew = w14 at BK101 BK102 HB hHeld ⊢
   refine uPu (i := 0) (N := some 19) #[true, false, false, false, false, false, false, false, false] ?_
   refine uPu (i := 2) (N := some 21) #[true, false, true, false, false, false, false, false, false] ?_
   refine uPu (i := 4) (N := some 23) #[true, false, true, false, true, false, false, false, false] ?_
   refine uTk (i := 1) (N := some 20) #[true, true, true, false, true, false, false, false, false] hHeld ?_
   refine uTk (i := 3) (N := some 22) #[true, true, true, true, true, false, false, false, false] hHeld ?_
   refine uOn (i := 5) (N := some 24) #[true, true, true, true, true, true, false, false, false] (fun K hK => ?_)
   refine uGs Try.func70 #[.slice A0_2 l0_2.length c0_2, .int .i64 a1] ?_
   with_reducible refine (impl_withoutClue.calls _ _ l0_2 a1 t105 _ ?side1 ?side2 A7.out).mono ?_
   (case side1 => repeat (first | exact (Kd.C_below HR0_2.out HB.out) | (with_reducible refine cA ?_ _) | (with_reducible refine cN ?_ _) | (with_reducible refine cD ?_)))
   (case side2 => exact HC0_2.out)
   rintro e w15 ⟨v106, rfl, ho0, hb⟩
   refine ⟨_, rfl, ?_⟩
   have HO107 := am (Kd.R_lower ho0 (below_size uW))
   replace BK101 := uB BK101 hb
   replace BK102 := uB BK102 hb
   replace HB := uS hb
   (try clear hb)
   (try clear hb2)
   (try clear hk)
   (try clear hi)
   (try clear ho0)
   obtain ⟨Ao16, co16, eo16⟩ := Kd.R_slice HO107.out
   (first | subst eo16 | (injection eo16 with f1_ f2_ f3_; have f4_ := f1_.symm; have f5_ := f3_.symm; clear f1_ f2_ f3_; subst f4_; subst f5_))
   refine hK.out _ _ ⟨uT BK101 0, uT BK101 1, uT BK101 2⟩ (fun hHeld => ?_)
   clear hK K
   refine uNo (some 24) ?_
   refine uPu (i := 6) (N := some 25) #[true, true, true, true, true, true, true, false, false] ?_
   refine uOn (i := 7) (N := none) #[true, true, true, true, true, true, true, true, false] (fun K hK => ?_)
   have hs17 : w15.cell? ⟨gb102, 0, none⟩ = some (.int .i64 0) := uT BK102 0
   have hfs17 := blk_frozen BK102.out 0
   have hns17_0 := NB101_102.out
   have hms17_0 := NB102_101.out
   have hs18 : w15.cell? ⟨gb102, 1, none⟩ = some (.int .i64 0) := uT BK102 1
   have hfs18 := blk_frozen BK102.out 1
   have hns18_0 := NB101_102.out
   have hms18_0 := NB102_101.out
   have hs19 : w15.cell? ⟨gb102, 2, none⟩ = some (.slice none 0 0) := uT BK102 2
   have hfs19 := blk_frozen BK102.out 2
   have hns19_0 := NB101_102.out
   have hms19_0 := NB102_101.out
   refine skip_ (w1 := ?_) (by rfl) rfl ?_ ?_
   rotate_left
   ·go_simp
    rfl
   refine hK.out _ _ ⟨((cell_far (p := ⟨gb102, _, none⟩) NB101_102.out _).trans (((cell_far (p := ⟨gb102, _, none⟩) NB101_102.out _).trans (((cell_far (p := ⟨gb102, _, none⟩) NB101_102.out _).trans (hHeld.1)))))), ((cell_far (p := ⟨gb102, _, none⟩) NB101_102.out _).trans (((cell_far (p := ⟨gb102, _, none⟩) NB101_102.out _).trans (((cell_far (p := ⟨gb102, _, none⟩) NB101_102.out _).trans (hHeld.2.1)))))), ((cell_far (p := ⟨gb102, _, none⟩) NB101_102.out _).trans (((cell_far (p := ⟨gb102, _, none⟩) NB101_102.out _).trans (((cell_far (p := ⟨gb102, _, none⟩) NB101_102.out _).trans (hHeld.2.2))))))⟩ (fun hHeld => ?_)
   clear hK K
   refine uPu (i := 8) (N := some 5) #[true, true, true, true, true, true, true, true, true] ?_
   refine done_ (done_of HT_.out (by kernel_rfl)) ?_
   try go_wp2
   refine bodyPost_ret (results_ct rfl _ _ gb102 33 #[.int .i64 a0_0, .int .i64 a0_1, .slice Ao16 t105.length co16] (0, 0) _ rfl (by refine blk_put (cs := #[.int .i64 a0_0, .int .i64 a0_1, .slice none 0 0]) ?_ 2 _ rfl; refine blk_put (cs := #[.int .i64 a0_0, .int .i64 0, .slice none 0 0]) ?_ 1 _ rfl; refine blk_put (cs := #[.int .i64 0, .int .i64 0, .slice none 0 0]) ?_ 0 _ rfl; exact (uP BK102)) Try.underlying33 rfl (by kernel_rfl)) rfl ?_
   exact ⟨_, uA, by (with_reducible repeat (first | apply rA | apply rN | apply rD)); exact Kd.R_mono (Kd.R_far (p := ⟨gb102, 2, none⟩) (Kd.R_far (p := ⟨gb102, 1, none⟩) (Kd.R_far (p := ⟨gb102, 0, none⟩) (Kd.R_types HO107.out BK102.out (by decide)) (fun _ hk => hk.2) (.int .i64 a0_0)) (fun _ hk => hk.2) (.int .i64 a0_1)) (fun _ hk => hk.2) (.slice Ao16 t105.length co16)) (fun _ hk => trivial), by exact uW⟩
  ·replace c6 := Bool.eq_false_iff.mpr c6
   subst c6
   have H1 : (some (0, 0, ([] : List (S37)), false)) = some (r1, r2, r3, r4) := by rw [if_neg (show ¬ (false = true) by decide)] at H; exact H
   clear H
   have H := H1
   clear H1
   simp only [Option.some.injEq, Prod.mk.injEq] at H
   obtain ⟨rfl, rfl, rfl, rfl⟩ := H
   go_enter Try.func33, Try.ntmps33
   go_wp2_with (first | ((with_reducible refine gate_dst (N := 2) rfl ?_); (try (refine gate_guard (by rfl) ?_; dsimp only)); refine uX (N := 2) (cs := #[.int .i64 a0_0, .int .i64 a0_1, .slice A0_2 l0_2.length c0_2]) (t := 33) ?_; intro gb101 hg w20 hbox hb; have BK101 := am (hbox); have GW101 := uE hg; have GE101 := GW101; replace HB := uS hb; clear hb hbox hg) | ((with_reducible refine gate_dst (N := 4) rfl ?_); (try (refine gate_guard (by rfl) ?_; dsimp only)); refine uX (N := 4) (cs := #[.int .i64 0, .int .i64 0, .slice none 0 0]) (t := 33) ?_; intro gb102 hg w21 hbox hb; have BK102 := am (hbox); have GW102 := uE hg; have GE102 := GW102; have NB101_102 := uL BK101 hg; have NB102_101 := uY NB101_102; replace BK101 := uB BK101 hb; replace HB := uS hb; clear hb hbox hg; have hnb22 := NB101_102.out; have hnc22 := NB102_101.out; obtain ⟨hcz23_0, hcz23_1, hcz23_2, hfz23_0, hfz23_1, hfz23_2⟩ := uZ3 BK101) | ((with_reducible refine gate_callee (f := 23) rfl ?_); refine uGo (some 7) Try.func23 #[.agg #[.int .i64 a0_0, .int .i64 a0_1, .slice A0_2 l0_2.length c0_2]] ?_; (with_reducible refine (impl_IsPuzzle.calls a0_0 a0_1 _ _ l0_2 true _ ?side1 ?side2 A3.out).mono ?_); (case side1 => repeat (first | exact (Kd.C_below HR0_2.out HB.out) | (with_reducible refine cA ?_ _) | (with_reducible refine cN ?_ _) | (with_reducible refine cD ?_))); (case side2 => exact HC0_2.out); rintro e w24 ⟨rfl, hb⟩; refine ⟨_, rfl, ?_⟩; replace BK101 := uB BK101 hb; replace BK102 := uB BK102 hb; replace HB := uS hb; (try clear hb); (try clear hb2); (try clear hk); (try clear hi); obtain ⟨hcz25_0, hcz25_1, hcz25_2, hfz25_0, hfz25_1, hfz25_2⟩ := uZ3 BK101) | (go_at_call 55; (with_reducible refine (impl_within.calls a1 0 (wrap64 ((l0_2.length : Int) - 1)) false _ A5.out).mono ?_); rintro e w' ⟨rfl, ⟨nd, rfl⟩⟩; (try (rw [drewN_self w24]; generalize hq_ : World.drewN w24 _ = w24; have n0_ : Aside0 (w24.heap[gb101]? = some (.cells #[.int .i64 a0_0, .int .i64 a0_1, .slice A0_2 l0_2.length c0_2] 33 (0, 0))) := ⟨by rw [← hq_]; exact (uP BK101)⟩; have n1_ : Aside0 (w24.heap[gb102]? = some (.cells #[.int .i64 0, .int .i64 0, .slice none 0 0] 33 (0, 0))) := ⟨by rw [← hq_]; exact (uP BK102)⟩; have n2_ : Aside0 (Below w.heap.size w w24) := ⟨by rw [← hq_]; exact uW⟩; clear BK101 BK102 HB hq_; have BK101 := n0_; have BK102 := n1_; have HB := n2_; clear n0_ n1_ n2_)); obtain ⟨hcz26_0, hcz26_1, hcz26_2, hfz26_0, hfz26_1, hfz26_2⟩ := uZ3 BK102))
   refine bodyPost_ret (results_ct rfl _ _ gb102 33 #[.int .i64 0, .int .i64 0, .slice none 0 0] (0, 0) _ rfl (by refine blk_put (cs := #[.int .i64 0, .int .i64 0, .slice none 0 0]) ?_ 2 _ rfl; refine blk_put (cs := #[.int .i64 0, .int .i64 0, .slice none 0 0]) ?_ 1 _ rfl; refine blk_put (cs := #[.int .i64 0, .int .i64 0, .slice none 0 0]) ?_ 0 _ rfl; exact (uP BK102)) Try.underlying33 rfl (by kernel_rfl)) rfl ?_
   exact ⟨_, uA, uN, by exact uW⟩
 ·replace c4 := Bool.eq_false_iff.mpr c4
  subst c4
  have H1 : (some (0, 0, ([] : List (S37)), false)) = some (r1, r2, r3, r4) := by rw [if_neg (show ¬ (false = true) by decide)] at H; exact H
  clear H
  have H := H1
  clear H1
  simp only [Option.some.injEq, Prod.mk.injEq] at H
  obtain ⟨rfl, rfl, rfl, rfl⟩ := H
  go_enter Try.func33, Try.ntmps33
  go_wp2_with (first | ((with_reducible refine gate_dst (N := 2) rfl ?_); (try (refine gate_guard (by rfl) ?_; dsimp only)); refine uX (N := 2) (cs := #[.int .i64 a0_0, .int .i64 a0_1, .slice A0_2 l0_2.length c0_2]) (t := 33) ?_; intro gb101 hg w27 hbox hb; have BK101 := am (hbox); have GW101 := uE hg; have GE101 := GW101; replace HB := uS hb; clear hb hbox hg) | ((with_reducible refine gate_dst (N := 4) rfl ?_); (try (refine gate_guard (by rfl) ?_; dsimp only)); refine uX (N := 4) (cs := #[.int .i64 0, .int .i64 0, .slice none 0 0]) (t := 33) ?_; intro gb102 hg w28 hbox hb; have BK102 := am (hbox); have GW102 := uE hg; have GE102 := GW102; have NB101_102 := uL BK101 hg; have NB102_101 := uY NB101_102; replace BK101 := uB BK101 hb; replace HB := uS hb; clear hb hbox hg; have hnb29 := NB101_102.out; have hnc29 := NB102_101.out; obtain ⟨hcz30_0, hcz30_1, hcz30_2, hfz30_0, hfz30_1, hfz30_2⟩ := uZ3 BK101) | ((with_reducible refine gate_callee (f := 23) rfl ?_); refine uGo (some 7) Try.func23 #[.agg #[.int .i64 a0_0, .int .i64 a0_1, .slice A0_2 l0_2.length c0_2]] ?_; (with_reducible refine (impl_IsPuzzle.calls a0_0 a0_1 _ _ l0_2 false _ ?side1 ?side2 A3.out).mono ?_); (case side1 => repeat (first | exact (Kd.C_below HR0_2.out HB.out) | (with_reducible refine cA ?_ _) | (with_reducible refine cN ?_ _) | (with_reducible refine cD ?_))); (case side2 => exact HC0_2.out); rintro e w31 ⟨rfl, hb⟩; refine ⟨_, rfl, ?_⟩; replace BK101 := uB BK101 hb; replace BK102 := uB BK102 hb; replace HB := uS hb; (try clear hb); (try clear hb2); (try clear hk); (try clear hi); obtain ⟨hcz32_0, hcz32_1, hcz32_2, hfz32_0, hfz32_1, hfz32_2⟩ := uZ3 BK102))
  refine bodyPost_ret (results_ct rfl _ _ gb102 33 #[.int .i64 0, .int .i64 0, .slice none 0 0] (0, 0) _ rfl (by refine blk_put (cs := #[.int .i64 0, .int .i64 0, .slice none 0 0]) ?_ 2 _ rfl; refine blk_put (cs := #[.int .i64 0, .int .i64 0, .slice none 0 0]) ?_ 1 _ rfl; refine blk_put (cs := #[.int .i64 0, .int .i64 0, .slice none 0 0]) ?_ 0 _ rfl; exact (uP BK102)) Try.underlying33 rfl (by kernel_rfl)) rfl ?_
  exact ⟨_, uA, uN, by exact uW⟩
def impl_NeedlessClues.l0 : Nat → Int → List Int → Int → Int → Int → Int → List (S37) → Option (List Int × Bool)
 | 0, _, _, _, _, _, _, _ => none
 | k + 1, x4, x5, x18, x19, x102000, x102001, x102002 => if x19 < x18 then ((impl_withoutClue.f x102002 x19).bind fun t106 => ((impl_solutions.f x102000 x102001 t106).bind fun t109 => (if (t109.length : Int) = x4 then (if x5.length < 17592186044416 then (impl_NeedlessClues.l0 k x4 (x5 ++ [x19]) x18 (wrap64 (x19 + 1)) x102000 x102001 x102002) else (none)) else (impl_NeedlessClues.l0 k x4 x5 x18 (wrap64 (x19 + 1)) x102000 x102001 x102002)))) else (some (x5, true))
def impl_NeedlessClues.f (k : Nat) (a0_0 : Int) (a0_1 : Int) (l0_2 : List (S37)) : Option (List Int × Bool) := (impl_IsPuzzle.f a0_0 a0_1 l0_2).bind fun t102 => (if t102 = true then ((impl_solutions.f a0_0 a0_1 l0_2).bind fun t103 => (impl_NeedlessClues.l0 k (t103.length : Int) ([] : List Int) (l0_2.length : Int) 0 a0_0 a0_1 l0_2)) else (some (([] : List Int), false)))
def impl_NeedlessClues.T8 : Bool × List (List Nat × List Nat) := (true, [([], []), ([0], [0]), ([], []), ([2], [2]), ([], []), ([3, 4], [3, 4]), ([1, 5, 5], [1, 5]), ([6], [6]), ([], []), ([7, 8], [7, 8])])
def impl_NeedlessClues.B8 : List Nat := [0, 1, 0, 4, 0, 28, 63, 127, 0, 511]
theorem impl_NeedlessClues.tab8 : rtab .any (opsOf Try.f29 8) = impl_NeedlessClues.T8 := by kernel_rfl
theorem impl_NeedlessClues.bits8 : waitsOk impl_NeedlessClues.T8.2 impl_NeedlessClues.B8 = true := by kernel_rfl
theorem impl_NeedlessClues.calls (k : Nat) (a0_0 : Int) (a0_1 : Int) (A0_2 : Option Addr) (c0_2 : Nat) (l0_2 : List (S37)) (r1 : List Int) (r2 : Bool) (w : World) (hr0_2 : Kd.C k37 w A0_2 l0_2.length l0_2) (hc0_2 : l0_2.length ≤ c0_2) (h : impl_NeedlessClues.f k a0_0 a0_1 l0_2 = some (r1, r2)) :
  Calls Try.prog 29 #[.agg #[.int .i64 a0_0, .int .i64 a0_1, .slice A0_2 l0_2.length c0_2]] w fun e w' => ∃ v0_ : Value, e = .returned (.tuple #[v0_, .bool r2]) ∧ Kd.R (Kd.int .i64) 3 w' w.heap.size (fun _ => True) v0_ r1 ∧ Below w.heap.size w w' := by
 have hu33 := Try.underlying33
 have hu30 := Try.underlying30
 have HR0_2 := am hr0_2
 have HC0_2 := am hc0_2
 clear hr0_2 hc0_2
 have HB := am (Below.refl w.heap.size w)
 have H : ((impl_IsPuzzle.f a0_0 a0_1 l0_2).bind fun t102 => (if t102 = true then ((impl_solutions.f a0_0 a0_1 l0_2).bind fun t103 => (impl_NeedlessClues.l0 k (t103.length : Int) ([] : List Int) (l0_2.length : Int) 0 a0_0 a0_1 l0_2)) else (some (([] : List Int), false)))) = some (r1, r2) := h
 clear h
 replace H := bH H
 obtain ⟨t102, A20, H⟩ := H
 replace H : (if t102 = true then ((impl_solutions.f a0_0 a0_1 l0_2).bind fun t103 => (impl_NeedlessClues.l0 k (t103.length : Int) ([] : List Int) (l0_2.length : Int) 0 a0_0 a0_1 l0_2)) else (some (([] : List Int), false))) = some (r1, r2) := H
 have A2 := am A20
 clear A20
 by_cases c3 : t102 = true
 ·subst c3
  have H1 : ((impl_solutions.f a0_0 a0_1 l0_2).bind fun t103 => (impl_NeedlessClues.l0 k (t103.length : Int) ([] : List Int) (l0_2.length : Int) 0 a0_0 a0_1 l0_2)) = some (r1, r2) := by rw [if_pos rfl] at H; exact H
  clear H
  have H := H1
  clear H1
  replace H := bH H
  obtain ⟨t103, A40, H⟩ := H
  replace H : (impl_NeedlessClues.l0 k (t103.length : Int) ([] : List Int) (l0_2.length : Int) 0 a0_0 a0_1 l0_2) = some (r1, r2) := H
  have A4 := am A40
  clear A40
  have H' := am H
  clear H
  go_enter Try.func29, Try.ntmps29
  go_wp2_with (first | ((with_reducible refine gate_dst (N := 1) rfl ?_); refine uX (N := 1) (cs := #[.int .i64 a0_0, .int .i64 a0_1, .slice A0_2 l0_2.length c0_2]) (t := 33) ?_; intro gb101 hg w5 hbox hb; have BK101 := am (hbox); have GW101 := uE hg; have GE101 := GW101; replace HB := uS hb; clear hb hbox hg; obtain ⟨hcz6_0, hcz6_1, hcz6_2, hfz6_0, hfz6_1, hfz6_2⟩ := uZ3 BK101) | ((with_reducible refine gate_callee (f := 23) rfl ?_); refine uGo (some 8) Try.func23 #[.agg #[.int .i64 a0_0, .int .i64 a0_1, .slice A0_2 l0_2.length c0_2]] ?_; (with_reducible refine (impl_IsPuzzle.calls a0_0 a0_1 _ _ l0_2 true _ ?side1 ?side2 A2.out).mono ?_); (case side1 => repeat (first | exact (Kd.C_below HR0_2.out HB.out) | (with_reducible refine cA ?_ _) | (with_reducible refine cN ?_ _) | (with_reducible refine cD ?_))); (case side2 => exact HC0_2.out); rintro e w7 ⟨rfl, hb⟩; refine ⟨_, rfl, ?_⟩; replace BK101 := uB BK101 hb; replace HB := uS hb; (try clear hb); (try clear hb2); (try clear hk); (try clear hi); obtain ⟨hcz8_0, hcz8_1, hcz8_2, hfz8_0, hfz8_1, hfz8_2⟩ := uZ3 BK101) | ((with_reducible refine gate_callee (f := 69) rfl ?_); refine uGo (some 14) Try.func69 #[.agg #[.int .i64 a0_0, .int .i64 a0_1], .slice A0_2 l0_2.length c0_2] ?_; (with_reducible refine (impl_solutions.calls a0_0 a0_1 _ _ l0_2 t103 _ ?side1 ?side2 A4.out).mono ?_); (case side1 => repeat (first | exact (Kd.C_below HR0_2.out HB.out) | (with_reducible refine cA ?_ _) | (with_reducible refine cN ?_ _) | (with_reducible refine cD ?_))); (case side2 => exact HC0_2.out); rintro e w9 ⟨v104, rfl, ho0, hb⟩; refine ⟨_, rfl, ?_⟩; have HO105 := am (Kd.R_lower ho0 (below_size uW)); replace BK101 := uB BK101 hb; replace HB := uS hb; (try clear hb); (try clear hb2); (try clear hk); (try clear hi); (try clear ho0); obtain ⟨Ao10, co10, eo10⟩ := Kd.R_slice HO105.out; subst eo10; obtain ⟨hcz11_0, hcz11_1, hcz11_2, hfz11_0, hfz11_1, hfz11_2⟩ := uZ3 BK101))
  go_loopg [5, 19] k (fun kq v5 v19 w' => ∃ (x5_1 : List Int) (x19_1 : Int), v19 = .int .i64 x19_1 ∧ Aside0 (impl_NeedlessClues.l0 kq (t103.length : Int) x5_1 (l0_2.length : Int) x19_1 a0_0 a0_1 l0_2 = some (r1, r2)) ∧ Aside0 (kq ≤ k) ∧ Aside0 (Kd.R (Kd.int .i64) 3 w' w.heap.size (fun _ => True) v5 x5_1) ∧ Aside0 (w'.heap[gb101]? = some (.cells #[.int .i64 a0_0, .int .i64 a0_1, (.slice A0_2 l0_2.length c0_2)] 33 (0, 0))) ∧ Aside0 (Below w.heap.size w w'))
  case atStart => exact ⟨(([] : List Int)), (0), (by first | rfl | (simp; done) | (simp [*]; done)), H', ⟨Nat.le_refl _⟩, ⟨uN⟩, ⟨by (with_reducible repeat (first | refine bN ?_ _ | refine bD ?_ | refine bA ?_ _)); exact BK101.out⟩, ⟨by exact uW⟩⟩
  case round =>
   clear H'
   try clear c2
   try clear p2
   try clear c3
   try clear c6
   try clear hcz11_0
   try clear hcz11_1
   try clear hcz11_2
   try clear hcz6_0
   try clear hcz6_1
   try clear hcz6_2
   try clear hcz8_0
   try clear hcz8_1
   try clear hcz8_2
   try clear hfz11_0
   try clear hfz11_1
   try clear hfz11_2
   try clear hfz6_0
   try clear hfz6_1
   try clear hfz6_2
   try clear hfz8_0
   try clear hfz8_1
   try clear hfz8_2
   obtain ⟨x5_1, x19_1, rfl, HA, HK1, HO_5, BK101, HB⟩ := hrel
   cases gk with
   | zero => exact absurd HA.out (by simp [impl_NeedlessClues.l0])
   | succ k1 =>
    have H := HA.out
    clear HA
    simp only [impl_NeedlessClues.l0] at H
    by_cases c12 : x19_1 < (l0_2.length : Int)
    ·rw [if_pos c12] at H
     have c12b0 : decide (x19_1 < (l0_2.length : Int)) = true := decide_eq_true c12
     clear c12
     replace H := bH H
     obtain ⟨t106, A130, H⟩ := H
     replace H : ((impl_solutions.f a0_0 a0_1 t106).bind fun t109 => (if (t109.length : Int) = (t103.length : Int) then (if x5_1.length < 17592186044416 then (impl_NeedlessClues.l0 k1 (t103.length : Int) (x5_1 ++ [x19_1]) (l0_2.length : Int) (wrap64 (x19_1 + 1)) a0_0 a0_1 l0_2) else (none)) else (impl_NeedlessClues.l0 k1 (t103.length : Int) x5_1 (l0_2.length : Int) (wrap64 (x19_1 + 1)) a0_0 a0_1 l0_2))) = some (r1, r2) := H
     have A13 := am A130
     clear A130
     replace H := bH H
     obtain ⟨t109, A140, H⟩ := H
     replace H : (if (t109.length : Int) = (t103.length : Int) then (if x5_1.length < 17592186044416 then (impl_NeedlessClues.l0 k1 (t103.length : Int) (x5_1 ++ [x19_1]) (l0_2.length : Int) (wrap64 (x19_1 + 1)) a0_0 a0_1 l0_2) else (none)) else (impl_NeedlessClues.l0 k1 (t103.length : Int) x5_1 (l0_2.length : Int) (wrap64 (x19_1 + 1)) a0_0 a0_1 l0_2)) = some (r1, r2) := H
     have A14 := am A140
     clear A140
     by_cases c15 : (t109.length : Int) = (t103.length : Int)
     ·rw [if_pos c15] at H
      have c15b0 : ((t109.length : Int) == (t103.length : Int)) = true := beq_iff_eq.mpr c15
      have c15b1 : ((t109.length : Int) != (t103.length : Int)) = false := bne_eq_false_iff_eq.mpr c15
      have c15b2 : (t109.length == t103.length) = true := by first | simpa using c15 | (simp at c15 ⊢; omega)
      clear c15
      by_cases c16 : x5_1.length < 17592186044416
      ·rw [if_pos c16] at H
       have LMc16 := am c16
       clear c16
       obtain ⟨y112, hy112⟩ : ∃ y_ : List Int, y_ = (x5_1 ++ [x19_1]) := ⟨_, rfl⟩
       replace H : (impl_NeedlessClues.l0 k1 (t103.length : Int) y112 (l0_2.length : Int) (wrap64 (x19_1 + 1)) a0_0 a0_1 l0_2) = some (r1, r2) := by first | (rw [hy112]; with_reducible exact H) | (have H2_ := (Option.bind_some _ _).symm.trans H; rw [hy112]; with_reducible exact H2_) | (have H2_ := (Option.bind_some _ _).symm.trans H; with_reducible exact H2_) | with_reducible exact H | (rw [hy112]; exact H) | exact H
       have Ny112 := am hy112
       clear hy112
       have H' := am H
       clear H
       try go_wp2
       replace HO_5 := am (Kd.R_drew HO_5.out)
       replace BK101 := am (blk_drew BK101.out)
       replace HB := am (below_drew1 HB.out)
       refine start_ (n := 10) (S := fun w' => w'.cell? ⟨gb101, 0, none⟩ = some (.int .i64 a0_0) ∧ w'.cell? ⟨gb101, 1, none⟩ = some (.int .i64 a0_1) ∧ w'.cell? ⟨gb101, 2, none⟩ = some (.slice A0_2 l0_2.length c0_2)) (ds := []) #[false, false, false, false, false, false, false, false, false, false] (by kernel_rfl) rfl rfl ⟨uT BK101 0, uT BK101 1, uT BK101 2⟩ (fun hHeld => ?_); refine with_tabW impl_NeedlessClues.tab8 impl_NeedlessClues.bits8 (fun HT_ HW_ => ?_)
       generalize wr.drew = w17 at HO_5 BK101 HB hHeld ⊢
       refine uPu (i := 0) (N := some 22) #[true, false, false, false, false, false, false, false, false, false] ?_
       refine uPu (i := 2) (N := some 24) #[true, false, true, false, false, false, false, false, false, false] ?_
       refine uPu (i := 4) (N := some 26) #[true, false, true, false, true, false, false, false, false, false] ?_
       refine uPu (i := 8) (N := some 30) #[true, false, true, false, true, false, false, false, true, false] ?_
       refine uTk (i := 1) (N := some 23) #[true, true, true, false, true, false, false, false, true, false] hHeld ?_
       refine uTk (i := 3) (N := some 25) #[true, true, true, true, true, false, false, false, true, false] hHeld ?_
       refine uOn (i := 5) (N := some 27) #[true, true, true, true, true, true, false, false, true, false] (fun K hK => ?_)
       refine uGs Try.func70 #[.slice A0_2 l0_2.length c0_2, .int .i64 x19_1] ?_
       with_reducible refine (impl_withoutClue.calls _ _ l0_2 x19_1 t106 _ ?side1 ?side2 A13.out).mono ?_
       (case side1 => repeat (first | exact (Kd.C_below HR0_2.out HB.out) | (with_reducible refine cA ?_ _) | (with_reducible refine cN ?_ _) | (with_reducible refine cD ?_)))
       (case side2 => exact HC0_2.out)
       rintro e w18 ⟨v107, rfl, ho0, hb⟩
       refine ⟨_, rfl, ?_⟩
       have HO108 := am (Kd.R_lower ho0 (below_size uW))
       replace HO_5 := am (Kd.R_below (uR HO_5) hb)
       replace BK101 := uB BK101 hb
       replace HB := uS hb
       (try clear hb)
       (try clear hb2)
       (try clear hk)
       (try clear hi)
       (try clear ho0)
       obtain ⟨Ao19, co19, eo19⟩ := Kd.R_slice HO108.out
       (first | subst eo19 | (injection eo19 with f1_ f2_ f3_; have f4_ := f1_.symm; have f5_ := f3_.symm; clear f1_ f2_ f3_; subst f4_; subst f5_))
       refine hK.out _ _ ⟨uT BK101 0, uT BK101 1, uT BK101 2⟩ (fun hHeld => ?_)
       clear hK K
       refine uNo (some 27) ?_
       refine uOn (i := 6) (N := some 28) #[true, true, true, true, true, true, true, false, true, false] (fun K hK => ?_)
       refine uGs Try.func69 #[.agg #[.int .i64 a0_0, .int .i64 a0_1], .slice Ao19 t106.length co19] ?_
       with_reducible refine (impl_solutions.calls a0_0 a0_1 _ _ t106 t109 _ ?side1 ?side2 A14.out).mono ?_
       (case side1 => repeat (first | exact (Kd.R_reads' HO108.out).2.2 | (with_reducible refine cA ?_ _) | (with_reducible refine cN ?_ _) | (with_reducible refine cD ?_)))
       (case side2 => exact (Kd.R_reads' HO108.out).2.1)
       rintro e w20 ⟨v110, rfl, ho0, hb⟩
       refine ⟨_, rfl, ?_⟩
       have HO111 := am (Kd.R_lower (Kd.R_new' ho0 (Kd.R_lt (uR HO_5))) (below_size uW))
       replace HO_5 := am (Kd.R_elder' (uR HO_5) (Kd.R_base ho0) hb)
       replace HO108 := am (Kd.R_below (uR HO108) hb)
       replace BK101 := uB BK101 hb
       replace HB := uS hb
       (try clear hb)
       (try clear hb2)
       (try clear hk)
       (try clear hi)
       (try clear ho0)
       obtain ⟨Ao21, co21, eo21⟩ := Kd.R_slice HO111.out
       (first | subst eo21 | (injection eo21 with f1_ f2_ f3_; have f4_ := f1_.symm; have f5_ := f3_.symm; clear f1_ f2_ f3_; subst f4_; subst f5_))
       refine hK.out _ _ ⟨uT BK101 0, uT BK101 1, uT BK101 2⟩ (fun hHeld => ?_)
       clear hK K
       refine uNo (some 28) ?_
       refine uPu (i := 7) (N := some 29) #[true, true, true, true, true, true, true, true, true, false] ?_
       refine uPu (i := 9) (N := some 31) #[true, true, true, true, true, true, true, true, true, true] ?_
       refine done_ (done_of HT_.out (by kernel_rfl)) ?_
       try go_wp2_with (first | ((with_reducible refine gate_builtin (b := .append) (xs := #[.tmp 32, .tmp 34]) rfl ?_); at_builtin; refine Kd.R_append (Kd.int .i64) (w0 := w) w.heap.size rfl (.tmp 32) (.tmp 34) 59 3 (.int .i64 0) 8 rfl Try.underlying59 info3 rfl (by decide) (by omega) u5 x5_1 x19_1 [.int .i64 x19_1] (fun k_ => some k_ ≠ (.slice Ao21 t109.length co21 : Value).ownBlock) (fun _ => False) rfl rfl ?aP (fun _ hk => hk.elim) ?aF ?aO ?aB ?aS ?aL ?_; (case aP => exact rfl); (case aB => exact uW); (case aF => exact (fun k_ hk => Kd.fresh' (Kd.R_lt (uR HO111)) k_ hk)); (case aO => exact (by (with_reducible repeat (first | apply rA | apply rN | apply rD)); exact Kd.R_mono HO_5.out (fun _ hk => hk.2))); (case aS => exact (below_size uW)); (case aL => have := LMc16.out; omega); intro v113 w22 ho hb hg hat; rw [← Ny112.out] at ho; have HO114 := am (ho); replace BK101 := am (blk_grown (uP BK101) hg (Kd.R_ne HO_5.out BK101.out (by decide))); replace HO108 := am (Kd.R_over' (uR HO108) (Kd.R_typed (uR HO_5)) (by decide) hg); replace HO111 := am (Kd.R_after (ok := (fun _ => True)) (uR HO111) hg hat); replace HB := am (hb); clear HO_5; clear ho hb hg hat))
       go_roundg k1
       case measure => have := HK1.out; omega
       case rel => exact ⟨(y112), (wrap64 (x19_1 + 1)), (by first | rfl | (simp; done) | (simp [*]; done)), H', ⟨by have := HK1.out; omega⟩, ⟨by (with_reducible repeat (first | apply rA | apply rN | apply rD)); exact Kd.R_mono HO114.out (fun _ hk => trivial)⟩, ⟨by (with_reducible repeat (first | refine bN ?_ _ | refine bD ?_ | refine bA ?_ _)); exact BK101.out⟩, ⟨by exact uW⟩⟩
      ·rw [if_neg c16] at H
       exact absurd H (by simp)
     ·rw [if_neg c15] at H
      have c15b0 : ((t109.length : Int) == (t103.length : Int)) = false := beq_eq_false_iff_ne.mpr c15
      have c15b1 : ((t109.length : Int) != (t103.length : Int)) = true := bne_iff_ne.mpr c15
      have c15b2 : (t109.length == t103.length) = false := by first | simpa using c15 | (simp at c15 ⊢; omega)
      have H' := am H
      clear H
      try go_wp2
      replace HO_5 := am (Kd.R_drew HO_5.out)
      replace BK101 := am (blk_drew BK101.out)
      replace HB := am (below_drew1 HB.out)
      refine start_ (n := 10) (S := fun w' => w'.cell? ⟨gb101, 0, none⟩ = some (.int .i64 a0_0) ∧ w'.cell? ⟨gb101, 1, none⟩ = some (.int .i64 a0_1) ∧ w'.cell? ⟨gb101, 2, none⟩ = some (.slice A0_2 l0_2.length c0_2)) (ds := []) #[false, false, false, false, false, false, false, false, false, false] (by kernel_rfl) rfl rfl ⟨uT BK101 0, uT BK101 1, uT BK101 2⟩ (fun hHeld => ?_); refine with_tabW impl_NeedlessClues.tab8 impl_NeedlessClues.bits8 (fun HT_ HW_ => ?_)
      generalize wr.drew = w23 at HO_5 BK101 HB hHeld ⊢
      refine uPu (i := 0) (N := some 22) #[true, false, false, false, false, false, false, false, false, false] ?_
      refine uPu (i := 2) (N := some 24) #[true, false, true, false, false, false, false, false, false, false] ?_
      refine uPu (i := 4) (N := some 26) #[true, false, true, false, true, false, false, false, false, false] ?_
      refine uPu (i := 8) (N := some 30) #[true, false, true, false, true, false, false, false, true, false] ?_
      refine uTk (i := 1) (N := some 23) #[true, true, true, false, true, false, false, false, true, false] hHeld ?_
      refine uTk (i := 3) (N := some 25) #[true, true, true, true, true, false, false, false, true, false] hHeld ?_
      refine uOn (i := 5) (N := some 27) #[true, true, true, true, true, true, false, false, true, false] (fun K hK => ?_)
      refine uGs Try.func70 #[.slice A0_2 l0_2.length c0_2, .int .i64 x19_1] ?_
      with_reducible refine (impl_withoutClue.calls _ _ l0_2 x19_1 t106 _ ?side1 ?side2 A13.out).mono ?_
      (case side1 => repeat (first | exact (Kd.C_below HR0_2.out HB.out) | (with_reducible refine cA ?_ _) | (with_reducible refine cN ?_ _) | (with_reducible refine cD ?_)))
      (case side2 => exact HC0_2.out)
      rintro e w24 ⟨v107, rfl, ho0, hb⟩
      refine ⟨_, rfl, ?_⟩
      have HO108 := am (Kd.R_lower ho0 (below_size uW))
      replace HO_5 := am (Kd.R_below (uR HO_5) hb)
      replace BK101 := uB BK101 hb
      replace HB := uS hb
      (try clear hb)
      (try clear hb2)
      (try clear hk)
      (try clear hi)
      (try clear ho0)
      obtain ⟨Ao25, co25, eo25⟩ := Kd.R_slice HO108.out
      (first | subst eo25 | (injection eo25 with f1_ f2_ f3_; have f4_ := f1_.symm; have f5_ := f3_.symm; clear f1_ f2_ f3_; subst f4_; subst f5_))
      refine hK.out _ _ ⟨uT BK101 0, uT BK101 1, uT BK101 2⟩ (fun hHeld => ?_)
      clear hK K
      refine uNo (some 27) ?_
      refine uOn (i := 6) (N := some 28) #[true, true, true, true, true, true, true, false, true, false] (fun K hK => ?_)
      refine uGs Try.func69 #[.agg #[.int .i64 a0_0, .int .i64 a0_1], .slice Ao25 t106.length co25] ?_
      with_reducible refine (impl_solutions.calls a0_0 a0_1 _ _ t106 t109 _ ?side1 ?side2 A14.out).mono ?_
      (case side1 => repeat (first | exact (Kd.R_reads' HO108.out).2.2 | (with_reducible refine cA ?_ _) | (with_reducible refine cN ?_ _) | (with_reducible refine cD ?_)))
      (case side2 => exact (Kd.R_reads' HO108.out).2.1)
      rintro e w26 ⟨v110, rfl, ho0, hb⟩
      refine ⟨_, rfl, ?_⟩
      have HO111 := am (Kd.R_lower (Kd.R_new' ho0 (Kd.R_lt (uR HO_5))) (below_size uW))
      replace HO_5 := am (Kd.R_elder' (uR HO_5) (Kd.R_base ho0) hb)
      replace HO108 := am (Kd.R_below (uR HO108) hb)
      replace BK101 := uB BK101 hb
      replace HB := uS hb
      (try clear hb)
      (try clear hb2)
      (try clear hk)
      (try clear hi)
      (try clear ho0)
      obtain ⟨Ao27, co27, eo27⟩ := Kd.R_slice HO111.out
      (first | subst eo27 | (injection eo27 with f1_ f2_ f3_; have f4_ := f1_.symm; have f5_ := f3_.symm; clear f1_ f2_ f3_; subst f4_; subst f5_))
      refine hK.out _ _ ⟨uT BK101 0, uT BK101 1, uT BK101 2⟩ (fun hHeld => ?_)
      clear hK K
      refine uNo (some 28) ?_
      refine uPu (i := 7) (N := some 29) #[true, true, true, true, true, true, true, true, true, false] ?_
      refine uPu (i := 9) (N := some 31) #[true, true, true, true, true, true, true, true, true, true] ?_
      refine done_ (done_of HT_.out (by kernel_rfl)) ?_
      try go_wp2
      go_roundg k1
      case measure => have := HK1.out; omega
      case rel => exact ⟨(x5_1), (wrap64 (x19_1 + 1)), (by first | rfl | (simp; done) | (simp [*]; done)), H', ⟨by have := HK1.out; omega⟩, ⟨by (with_reducible repeat (first | apply rA | apply rN | apply rD)); exact Kd.R_mono HO_5.out (fun _ hk => trivial)⟩, ⟨by (with_reducible repeat (first | refine bN ?_ _ | refine bD ?_ | refine bA ?_ _)); exact BK101.out⟩, ⟨by exact uW⟩⟩
    ·rw [if_neg c12] at H
     have c12b0 : decide (x19_1 < (l0_2.length : Int)) = false := decide_eq_false c12
     clear c12
     simp only [Option.some.injEq, Prod.mk.injEq] at H
     obtain ⟨rfl, rfl⟩ := H
     go_wp2
     go_ret2
     exact ⟨_, uA, by (with_reducible repeat (first | apply rA | apply rN | apply rD)); exact HO_5.out, by exact uW⟩
 ·replace c3 := Bool.eq_false_iff.mpr c3
  subst c3
  have H1 : (some (([] : List Int), false)) = some (r1, r2) := by rw [if_neg (show ¬ (false = true) by decide)] at H; exact H
  clear H
  have H := H1
  clear H1
  simp only [Option.some.injEq, Prod.mk.injEq] at H
  obtain ⟨rfl, rfl⟩ := H
  go_enter Try.func29, Try.ntmps29
  go_wp2_with (first | ((with_reducible refine gate_dst (N := 1) rfl ?_); refine uX (N := 1) (cs := #[.int .i64 a0_0, .int .i64 a0_1, .slice A0_2 l0_2.length c0_2]) (t := 33) ?_; intro gb101 hg w28 hbox hb; have BK101 := am (hbox); have GW101 := uE hg; have GE101 := GW101; replace HB := uS hb; clear hb hbox hg; obtain ⟨hcz29_0, hcz29_1, hcz29_2, hfz29_0, hfz29_1, hfz29_2⟩ := uZ3 BK101) | ((with_reducible refine gate_callee (f := 23) rfl ?_); refine uGo (some 8) Try.func23 #[.agg #[.int .i64 a0_0, .int .i64 a0_1, .slice A0_2 l0_2.length c0_2]] ?_; (with_reducible refine (impl_IsPuzzle.calls a0_0 a0_1 _ _ l0_2 false _ ?side1 ?side2 A2.out).mono ?_); (case side1 => repeat (first | exact (Kd.C_below HR0_2.out HB.out) | (with_reducible refine cA ?_ _) | (with_reducible refine cN ?_ _) | (with_reducible refine cD ?_))); (case side2 => exact HC0_2.out); rintro e w30 ⟨rfl, hb⟩; refine ⟨_, rfl, ?_⟩; replace BK101 := uB BK101 hb; replace HB := uS hb; (try clear hb); (try clear hb2); (try clear hk); (try clear hi)))
  go_ret2
  exact ⟨_, uA, uN, by exact uW⟩
mutual
def impl_MakePuzzle.j0 : Nat → Int → Int → Int → Bool → Int → Int → Option (Int × Int × (List (S37)) × Bool)
 | 0, _, _, _, _, _, _ => none
 | k + 1, x1, x2, x3, x31, x102000, x102001 => if x31 = true then (some (0, 0, ([] : List (S37)), false)) else (impl_MakePuzzle.l0 k x1 x3 x2 0 x102000 x102001 x102000 x102001 ([] : List (S37)))
def impl_MakePuzzle.l0 : Nat → Int → Int → Int → Int → Int → Int → Int → Int → List (S37) → Option (Int × Int × (List (S37)) × Bool)
 | 0, _, _, _, _, _, _, _, _, _ => none
 | k + 1, x1, x11, x36, x37, x102000, x102001, x108000, x108001, x108002 => if x37 < x36 then (if (Int.tmod (Int.tmod (wrap64 ((wrap64 (x11 * 233)) + 1871)) 10007) 6) = 2 then ((impl_toldBy.f x102000 x102001 (Int.tmod (Int.tmod (wrap64 ((wrap64 (x11 * 233)) + 1871)) 10007) 6) (wrap64 ((Int.tmod (Int.tmod (wrap64 ((wrap64 ((Int.tmod (wrap64 ((wrap64 (x11 * 233)) + 1871)) 10007) * 233)) + 1871)) 10007) 8) + 2)) 0 x1).bind fun t109 => (if x108002.length < 5864062014805 then (impl_MakePuzzle.l0 k x1 (Int.tmod (wrap64 ((wrap64 ((Int.tmod (wrap64 ((wrap64 (x11 * 233)) + 1871)) 10007) * 233)) + 1871)) 10007) x36 (wrap64 (x37 + 1)) x102000 x102001 x108000 x108001 (x108002 ++ [(⟨Int.tmod (Int.tmod (wrap64 ((wrap64 (x11 * 233)) + 1871)) 10007) 6, wrap64 ((Int.tmod (Int.tmod (wrap64 ((wrap64 ((Int.tmod (wrap64 ((wrap64 (x11 * 233)) + 1871)) 10007) * 233)) + 1871)) 10007) 8) + 2), t109⟩ : S37)])) else (none))) else (if (Int.tmod (Int.tmod (wrap64 ((wrap64 (x11 * 233)) + 1871)) 10007) 6) = 4 then ((impl_toldBy.f x102000 x102001 (Int.tmod (Int.tmod (wrap64 ((wrap64 (x11 * 233)) + 1871)) 10007) 6) (wrap64 ((Int.tmod (Int.tmod (wrap64 ((wrap64 ((Int.tmod (wrap64 ((wrap64 (x11 * 233)) + 1871)) 10007) * 233)) + 1871)) 10007) 40) + 1)) 0 x1).bind fun t113 => (if x108002.length < 5864062014805 then (impl_MakePuzzle.l0 k x1 (Int.tmod (wrap64 ((wrap64 ((Int.tmod (wrap64 ((wrap64 (x11 * 233)) + 1871)) 10007) * 233)) + 1871)) 10007) x36 (wrap64 (x37 + 1)) x102000 x102001 x108000 x108001 (x108002 ++ [(⟨Int.tmod (Int.tmod (wrap64 ((wrap64 (x11 * 233)) + 1871)) 10007) 6, wrap64 ((Int.tmod (Int.tmod (wrap64 ((wrap64 ((Int.tmod (wrap64 ((wrap64 (x11 * 233)) + 1871)) 10007) * 233)) + 1871)) 10007) 40) + 1), t113⟩ : S37)])) else (none))) else ((impl_toldBy.f x102000 x102001 (Int.tmod (Int.tmod (wrap64 ((wrap64 (x11 * 233)) + 1871)) 10007) 6) 0 0 x1).bind fun t117 => (if x108002.length < 5864062014805 then (impl_MakePuzzle.l0 k x1 (Int.tmod (wrap64 ((wrap64 ((Int.tmod (wrap64 ((wrap64 (x11 * 233)) + 1871)) 10007) * 233)) + 1871)) 10007) x36 (wrap64 (x37 + 1)) x102000 x102001 x108000 x108001 (x108002 ++ [(⟨Int.tmod (Int.tmod (wrap64 ((wrap64 (x11 * 233)) + 1871)) 10007) 6, 0, t117⟩ : S37)])) else (none))))) else (some (x108000, x108001, x108002, true))
end
def impl_MakePuzzle.f (k : Nat) (a0_0 : Int) (a0_1 : Int) (a1 : Int) (a2 : Int) (a3 : Int) : Option (Int × Int × (List (S37)) × Bool) := (impl_isHiddenStreet.f a0_0 a0_1).bind fun t103 => (if t103 = true then ((impl_isHouse.f a0_0 a0_1 a1).bind fun t104 => (if t104 = true then ((impl_within.f a2 0 6).bind fun t105 => (if t105 = true then ((impl_within.f a3 0 9999).bind fun t106 => (impl_MakePuzzle.j0 k a1 a2 a3 (!t106) a0_0 a0_1)) else (impl_MakePuzzle.j0 k a1 a2 a3 true a0_0 a0_1))) else (impl_MakePuzzle.j0 k a1 a2 a3 true a0_0 a0_1))) else (impl_MakePuzzle.j0 k a1 a2 a3 true a0_0 a0_1))
theorem impl_MakePuzzle.calls (k : Nat) (a0_0 : Int) (a0_1 : Int) (a1 : Int) (a2 : Int) (a3 : Int) (r1 : Int) (r2 : Int) (r3 : List (S37)) (r4 : Bool) (w : World) (h : impl_MakePuzzle.f k a0_0 a0_1 a1 a2 a3 = some (r1, r2, r3, r4)) :
  Calls Try.prog 16 #[.agg #[.int .i64 a0_0, .int .i64 a0_1], .int .i64 a1, .int .i64 a2, .int .i64 a3] w fun e w' => ∃ v2_ : Value, e = .returned (.tuple #[.agg #[.int .i64 r1, .int .i64 r2, v2_], .bool r4]) ∧ Kd.R k37 37 w' w.heap.size (fun _ => True) v2_ r3 ∧ Below w.heap.size w w' := by
 have hu30 := Try.underlying30
 have hu33 := Try.underlying33
 have hu37 := Try.underlying37
 have HB := am (Below.refl w.heap.size w)
 have H : ((impl_isHiddenStreet.f a0_0 a0_1).bind fun t103 => (if t103 = true then ((impl_isHouse.f a0_0 a0_1 a1).bind fun t104 => (if t104 = true then ((impl_within.f a2 0 6).bind fun t105 => (if t105 = true then ((impl_within.f a3 0 9999).bind fun t106 => (impl_MakePuzzle.j0 k a1 a2 a3 (!t106) a0_0 a0_1)) else (impl_MakePuzzle.j0 k a1 a2 a3 true a0_0 a0_1))) else (impl_MakePuzzle.j0 k a1 a2 a3 true a0_0 a0_1))) else (impl_MakePuzzle.j0 k a1 a2 a3 true a0_0 a0_1))) = some (r1, r2, r3, r4) := h
 clear h
 have HC5 := am H
 clear H
 go_enter Try.func16, Try.ntmps16
 go_upto_region 1 with (first | ((with_reducible refine gate_dst (N := 4) rfl ?_); refine uX (N := 4) (cs := #[.int .i64 a0_0, .int .i64 a0_1]) (t := 30) ?_; intro gb101 hg w6 hbox hb; have BK101 := am (hbox); have GW101 := uE hg; have GE101 := GW101; replace HB := uS hb; clear hb hbox hg) | ((with_reducible refine gate_dst (N := 8) rfl ?_); refine uX (N := 8) (cs := #[.int .i64 0, .int .i64 0, .slice none 0 0]) (t := 33) ?_; intro gb102 hg w7 hbox hb; have BK102 := am (hbox); have GW102 := uE hg; have GE102 := GW102; have NB101_102 := uL BK101 hg; have NB102_101 := uY NB101_102; replace BK101 := uB BK101 hb; replace HB := uS hb; clear hb hbox hg))
 (try simp only [Act.put, List.setIfInBounds_toArray, List.set_cons_zero, List.set_cons_succ])
 go_cut [31] (fun v31 wc => ∃ (kq : Nat) (x31_4 : Bool), v31 = .bool x31_4 ∧ Aside0 (impl_MakePuzzle.j0 kq a1 a2 a3 x31_4 a0_0 a0_1 = some (r1, r2, r3, r4)) ∧ Aside0 (kq ≤ k) ∧ Aside0 (wc.heap[gb101]? = some (.cells #[.int .i64 a0_0, .int .i64 a0_1] 30 (0, 0))) ∧ Aside0 (wc.heap[gb102]? = some (.cells #[.int .i64 0, .int .i64 0, (.slice none 0 0)] 33 (0, 0))) ∧ Aside0 (Below w.heap.size w wc))
 case first =>
  have H := HC5.out
  clear HC5
  replace H := bH H
  obtain ⟨t103, A80, H⟩ := H
  replace H : (if t103 = true then ((impl_isHouse.f a0_0 a0_1 a1).bind fun t104 => (if t104 = true then ((impl_within.f a2 0 6).bind fun t105 => (if t105 = true then ((impl_within.f a3 0 9999).bind fun t106 => (impl_MakePuzzle.j0 k a1 a2 a3 (!t106) a0_0 a0_1)) else (impl_MakePuzzle.j0 k a1 a2 a3 true a0_0 a0_1))) else (impl_MakePuzzle.j0 k a1 a2 a3 true a0_0 a0_1))) else (impl_MakePuzzle.j0 k a1 a2 a3 true a0_0 a0_1)) = some (r1, r2, r3, r4) := H
  have A8 := am A80
  clear A80
  by_cases c9 : t103 = true
  ·subst c9
   have H1 : ((impl_isHouse.f a0_0 a0_1 a1).bind fun t104 => (if t104 = true then ((impl_within.f a2 0 6).bind fun t105 => (if t105 = true then ((impl_within.f a3 0 9999).bind fun t106 => (impl_MakePuzzle.j0 k a1 a2 a3 (!t106) a0_0 a0_1)) else (impl_MakePuzzle.j0 k a1 a2 a3 true a0_0 a0_1))) else (impl_MakePuzzle.j0 k a1 a2 a3 true a0_0 a0_1))) = some (r1, r2, r3, r4) := by rw [if_pos rfl] at H; exact H
   clear H
   have H := H1
   clear H1
   replace H := bH H
   obtain ⟨t104, A100, H⟩ := H
   replace H : (if t104 = true then ((impl_within.f a2 0 6).bind fun t105 => (if t105 = true then ((impl_within.f a3 0 9999).bind fun t106 => (impl_MakePuzzle.j0 k a1 a2 a3 (!t106) a0_0 a0_1)) else (impl_MakePuzzle.j0 k a1 a2 a3 true a0_0 a0_1))) else (impl_MakePuzzle.j0 k a1 a2 a3 true a0_0 a0_1)) = some (r1, r2, r3, r4) := H
   have A10 := am A100
   clear A100
   by_cases c11 : t104 = true
   ·subst c11
    have H1 : ((impl_within.f a2 0 6).bind fun t105 => (if t105 = true then ((impl_within.f a3 0 9999).bind fun t106 => (impl_MakePuzzle.j0 k a1 a2 a3 (!t106) a0_0 a0_1)) else (impl_MakePuzzle.j0 k a1 a2 a3 true a0_0 a0_1))) = some (r1, r2, r3, r4) := by rw [if_pos rfl] at H; exact H
    clear H
    have H := H1
    clear H1
    replace H := bH H
    obtain ⟨t105, A120, H⟩ := H
    replace H : (if t105 = true then ((impl_within.f a3 0 9999).bind fun t106 => (impl_MakePuzzle.j0 k a1 a2 a3 (!t106) a0_0 a0_1)) else (impl_MakePuzzle.j0 k a1 a2 a3 true a0_0 a0_1)) = some (r1, r2, r3, r4) := H
    have A12 := am A120
    clear A120
    by_cases c13 : t105 = true
    ·subst c13
     have H1 : ((impl_within.f a3 0 9999).bind fun t106 => (impl_MakePuzzle.j0 k a1 a2 a3 (!t106) a0_0 a0_1)) = some (r1, r2, r3, r4) := by rw [if_pos rfl] at H; exact H
     clear H
     have H := H1
     clear H1
     replace H := bH H
     obtain ⟨t106, A140, H⟩ := H
     replace H : (impl_MakePuzzle.j0 k a1 a2 a3 (!t106) a0_0 a0_1) = some (r1, r2, r3, r4) := H
     have A14 := am A140
     clear A140
     have H' := am H
     clear H
     have hnb15 := NB101_102.out
     have hnc15 := NB102_101.out
     obtain ⟨hcz16_0, hcz16_1, hfz16_0, hfz16_1⟩ := uZ2 BK101
     go_wp2_with (first | ((with_reducible refine gate_callee (f := 53) rfl ?_); refine uGo (some 14) Try.func53 #[.agg #[.int .i64 a0_0, .int .i64 a0_1]] ?_; (with_reducible refine (impl_isHiddenStreet.calls a0_0 a0_1 true _ A8.out).mono ?_); rintro e w17 ⟨rfl, hb⟩; refine ⟨_, rfl, ?_⟩; replace BK101 := uB BK101 hb; replace BK102 := uB BK102 hb; replace HB := uS hb; (try clear hb); (try clear hb2); (try clear hk); (try clear hi); obtain ⟨hcz18_0, hcz18_1, hfz18_0, hfz18_1⟩ := uZ2 BK101) | (go_at_call 54; (with_reducible refine (impl_isHouse.calls a0_0 a0_1 a1 true _ A10.out).mono ?_); rintro e w19 ⟨rfl, hb⟩; replace BK101 := uB BK101 hb; replace BK102 := uB BK102 hb; replace HB := uS hb; (try clear hb); (try clear hb2); (try clear hk); (try clear hi)) | (go_at_call 55; (with_reducible refine (impl_within.calls a2 0 6 true _ A12.out).mono ?_); rintro e w' ⟨rfl, ⟨nd, rfl⟩⟩) | (go_at_call 55; (with_reducible refine (impl_within.calls a3 0 9999 t106 _ A14.out).mono ?_); rintro e w' ⟨rfl, ⟨nd, rfl⟩⟩))
     go_meet
     case rel => exact ⟨_, (!t106), (by first | rfl | (simp; done) | (simp [*]; done)), H', ⟨by first | omega | exact Nat.le_refl _⟩, ⟨by (with_reducible repeat (first | refine bN ?_ _ | refine bD ?_ | refine bA ?_ _)); exact BK101.out⟩, ⟨by (with_reducible repeat (first | refine bN ?_ _ | refine bD ?_ | refine bA ?_ _)); exact BK102.out⟩, ⟨by exact uW⟩⟩
    ·replace c13 := Bool.eq_false_iff.mpr c13
     subst c13
     have H1 : (impl_MakePuzzle.j0 k a1 a2 a3 true a0_0 a0_1) = some (r1, r2, r3, r4) := by rw [if_neg (show ¬ (false = true) by decide)] at H; exact H
     clear H
     have H := H1
     clear H1
     have H' := am H
     clear H
     have hnb20 := NB101_102.out
     have hnc20 := NB102_101.out
     obtain ⟨hcz21_0, hcz21_1, hfz21_0, hfz21_1⟩ := uZ2 BK101
     go_wp2_with (first | ((with_reducible refine gate_callee (f := 53) rfl ?_); refine uGo (some 14) Try.func53 #[.agg #[.int .i64 a0_0, .int .i64 a0_1]] ?_; (with_reducible refine (impl_isHiddenStreet.calls a0_0 a0_1 true _ A8.out).mono ?_); rintro e w22 ⟨rfl, hb⟩; refine ⟨_, rfl, ?_⟩; replace BK101 := uB BK101 hb; replace BK102 := uB BK102 hb; replace HB := uS hb; (try clear hb); (try clear hb2); (try clear hk); (try clear hi); obtain ⟨hcz23_0, hcz23_1, hfz23_0, hfz23_1⟩ := uZ2 BK101) | (go_at_call 54; (with_reducible refine (impl_isHouse.calls a0_0 a0_1 a1 true _ A10.out).mono ?_); rintro e w24 ⟨rfl, hb⟩; replace BK101 := uB BK101 hb; replace BK102 := uB BK102 hb; replace HB := uS hb; (try clear hb); (try clear hb2); (try clear hk); (try clear hi)) | (go_at_call 55; (with_reducible refine (impl_within.calls a2 0 6 false _ A12.out).mono ?_); rintro e w' ⟨rfl, ⟨nd, rfl⟩⟩))
     go_meet
     case rel => exact ⟨_, (true), (by first | rfl | (simp; done) | (simp [*]; done)), H', ⟨by first | omega | exact Nat.le_refl _⟩, ⟨by (with_reducible repeat (first | refine bN ?_ _ | refine bD ?_ | refine bA ?_ _)); exact BK101.out⟩, ⟨by (with_reducible repeat (first | refine bN ?_ _ | refine bD ?_ | refine bA ?_ _)); exact BK102.out⟩, ⟨by exact uW⟩⟩
   ·replace c11 := Bool.eq_false_iff.mpr c11
    subst c11
    have H1 : (impl_MakePuzzle.j0 k a1 a2 a3 true a0_0 a0_1) = some (r1, r2, r3, r4) := by rw [if_neg (show ¬ (false = true) by decide)] at H; exact H
    clear H
    have H := H1
    clear H1
    have H' := am H
    clear H
    have hnb25 := NB101_102.out
    have hnc25 := NB102_101.out
    obtain ⟨hcz26_0, hcz26_1, hfz26_0, hfz26_1⟩ := uZ2 BK101
    go_wp2_with (first | ((with_reducible refine gate_callee (f := 53) rfl ?_); refine uGo (some 14) Try.func53 #[.agg #[.int .i64 a0_0, .int .i64 a0_1]] ?_; (with_reducible refine (impl_isHiddenStreet.calls a0_0 a0_1 true _ A8.out).mono ?_); rintro e w27 ⟨rfl, hb⟩; refine ⟨_, rfl, ?_⟩; replace BK101 := uB BK101 hb; replace BK102 := uB BK102 hb; replace HB := uS hb; (try clear hb); (try clear hb2); (try clear hk); (try clear hi); obtain ⟨hcz28_0, hcz28_1, hfz28_0, hfz28_1⟩ := uZ2 BK101) | (go_at_call 54; (with_reducible refine (impl_isHouse.calls a0_0 a0_1 a1 false _ A10.out).mono ?_); rintro e w29 ⟨rfl, hb⟩; replace BK101 := uB BK101 hb; replace BK102 := uB BK102 hb; replace HB := uS hb; (try clear hb); (try clear hb2); (try clear hk); (try clear hi)))
    go_meet
    case rel => exact ⟨_, (true), (by first | rfl | (simp; done) | (simp [*]; done)), H', ⟨by first | omega | exact Nat.le_refl _⟩, ⟨by (with_reducible repeat (first | refine bN ?_ _ | refine bD ?_ | refine bA ?_ _)); exact BK101.out⟩, ⟨by (with_reducible repeat (first | refine bN ?_ _ | refine bD ?_ | refine bA ?_ _)); exact BK102.out⟩, ⟨by exact uW⟩⟩
  ·replace c9 := Bool.eq_false_iff.mpr c9
   subst c9
   have H1 : (impl_MakePuzzle.j0 k a1 a2 a3 true a0_0 a0_1) = some (r1, r2, r3, r4) := by rw [if_neg (show ¬ (false = true) by decide)] at H; exact H
   clear H
   have H := H1
   clear H1
   have H' := am H
   clear H
   have hnb30 := NB101_102.out
   have hnc30 := NB102_101.out
   obtain ⟨hcz31_0, hcz31_1, hfz31_0, hfz31_1⟩ := uZ2 BK101
   go_wp2_with (first | ((with_reducible refine gate_callee (f := 53) rfl ?_); refine uGo (some 14) Try.func53 #[.agg #[.int .i64 a0_0, .int .i64 a0_1]] ?_; (with_reducible refine (impl_isHiddenStreet.calls a0_0 a0_1 false _ A8.out).mono ?_); rintro e w32 ⟨rfl, hb⟩; refine ⟨_, rfl, ?_⟩; replace BK101 := uB BK101 hb; replace BK102 := uB BK102 hb; replace HB := uS hb; (try clear hb); (try clear hb2); (try clear hk); (try clear hi)))
   go_meet
   case rel => exact ⟨_, (true), (by first | rfl | (simp; done) | (simp [*]; done)), H', ⟨by first | omega | exact Nat.le_refl _⟩, ⟨by (with_reducible repeat (first | refine bN ?_ _ | refine bD ?_ | refine bA ?_ _)); exact BK101.out⟩, ⟨by (with_reducible repeat (first | refine bN ?_ _ | refine bD ?_ | refine bA ?_ _)); exact BK102.out⟩, ⟨by exact uW⟩⟩
 case rest =>
  clear HC5
  try clear c1
  try clear c2
  try clear p2
  try clear c3
  try clear c5
  try clear c9
  try clear c11
  try clear c13
  try clear c15
  try clear c16
  try clear c20
  try clear c25
  try clear c30
  try clear hcz16_0
  try clear hcz16_1
  try clear hcz18_0
  try clear hcz18_1
  try clear hcz21_0
  try clear hcz21_1
  try clear hcz23_0
  try clear hcz23_1
  try clear hcz26_0
  try clear hcz26_1
  try clear hcz28_0
  try clear hcz28_1
  try clear hcz31_0
  try clear hcz31_1
  try clear hfz16_0
  try clear hfz16_1
  try clear hfz18_0
  try clear hfz18_1
  try clear hfz21_0
  try clear hfz21_1
  try clear hfz23_0
  try clear hfz23_1
  try clear hfz26_0
  try clear hfz26_1
  try clear hfz28_0
  try clear hfz28_1
  try clear hfz31_0
  try clear hfz31_1
  obtain ⟨kq, x31_4, rfl, HA, HJ4, BK101, BK102, HB⟩ := hcut
  cases kq with
  | zero => exact absurd HA.out (by simp [impl_MakePuzzle.j0])
  | succ kj4 =>
   have H := HA.out
   clear HA
   simp only [impl_MakePuzzle.j0] at H
   by_cases c33 : x31_4 = true
   ·subst c33
    have H1 : (some (0, 0, ([] : List (S37)), false)) = some (r1, r2, r3, r4) := by rw [if_pos rfl] at H; exact H
    clear H
    have H := H1
    clear H1
    simp only [Option.some.injEq, Prod.mk.injEq] at H
    obtain ⟨rfl, rfl, rfl, rfl⟩ := H
    have hnb34 := NB102_101.out
    have hnc34 := NB101_102.out
    obtain ⟨hcz35_0, hcz35_1, hcz35_2, hfz35_0, hfz35_1, hfz35_2⟩ := uZ3 BK102
    go_wp2
    refine bodyPost_ret (results_ct rfl _ _ gb102 33 #[.int .i64 0, .int .i64 0, .slice none 0 0] (0, 0) _ rfl (by refine blk_put (cs := #[.int .i64 0, .int .i64 0, .slice none 0 0]) ?_ 2 _ rfl; refine blk_put (cs := #[.int .i64 0, .int .i64 0, .slice none 0 0]) ?_ 1 _ rfl; refine blk_put (cs := #[.int .i64 0, .int .i64 0, .slice none 0 0]) ?_ 0 _ rfl; exact (uP BK102)) Try.underlying33 rfl (by kernel_rfl)) rfl ?_
    exact ⟨_, uA, uN, by exact uW⟩
   ·replace c33 := Bool.eq_false_iff.mpr c33
    subst c33
    have H1 : (impl_MakePuzzle.l0 kj4 a1 a3 a2 0 a0_0 a0_1 a0_0 a0_1 ([] : List (S37))) = some (r1, r2, r3, r4) := by rw [if_neg (show ¬ (false = true) by decide)] at H; exact H
    clear H
    have H := H1
    clear H1
    have H' := am H
    clear H
    have hnb36 := NB101_102.out
    have hnc36 := NB102_101.out
    obtain ⟨hcz37_0, hcz37_1, hfz37_0, hfz37_1⟩ := uZ2 BK101
    go_wp2_with (first | ((with_reducible refine gate_dst (N := 10) rfl ?_); refine uX (N := 10) (cs := #[.int .i64 0, .int .i64 0, .slice none 0 0]) (t := 33) ?_; intro gb107 hg w38 hbox hb; have BK107 := am (hbox); have GW107 := uE hg; have GE107 := GW107; have NB101_107 := uL BK101 hg; have NB107_101 := uY NB101_107; have NB102_107 := uL BK102 hg; have NB107_102 := uY NB102_107; replace BK101 := uB BK101 hb; replace BK102 := uB BK102 hb; replace HB := uS hb; clear hb hbox hg; have hnb39 := NB107_101.out; have hnc39 := NB101_107.out; have hnb40 := NB107_102.out; have hnc40 := NB102_107.out; obtain ⟨hcz41_0, hcz41_1, hcz41_2, hfz41_0, hfz41_1, hfz41_2⟩ := uZ3 BK107))
    go_loopg [11, 37] kj4 (fun kq v11 v37 w' => ∃ (x11_2 : Int) (x37_2 : Int) (x108002_2 : List (S37)) (u108002 : Value), v11 = .int .i64 x11_2 ∧ v37 = .int .i64 x37_2 ∧ Aside0 (impl_MakePuzzle.l0 kq a1 x11_2 a2 x37_2 a0_0 a0_1 a0_0 a0_1 x108002_2 = some (r1, r2, r3, r4)) ∧ Aside0 (kq ≤ kj4) ∧ Aside0 (Kd.R k37 37 w' w.heap.size (fun _ => True) u108002 x108002_2) ∧ Aside0 (w'.heap[gb101]? = some (.cells #[.int .i64 a0_0, .int .i64 a0_1] 30 (0, 0))) ∧ Aside0 (w'.heap[gb102]? = some (.cells #[.int .i64 0, .int .i64 0, (.slice none 0 0)] 33 (0, 0))) ∧ Aside0 (w'.heap[gb107]? = some (.cells #[.int .i64 a0_0, .int .i64 a0_1, u108002] 33 (0, 0))) ∧ Aside0 (Below w.heap.size w w'))
    case atStart => exact ⟨(a3), (0), (([] : List (S37))), (.slice none 0 0), (by first | rfl | (simp; done) | (simp [*]; done)), (by first | rfl | (simp; done) | (simp [*]; done)), H', ⟨Nat.le_refl _⟩, ⟨uN⟩, ⟨by refine blk_far ?_ NB101_107.out _; refine blk_far ?_ NB101_107.out _; refine blk_far ?_ NB101_107.out _; exact (uP BK101)⟩, ⟨by refine blk_far ?_ NB102_107.out _; refine blk_far ?_ NB102_107.out _; refine blk_far ?_ NB102_107.out _; exact (uP BK102)⟩, ⟨by refine blk_put (cs := #[.int .i64 a0_0, .int .i64 a0_1, .slice none 0 0]) ?_ 2 _ rfl; refine blk_put (cs := #[.int .i64 a0_0, .int .i64 0, .slice none 0 0]) ?_ 1 _ rfl; refine blk_put (cs := #[.int .i64 0, .int .i64 0, .slice none 0 0]) ?_ 0 _ rfl; exact (uP BK107)⟩, ⟨by exact uW⟩⟩
    case round =>
     clear H'
     try clear c1
     try clear c2
     try clear p2
     try clear c3
     try clear c4
     try clear c5
     try clear c9
     try clear c11
     try clear c13
     try clear c15
     try clear c16
     try clear c20
     try clear c25
     try clear c30
     try clear c33
     try clear c34
     try clear c36
     try clear c39
     try clear c40
     try clear hcz16_0
     try clear hcz16_1
     try clear hcz18_0
     try clear hcz18_1
     try clear hcz21_0
     try clear hcz21_1
     try clear hcz23_0
     try clear hcz23_1
     try clear hcz26_0
     try clear hcz26_1
     try clear hcz28_0
     try clear hcz28_1
     try clear hcz31_0
     try clear hcz31_1
     try clear hcz35_0
     try clear hcz35_1
     try clear hcz35_2
     try clear hcz37_0
     try clear hcz37_1
     try clear hcz41_0
     try clear hcz41_1
     try clear hcz41_2
     try clear hfz16_0
     try clear hfz16_1
     try clear hfz18_0
     try clear hfz18_1
     try clear hfz21_0
     try clear hfz21_1
     try clear hfz23_0
     try clear hfz23_1
     try clear hfz26_0
     try clear hfz26_1
     try clear hfz28_0
     try clear hfz28_1
     try clear hfz31_0
     try clear hfz31_1
     try clear hfz35_0
     try clear hfz35_1
     try clear hfz35_2
     try clear hfz37_0
     try clear hfz37_1
     try clear hfz41_0
     try clear hfz41_1
     try clear hfz41_2
     try clear p2
     obtain ⟨x11_2, x37_2, x108002_2, u108002, rfl, rfl, HA, HK2, HO_108002, BK101, BK102, BK107, HB⟩ := hrel
     cases gk with
     | zero => exact absurd HA.out (by simp [impl_MakePuzzle.l0])
     | succ k2 =>
      have H := HA.out
      clear HA
      simp only [impl_MakePuzzle.l0] at H
      by_cases c42 : x37_2 < a2
      ·rw [if_pos c42] at H
       have c42b0 : decide (x37_2 < a2) = true := decide_eq_true c42
       clear c42
       by_cases c43 : (Int.tmod (Int.tmod (wrap64 ((wrap64 (x11_2 * 233)) + 1871)) 10007) 6) = 2
       ·rw [if_pos c43] at H
        have c43b0 : ((Int.tmod (Int.tmod (wrap64 ((wrap64 (x11_2 * 233)) + 1871)) 10007) 6) == 2) = true := beq_iff_eq.mpr c43
        have c43b1 : ((Int.tmod (Int.tmod (wrap64 ((wrap64 (x11_2 * 233)) + 1871)) 10007) 6) != 2) = false := bne_eq_false_iff_eq.mpr c43
        clear c43
        replace H := bH H
        obtain ⟨t109, A440, H⟩ := H
        replace H : (if x108002_2.length < 5864062014805 then (impl_MakePuzzle.l0 k2 a1 (Int.tmod (wrap64 ((wrap64 ((Int.tmod (wrap64 ((wrap64 (x11_2 * 233)) + 1871)) 10007) * 233)) + 1871)) 10007) a2 (wrap64 (x37_2 + 1)) a0_0 a0_1 a0_0 a0_1 (x108002_2 ++ [(⟨Int.tmod (Int.tmod (wrap64 ((wrap64 (x11_2 * 233)) + 1871)) 10007) 6, wrap64 ((Int.tmod (Int.tmod (wrap64 ((wrap64 ((Int.tmod (wrap64 ((wrap64 (x11_2 * 233)) + 1871)) 10007) * 233)) + 1871)) 10007) 8) + 2), t109⟩ : S37)])) else (none)) = some (r1, r2, r3, r4) := H
        have A44 := am A440
        clear A440
        by_cases c45 : x108002_2.length < 5864062014805
        ·rw [if_pos c45] at H
         have LMc45 := am c45
         clear c45
         obtain ⟨y110, hy110⟩ : ∃ y_ : List (S37), y_ = (x108002_2 ++ [(⟨Int.tmod (Int.tmod (wrap64 ((wrap64 (x11_2 * 233)) + 1871)) 10007) 6, wrap64 ((Int.tmod (Int.tmod (wrap64 ((wrap64 ((Int.tmod (wrap64 ((wrap64 (x11_2 * 233)) + 1871)) 10007) * 233)) + 1871)) 10007) 8) + 2), t109⟩ : S37)]) := ⟨_, rfl⟩
         replace H : (impl_MakePuzzle.l0 k2 a1 (Int.tmod (wrap64 ((wrap64 ((Int.tmod (wrap64 ((wrap64 (x11_2 * 233)) + 1871)) 10007) * 233)) + 1871)) 10007) a2 (wrap64 (x37_2 + 1)) a0_0 a0_1 a0_0 a0_1 y110) = some (r1, r2, r3, r4) := by first | (rw [hy110]; with_reducible exact H) | (have H2_ := (Option.bind_some _ _).symm.trans H; rw [hy110]; with_reducible exact H2_) | (have H2_ := (Option.bind_some _ _).symm.trans H; with_reducible exact H2_) | with_reducible exact H | (rw [hy110]; exact H) | exact H
         have Ny110 := am hy110
         clear hy110
         have H' := am H
         clear H
         go_wp2_with (first | ((with_reducible refine gate_dst (N := 12) rfl ?_); refine uX (N := 12) (cs := #[.int .i64 0, .int .i64 0, .int .i64 0]) (t := 37) ?_; intro gb108 hg w46 hbox hb; have BK108 := am (hbox); have GW108 := uE hg; have GE108 := GW108; have NB101_108 := uL BK101 hg; have NB108_101 := uY NB101_108; have NB102_108 := uL BK102 hg; have NB108_102 := uY NB102_108; have NB107_108 := uL BK107 hg; have NB108_107 := uY NB107_108; replace HO_108002 := am (Kd.R_below (Kd.R_elderB (uR HO_108002) gb108 (Nat.le_of_eq hg.symm)) hb); replace BK101 := uB BK101 hb; replace BK102 := uB BK102 hb; replace BK107 := uB BK107 hb; replace HB := uS hb; clear hb hbox hg; have hnb47 := NB108_101.out; have hnc47 := NB101_108.out; have hnb48 := NB108_102.out; have hnc48 := NB102_108.out; have hnb49 := NB108_107.out; have hnc49 := NB107_108.out; have hcz50_0 := uZ BK108 0; have hcz50_1 := uZ BK108 1; have hq1_ : (w46.setCell ⟨gb108, 0, none⟩ (.int .i64 (Int.tmod (Int.tmod (wrap64 ((wrap64 (x11_2 * 233)) + 1871)) 10007) 6))).cell? ⟨gb108, 1, none⟩ = some (.int .i64 0) := (World.cell?_setCell_other _ _ _ _ (by simp)).trans hcz50_1; have hq2_ : ((w46.setCell ⟨gb108, 0, none⟩ (.int .i64 (Int.tmod (Int.tmod (wrap64 ((wrap64 (x11_2 * 233)) + 1871)) 10007) 6))).setCell ⟨gb108, 1, none⟩ (.int .i64 0)).cell? ⟨gb108, 1, none⟩ = some (.int .i64 0) := World.cell?_setCell_same _ _ _ hq1_; have hcz50_2 := uZ BK108 2; have hfz50_0 := uF BK108 0; have hfz50_1 := uF BK108 1; have hfz50_2 := uF BK108 2; have hnb51 := NB101_102.out; have hnc51 := NB102_101.out; have hnb52 := NB101_107.out; have hnc52 := NB107_101.out; obtain ⟨hcz53_0, hcz53_1, hfz53_0, hfz53_1⟩ := uZ2 BK101) | ((with_reducible refine gate_callee (f := 56) rfl ?_); refine uGo (some 67) Try.func56 #[.agg #[.int .i64 a0_0, .int .i64 a0_1], .agg #[.int .i64 (Int.tmod (Int.tmod (wrap64 ((wrap64 (x11_2 * 233)) + 1871)) 10007) 6), .int .i64 (wrap64 ((Int.tmod (Int.tmod (wrap64 ((wrap64 ((Int.tmod (wrap64 ((wrap64 (x11_2 * 233)) + 1871)) 10007) * 233)) + 1871)) 10007) 8) + 2)), .int .i64 0], .int .i64 a1] ?_; (with_reducible refine (impl_toldBy.calls a0_0 a0_1 (Int.tmod (Int.tmod (wrap64 ((wrap64 (x11_2 * 233)) + 1871)) 10007) 6) (wrap64 ((Int.tmod (Int.tmod (wrap64 ((wrap64 ((Int.tmod (wrap64 ((wrap64 (x11_2 * 233)) + 1871)) 10007) * 233)) + 1871)) 10007) 8) + 2)) 0 a1 t109 _ A44.out).mono ?_); rintro e w54 ⟨rfl, hb⟩; refine ⟨_, rfl, ?_⟩; replace HO_108002 := am (Kd.R_below (by (with_reducible repeat (first | apply rA | apply rN | apply rD)); exact (Kd.R_mono (Kd.R_far (p := ⟨gb108, 1, none⟩) (Kd.R_far (p := ⟨gb108, 2, none⟩) (Kd.R_far (p := ⟨gb108, 1, none⟩) (Kd.R_far (p := ⟨gb108, 0, none⟩) (Kd.R_mono HO_108002.out (fun k_ hk => (⟨hk, hk.2⟩ : _ ∧ k_ ≠ gb108))) (fun _ hk => hk.2) (.int .i64 (Int.tmod (Int.tmod (wrap64 ((wrap64 (x11_2 * 233)) + 1871)) 10007) 6))) (fun _ hk => hk.2) (.int .i64 0)) (fun _ hk => hk.2) (.int .i64 0)) (fun _ hk => hk.2) (.int .i64 (wrap64 ((Int.tmod (Int.tmod (wrap64 ((wrap64 ((Int.tmod (wrap64 ((wrap64 (x11_2 * 233)) + 1871)) 10007) * 233)) + 1871)) 10007) 8) + 2)))) (fun _ h_ => h_.1))) hb); replace BK101 := am (blk_below (g := gb101) (o := .cells #[.int .i64 a0_0, .int .i64 a0_1] 30 (0, 0)) (by refine blk_far ?_ NB101_108.out _; refine blk_far ?_ NB101_108.out _; refine blk_far ?_ NB101_108.out _; refine blk_far ?_ NB101_108.out _; exact (uP BK101)) hb); replace BK102 := am (blk_below (g := gb102) (o := .cells #[.int .i64 0, .int .i64 0, .slice none 0 0] 33 (0, 0)) (by refine blk_far ?_ NB102_108.out _; refine blk_far ?_ NB102_108.out _; refine blk_far ?_ NB102_108.out _; refine blk_far ?_ NB102_108.out _; exact (uP BK102)) hb); replace BK107 := am (blk_below (g := gb107) (o := .cells #[.int .i64 a0_0, .int .i64 a0_1, u108002] 33 (0, 0)) (by refine blk_far ?_ NB107_108.out _; refine blk_far ?_ NB107_108.out _; refine blk_far ?_ NB107_108.out _; refine blk_far ?_ NB107_108.out _; exact (uP BK107)) hb); replace BK108 := am (blk_below (g := gb108) (o := .cells #[.int .i64 (Int.tmod (Int.tmod (wrap64 ((wrap64 (x11_2 * 233)) + 1871)) 10007) 6), .int .i64 (wrap64 ((Int.tmod (Int.tmod (wrap64 ((wrap64 ((Int.tmod (wrap64 ((wrap64 (x11_2 * 233)) + 1871)) 10007) * 233)) + 1871)) 10007) 8) + 2)), .int .i64 0] 37 (0, 0)) (by refine blk_put (cs := #[.int .i64 (Int.tmod (Int.tmod (wrap64 ((wrap64 (x11_2 * 233)) + 1871)) 10007) 6), .int .i64 0, .int .i64 0]) ?_ 1 _ rfl; refine blk_put (cs := #[.int .i64 (Int.tmod (Int.tmod (wrap64 ((wrap64 (x11_2 * 233)) + 1871)) 10007) 6), .int .i64 0, .int .i64 0]) ?_ 2 _ rfl; refine blk_put (cs := #[.int .i64 (Int.tmod (Int.tmod (wrap64 ((wrap64 (x11_2 * 233)) + 1871)) 10007) 6), .int .i64 0, .int .i64 0]) ?_ 1 _ rfl; refine blk_put (cs := #[.int .i64 0, .int .i64 0, .int .i64 0]) ?_ 0 _ rfl; exact (uP BK108)) hb); replace HB := uS hb; (try clear hb); (try clear hb2); (try clear hk); (try clear hi); obtain ⟨hcz55_0, hcz55_1, hcz55_2, hfz55_0, hfz55_1, hfz55_2⟩ := uZ3 BK108; have hnb56 := NB107_102.out; have hnc56 := NB102_107.out; obtain ⟨hcz57_0, hcz57_1, hcz57_2, hfz57_0, hfz57_1, hfz57_2⟩ := uZ3 BK107) | ((with_reducible refine gate_builtin (b := .append) (xs := #[.tmp 70, .tmp 72]) rfl ?_); at_builtin; refine Kd.R_append k37 (w0 := w) w.heap.size rfl (.tmp 70) (.tmp 72) 31 37 (.agg #[(.int .i64 0), (.int .i64 0), (.int .i64 0)]) 24 rfl Try.underlying31 info37 rfl (by decide) (by omega) u108002 x108002_2 (⟨Int.tmod (Int.tmod (wrap64 ((wrap64 (x11_2 * 233)) + 1871)) 10007) 6, wrap64 ((Int.tmod (Int.tmod (wrap64 ((wrap64 ((Int.tmod (wrap64 ((wrap64 (x11_2 * 233)) + 1871)) 10007) * 233)) + 1871)) 10007) 8) + 2), t109⟩ : S37) [.int .i64 (Int.tmod (Int.tmod (wrap64 ((wrap64 (x11_2 * 233)) + 1871)) 10007) 6), .int .i64 (wrap64 ((Int.tmod (Int.tmod (wrap64 ((wrap64 ((Int.tmod (wrap64 ((wrap64 (x11_2 * 233)) + 1871)) 10007) * 233)) + 1871)) 10007) 8) + 2)), .int .i64 t109] (fun k_ => k_ ≠ gb108) (fun _ => False) rfl (by first | (go_simp; done) | (go_simp; rfl)) ?aP (fun _ hk => hk.elim) ?aF ?aO ?aB ?aS ?aL ?_; (case aP => exact k37_mkM _ _ _ (⟨Int.tmod (Int.tmod (wrap64 ((wrap64 (x11_2 * 233)) + 1871)) 10007) 6, wrap64 ((Int.tmod (Int.tmod (wrap64 ((wrap64 ((Int.tmod (wrap64 ((wrap64 (x11_2 * 233)) + 1871)) 10007) * 233)) + 1871)) 10007) 8) + 2), t109⟩ : S37)); (case aB => exact uW); (case aF => exact (fun k_ hk => Kd.freshB (g := gb108) (o := .cells #[.int .i64 (Int.tmod (Int.tmod (wrap64 ((wrap64 (x11_2 * 233)) + 1871)) 10007) 6), .int .i64 (wrap64 ((Int.tmod (Int.tmod (wrap64 ((wrap64 ((Int.tmod (wrap64 ((wrap64 (x11_2 * 233)) + 1871)) 10007) * 233)) + 1871)) 10007) 8) + 2)), .int .i64 t109] 37 (0, 0)) (by refine blk_put (cs := #[.int .i64 (Int.tmod (Int.tmod (wrap64 ((wrap64 (x11_2 * 233)) + 1871)) 10007) 6), .int .i64 (wrap64 ((Int.tmod (Int.tmod (wrap64 ((wrap64 ((Int.tmod (wrap64 ((wrap64 (x11_2 * 233)) + 1871)) 10007) * 233)) + 1871)) 10007) 8) + 2)), .int .i64 0]) ?_ 2 _ rfl; exact (uP BK108)) k_ hk)); (case aO => exact (by (with_reducible repeat (first | apply rA | apply rN | apply rD)); exact Kd.R_mono (Kd.R_far (p := ⟨gb108, 2, none⟩) (Kd.R_mono HO_108002.out (fun k_ hk => (⟨hk, hk.2⟩ : _ ∧ k_ ≠ gb108))) (fun _ hk => hk.2) (.int .i64 t109)) (fun _ hk => hk.1.2))); (case aS => exact (below_size uW)); (case aL => have := LMc45.out; omega); intro v111 w58 ho hb hg hat; rw [← Ny110.out] at ho; have HO112 := am (ho); replace BK101 := am (blk_grown (g := gb101) (o := .cells #[.int .i64 a0_0, .int .i64 a0_1] 30 (0, 0)) (by refine blk_far ?_ NB101_108.out _; exact (uP BK101)) hg (Kd.R_ne HO_108002.out BK101.out (by decide))); replace BK102 := am (blk_grown (g := gb102) (o := .cells #[.int .i64 0, .int .i64 0, .slice none 0 0] 33 (0, 0)) (by refine blk_far ?_ NB102_108.out _; exact (uP BK102)) hg (Kd.R_ne HO_108002.out BK102.out (by decide))); replace BK107 := am (blk_grown (g := gb107) (o := .cells #[.int .i64 a0_0, .int .i64 a0_1, u108002] 33 (0, 0)) (by refine blk_far ?_ NB107_108.out _; exact (uP BK107)) hg (Kd.R_ne HO_108002.out BK107.out (by decide))); replace BK108 := am (blk_grown (g := gb108) (o := .cells #[.int .i64 (Int.tmod (Int.tmod (wrap64 ((wrap64 (x11_2 * 233)) + 1871)) 10007) 6), .int .i64 (wrap64 ((Int.tmod (Int.tmod (wrap64 ((wrap64 ((Int.tmod (wrap64 ((wrap64 (x11_2 * 233)) + 1871)) 10007) * 233)) + 1871)) 10007) 8) + 2)), .int .i64 t109] 37 (0, 0)) (by refine blk_put (cs := #[.int .i64 (Int.tmod (Int.tmod (wrap64 ((wrap64 (x11_2 * 233)) + 1871)) 10007) 6), .int .i64 (wrap64 ((Int.tmod (Int.tmod (wrap64 ((wrap64 ((Int.tmod (wrap64 ((wrap64 (x11_2 * 233)) + 1871)) 10007) * 233)) + 1871)) 10007) 8) + 2)), .int .i64 0]) ?_ 2 _ rfl; exact (uP BK108)) hg (Kd.R_away HO_108002.out (fun _ hk => hk.2))); replace HB := am (hb); clear HO_108002; clear ho hb hg hat; obtain ⟨Ao59, co59, eo59⟩ := Kd.R_slice HO112.out; subst eo59; obtain ⟨hcz60_0, hcz60_1, hcz60_2, hfz60_0, hfz60_1, hfz60_2⟩ := uZ3 BK107))
         go_roundg k2
         case measure => have := HJ4.out; have := HK2.out; omega
         case rel => exact ⟨(Int.tmod (wrap64 ((wrap64 ((Int.tmod (wrap64 ((wrap64 (x11_2 * 233)) + 1871)) 10007) * 233)) + 1871)) 10007), (wrap64 (x37_2 + 1)), (y110), (.slice Ao59 y110.length co59), (by first | rfl | (simp; done) | (simp [*]; done)), (by first | rfl | (simp; done) | (simp [*]; done)), H', ⟨by have := HJ4.out; have := HK2.out; omega⟩, ⟨by (with_reducible repeat (first | apply rA | apply rN | apply rD)); exact Kd.R_mono (Kd.R_far (p := ⟨gb107, 2, none⟩) (Kd.R_types HO112.out BK107.out (by decide)) (fun _ hk => hk.2) (.slice Ao59 y110.length co59)) (fun _ hk => trivial)⟩, ⟨by refine blk_far ?_ NB101_107.out _; exact (uP BK101)⟩, ⟨by refine blk_far ?_ NB102_107.out _; exact (uP BK102)⟩, ⟨by refine blk_put (cs := #[.int .i64 a0_0, .int .i64 a0_1, u108002]) ?_ 2 _ rfl; exact (uP BK107)⟩, ⟨by exact uW⟩⟩
        ·rw [if_neg c45] at H
         exact absurd H (by simp)
       ·rw [if_neg c43] at H
        have c43b0 : ((Int.tmod (Int.tmod (wrap64 ((wrap64 (x11_2 * 233)) + 1871)) 10007) 6) == 2) = false := beq_eq_false_iff_ne.mpr c43
        have c43b1 : ((Int.tmod (Int.tmod (wrap64 ((wrap64 (x11_2 * 233)) + 1871)) 10007) 6) != 2) = true := bne_iff_ne.mpr c43
        by_cases c61 : (Int.tmod (Int.tmod (wrap64 ((wrap64 (x11_2 * 233)) + 1871)) 10007) 6) = 4
        ·rw [if_pos c61] at H
         have c61b0 : ((Int.tmod (Int.tmod (wrap64 ((wrap64 (x11_2 * 233)) + 1871)) 10007) 6) == 4) = true := beq_iff_eq.mpr c61
         have c61b1 : ((Int.tmod (Int.tmod (wrap64 ((wrap64 (x11_2 * 233)) + 1871)) 10007) 6) != 4) = false := bne_eq_false_iff_eq.mpr c61
         clear c61
         replace H := bH H
         obtain ⟨t113, A620, H⟩ := H
         replace H : (if x108002_2.length < 5864062014805 then (impl_MakePuzzle.l0 k2 a1 (Int.tmod (wrap64 ((wrap64 ((Int.tmod (wrap64 ((wrap64 (x11_2 * 233)) + 1871)) 10007) * 233)) + 1871)) 10007) a2 (wrap64 (x37_2 + 1)) a0_0 a0_1 a0_0 a0_1 (x108002_2 ++ [(⟨Int.tmod (Int.tmod (wrap64 ((wrap64 (x11_2 * 233)) + 1871)) 10007) 6, wrap64 ((Int.tmod (Int.tmod (wrap64 ((wrap64 ((Int.tmod (wrap64 ((wrap64 (x11_2 * 233)) + 1871)) 10007) * 233)) + 1871)) 10007) 40) + 1), t113⟩ : S37)])) else (none)) = some (r1, r2, r3, r4) := H
         have A62 := am A620
         clear A620
         by_cases c63 : x108002_2.length < 5864062014805
         ·rw [if_pos c63] at H
          have LMc63 := am c63
          clear c63
          obtain ⟨y114, hy114⟩ : ∃ y_ : List (S37), y_ = (x108002_2 ++ [(⟨Int.tmod (Int.tmod (wrap64 ((wrap64 (x11_2 * 233)) + 1871)) 10007) 6, wrap64 ((Int.tmod (Int.tmod (wrap64 ((wrap64 ((Int.tmod (wrap64 ((wrap64 (x11_2 * 233)) + 1871)) 10007) * 233)) + 1871)) 10007) 40) + 1), t113⟩ : S37)]) := ⟨_, rfl⟩
          replace H : (impl_MakePuzzle.l0 k2 a1 (Int.tmod (wrap64 ((wrap64 ((Int.tmod (wrap64 ((wrap64 (x11_2 * 233)) + 1871)) 10007) * 233)) + 1871)) 10007) a2 (wrap64 (x37_2 + 1)) a0_0 a0_1 a0_0 a0_1 y114) = some (r1, r2, r3, r4) := by first | (rw [hy114]; with_reducible exact H) | (have H2_ := (Option.bind_some _ _).symm.trans H; rw [hy114]; with_reducible exact H2_) | (have H2_ := (Option.bind_some _ _).symm.trans H; with_reducible exact H2_) | with_reducible exact H | (rw [hy114]; exact H) | exact H
          have Ny114 := am hy114
          clear hy114
          have H' := am H
          clear H
          go_wp2_with (first | ((with_reducible refine gate_dst (N := 12) rfl ?_); refine uX (N := 12) (cs := #[.int .i64 0, .int .i64 0, .int .i64 0]) (t := 37) ?_; intro gb108 hg w64 hbox hb; have BK108 := am (hbox); have GW108 := uE hg; have GE108 := GW108; have NB101_108 := uL BK101 hg; have NB108_101 := uY NB101_108; have NB102_108 := uL BK102 hg; have NB108_102 := uY NB102_108; have NB107_108 := uL BK107 hg; have NB108_107 := uY NB107_108; replace HO_108002 := am (Kd.R_below (Kd.R_elderB (uR HO_108002) gb108 (Nat.le_of_eq hg.symm)) hb); replace BK101 := uB BK101 hb; replace BK102 := uB BK102 hb; replace BK107 := uB BK107 hb; replace HB := uS hb; clear hb hbox hg; have hnb65 := NB108_101.out; have hnc65 := NB101_108.out; have hnb66 := NB108_102.out; have hnc66 := NB102_108.out; have hnb67 := NB108_107.out; have hnc67 := NB107_108.out; have hcz68_0 := uZ BK108 0; have hcz68_1 := uZ BK108 1; have hq1_ : (w64.setCell ⟨gb108, 0, none⟩ (.int .i64 (Int.tmod (Int.tmod (wrap64 ((wrap64 (x11_2 * 233)) + 1871)) 10007) 6))).cell? ⟨gb108, 1, none⟩ = some (.int .i64 0) := (World.cell?_setCell_other _ _ _ _ (by simp)).trans hcz68_1; have hq2_ : ((w64.setCell ⟨gb108, 0, none⟩ (.int .i64 (Int.tmod (Int.tmod (wrap64 ((wrap64 (x11_2 * 233)) + 1871)) 10007) 6))).setCell ⟨gb108, 1, none⟩ (.int .i64 0)).cell? ⟨gb108, 1, none⟩ = some (.int .i64 0) := World.cell?_setCell_same _ _ _ hq1_; have hcz68_2 := uZ BK108 2; have hfz68_0 := uF BK108 0; have hfz68_1 := uF BK108 1; have hfz68_2 := uF BK108 2; have hnb69 := NB101_102.out; have hnc69 := NB102_101.out; have hnb70 := NB101_107.out; have hnc70 := NB107_101.out; obtain ⟨hcz71_0, hcz71_1, hfz71_0, hfz71_1⟩ := uZ2 BK101) | ((with_reducible refine gate_callee (f := 56) rfl ?_); refine uGo (some 67) Try.func56 #[.agg #[.int .i64 a0_0, .int .i64 a0_1], .agg #[.int .i64 (Int.tmod (Int.tmod (wrap64 ((wrap64 (x11_2 * 233)) + 1871)) 10007) 6), .int .i64 (wrap64 ((Int.tmod (Int.tmod (wrap64 ((wrap64 ((Int.tmod (wrap64 ((wrap64 (x11_2 * 233)) + 1871)) 10007) * 233)) + 1871)) 10007) 40) + 1)), .int .i64 0], .int .i64 a1] ?_; (with_reducible refine (impl_toldBy.calls a0_0 a0_1 (Int.tmod (Int.tmod (wrap64 ((wrap64 (x11_2 * 233)) + 1871)) 10007) 6) (wrap64 ((Int.tmod (Int.tmod (wrap64 ((wrap64 ((Int.tmod (wrap64 ((wrap64 (x11_2 * 233)) + 1871)) 10007) * 233)) + 1871)) 10007) 40) + 1)) 0 a1 t113 _ A62.out).mono ?_); rintro e w72 ⟨rfl, hb⟩; refine ⟨_, rfl, ?_⟩; replace HO_108002 := am (Kd.R_below (by (with_reducible repeat (first | apply rA | apply rN | apply rD)); exact (Kd.R_mono (Kd.R_far (p := ⟨gb108, 1, none⟩) (Kd.R_far (p := ⟨gb108, 2, none⟩) (Kd.R_far (p := ⟨gb108, 1, none⟩) (Kd.R_far (p := ⟨gb108, 0, none⟩) (Kd.R_mono HO_108002.out (fun k_ hk => (⟨hk, hk.2⟩ : _ ∧ k_ ≠ gb108))) (fun _ hk => hk.2) (.int .i64 (Int.tmod (Int.tmod (wrap64 ((wrap64 (x11_2 * 233)) + 1871)) 10007) 6))) (fun _ hk => hk.2) (.int .i64 0)) (fun _ hk => hk.2) (.int .i64 0)) (fun _ hk => hk.2) (.int .i64 (wrap64 ((Int.tmod (Int.tmod (wrap64 ((wrap64 ((Int.tmod (wrap64 ((wrap64 (x11_2 * 233)) + 1871)) 10007) * 233)) + 1871)) 10007) 40) + 1)))) (fun _ h_ => h_.1))) hb); replace BK101 := am (blk_below (g := gb101) (o := .cells #[.int .i64 a0_0, .int .i64 a0_1] 30 (0, 0)) (by refine blk_far ?_ NB101_108.out _; refine blk_far ?_ NB101_108.out _; refine blk_far ?_ NB101_108.out _; refine blk_far ?_ NB101_108.out _; exact (uP BK101)) hb); replace BK102 := am (blk_below (g := gb102) (o := .cells #[.int .i64 0, .int .i64 0, .slice none 0 0] 33 (0, 0)) (by refine blk_far ?_ NB102_108.out _; refine blk_far ?_ NB102_108.out _; refine blk_far ?_ NB102_108.out _; refine blk_far ?_ NB102_108.out _; exact (uP BK102)) hb); replace BK107 := am (blk_below (g := gb107) (o := .cells #[.int .i64 a0_0, .int .i64 a0_1, u108002] 33 (0, 0)) (by refine blk_far ?_ NB107_108.out _; refine blk_far ?_ NB107_108.out _; refine blk_far ?_ NB107_108.out _; refine blk_far ?_ NB107_108.out _; exact (uP BK107)) hb); replace BK108 := am (blk_below (g := gb108) (o := .cells #[.int .i64 (Int.tmod (Int.tmod (wrap64 ((wrap64 (x11_2 * 233)) + 1871)) 10007) 6), .int .i64 (wrap64 ((Int.tmod (Int.tmod (wrap64 ((wrap64 ((Int.tmod (wrap64 ((wrap64 (x11_2 * 233)) + 1871)) 10007) * 233)) + 1871)) 10007) 40) + 1)), .int .i64 0] 37 (0, 0)) (by refine blk_put (cs := #[.int .i64 (Int.tmod (Int.tmod (wrap64 ((wrap64 (x11_2 * 233)) + 1871)) 10007) 6), .int .i64 0, .int .i64 0]) ?_ 1 _ rfl; refine blk_put (cs := #[.int .i64 (Int.tmod (Int.tmod (wrap64 ((wrap64 (x11_2 * 233)) + 1871)) 10007) 6), .int .i64 0, .int .i64 0]) ?_ 2 _ rfl; refine blk_put (cs := #[.int .i64 (Int.tmod (Int.tmod (wrap64 ((wrap64 (x11_2 * 233)) + 1871)) 10007) 6), .int .i64 0, .int .i64 0]) ?_ 1 _ rfl; refine blk_put (cs := #[.int .i64 0, .int .i64 0, .int .i64 0]) ?_ 0 _ rfl; exact (uP BK108)) hb); replace HB := uS hb; (try clear hb); (try clear hb2); (try clear hk); (try clear hi); obtain ⟨hcz73_0, hcz73_1, hcz73_2, hfz73_0, hfz73_1, hfz73_2⟩ := uZ3 BK108; have hnb74 := NB107_102.out; have hnc74 := NB102_107.out; obtain ⟨hcz75_0, hcz75_1, hcz75_2, hfz75_0, hfz75_1, hfz75_2⟩ := uZ3 BK107) | ((with_reducible refine gate_builtin (b := .append) (xs := #[.tmp 70, .tmp 72]) rfl ?_); at_builtin; refine Kd.R_append k37 (w0 := w) w.heap.size rfl (.tmp 70) (.tmp 72) 31 37 (.agg #[(.int .i64 0), (.int .i64 0), (.int .i64 0)]) 24 rfl Try.underlying31 info37 rfl (by decide) (by omega) u108002 x108002_2 (⟨Int.tmod (Int.tmod (wrap64 ((wrap64 (x11_2 * 233)) + 1871)) 10007) 6, wrap64 ((Int.tmod (Int.tmod (wrap64 ((wrap64 ((Int.tmod (wrap64 ((wrap64 (x11_2 * 233)) + 1871)) 10007) * 233)) + 1871)) 10007) 40) + 1), t113⟩ : S37) [.int .i64 (Int.tmod (Int.tmod (wrap64 ((wrap64 (x11_2 * 233)) + 1871)) 10007) 6), .int .i64 (wrap64 ((Int.tmod (Int.tmod (wrap64 ((wrap64 ((Int.tmod (wrap64 ((wrap64 (x11_2 * 233)) + 1871)) 10007) * 233)) + 1871)) 10007) 40) + 1)), .int .i64 t113] (fun k_ => k_ ≠ gb108) (fun _ => False) rfl (by first | (go_simp; done) | (go_simp; rfl)) ?aP (fun _ hk => hk.elim) ?aF ?aO ?aB ?aS ?aL ?_; (case aP => exact k37_mkM _ _ _ (⟨Int.tmod (Int.tmod (wrap64 ((wrap64 (x11_2 * 233)) + 1871)) 10007) 6, wrap64 ((Int.tmod (Int.tmod (wrap64 ((wrap64 ((Int.tmod (wrap64 ((wrap64 (x11_2 * 233)) + 1871)) 10007) * 233)) + 1871)) 10007) 40) + 1), t113⟩ : S37)); (case aB => exact uW); (case aF => exact (fun k_ hk => Kd.freshB (g := gb108) (o := .cells #[.int .i64 (Int.tmod (Int.tmod (wrap64 ((wrap64 (x11_2 * 233)) + 1871)) 10007) 6), .int .i64 (wrap64 ((Int.tmod (Int.tmod (wrap64 ((wrap64 ((Int.tmod (wrap64 ((wrap64 (x11_2 * 233)) + 1871)) 10007) * 233)) + 1871)) 10007) 40) + 1)), .int .i64 t113] 37 (0, 0)) (by refine blk_put (cs := #[.int .i64 (Int.tmod (Int.tmod (wrap64 ((wrap64 (x11_2 * 233)) + 1871)) 10007) 6), .int .i64 (wrap64 ((Int.tmod (Int.tmod (wrap64 ((wrap64 ((Int.tmod (wrap64 ((wrap64 (x11_2 * 233)) + 1871)) 10007) * 233)) + 1871)) 10007) 40) + 1)), .int .i64 0]) ?_ 2 _ rfl; exact (uP BK108)) k_ hk)); (case aO => exact (by (with_reducible repeat (first | apply rA | apply rN | apply rD)); exact Kd.R_mono (Kd.R_far (p := ⟨gb108, 2, none⟩) (Kd.R_mono HO_108002.out (fun k_ hk => (⟨hk, hk.2⟩ : _ ∧ k_ ≠ gb108))) (fun _ hk => hk.2) (.int .i64 t113)) (fun _ hk => hk.1.2))); (case aS => exact (below_size uW)); (case aL => have := LMc63.out; omega); intro v115 w76 ho hb hg hat; rw [← Ny114.out] at ho; have HO116 := am (ho); replace BK101 := am (blk_grown (g := gb101) (o := .cells #[.int .i64 a0_0, .int .i64 a0_1] 30 (0, 0)) (by refine blk_far ?_ NB101_108.out _; exact (uP BK101)) hg (Kd.R_ne HO_108002.out BK101.out (by decide))); replace BK102 := am (blk_grown (g := gb102) (o := .cells #[.int .i64 0, .int .i64 0, .slice none 0 0] 33 (0, 0)) (by refine blk_far ?_ NB102_108.out _; exact (uP BK102)) hg (Kd.R_ne HO_108002.out BK102.out (by decide))); replace BK107 := am (blk_grown (g := gb107) (o := .cells #[.int .i64 a0_0, .int .i64 a0_1, u108002] 33 (0, 0)) (by refine blk_far ?_ NB107_108.out _; exact (uP BK107)) hg (Kd.R_ne HO_108002.out BK107.out (by decide))); replace BK108 := am (blk_grown (g := gb108) (o := .cells #[.int .i64 (Int.tmod (Int.tmod (wrap64 ((wrap64 (x11_2 * 233)) + 1871)) 10007) 6), .int .i64 (wrap64 ((Int.tmod (Int.tmod (wrap64 ((wrap64 ((Int.tmod (wrap64 ((wrap64 (x11_2 * 233)) + 1871)) 10007) * 233)) + 1871)) 10007) 40) + 1)), .int .i64 t113] 37 (0, 0)) (by refine blk_put (cs := #[.int .i64 (Int.tmod (Int.tmod (wrap64 ((wrap64 (x11_2 * 233)) + 1871)) 10007) 6), .int .i64 (wrap64 ((Int.tmod (Int.tmod (wrap64 ((wrap64 ((Int.tmod (wrap64 ((wrap64 (x11_2 * 233)) + 1871)) 10007) * 233)) + 1871)) 10007) 40) + 1)), .int .i64 0]) ?_ 2 _ rfl; exact (uP BK108)) hg (Kd.R_away HO_108002.out (fun _ hk => hk.2))); replace HB := am (hb); clear HO_108002; clear ho hb hg hat; obtain ⟨Ao77, co77, eo77⟩ := Kd.R_slice HO116.out; subst eo77; obtain ⟨hcz78_0, hcz78_1, hcz78_2, hfz78_0, hfz78_1, hfz78_2⟩ := uZ3 BK107))
          go_roundg k2
          case measure => have := HJ4.out; have := HK2.out; omega
          case rel => exact ⟨(Int.tmod (wrap64 ((wrap64 ((Int.tmod (wrap64 ((wrap64 (x11_2 * 233)) + 1871)) 10007) * 233)) + 1871)) 10007), (wrap64 (x37_2 + 1)), (y114), (.slice Ao77 y114.length co77), (by first | rfl | (simp; done) | (simp [*]; done)), (by first | rfl | (simp; done) | (simp [*]; done)), H', ⟨by have := HJ4.out; have := HK2.out; omega⟩, ⟨by (with_reducible repeat (first | apply rA | apply rN | apply rD)); exact Kd.R_mono (Kd.R_far (p := ⟨gb107, 2, none⟩) (Kd.R_types HO116.out BK107.out (by decide)) (fun _ hk => hk.2) (.slice Ao77 y114.length co77)) (fun _ hk => trivial)⟩, ⟨by refine blk_far ?_ NB101_107.out _; exact (uP BK101)⟩, ⟨by refine blk_far ?_ NB102_107.out _; exact (uP BK102)⟩, ⟨by refine blk_put (cs := #[.int .i64 a0_0, .int .i64 a0_1, u108002]) ?_ 2 _ rfl; exact (uP BK107)⟩, ⟨by exact uW⟩⟩
         ·rw [if_neg c63] at H
          exact absurd H (by simp)
        ·rw [if_neg c61] at H
         have c61b0 : ((Int.tmod (Int.tmod (wrap64 ((wrap64 (x11_2 * 233)) + 1871)) 10007) 6) == 4) = false := beq_eq_false_iff_ne.mpr c61
         have c61b1 : ((Int.tmod (Int.tmod (wrap64 ((wrap64 (x11_2 * 233)) + 1871)) 10007) 6) != 4) = true := bne_iff_ne.mpr c61
         replace H := bH H
         obtain ⟨t117, A790, H⟩ := H
         replace H : (if x108002_2.length < 5864062014805 then (impl_MakePuzzle.l0 k2 a1 (Int.tmod (wrap64 ((wrap64 ((Int.tmod (wrap64 ((wrap64 (x11_2 * 233)) + 1871)) 10007) * 233)) + 1871)) 10007) a2 (wrap64 (x37_2 + 1)) a0_0 a0_1 a0_0 a0_1 (x108002_2 ++ [(⟨Int.tmod (Int.tmod (wrap64 ((wrap64 (x11_2 * 233)) + 1871)) 10007) 6, 0, t117⟩ : S37)])) else (none)) = some (r1, r2, r3, r4) := H
         have A79 := am A790
         clear A790
         by_cases c80 : x108002_2.length < 5864062014805
         ·rw [if_pos c80] at H
          have LMc80 := am c80
          clear c80
          obtain ⟨y118, hy118⟩ : ∃ y_ : List (S37), y_ = (x108002_2 ++ [(⟨Int.tmod (Int.tmod (wrap64 ((wrap64 (x11_2 * 233)) + 1871)) 10007) 6, 0, t117⟩ : S37)]) := ⟨_, rfl⟩
          replace H : (impl_MakePuzzle.l0 k2 a1 (Int.tmod (wrap64 ((wrap64 ((Int.tmod (wrap64 ((wrap64 (x11_2 * 233)) + 1871)) 10007) * 233)) + 1871)) 10007) a2 (wrap64 (x37_2 + 1)) a0_0 a0_1 a0_0 a0_1 y118) = some (r1, r2, r3, r4) := by first | (rw [hy118]; with_reducible exact H) | (have H2_ := (Option.bind_some _ _).symm.trans H; rw [hy118]; with_reducible exact H2_) | (have H2_ := (Option.bind_some _ _).symm.trans H; with_reducible exact H2_) | with_reducible exact H | (rw [hy118]; exact H) | exact H
          have Ny118 := am hy118
          clear hy118
          have H' := am H
          clear H
          go_wp2_with (first | ((with_reducible refine gate_dst (N := 12) rfl ?_); refine uX (N := 12) (cs := #[.int .i64 0, .int .i64 0, .int .i64 0]) (t := 37) ?_; intro gb108 hg w81 hbox hb; have BK108 := am (hbox); have GW108 := uE hg; have GE108 := GW108; have NB101_108 := uL BK101 hg; have NB108_101 := uY NB101_108; have NB102_108 := uL BK102 hg; have NB108_102 := uY NB102_108; have NB107_108 := uL BK107 hg; have NB108_107 := uY NB107_108; replace HO_108002 := am (Kd.R_below (Kd.R_elderB (uR HO_108002) gb108 (Nat.le_of_eq hg.symm)) hb); replace BK101 := uB BK101 hb; replace BK102 := uB BK102 hb; replace BK107 := uB BK107 hb; replace HB := uS hb; clear hb hbox hg; have hnb82 := NB108_101.out; have hnc82 := NB101_108.out; have hnb83 := NB108_102.out; have hnc83 := NB102_108.out; have hnb84 := NB108_107.out; have hnc84 := NB107_108.out; have hcz85_0 := uZ BK108 0; have hcz85_1 := uZ BK108 1; have hq1_ : (w81.setCell ⟨gb108, 0, none⟩ (.int .i64 (Int.tmod (Int.tmod (wrap64 ((wrap64 (x11_2 * 233)) + 1871)) 10007) 6))).cell? ⟨gb108, 1, none⟩ = some (.int .i64 0) := (World.cell?_setCell_other _ _ _ _ (by simp)).trans hcz85_1; have hq2_ : ((w81.setCell ⟨gb108, 0, none⟩ (.int .i64 (Int.tmod (Int.tmod (wrap64 ((wrap64 (x11_2 * 233)) + 1871)) 10007) 6))).setCell ⟨gb108, 1, none⟩ (.int .i64 0)).cell? ⟨gb108, 1, none⟩ = some (.int .i64 0) := World.cell?_setCell_same _ _ _ hq1_; have hcz85_2 := uZ BK108 2; have hfz85_0 := uF BK108 0; have hfz85_1 := uF BK108 1; have hfz85_2 := uF BK108 2; have hnb86 := NB101_102.out; have hnc86 := NB102_101.out; have hnb87 := NB101_107.out; have hnc87 := NB107_101.out; obtain ⟨hcz88_0, hcz88_1, hfz88_0, hfz88_1⟩ := uZ2 BK101) | ((with_reducible refine gate_callee (f := 56) rfl ?_); refine uGo (some 67) Try.func56 #[.agg #[.int .i64 a0_0, .int .i64 a0_1], .agg #[.int .i64 (Int.tmod (Int.tmod (wrap64 ((wrap64 (x11_2 * 233)) + 1871)) 10007) 6), .int .i64 0, .int .i64 0], .int .i64 a1] ?_; (with_reducible refine (impl_toldBy.calls a0_0 a0_1 (Int.tmod (Int.tmod (wrap64 ((wrap64 (x11_2 * 233)) + 1871)) 10007) 6) 0 0 a1 t117 _ A79.out).mono ?_); rintro e w89 ⟨rfl, hb⟩; refine ⟨_, rfl, ?_⟩; replace HO_108002 := am (Kd.R_below (by (with_reducible repeat (first | apply rA | apply rN | apply rD)); exact (Kd.R_mono (Kd.R_far (p := ⟨gb108, 2, none⟩) (Kd.R_far (p := ⟨gb108, 1, none⟩) (Kd.R_far (p := ⟨gb108, 0, none⟩) (Kd.R_mono HO_108002.out (fun k_ hk => (⟨hk, hk.2⟩ : _ ∧ k_ ≠ gb108))) (fun _ hk => hk.2) (.int .i64 (Int.tmod (Int.tmod (wrap64 ((wrap64 (x11_2 * 233)) + 1871)) 10007) 6))) (fun _ hk => hk.2) (.int .i64 0)) (fun _ hk => hk.2) (.int .i64 0)) (fun _ h_ => h_.1))) hb); replace BK101 := am (blk_below (g := gb101) (o := .cells #[.int .i64 a0_0, .int .i64 a0_1] 30 (0, 0)) (by refine blk_far ?_ NB101_108.out _; refine blk_far ?_ NB101_108.out _; refine blk_far ?_ NB101_108.out _; exact (uP BK101)) hb); replace BK102 := am (blk_below (g := gb102) (o := .cells #[.int .i64 0, .int .i64 0, .slice none 0 0] 33 (0, 0)) (by refine blk_far ?_ NB102_108.out _; refine blk_far ?_ NB102_108.out _; refine blk_far ?_ NB102_108.out _; exact (uP BK102)) hb); replace BK107 := am (blk_below (g := gb107) (o := .cells #[.int .i64 a0_0, .int .i64 a0_1, u108002] 33 (0, 0)) (by refine blk_far ?_ NB107_108.out _; refine blk_far ?_ NB107_108.out _; refine blk_far ?_ NB107_108.out _; exact (uP BK107)) hb); replace BK108 := am (blk_below (g := gb108) (o := .cells #[.int .i64 (Int.tmod (Int.tmod (wrap64 ((wrap64 (x11_2 * 233)) + 1871)) 10007) 6), .int .i64 0, .int .i64 0] 37 (0, 0)) (by refine blk_put (cs := #[.int .i64 (Int.tmod (Int.tmod (wrap64 ((wrap64 (x11_2 * 233)) + 1871)) 10007) 6), .int .i64 0, .int .i64 0]) ?_ 2 _ rfl; refine blk_put (cs := #[.int .i64 (Int.tmod (Int.tmod (wrap64 ((wrap64 (x11_2 * 233)) + 1871)) 10007) 6), .int .i64 0, .int .i64 0]) ?_ 1 _ rfl; refine blk_put (cs := #[.int .i64 0, .int .i64 0, .int .i64 0]) ?_ 0 _ rfl; exact (uP BK108)) hb); replace HB := uS hb; (try clear hb); (try clear hb2); (try clear hk); (try clear hi); obtain ⟨hcz90_0, hcz90_1, hcz90_2, hfz90_0, hfz90_1, hfz90_2⟩ := uZ3 BK108; have hnb91 := NB107_102.out; have hnc91 := NB102_107.out; obtain ⟨hcz92_0, hcz92_1, hcz92_2, hfz92_0, hfz92_1, hfz92_2⟩ := uZ3 BK107) | ((with_reducible refine gate_builtin (b := .append) (xs := #[.tmp 70, .tmp 72]) rfl ?_); at_builtin; refine Kd.R_append k37 (w0 := w) w.heap.size rfl (.tmp 70) (.tmp 72) 31 37 (.agg #[(.int .i64 0), (.int .i64 0), (.int .i64 0)]) 24 rfl Try.underlying31 info37 rfl (by decide) (by omega) u108002 x108002_2 (⟨Int.tmod (Int.tmod (wrap64 ((wrap64 (x11_2 * 233)) + 1871)) 10007) 6, 0, t117⟩ : S37) [.int .i64 (Int.tmod (Int.tmod (wrap64 ((wrap64 (x11_2 * 233)) + 1871)) 10007) 6), .int .i64 0, .int .i64 t117] (fun k_ => k_ ≠ gb108) (fun _ => False) rfl (by first | (go_simp; done) | (go_simp; rfl)) ?aP (fun _ hk => hk.elim) ?aF ?aO ?aB ?aS ?aL ?_; (case aP => exact k37_mkM _ _ _ (⟨Int.tmod (Int.tmod (wrap64 ((wrap64 (x11_2 * 233)) + 1871)) 10007) 6, 0, t117⟩ : S37)); (case aB => exact uW); (case aF => exact (fun k_ hk => Kd.freshB (g := gb108) (o := .cells #[.int .i64 (Int.tmod (Int.tmod (wrap64 ((wrap64 (x11_2 * 233)) + 1871)) 10007) 6), .int .i64 0, .int .i64 t117] 37 (0, 0)) (by refine blk_put (cs := #[.int .i64 (Int.tmod (Int.tmod (wrap64 ((wrap64 (x11_2 * 233)) + 1871)) 10007) 6), .int .i64 0, .int .i64 0]) ?_ 2 _ rfl; exact (uP BK108)) k_ hk)); (case aO => exact (by (with_reducible repeat (first | apply rA | apply rN | apply rD)); exact Kd.R_mono (Kd.R_far (p := ⟨gb108, 2, none⟩) (Kd.R_mono HO_108002.out (fun k_ hk => (⟨hk, hk.2⟩ : _ ∧ k_ ≠ gb108))) (fun _ hk => hk.2) (.int .i64 t117)) (fun _ hk => hk.1.2))); (case aS => exact (below_size uW)); (case aL => have := LMc80.out; omega); intro v119 w93 ho hb hg hat; rw [← Ny118.out] at ho; have HO120 := am (ho); replace BK101 := am (blk_grown (g := gb101) (o := .cells #[.int .i64 a0_0, .int .i64 a0_1] 30 (0, 0)) (by refine blk_far ?_ NB101_108.out _; exact (uP BK101)) hg (Kd.R_ne HO_108002.out BK101.out (by decide))); replace BK102 := am (blk_grown (g := gb102) (o := .cells #[.int .i64 0, .int .i64 0, .slice none 0 0] 33 (0, 0)) (by refine blk_far ?_ NB102_108.out _; exact (uP BK102)) hg (Kd.R_ne HO_108002.out BK102.out (by decide))); replace BK107 := am (blk_grown (g := gb107) (o := .cells #[.int .i64 a0_0, .int .i64 a0_1, u108002] 33 (0, 0)) (by refine blk_far ?_ NB107_108.out _; exact (uP BK107)) hg (Kd.R_ne HO_108002.out BK107.out (by decide))); replace BK108 := am (blk_grown (g := gb108) (o := .cells #[.int .i64 (Int.tmod (Int.tmod (wrap64 ((wrap64 (x11_2 * 233)) + 1871)) 10007) 6), .int .i64 0, .int .i64 t117] 37 (0, 0)) (by refine blk_put (cs := #[.int .i64 (Int.tmod (Int.tmod (wrap64 ((wrap64 (x11_2 * 233)) + 1871)) 10007) 6), .int .i64 0, .int .i64 0]) ?_ 2 _ rfl; exact (uP BK108)) hg (Kd.R_away HO_108002.out (fun _ hk => hk.2))); replace HB := am (hb); clear HO_108002; clear ho hb hg hat; obtain ⟨Ao94, co94, eo94⟩ := Kd.R_slice HO120.out; subst eo94; obtain ⟨hcz95_0, hcz95_1, hcz95_2, hfz95_0, hfz95_1, hfz95_2⟩ := uZ3 BK107))
          go_roundg k2
          case measure => have := HJ4.out; have := HK2.out; omega
          case rel => exact ⟨(Int.tmod (wrap64 ((wrap64 ((Int.tmod (wrap64 ((wrap64 (x11_2 * 233)) + 1871)) 10007) * 233)) + 1871)) 10007), (wrap64 (x37_2 + 1)), (y118), (.slice Ao94 y118.length co94), (by first | rfl | (simp; done) | (simp [*]; done)), (by first | rfl | (simp; done) | (simp [*]; done)), H', ⟨by have := HJ4.out; have := HK2.out; omega⟩, ⟨by (with_reducible repeat (first | apply rA | apply rN | apply rD)); exact Kd.R_mono (Kd.R_far (p := ⟨gb107, 2, none⟩) (Kd.R_types HO120.out BK107.out (by decide)) (fun _ hk => hk.2) (.slice Ao94 y118.length co94)) (fun _ hk => trivial)⟩, ⟨by refine blk_far ?_ NB101_107.out _; exact (uP BK101)⟩, ⟨by refine blk_far ?_ NB102_107.out _; exact (uP BK102)⟩, ⟨by refine blk_put (cs := #[.int .i64 a0_0, .int .i64 a0_1, u108002]) ?_ 2 _ rfl; exact (uP BK107)⟩, ⟨by exact uW⟩⟩
         ·rw [if_neg c80] at H
          exact absurd H (by simp)
      ·rw [if_neg c42] at H
       have c42b0 : decide (x37_2 < a2) = false := decide_eq_false c42
       clear c42
       simp only [Option.some.injEq, Prod.mk.injEq] at H
       obtain ⟨rfl, rfl, rfl, rfl⟩ := H
       have hnb96 := NB107_101.out
       have hnc96 := NB101_107.out
       have hnb97 := NB107_102.out
       have hnc97 := NB102_107.out
       obtain ⟨hcz98_0, hcz98_1, hcz98_2, hfz98_0, hfz98_1, hfz98_2⟩ := uZ3 BK107
       have hnb99 := NB102_101.out
       have hnc99 := NB101_102.out
       obtain ⟨hcz100_0, hcz100_1, hcz100_2, hfz100_0, hfz100_1, hfz100_2⟩ := uZ3 BK102
       obtain ⟨Ao101, co101, eo101⟩ := Kd.R_slice HO_108002.out
       subst eo101
       go_wp2
       refine bodyPost_ret (results_ct rfl _ _ gb102 33 #[.int .i64 a0_0, .int .i64 a0_1, .slice Ao101 x108002_2.length co101] (0, 0) _ rfl (by refine blk_put (cs := #[.int .i64 a0_0, .int .i64 a0_1, .slice none 0 0]) ?_ 2 _ rfl; refine blk_put (cs := #[.int .i64 a0_0, .int .i64 0, .slice none 0 0]) ?_ 1 _ rfl; refine blk_put (cs := #[.int .i64 0, .int .i64 0, .slice none 0 0]) ?_ 0 _ rfl; exact (uP BK102)) Try.underlying33 rfl (by kernel_rfl)) rfl ?_
       exact ⟨_, uA, by (with_reducible repeat (first | apply rA | apply rN | apply rD)); exact Kd.R_mono (Kd.R_far (p := ⟨gb102, 2, none⟩) (Kd.R_far (p := ⟨gb102, 1, none⟩) (Kd.R_far (p := ⟨gb102, 0, none⟩) (Kd.R_types HO_108002.out BK102.out (by decide)) (fun _ hk => hk.2) (.int .i64 a0_0)) (fun _ hk => hk.2) (.int .i64 a0_1)) (fun _ hk => hk.2) (.slice Ao101 x108002_2.length co101)) (fun _ hk => trivial), by exact uW⟩
end Go.Proofs.Ytcloklakffgbmaa.G
end
