/- Texts of this seat's proofs: contracts of its functions and plain laws about them, with no condition beyond those that each theorem states. -/
import Derived.Test.YtcloklakffgbmaaQca8d1d27
import Derived.Test.YtcloklakffgbmaaQb642afe6
set_option maxHeartbeats 8000000
set_option maxRecDepth 100000
section
namespace Go.Proofs.Ytcloklakffgbmaa.G
open Go.RowKit Go.Proofs.YtcloklakffgbmaaW.PrintWords Go.Proofs.YtcloklakffgbmaaW.PrintLast Go.Proofs.YtcloklakffgbmaaW.PrintMore
attribute [local go_sem] max2_int min2_int max_two min_two max_three min_three max_four min_four
set_option linter.unusedVariables false
set_option linter.unusedSimpArgs false
def spec_AddClue.f (k : Nat) (a0_0 : Int) (a0_1 : Int) (l0_2 : List (S37)) (a1_0 : Int) (a1_1 : Int) (a1_2 : Int) : Option (Int × Int × (List (S37)) × Bool) := (spec_pzGood.f k a0_0 a0_1 l0_2).bind fun t104 => (if t104 = true then ((spec_pzClue.f a1_0 a1_1 a1_2).bind fun t105 => (if t105 = true then (if (l0_2.length : Int) = 6 then (some (0, 0, ([] : List (S37)), false)) else ((some (([] : List (S37)) : List (S37))).bind fun y106 => (if y106.length + l0_2.length < 5864062014805 then ((some (y106 ++ l0_2 : List (S37))).bind fun y109 => ((some (([(⟨a1_0, a1_1, a1_2⟩ : S37)] : List (S37)) : List (S37))).bind fun y112 => (if y109.length + y112.length < 5864062014805 then (some (a0_0, a0_1, (y109 ++ y112), true)) else (none)))) else (none)))) else (some (0, 0, ([] : List (S37)), false)))) else (some (0, 0, ([] : List (S37)), false)))
def spec_AddClue.T3 : Bool × List (List Nat × List Nat) := (true, [([], []), ([0], [0]), ([], []), ([], []), ([3], [3]), ([2, 4], [2, 4]), ([], []), ([6], [6]), ([5, 7, 5], [5, 7]), ([1, 8], [1, 8]), ([9, 8, 0, 1, 2, 3, 4, 5, 6, 7, 8, 9], [9]), ([10, 0, 1, 2, 3, 4, 5, 6, 7, 8, 9, 10], [])])
def spec_AddClue.B3 : List Nat := [0, 1, 0, 0, 8, 28, 0, 64, 252, 511, 1023, 2047]
theorem spec_AddClue.tab3 : rtab .any (opsOf Try.f7 3) = spec_AddClue.T3 := by kernel_rfl
theorem spec_AddClue.bits3 : waitsOk spec_AddClue.T3.2 spec_AddClue.B3 = true := by kernel_rfl
theorem spec_AddClue.calls (k : Nat) (a0_0 : Int) (a0_1 : Int) (A0_2 : Option Addr) (c0_2 : Nat) (l0_2 : List (S37)) (a1_0 : Int) (a1_1 : Int) (a1_2 : Int) (r1 : Int) (r2 : Int) (r3 : List (S37)) (r4 : Bool) (w : World) (hr0_2 : Kd.C k37 w A0_2 l0_2.length l0_2) (hc0_2 : l0_2.length ≤ c0_2) (h : spec_AddClue.f k a0_0 a0_1 l0_2 a1_0 a1_1 a1_2 = some (r1, r2, r3, r4)) :
  Calls Try.prog 7 #[.agg #[.int .i64 a0_0, .int .i64 a0_1, .slice A0_2 l0_2.length c0_2], .agg #[.int .i64 a1_0, .int .i64 a1_1, .int .i64 a1_2]] w fun e w' => ∃ v2_ : Value, e = .returned (.tuple #[.agg #[.int .i64 r1, .int .i64 r2, v2_], .bool r4]) ∧ Kd.R k37 37 w' w.heap.size (fun _ => True) v2_ r3 ∧ Below w.heap.size w w' := by
 have hu33 := Try.underlying33
 have hu37 := Try.underlying37
 have hu30 := Try.underlying30
 have HR0_2 := am hr0_2
 have HC0_2 := am hc0_2
 clear hr0_2 hc0_2
 have HB := am (Below.refl w.heap.size w)
 have H : ((spec_pzGood.f k a0_0 a0_1 l0_2).bind fun t104 => (if t104 = true then ((spec_pzClue.f a1_0 a1_1 a1_2).bind fun t105 => (if t105 = true then (if (l0_2.length : Int) = 6 then (some (0, 0, ([] : List (S37)), false)) else ((some (([] : List (S37)) : List (S37))).bind fun y106 => (if y106.length + l0_2.length < 5864062014805 then ((some (y106 ++ l0_2 : List (S37))).bind fun y109 => ((some (([(⟨a1_0, a1_1, a1_2⟩ : S37)] : List (S37)) : List (S37))).bind fun y112 => (if y109.length + y112.length < 5864062014805 then (some (a0_0, a0_1, (y109 ++ y112), true)) else (none)))) else (none)))) else (some (0, 0, ([] : List (S37)), false)))) else (some (0, 0, ([] : List (S37)), false)))) = some (r1, r2, r3, r4) := h
 clear h
 replace H := bH H
 obtain ⟨t104, A30, H⟩ := H
 replace H : (if t104 = true then ((spec_pzClue.f a1_0 a1_1 a1_2).bind fun t105 => (if t105 = true then (if (l0_2.length : Int) = 6 then (some (0, 0, ([] : List (S37)), false)) else ((some (([] : List (S37)) : List (S37))).bind fun y106 => (if y106.length + l0_2.length < 5864062014805 then ((some (y106 ++ l0_2 : List (S37))).bind fun y109 => ((some (([(⟨a1_0, a1_1, a1_2⟩ : S37)] : List (S37)) : List (S37))).bind fun y112 => (if y109.length + y112.length < 5864062014805 then (some (a0_0, a0_1, (y109 ++ y112), true)) else (none)))) else (none)))) else (some (0, 0, ([] : List (S37)), false)))) else (some (0, 0, ([] : List (S37)), false))) = some (r1, r2, r3, r4) := H
 have A3 := am A30
 clear A30
 by_cases c4 : t104 = true
 ·subst c4
  have H1 : ((spec_pzClue.f a1_0 a1_1 a1_2).bind fun t105 => (if t105 = true then (if (l0_2.length : Int) = 6 then (some (0, 0, ([] : List (S37)), false)) else ((some (([] : List (S37)) : List (S37))).bind fun y106 => (if y106.length + l0_2.length < 5864062014805 then ((some (y106 ++ l0_2 : List (S37))).bind fun y109 => ((some (([(⟨a1_0, a1_1, a1_2⟩ : S37)] : List (S37)) : List (S37))).bind fun y112 => (if y109.length + y112.length < 5864062014805 then (some (a0_0, a0_1, (y109 ++ y112), true)) else (none)))) else (none)))) else (some (0, 0, ([] : List (S37)), false)))) = some (r1, r2, r3, r4) := by rw [if_pos rfl] at H; exact H
  clear H
  have H := H1
  clear H1
  replace H := bH H
  obtain ⟨t105, A50, H⟩ := H
  replace H : (if t105 = true then (if (l0_2.length : Int) = 6 then (some (0, 0, ([] : List (S37)), false)) else ((some (([] : List (S37)) : List (S37))).bind fun y106 => (if y106.length + l0_2.length < 5864062014805 then ((some (y106 ++ l0_2 : List (S37))).bind fun y109 => ((some (([(⟨a1_0, a1_1, a1_2⟩ : S37)] : List (S37)) : List (S37))).bind fun y112 => (if y109.length + y112.length < 5864062014805 then (some (a0_0, a0_1, (y109 ++ y112), true)) else (none)))) else (none)))) else (some (0, 0, ([] : List (S37)), false))) = some (r1, r2, r3, r4) := H
  have A5 := am A50
  clear A50
  by_cases c6 : t105 = true
  ·subst c6
   have H1 : (if (l0_2.length : Int) = 6 then (some (0, 0, ([] : List (S37)), false)) else ((some (([] : List (S37)) : List (S37))).bind fun y106 => (if y106.length + l0_2.length < 5864062014805 then ((some (y106 ++ l0_2 : List (S37))).bind fun y109 => ((some (([(⟨a1_0, a1_1, a1_2⟩ : S37)] : List (S37)) : List (S37))).bind fun y112 => (if y109.length + y112.length < 5864062014805 then (some (a0_0, a0_1, (y109 ++ y112), true)) else (none)))) else (none)))) = some (r1, r2, r3, r4) := by rw [if_pos rfl] at H; exact H
   clear H
   have H := H1
   clear H1
   by_cases c7 : (l0_2.length : Int) = 6
   ·rw [if_pos c7] at H
    have c7b0 : ((l0_2.length : Int) == 6) = true := beq_iff_eq.mpr c7
    have c7b1 : ((l0_2.length : Int) != 6) = false := bne_eq_false_iff_eq.mpr c7
    clear c7
    simp only [Option.some.injEq, Prod.mk.injEq] at H
    obtain ⟨rfl, rfl, rfl, rfl⟩ := H
    go_enter Try.func7, Try.ntmps7
    go_wp2_with (first | ((with_reducible refine gate_dst (N := 2) rfl ?_); (try (refine gate_guard (by rfl) ?_; dsimp only)); refine uX (N := 2) (cs := #[.int .i64 a0_0, .int .i64 a0_1, .slice A0_2 l0_2.length c0_2]) (t := 33) ?_; intro gb101 hg w8 hbox hb; have BK101 := am (hbox); have GW101 := uE hg; have GE101 := GW101; replace HB := uS hb; clear hb hbox hg) | ((with_reducible refine gate_dst (N := 3) rfl ?_); (try (refine gate_guard (by rfl) ?_; dsimp only)); refine uX (N := 3) (cs := #[.int .i64 a1_0, .int .i64 a1_1, .int .i64 a1_2]) (t := 37) ?_; intro gb102 hg w9 hbox hb; have BK102 := am (hbox); have GW102 := uE hg; have GE102 := GW102; have NB101_102 := uL BK101 hg; have NB102_101 := uY NB101_102; replace BK101 := uB BK101 hb; replace HB := uS hb; clear hb hbox hg) | ((with_reducible refine gate_dst (N := 4) rfl ?_); (try (refine gate_guard (by rfl) ?_; dsimp only)); refine uX (N := 4) (cs := #[.int .i64 0, .int .i64 0, .slice none 0 0]) (t := 33) ?_; intro gb103 hg w10 hbox hb; have BK103 := am (hbox); have GW103 := uE hg; have GE103 := GW103; have NB101_103 := uL BK101 hg; have NB103_101 := uY NB101_103; have NB102_103 := uL BK102 hg; have NB103_102 := uY NB102_103; replace BK101 := uB BK101 hb; replace BK102 := uB BK102 hb; replace HB := uS hb; clear hb hbox hg; have hnb11 := NB101_102.out; have hnc11 := NB102_101.out; have hnb12 := NB101_103.out; have hnc12 := NB103_101.out; obtain ⟨hcz13_0, hcz13_1, hcz13_2, hfz13_0, hfz13_1, hfz13_2⟩ := uZ3 BK101) | ((with_reducible refine gate_callee (f := 41) rfl ?_); refine uGo (some 7) Try.func41 #[.agg #[.int .i64 a0_0, .int .i64 a0_1, .slice A0_2 l0_2.length c0_2]] ?_; (with_reducible refine (spec_pzGood.calls k a0_0 a0_1 _ _ l0_2 true _ ?side1 ?side2 A3.out).mono ?_); (case side1 => repeat (first | exact (Kd.C_below HR0_2.out HB.out) | (with_reducible refine cA ?_ _) | (with_reducible refine cN ?_ _) | (with_reducible refine cD ?_))); (case side2 => exact HC0_2.out); rintro e w14 ⟨rfl, hb⟩; refine ⟨_, rfl, ?_⟩; replace BK101 := uB BK101 hb; replace BK102 := uB BK102 hb; replace BK103 := uB BK103 hb; replace HB := uS hb; (try clear hb); (try clear hb2); (try clear hk); (try clear hi); have hnb15 := NB102_103.out; have hnc15 := NB103_102.out; obtain ⟨hcz16_0, hcz16_1, hcz16_2, hfz16_0, hfz16_1, hfz16_2⟩ := uZ3 BK102) | (go_at_call 42; (with_reducible refine (spec_pzClue.calls a1_0 a1_1 a1_2 true _ A5.out).mono ?_); rintro e w17 ⟨rfl, hb⟩; replace BK101 := uB BK101 hb; replace BK102 := uB BK102 hb; replace BK103 := uB BK103 hb; replace HB := uS hb; (try clear hb); (try clear hb2); (try clear hk); (try clear hi); obtain ⟨hcz18_0, hcz18_1, hcz18_2, hfz18_0, hfz18_1, hfz18_2⟩ := uZ3 BK101; obtain ⟨hcz19_0, hcz19_1, hcz19_2, hfz19_0, hfz19_1, hfz19_2⟩ := uZ3 BK103))
    refine bodyPost_ret (results_ct rfl _ _ gb103 33 #[.int .i64 0, .int .i64 0, .slice none 0 0] (0, 0) _ rfl (by refine blk_put (cs := #[.int .i64 0, .int .i64 0, .slice none 0 0]) ?_ 2 _ rfl; refine blk_put (cs := #[.int .i64 0, .int .i64 0, .slice none 0 0]) ?_ 1 _ rfl; refine blk_put (cs := #[.int .i64 0, .int .i64 0, .slice none 0 0]) ?_ 0 _ rfl; exact (uP BK103)) Try.underlying33 rfl (by kernel_rfl)) rfl ?_
    exact ⟨_, uA, uN, by exact uW⟩
   ·rw [if_neg c7] at H
    have c7b0 : ((l0_2.length : Int) == 6) = false := beq_eq_false_iff_ne.mpr c7
    have c7b1 : ((l0_2.length : Int) != 6) = true := bne_iff_ne.mpr c7
    obtain ⟨y106, hy106⟩ : ∃ y_ : List (S37), y_ = (([] : List (S37))) := ⟨_, rfl⟩
    replace H : (if y106.length + l0_2.length < 5864062014805 then ((some (y106 ++ l0_2 : List (S37))).bind fun y109 => ((some (([(⟨a1_0, a1_1, a1_2⟩ : S37)] : List (S37)) : List (S37))).bind fun y112 => (if y109.length + y112.length < 5864062014805 then (some (a0_0, a0_1, (y109 ++ y112), true)) else (none)))) else (none)) = some (r1, r2, r3, r4) := by first | (rw [hy106]; with_reducible exact H) | (have H2_ := (Option.bind_some _ _).symm.trans H; rw [hy106]; with_reducible exact H2_) | (have H2_ := (Option.bind_some _ _).symm.trans H; with_reducible exact H2_) | with_reducible exact H | (rw [hy106]; exact H) | exact H
    have Ny106 := am hy106
    clear hy106
    by_cases c20 : y106.length + l0_2.length < 5864062014805
    ·rw [if_pos c20] at H
     have LMc20 := am c20
     clear c20
     obtain ⟨y109, hy109⟩ : ∃ y_ : List (S37), y_ = (y106 ++ l0_2) := ⟨_, rfl⟩
     replace H : ((some (([(⟨a1_0, a1_1, a1_2⟩ : S37)] : List (S37)) : List (S37))).bind fun y112 => (if y109.length + y112.length < 5864062014805 then (some (a0_0, a0_1, (y109 ++ y112), true)) else (none))) = some (r1, r2, r3, r4) := by first | (rw [hy109]; with_reducible exact H) | (have H2_ := (Option.bind_some _ _).symm.trans H; rw [hy109]; with_reducible exact H2_) | (have H2_ := (Option.bind_some _ _).symm.trans H; with_reducible exact H2_) | with_reducible exact H | (rw [hy109]; exact H) | exact H
     have Ny109 := am hy109
     clear hy109
     obtain ⟨y112, hy112⟩ : ∃ y_ : List (S37), y_ = (([(⟨a1_0, a1_1, a1_2⟩ : S37)] : List (S37))) := ⟨_, rfl⟩
     replace H : (if y109.length + y112.length < 5864062014805 then (some (a0_0, a0_1, (y109 ++ y112), true)) else (none)) = some (r1, r2, r3, r4) := by first | (rw [hy112]; with_reducible exact H) | (have H2_ := (Option.bind_some _ _).symm.trans H; rw [hy112]; with_reducible exact H2_) | (have H2_ := (Option.bind_some _ _).symm.trans H; with_reducible exact H2_) | with_reducible exact H | (rw [hy112]; exact H) | exact H
     have Ny112 := am hy112
     clear hy112
     by_cases c21 : y109.length + y112.length < 5864062014805
     ·rw [if_pos c21] at H
      have LMc21 := am c21
      clear c21
      obtain ⟨y115, hy115⟩ : ∃ y_ : List (S37), y_ = (y109 ++ y112) := ⟨_, rfl⟩
      replace H : (some (a0_0, a0_1, y115, true)) = some (r1, r2, r3, r4) := by first | (rw [hy115]; with_reducible exact H) | (have H2_ := (Option.bind_some _ _).symm.trans H; rw [hy115]; with_reducible exact H2_) | (have H2_ := (Option.bind_some _ _).symm.trans H; with_reducible exact H2_) | with_reducible exact H | (rw [hy115]; exact H) | exact H
      have Ny115 := am hy115
      clear hy115
      simp only [Option.some.injEq, Prod.mk.injEq] at H
      obtain ⟨rfl, rfl, rfl, rfl⟩ := H
      go_enter Try.func7, Try.ntmps7
      try go_wp2_with (first | ((with_reducible refine gate_dst (N := 2) rfl ?_); (try (refine gate_guard (by rfl) ?_; dsimp only)); refine uX (N := 2) (cs := #[.int .i64 a0_0, .int .i64 a0_1, .slice A0_2 l0_2.length c0_2]) (t := 33) ?_; intro gb101 hg w22 hbox hb; have BK101 := am (hbox); have GW101 := uE hg; have GE101 := GW101; replace HB := uS hb; clear hb hbox hg) | ((with_reducible refine gate_dst (N := 3) rfl ?_); (try (refine gate_guard (by rfl) ?_; dsimp only)); refine uX (N := 3) (cs := #[.int .i64 a1_0, .int .i64 a1_1, .int .i64 a1_2]) (t := 37) ?_; intro gb102 hg w23 hbox hb; have BK102 := am (hbox); have GW102 := uE hg; have GE102 := GW102; have NB101_102 := uL BK101 hg; have NB102_101 := uY NB101_102; replace BK101 := uB BK101 hb; replace HB := uS hb; clear hb hbox hg) | ((with_reducible refine gate_dst (N := 4) rfl ?_); (try (refine gate_guard (by rfl) ?_; dsimp only)); refine uX (N := 4) (cs := #[.int .i64 0, .int .i64 0, .slice none 0 0]) (t := 33) ?_; intro gb103 hg w24 hbox hb; have BK103 := am (hbox); have GW103 := uE hg; have GE103 := GW103; have NB101_103 := uL BK101 hg; have NB103_101 := uY NB101_103; have NB102_103 := uL BK102 hg; have NB103_102 := uY NB102_103; replace BK101 := uB BK101 hb; replace BK102 := uB BK102 hb; replace HB := uS hb; clear hb hbox hg; have hnb25 := NB101_102.out; have hnc25 := NB102_101.out; have hnb26 := NB101_103.out; have hnc26 := NB103_101.out; obtain ⟨hcz27_0, hcz27_1, hcz27_2, hfz27_0, hfz27_1, hfz27_2⟩ := uZ3 BK101) | ((with_reducible refine gate_callee (f := 41) rfl ?_); refine uGo (some 7) Try.func41 #[.agg #[.int .i64 a0_0, .int .i64 a0_1, .slice A0_2 l0_2.length c0_2]] ?_; (with_reducible refine (spec_pzGood.calls k a0_0 a0_1 _ _ l0_2 true _ ?side1 ?side2 A3.out).mono ?_); (case side1 => repeat (first | exact (Kd.C_below HR0_2.out HB.out) | (with_reducible refine cA ?_ _) | (with_reducible refine cN ?_ _) | (with_reducible refine cD ?_))); (case side2 => exact HC0_2.out); rintro e w28 ⟨rfl, hb⟩; refine ⟨_, rfl, ?_⟩; replace BK101 := uB BK101 hb; replace BK102 := uB BK102 hb; replace BK103 := uB BK103 hb; replace HB := uS hb; (try clear hb); (try clear hb2); (try clear hk); (try clear hi); have hnb29 := NB102_103.out; have hnc29 := NB103_102.out; obtain ⟨hcz30_0, hcz30_1, hcz30_2, hfz30_0, hfz30_1, hfz30_2⟩ := uZ3 BK102) | (go_at_call 42; (with_reducible refine (spec_pzClue.calls a1_0 a1_1 a1_2 true _ A5.out).mono ?_); rintro e w31 ⟨rfl, hb⟩; replace BK101 := uB BK101 hb; replace BK102 := uB BK102 hb; replace BK103 := uB BK103 hb; replace HB := uS hb; (try clear hb); (try clear hb2); (try clear hk); (try clear hi); obtain ⟨hcz32_0, hcz32_1, hcz32_2, hfz32_0, hfz32_1, hfz32_2⟩ := uZ3 BK101))
      replace BK101 := am (blk_drew BK101.out)
      replace BK102 := am (blk_drew BK102.out)
      replace BK103 := am (blk_drew BK103.out)
      replace HB := am (below_drew1 HB.out)
      refine start_ (n := 12) (S := fun w' => w'.cell? ⟨gb101, 0, none⟩ = some (.int .i64 a0_0) ∧ w'.cell? ⟨gb101, 1, none⟩ = some (.int .i64 a0_1) ∧ w'.cell? ⟨gb101, 2, none⟩ = some (.slice A0_2 l0_2.length c0_2) ∧ w'.cell? ⟨gb102, 0, none⟩ = some (.int .i64 a1_0) ∧ w'.cell? ⟨gb102, 1, none⟩ = some (.int .i64 a1_1) ∧ w'.cell? ⟨gb102, 2, none⟩ = some (.int .i64 a1_2)) (ds := []) #[false, false, false, false, false, false, false, false, false, false, false, false] (by kernel_rfl) rfl rfl ⟨uT BK101 0, uT BK101 1, uT BK101 2, uT BK102 0, uT BK102 1, uT BK102 2⟩ (fun hHeld => ?_); refine with_tabW spec_AddClue.tab3 spec_AddClue.bits3 (fun HT_ HW_ => ?_)
      generalize w31.drew = w33 at BK101 BK102 BK103 HB hHeld ⊢
      refine uPu (i := 0) (N := some 21) #[true, false, false, false, false, false, false, false, false, false, false, false] ?_
      refine uPu (i := 3) (N := some 24) #[true, false, false, true, false, false, false, false, false, false, false, false] ?_
      refine uTk (i := 1) (N := some 22) #[true, true, false, true, false, false, false, false, false, false, false, false] hHeld ?_
      refine uTk (i := 4) (N := some 25) #[true, true, false, true, true, false, false, false, false, false, false, false] hHeld ?_
      refine uTk (i := 6) (N := some 27) #[true, true, false, true, true, false, true, false, false, false, false, false] hHeld ?_
      refine join_ (σ := Value × Value × Value) 4 #[true, true, true, true, true, true, true, true, false, false, false, false] (fun s_ => [(23, s_.1), (26, s_.2.1), (28, s_.2.2)]) (fun s_ w' => (w'.cell? ⟨gb101, 0, none⟩ = some (.int .i64 a0_0) ∧ w'.cell? ⟨gb101, 1, none⟩ = some (.int .i64 a0_1) ∧ w'.cell? ⟨gb101, 2, none⟩ = some (.slice A0_2 l0_2.length c0_2) ∧ w'.cell? ⟨gb102, 0, none⟩ = some (.int .i64 a1_0) ∧ w'.cell? ⟨gb102, 1, none⟩ = some (.int .i64 a1_1) ∧ w'.cell? ⟨gb102, 2, none⟩ = some (.int .i64 a1_2)) ∧ (Kd.R k37 37 w' w.heap.size (fun k_ => some k_ ≠ (s_.2.2 : Value).ownBlock ∧ k_ ≠ gb102) s_.2.1 y109) ∧ (Kd.R k37 37 w' w.heap.size (fun k_ => some k_ ≠ (s_.2.1 : Value).ownBlock ∧ k_ ≠ gb102) s_.2.2 y112) ∧ (w'.heap[gb101]? = some (.cells #[.int .i64 a0_0, .int .i64 a0_1, .slice A0_2 l0_2.length c0_2] 33 (0, 0))) ∧ (w'.heap[gb102]? = some (.cells #[.int .i64 a1_0, .int .i64 a1_1, .int .i64 a1_2] 37 (0, 0))) ∧ (w'.heap[gb103]? = some (.cells #[.int .i64 0, .int .i64 0, .slice none 0 0] 33 (0, 0))) ∧ (Below w.heap.size w w')) ?_ ?_
      rotate_left
      ·intro hCont
       refine two_ (i := 2) (j := 7) (Ni := some 23) (Nj := some 28) #[true, true, true, true, true, false, true, false, false, false, false, false] #[true, true, false, true, true, false, true, true, false, false, false, false] rfl rfl rfl rfl (two_of HT_.out (by kernel_rfl)) (by decide) (by decide) (fun K hK => ?_) (fun K hK => ?_)
       ·skip
        refine Kd.R_lit_step k37 _ 37 ?hg (N := 23) ?hd (xs := ([] : List (S37))) (inner := []) (ok := fun _ => True) (okp := fun _ => True) ?hr ?hp (fun _ hk => hk) trivial (Below.refl _ _) (Nat.le_refl _) (by simp) ?_; (case hd => rfl); (case hg => rfl); (case hr => first | (go_simp; done) | (go_simp; rfl)); (case hp => exact (Reps.none _ _))
        intro v107 w34 ho35 hb hg_ hnew_
        clear hg_ hnew_
        (first | rw [← Ny106.out] at ho35 | (simp only [Int.reduceToNat] at ho35; rw [← Ny106.out] at ho35))
        have HO108 := am (Kd.R_lower (Kd.R_newB ho35 (uP BK102)) (below_size uW))
        replace BK101 := uB BK101 hb
        replace BK102 := uB BK102 hb
        replace BK103 := uB BK103 hb
        replace HB := uS hb
        clear hb ho35
        refine hK.out _ _ ⟨uT BK101 0, uT BK101 1, uT BK101 2, uT BK102 0, uT BK102 1, uT BK102 2⟩ (fun hHeld => ?_)
        clear hK K
        refine uNo (some 23) ?_
        refine two_ (i := 5) (j := 7) (Ni := some 26) (Nj := some 28) #[true, true, true, true, true, true, true, false, false, false, false, false] #[true, true, true, true, true, false, true, true, false, false, false, false] rfl rfl rfl rfl (two_of HT_.out (by kernel_rfl)) (by decide) (by decide) (fun K hK => ?_) (fun K hK => ?_)
        ·skip
         refine Kd.R_append_rows_step k37 (w0 := w) w.heap.size (by rfl) (.tmp 23) (.tmp 25) 31 37 (.agg #[(.int .i64 0), (.int .i64 0), (.int .i64 0)]) 24 rfl Try.underlying31 info37 rfl (by decide) (by omega) v107 y106 l0_2 _ _ _ (fun k_ => k_ ≠ gb102) (fun _ => False) rfl rfl ?aO ?aR (fun _ _ h => h) (fun _ h => h.elim) ?aF ?aB ?aS ?aL ?_
         (case aR => repeat (first | exact (Kd.C_below HR0_2.out HB.out) | (with_reducible refine cA ?_ _) | (with_reducible refine cN ?_ _) | (with_reducible refine cD ?_)))
         (case aB => exact uW)
         (case aF => exact (fun k_ hk => Kd.freshB (uP BK102) k_ hk))
         (case aO => exact (by (with_reducible repeat (first | apply rA | apply rN | apply rD)); exact Kd.R_mono HO108.out (fun _ hk => hk.2)))
         (case aS => exact (below_size uW))
         (case aL => have := LMc20.out; omega)
         intro v110 w36 ho hb hg hat
         rw [← Ny109.out] at ho
         have HO111 := am (ho)
         replace BK101 := am (blk_grown (uP BK101) hg (Kd.R_ne HO108.out BK101.out (by decide)))
         replace BK102 := am (blk_grown (uP BK102) hg (Kd.R_away HO108.out (fun _ hk => hk.2)))
         replace BK103 := am (blk_grown (uP BK103) hg (Kd.R_ne HO108.out BK103.out (by decide)))
         replace HB := am (hb)
         clear HO108
         clear ho hb hg hat
         refine hK.out _ _ ⟨uT BK101 0, uT BK101 1, uT BK101 2, uT BK102 0, uT BK102 1, uT BK102 2⟩ (fun hHeld => ?_)
         clear hK K
         refine uNo (some 26) ?_
         refine uOn (i := 7) (N := some 28) #[true, true, true, true, true, true, true, true, false, false, false, false] (fun K hK => ?_)
         refine Kd.R_lit_step k37 _ 37 ?hg (N := 28) ?hd (xs := ([(⟨a1_0, a1_1, a1_2⟩ : S37)] : List (S37))) (inner := [.int .i64 a1_0, .int .i64 a1_1, .int .i64 a1_2]) (ok := fun _ => True) (okp := fun _ => True) ?hr ?hp (fun _ hk => hk) trivial (Below.refl _ _) (Nat.le_refl _) (by simp) ?_; (case hd => rfl); (case hg => rfl); (case hr => first | (go_simp; done) | (go_simp; rfl)); (case hp => exact (Reps.c3 (show Kd.M k37 _ _ _ (⟨a1_0, a1_1, a1_2⟩ : S37) [.int .i64 a1_0, .int .i64 a1_1, .int .i64 a1_2] from (k37_mkM _ _ _ (⟨a1_0, a1_1, a1_2⟩ : S37) )) (Reps.none _ _)))
         intro v113 w37 ho38 hb hg_ hnew_
         clear hg_ hnew_
         (first | rw [← Ny112.out] at ho38 | (simp only [Int.reduceToNat] at ho38; rw [← Ny112.out] at ho38))
         have HO114 := am (Kd.R_lower (Kd.R_newB (Kd.R_new' ho38 (Kd.R_lt (uR HO111))) (uP BK102)) (below_size uW))
         replace HO111 := am (Kd.R_elder' (uR HO111) (Kd.R_base ho38) hb)
         replace BK101 := uB BK101 hb
         replace BK102 := uB BK102 hb
         replace BK103 := uB BK103 hb
         replace HB := uS hb
         clear hb ho38
         refine hK.out _ _ ⟨uT BK101 0, uT BK101 1, uT BK101 2, uT BK102 0, uT BK102 1, uT BK102 2⟩ (fun hHeld => ?_)
         clear hK K
         refine uNo (some 28) ?_
         exact norm_ (by simp only [putAll, Act.put, List.setIfInBounds_toArray, List.set_cons_zero, List.set_cons_succ]) (hCont (v107, v110, v113) _ ⟨hHeld, (by (with_reducible repeat (first | apply rA | apply rN | apply rD)); exact Kd.R_mono HO111.out (fun _ hk => ⟨hk.2, hk.1⟩)), (by (with_reducible repeat (first | apply rA | apply rN | apply rD)); exact Kd.R_mono HO114.out (fun _ hk => ⟨hk.1.2, hk.2⟩)), (uP BK101), (uP BK102), (uP BK103), uW⟩)
        ·skip
         refine Kd.R_lit_step k37 _ 37 ?hg (N := 28) ?hd (xs := ([(⟨a1_0, a1_1, a1_2⟩ : S37)] : List (S37))) (inner := [.int .i64 a1_0, .int .i64 a1_1, .int .i64 a1_2]) (ok := fun _ => True) (okp := fun _ => True) ?hr ?hp (fun _ hk => hk) trivial (Below.refl _ _) (Nat.le_refl _) (by simp) ?_; (case hd => rfl); (case hg => rfl); (case hr => first | (go_simp; done) | (go_simp; rfl)); (case hp => exact (Reps.c3 (show Kd.M k37 _ _ _ (⟨a1_0, a1_1, a1_2⟩ : S37) [.int .i64 a1_0, .int .i64 a1_1, .int .i64 a1_2] from (k37_mkM _ _ _ (⟨a1_0, a1_1, a1_2⟩ : S37) )) (Reps.none _ _)))
         intro v113 w36 ho37 hb hg_ hnew_
         clear hg_ hnew_
         (first | rw [← Ny112.out] at ho37 | (simp only [Int.reduceToNat] at ho37; rw [← Ny112.out] at ho37))
         have HO114 := am (Kd.R_lower (Kd.R_newB (Kd.R_new' ho37 (Kd.R_lt (uR HO108))) (uP BK102)) (below_size uW))
         replace HO108 := am (Kd.R_elder' (uR HO108) (Kd.R_base ho37) hb)
         replace BK101 := uB BK101 hb
         replace BK102 := uB BK102 hb
         replace BK103 := uB BK103 hb
         replace HB := uS hb
         clear hb ho37
         refine hK.out _ _ ⟨uT BK101 0, uT BK101 1, uT BK101 2, uT BK102 0, uT BK102 1, uT BK102 2⟩ (fun hHeld => ?_)
         clear hK K
         refine uNo (some 28) ?_
         refine uOn (i := 5) (N := some 26) #[true, true, true, true, true, true, true, true, false, false, false, false] (fun K hK => ?_)
         refine Kd.R_append_rows_step k37 (w0 := w) w.heap.size (by rfl) (.tmp 23) (.tmp 25) 31 37 (.agg #[(.int .i64 0), (.int .i64 0), (.int .i64 0)]) 24 rfl Try.underlying31 info37 rfl (by decide) (by omega) v107 y106 l0_2 _ _ _ (fun k_ => some k_ ≠ (v113 : Value).ownBlock ∧ k_ ≠ gb102) (fun _ => False) rfl rfl ?aO ?aR (fun _ _ h => h) (fun _ h => h.elim) ?aF ?aB ?aS ?aL ?_
         (case aR => repeat (first | exact (Kd.C_below HR0_2.out HB.out) | (with_reducible refine cA ?_ _) | (with_reducible refine cN ?_ _) | (with_reducible refine cD ?_)))
         (case aB => exact uW)
         (case aF => exact (fun k_ hk => ⟨Kd.fresh' (Kd.R_lt (uR HO114)) k_ hk, Kd.freshB (uP BK102) k_ hk⟩))
         (case aO => exact (by (with_reducible repeat (first | apply rA | apply rN | apply rD)); exact Kd.R_mono HO108.out (fun _ hk => ⟨hk.2, hk.1.2⟩)))
         (case aS => exact (below_size uW))
         (case aL => have := LMc20.out; omega)
         intro v110 w38 ho hb hg hat
         rw [← Ny109.out] at ho
         have HO111 := am (ho)
         replace BK101 := am (blk_grown (uP BK101) hg (Kd.R_ne HO108.out BK101.out (by decide)))
         replace BK102 := am (blk_grown (uP BK102) hg (Kd.R_away HO108.out (fun _ hk => hk.1.2)))
         replace BK103 := am (blk_grown (uP BK103) hg (Kd.R_ne HO108.out BK103.out (by decide)))
         replace HO114 := am (Kd.R_after (ok := (fun k_ => k_ ≠ gb102)) (by (with_reducible repeat (first | apply rA | apply rN | apply rD)); exact Kd.R_mono HO114.out (fun _ hk => ⟨hk.2, hk.1.2⟩)) hg hat)
         replace HB := am (hb)
         clear HO108
         clear ho hb hg hat
         refine hK.out _ _ ⟨uT BK101 0, uT BK101 1, uT BK101 2, uT BK102 0, uT BK102 1, uT BK102 2⟩ (fun hHeld => ?_)
         clear hK K
         refine uNo (some 26) ?_
         exact norm_ (by simp only [putAll, Act.put, List.setIfInBounds_toArray, List.set_cons_zero, List.set_cons_succ]) (hCont (v107, v110, v113) _ ⟨hHeld, (uR HO111), (by (with_reducible repeat (first | apply rA | apply rN | apply rD)); exact Kd.R_mono HO114.out (fun _ hk => ⟨hk.2, hk.1⟩)), (uP BK101), (uP BK102), (uP BK103), uW⟩)
       ·skip
        refine Kd.R_lit_step k37 _ 37 ?hg (N := 28) ?hd (xs := ([(⟨a1_0, a1_1, a1_2⟩ : S37)] : List (S37))) (inner := [.int .i64 a1_0, .int .i64 a1_1, .int .i64 a1_2]) (ok := fun _ => True) (okp := fun _ => True) ?hr ?hp (fun _ hk => hk) trivial (Below.refl _ _) (Nat.le_refl _) (by simp) ?_; (case hd => rfl); (case hg => rfl); (case hr => first | (go_simp; done) | (go_simp; rfl)); (case hp => exact (Reps.c3 (show Kd.M k37 _ _ _ (⟨a1_0, a1_1, a1_2⟩ : S37) [.int .i64 a1_0, .int .i64 a1_1, .int .i64 a1_2] from (k37_mkM _ _ _ (⟨a1_0, a1_1, a1_2⟩ : S37) )) (Reps.none _ _)))
        intro v113 w34 ho35 hb hg_ hnew_
        clear hg_ hnew_
        (first | rw [← Ny112.out] at ho35 | (simp only [Int.reduceToNat] at ho35; rw [← Ny112.out] at ho35))
        have HO114 := am (Kd.R_lower (Kd.R_newB ho35 (uP BK102)) (below_size uW))
        replace BK101 := uB BK101 hb
        replace BK102 := uB BK102 hb
        replace BK103 := uB BK103 hb
        replace HB := uS hb
        clear hb ho35
        refine hK.out _ _ ⟨uT BK101 0, uT BK101 1, uT BK101 2, uT BK102 0, uT BK102 1, uT BK102 2⟩ (fun hHeld => ?_)
        clear hK K
        refine uNo (some 28) ?_
        refine uOn (i := 2) (N := some 23) #[true, true, true, true, true, false, true, true, false, false, false, false] (fun K hK => ?_)
        refine Kd.R_lit_step k37 _ 37 ?hg (N := 23) ?hd (xs := ([] : List (S37))) (inner := []) (ok := fun _ => True) (okp := fun _ => True) ?hr ?hp (fun _ hk => hk) trivial (Below.refl _ _) (Nat.le_refl _) (by simp) ?_; (case hd => rfl); (case hg => rfl); (case hr => first | (go_simp; done) | (go_simp; rfl)); (case hp => exact (Reps.none _ _))
        intro v107 w36 ho37 hb hg_ hnew_
        clear hg_ hnew_
        (first | rw [← Ny106.out] at ho37 | (simp only [Int.reduceToNat] at ho37; rw [← Ny106.out] at ho37))
        have HO108 := am (Kd.R_lower (Kd.R_newB (Kd.R_new' ho37 (Kd.R_lt (uR HO114))) (uP BK102)) (below_size uW))
        replace HO114 := am (Kd.R_elder' (uR HO114) (Kd.R_base ho37) hb)
        replace BK101 := uB BK101 hb
        replace BK102 := uB BK102 hb
        replace BK103 := uB BK103 hb
        replace HB := uS hb
        clear hb ho37
        refine hK.out _ _ ⟨uT BK101 0, uT BK101 1, uT BK101 2, uT BK102 0, uT BK102 1, uT BK102 2⟩ (fun hHeld => ?_)
        clear hK K
        refine uNo (some 23) ?_
        refine uOn (i := 5) (N := some 26) #[true, true, true, true, true, true, true, true, false, false, false, false] (fun K hK => ?_)
        refine Kd.R_append_rows_step k37 (w0 := w) w.heap.size (by rfl) (.tmp 23) (.tmp 25) 31 37 (.agg #[(.int .i64 0), (.int .i64 0), (.int .i64 0)]) 24 rfl Try.underlying31 info37 rfl (by decide) (by omega) v107 y106 l0_2 _ _ _ (fun k_ => some k_ ≠ (v113 : Value).ownBlock ∧ k_ ≠ gb102) (fun _ => False) rfl rfl ?aO ?aR (fun _ _ h => h) (fun _ h => h.elim) ?aF ?aB ?aS ?aL ?_
        (case aR => repeat (first | exact (Kd.C_below HR0_2.out HB.out) | (with_reducible refine cA ?_ _) | (with_reducible refine cN ?_ _) | (with_reducible refine cD ?_)))
        (case aB => exact uW)
        (case aF => exact (fun k_ hk => ⟨Kd.fresh' (Kd.R_lt (uR HO114)) k_ hk, Kd.freshB (uP BK102) k_ hk⟩))
        (case aO => exact (by (with_reducible repeat (first | apply rA | apply rN | apply rD)); exact Kd.R_mono HO108.out (fun _ hk => ⟨hk.1.2, hk.2⟩)))
        (case aS => exact (below_size uW))
        (case aL => have := LMc20.out; omega)
        intro v110 w38 ho hb hg hat
        rw [← Ny109.out] at ho
        have HO111 := am (ho)
        replace BK101 := am (blk_grown (uP BK101) hg (Kd.R_ne HO108.out BK101.out (by decide)))
        replace BK102 := am (blk_grown (uP BK102) hg (Kd.R_away HO108.out (fun _ hk => hk.2)))
        replace BK103 := am (blk_grown (uP BK103) hg (Kd.R_ne HO108.out BK103.out (by decide)))
        replace HO114 := am (Kd.R_after (ok := (fun k_ => k_ ≠ gb102)) (by (with_reducible repeat (first | apply rA | apply rN | apply rD)); exact Kd.R_mono HO114.out (fun _ hk => ⟨hk.1.2, hk.2⟩)) hg hat)
        replace HB := am (hb)
        clear HO108
        clear ho hb hg hat
        refine hK.out _ _ ⟨uT BK101 0, uT BK101 1, uT BK101 2, uT BK102 0, uT BK102 1, uT BK102 2⟩ (fun hHeld => ?_)
        clear hK K
        refine uNo (some 26) ?_
        exact norm_ (by simp only [putAll, Act.put, List.setIfInBounds_toArray, List.set_cons_zero, List.set_cons_succ]) (hCont (v107, v110, v113) _ ⟨hHeld, (uR HO111), (by (with_reducible repeat (first | apply rA | apply rN | apply rD)); exact Kd.R_mono HO114.out (fun _ hk => ⟨hk.2, hk.1⟩)), (uP BK101), (uP BK102), (uP BK103), uW⟩)
      rintro ⟨v107, v110, v113⟩ w39 ⟨hS_, h0_, h1_, h2_, h3_, h4_, h5_⟩
      have n0_ : Aside0 (Kd.R k37 37 w39 w.heap.size (fun k_ => some k_ ≠ (v113 : Value).ownBlock ∧ k_ ≠ gb102) v110 y109) := ⟨h0_⟩
      have n1_ : Aside0 (Kd.R k37 37 w39 w.heap.size (fun k_ => some k_ ≠ (v110 : Value).ownBlock ∧ k_ ≠ gb102) v113 y112) := ⟨h1_⟩
      have n2_ : Aside0 (w39.heap[gb101]? = some (.cells #[.int .i64 a0_0, .int .i64 a0_1, .slice A0_2 l0_2.length c0_2] 33 (0, 0))) := ⟨h2_⟩
      have n3_ : Aside0 (w39.heap[gb102]? = some (.cells #[.int .i64 a1_0, .int .i64 a1_1, .int .i64 a1_2] 37 (0, 0))) := ⟨h3_⟩
      have n4_ : Aside0 (w39.heap[gb103]? = some (.cells #[.int .i64 0, .int .i64 0, .slice none 0 0] 33 (0, 0))) := ⟨h4_⟩
      have n5_ : Aside0 (Below w.heap.size w w39) := ⟨h5_⟩
      clear BK101
      clear BK102
      clear BK103
      clear HB
      clear h0_ h1_ h2_ h3_ h4_ h5_
      have HO111 := n0_
      have HO114 := n1_
      have BK101 := n2_
      have BK102 := n3_
      have BK103 := n4_
      have HB := n5_
      clear n0_ n1_ n2_ n3_ n4_ n5_
      have hHeld : w39.cell? ⟨gb101, 0, none⟩ = some (.int .i64 a0_0) ∧ w39.cell? ⟨gb101, 1, none⟩ = some (.int .i64 a0_1) ∧ w39.cell? ⟨gb101, 2, none⟩ = some (.slice A0_2 l0_2.length c0_2) ∧ w39.cell? ⟨gb102, 0, none⟩ = some (.int .i64 a1_0) ∧ w39.cell? ⟨gb102, 1, none⟩ = some (.int .i64 a1_1) ∧ w39.cell? ⟨gb102, 2, none⟩ = some (.int .i64 a1_2) := hS_
      obtain ⟨Ao41, co41, eo41⟩ := Kd.R_slice HO114.out
      (first | subst eo41 | (injection eo41 with f1_ f2_ f3_; have f4_ := f1_.symm; have f5_ := f3_.symm; clear f1_ f2_ f3_; subst f4_; subst f5_))
      refine uNp ?_
      refine uOn (i := 8) (N := some 29) #[true, true, true, true, true, true, true, true, true, false, false, false] (fun K hK => ?_)
      refine Kd.R_append_rows_step k37 (w0 := w) w.heap.size (by rfl) (.tmp 26) (.tmp 28) 31 37 (.agg #[(.int .i64 0), (.int .i64 0), (.int .i64 0)]) 24 rfl Try.underlying31 info37 rfl (by decide) (by omega) v110 y109 y112 _ _ _ (fun k_ => some k_ ≠ (.slice Ao41 y112.length co41 : Value).ownBlock ∧ k_ ≠ gb102) (fun _ => False) rfl rfl ?aO ?aR (fun _ _ h => h) (fun _ h => h.elim) ?aF ?aB ?aS ?aL ?_
      (case aR => repeat (first | exact (Kd.R_reads' HO114.out).2.2 | (with_reducible refine cA ?_ _) | (with_reducible refine cN ?_ _) | (with_reducible refine cD ?_)))
      (case aB => exact uW)
      (case aF => exact (fun k_ hk => ⟨Kd.fresh' (Kd.R_lt (uR HO114)) k_ hk, Kd.freshB (uP BK102) k_ hk⟩))
      (case aO => exact (uR HO111))
      (case aS => exact (below_size uW))
      (case aL => have := LMc21.out; omega)
      intro v116 w40 ho hb hg hat
      rw [← Ny115.out] at ho
      have HO117 := am (ho)
      replace BK101 := am (blk_grown (uP BK101) hg (Kd.R_ne HO111.out BK101.out (by decide)))
      replace BK102 := am (blk_grown (uP BK102) hg (Kd.R_away HO111.out (fun _ hk => hk.2)))
      replace BK103 := am (blk_grown (uP BK103) hg (Kd.R_ne HO111.out BK103.out (by decide)))
      replace HO114 := am (Kd.R_after (ok := (fun k_ => k_ ≠ gb102)) (by (with_reducible repeat (first | apply rA | apply rN | apply rD)); exact Kd.R_mono HO114.out (fun _ hk => ⟨hk.2, hk.1⟩)) hg hat)
      replace HB := am (hb)
      clear HO111
      clear ho hb hg hat
      obtain ⟨Ao42, co42, eo42⟩ := Kd.R_slice HO117.out
      (first | subst eo42 | (injection eo42 with f1_ f2_ f3_; have f4_ := f1_.symm; have f5_ := f3_.symm; clear f1_ f2_ f3_; subst f4_; subst f5_))
      refine hK.out _ _ ⟨uT BK101 0, uT BK101 1, uT BK101 2, uT BK102 0, uT BK102 1, uT BK102 2⟩ (fun hHeld => ?_)
      clear hK K
      refine uNo (some 29) ?_
      refine uPu (i := 9) (N := some 30) #[true, true, true, true, true, true, true, true, true, true, false, false] ?_
      refine uOn (i := 10) (N := none) #[true, true, true, true, true, true, true, true, true, true, true, false] (fun K hK => ?_)
      have hs43 : w40.cell? ⟨gb103, 0, none⟩ = some (.int .i64 0) := uT BK103 0
      have hfs43 := blk_frozen BK103.out 0
      have hns43_0 := NB101_103.out
      have hns43_1 := NB102_103.out
      have hms43_0 := NB103_101.out
      have hms43_1 := NB103_102.out
      have hs44 : w40.cell? ⟨gb103, 1, none⟩ = some (.int .i64 0) := uT BK103 1
      have hfs44 := blk_frozen BK103.out 1
      have hns44_0 := NB101_103.out
      have hns44_1 := NB102_103.out
      have hms44_0 := NB103_101.out
      have hms44_1 := NB103_102.out
      have hs45 : w40.cell? ⟨gb103, 2, none⟩ = some (.slice none 0 0) := uT BK103 2
      have hfs45 := blk_frozen BK103.out 2
      have hns45_0 := NB101_103.out
      have hns45_1 := NB102_103.out
      have hms45_0 := NB103_101.out
      have hms45_1 := NB103_102.out
      refine skip_ (w1 := ?_) (by rfl) rfl ?_ ?_
      rotate_left
      ·go_simp
       rfl
      refine hK.out _ _ ⟨((cell_far (p := ⟨gb103, _, none⟩) NB101_103.out _).trans (((cell_far (p := ⟨gb103, _, none⟩) NB101_103.out _).trans (((cell_far (p := ⟨gb103, _, none⟩) NB101_103.out _).trans (hHeld.1)))))), ((cell_far (p := ⟨gb103, _, none⟩) NB101_103.out _).trans (((cell_far (p := ⟨gb103, _, none⟩) NB101_103.out _).trans (((cell_far (p := ⟨gb103, _, none⟩) NB101_103.out _).trans (hHeld.2.1)))))), ((cell_far (p := ⟨gb103, _, none⟩) NB101_103.out _).trans (((cell_far (p := ⟨gb103, _, none⟩) NB101_103.out _).trans (((cell_far (p := ⟨gb103, _, none⟩) NB101_103.out _).trans (hHeld.2.2.1)))))), ((cell_far (p := ⟨gb103, _, none⟩) NB102_103.out _).trans (((cell_far (p := ⟨gb103, _, none⟩) NB102_103.out _).trans (((cell_far (p := ⟨gb103, _, none⟩) NB102_103.out _).trans (hHeld.2.2.2.1)))))), ((cell_far (p := ⟨gb103, _, none⟩) NB102_103.out _).trans (((cell_far (p := ⟨gb103, _, none⟩) NB102_103.out _).trans (((cell_far (p := ⟨gb103, _, none⟩) NB102_103.out _).trans (hHeld.2.2.2.2.1)))))), ((cell_far (p := ⟨gb103, _, none⟩) NB102_103.out _).trans (((cell_far (p := ⟨gb103, _, none⟩) NB102_103.out _).trans (((cell_far (p := ⟨gb103, _, none⟩) NB102_103.out _).trans (hHeld.2.2.2.2.2))))))⟩ (fun hHeld => ?_)
      clear hK K
      refine uPu (i := 11) (N := some 5) #[true, true, true, true, true, true, true, true, true, true, true, true] ?_
      refine done_ (done_of HT_.out (by kernel_rfl)) ?_
      try go_wp2
      refine bodyPost_ret (results_ct rfl _ _ gb103 33 #[.int .i64 a0_0, .int .i64 a0_1, .slice Ao42 y115.length co42] (0, 0) _ rfl (by refine blk_put (cs := #[.int .i64 a0_0, .int .i64 a0_1, .slice none 0 0]) ?_ 2 _ rfl; refine blk_put (cs := #[.int .i64 a0_0, .int .i64 0, .slice none 0 0]) ?_ 1 _ rfl; refine blk_put (cs := #[.int .i64 0, .int .i64 0, .slice none 0 0]) ?_ 0 _ rfl; exact (uP BK103)) Try.underlying33 rfl (by kernel_rfl)) rfl ?_
      exact ⟨_, uA, by (with_reducible repeat (first | apply rA | apply rN | apply rD)); exact Kd.R_mono (Kd.R_far (p := ⟨gb103, 2, none⟩) (Kd.R_far (p := ⟨gb103, 1, none⟩) (Kd.R_far (p := ⟨gb103, 0, none⟩) (Kd.R_types HO117.out BK103.out (by decide)) (fun _ hk => hk.2) (.int .i64 a0_0)) (fun _ hk => hk.2) (.int .i64 a0_1)) (fun _ hk => hk.2) (.slice Ao42 y115.length co42)) (fun _ hk => trivial), by exact uW⟩
     ·rw [if_neg c21] at H
      exact absurd H (by simp)
    ·rw [if_neg c20] at H
     exact absurd H (by simp)
  ·replace c6 := Bool.eq_false_iff.mpr c6
   subst c6
   have H1 : (some (0, 0, ([] : List (S37)), false)) = some (r1, r2, r3, r4) := by rw [if_neg (show ¬ (false = true) by decide)] at H; exact H
   clear H
   have H := H1
   clear H1
   simp only [Option.some.injEq, Prod.mk.injEq] at H
   obtain ⟨rfl, rfl, rfl, rfl⟩ := H
   go_enter Try.func7, Try.ntmps7
   go_wp2_with (first | ((with_reducible refine gate_dst (N := 2) rfl ?_); (try (refine gate_guard (by rfl) ?_; dsimp only)); refine uX (N := 2) (cs := #[.int .i64 a0_0, .int .i64 a0_1, .slice A0_2 l0_2.length c0_2]) (t := 33) ?_; intro gb101 hg w46 hbox hb; have BK101 := am (hbox); have GW101 := uE hg; have GE101 := GW101; replace HB := uS hb; clear hb hbox hg) | ((with_reducible refine gate_dst (N := 3) rfl ?_); (try (refine gate_guard (by rfl) ?_; dsimp only)); refine uX (N := 3) (cs := #[.int .i64 a1_0, .int .i64 a1_1, .int .i64 a1_2]) (t := 37) ?_; intro gb102 hg w47 hbox hb; have BK102 := am (hbox); have GW102 := uE hg; have GE102 := GW102; have NB101_102 := uL BK101 hg; have NB102_101 := uY NB101_102; replace BK101 := uB BK101 hb; replace HB := uS hb; clear hb hbox hg) | ((with_reducible refine gate_dst (N := 4) rfl ?_); (try (refine gate_guard (by rfl) ?_; dsimp only)); refine uX (N := 4) (cs := #[.int .i64 0, .int .i64 0, .slice none 0 0]) (t := 33) ?_; intro gb103 hg w48 hbox hb; have BK103 := am (hbox); have GW103 := uE hg; have GE103 := GW103; have NB101_103 := uL BK101 hg; have NB103_101 := uY NB101_103; have NB102_103 := uL BK102 hg; have NB103_102 := uY NB102_103; replace BK101 := uB BK101 hb; replace BK102 := uB BK102 hb; replace HB := uS hb; clear hb hbox hg; have hnb49 := NB101_102.out; have hnc49 := NB102_101.out; have hnb50 := NB101_103.out; have hnc50 := NB103_101.out; obtain ⟨hcz51_0, hcz51_1, hcz51_2, hfz51_0, hfz51_1, hfz51_2⟩ := uZ3 BK101) | ((with_reducible refine gate_callee (f := 41) rfl ?_); refine uGo (some 7) Try.func41 #[.agg #[.int .i64 a0_0, .int .i64 a0_1, .slice A0_2 l0_2.length c0_2]] ?_; (with_reducible refine (spec_pzGood.calls k a0_0 a0_1 _ _ l0_2 true _ ?side1 ?side2 A3.out).mono ?_); (case side1 => repeat (first | exact (Kd.C_below HR0_2.out HB.out) | (with_reducible refine cA ?_ _) | (with_reducible refine cN ?_ _) | (with_reducible refine cD ?_))); (case side2 => exact HC0_2.out); rintro e w52 ⟨rfl, hb⟩; refine ⟨_, rfl, ?_⟩; replace BK101 := uB BK101 hb; replace BK102 := uB BK102 hb; replace BK103 := uB BK103 hb; replace HB := uS hb; (try clear hb); (try clear hb2); (try clear hk); (try clear hi); have hnb53 := NB102_103.out; have hnc53 := NB103_102.out; obtain ⟨hcz54_0, hcz54_1, hcz54_2, hfz54_0, hfz54_1, hfz54_2⟩ := uZ3 BK102) | (go_at_call 42; (with_reducible refine (spec_pzClue.calls a1_0 a1_1 a1_2 false _ A5.out).mono ?_); rintro e w55 ⟨rfl, hb⟩; replace BK101 := uB BK101 hb; replace BK102 := uB BK102 hb; replace BK103 := uB BK103 hb; replace HB := uS hb; (try clear hb); (try clear hb2); (try clear hk); (try clear hi); obtain ⟨hcz56_0, hcz56_1, hcz56_2, hfz56_0, hfz56_1, hfz56_2⟩ := uZ3 BK103))
   refine bodyPost_ret (results_ct rfl _ _ gb103 33 #[.int .i64 0, .int .i64 0, .slice none 0 0] (0, 0) _ rfl (by refine blk_put (cs := #[.int .i64 0, .int .i64 0, .slice none 0 0]) ?_ 2 _ rfl; refine blk_put (cs := #[.int .i64 0, .int .i64 0, .slice none 0 0]) ?_ 1 _ rfl; refine blk_put (cs := #[.int .i64 0, .int .i64 0, .slice none 0 0]) ?_ 0 _ rfl; exact (uP BK103)) Try.underlying33 rfl (by kernel_rfl)) rfl ?_
   exact ⟨_, uA, uN, by exact uW⟩
 ·replace c4 := Bool.eq_false_iff.mpr c4
  subst c4
  have H1 : (some (0, 0, ([] : List (S37)), false)) = some (r1, r2, r3, r4) := by rw [if_neg (show ¬ (false = true) by decide)] at H; exact H
  clear H
  have H := H1
  clear H1
  simp only [Option.some.injEq, Prod.mk.injEq] at H
  obtain ⟨rfl, rfl, rfl, rfl⟩ := H
  go_enter Try.func7, Try.ntmps7
  go_wp2_with (first | ((with_reducible refine gate_dst (N := 2) rfl ?_); (try (refine gate_guard (by rfl) ?_; dsimp only)); refine uX (N := 2) (cs := #[.int .i64 a0_0, .int .i64 a0_1, .slice A0_2 l0_2.length c0_2]) (t := 33) ?_; intro gb101 hg w57 hbox hb; have BK101 := am (hbox); have GW101 := uE hg; have GE101 := GW101; replace HB := uS hb; clear hb hbox hg) | ((with_reducible refine gate_dst (N := 3) rfl ?_); (try (refine gate_guard (by rfl) ?_; dsimp only)); refine uX (N := 3) (cs := #[.int .i64 a1_0, .int .i64 a1_1, .int .i64 a1_2]) (t := 37) ?_; intro gb102 hg w58 hbox hb; have BK102 := am (hbox); have GW102 := uE hg; have GE102 := GW102; have NB101_102 := uL BK101 hg; have NB102_101 := uY NB101_102; replace BK101 := uB BK101 hb; replace HB := uS hb; clear hb hbox hg) | ((with_reducible refine gate_dst (N := 4) rfl ?_); (try (refine gate_guard (by rfl) ?_; dsimp only)); refine uX (N := 4) (cs := #[.int .i64 0, .int .i64 0, .slice none 0 0]) (t := 33) ?_; intro gb103 hg w59 hbox hb; have BK103 := am (hbox); have GW103 := uE hg; have GE103 := GW103; have NB101_103 := uL BK101 hg; have NB103_101 := uY NB101_103; have NB102_103 := uL BK102 hg; have NB103_102 := uY NB102_103; replace BK101 := uB BK101 hb; replace BK102 := uB BK102 hb; replace HB := uS hb; clear hb hbox hg; have hnb60 := NB101_102.out; have hnc60 := NB102_101.out; have hnb61 := NB101_103.out; have hnc61 := NB103_101.out; obtain ⟨hcz62_0, hcz62_1, hcz62_2, hfz62_0, hfz62_1, hfz62_2⟩ := uZ3 BK101) | ((with_reducible refine gate_callee (f := 41) rfl ?_); refine uGo (some 7) Try.func41 #[.agg #[.int .i64 a0_0, .int .i64 a0_1, .slice A0_2 l0_2.length c0_2]] ?_; (with_reducible refine (spec_pzGood.calls k a0_0 a0_1 _ _ l0_2 false _ ?side1 ?side2 A3.out).mono ?_); (case side1 => repeat (first | exact (Kd.C_below HR0_2.out HB.out) | (with_reducible refine cA ?_ _) | (with_reducible refine cN ?_ _) | (with_reducible refine cD ?_))); (case side2 => exact HC0_2.out); rintro e w63 ⟨rfl, hb⟩; refine ⟨_, rfl, ?_⟩; replace BK101 := uB BK101 hb; replace BK102 := uB BK102 hb; replace BK103 := uB BK103 hb; replace HB := uS hb; (try clear hb); (try clear hb2); (try clear hk); (try clear hi); have hnb64 := NB103_102.out; have hnc64 := NB102_103.out; obtain ⟨hcz65_0, hcz65_1, hcz65_2, hfz65_0, hfz65_1, hfz65_2⟩ := uZ3 BK103))
  refine bodyPost_ret (results_ct rfl _ _ gb103 33 #[.int .i64 0, .int .i64 0, .slice none 0 0] (0, 0) _ rfl (by refine blk_put (cs := #[.int .i64 0, .int .i64 0, .slice none 0 0]) ?_ 2 _ rfl; refine blk_put (cs := #[.int .i64 0, .int .i64 0, .slice none 0 0]) ?_ 1 _ rfl; refine blk_put (cs := #[.int .i64 0, .int .i64 0, .slice none 0 0]) ?_ 0 _ rfl; exact (uP BK103)) Try.underlying33 rfl (by kernel_rfl)) rfl ?_
  exact ⟨_, uA, uN, by exact uW⟩
mutual
def spec_MakePuzzle.j0 : Nat → Int → Int → Int → Bool → Int → Int → Option (Int × Int × (List (S37)) × Bool)
 | 0, _, _, _, _, _, _ => none
 | k + 1, x1, x2, x3, x26, x102000, x102001 => if x26 = true then (some (0, 0, ([] : List (S37)), false)) else (spec_MakePuzzle.l0 k x1 x2 x3 x102000 x102001 x102000 x102001 ([] : List (S37)))
def spec_MakePuzzle.l0 : Nat → Int → Int → Int → Int → Int → Int → Int → List (S37) → Option (Int × Int × (List (S37)) × Bool)
 | 0, _, _, _, _, _, _, _, _ => none
 | k + 1, x1, x2, x11, x102000, x102001, x107000, x107001, x107002 => if x2 > 0 then ((spec_pzNext.f x11).bind fun t107 => ((spec_pzNext.f t107).bind fun t108 => ((spec_pzOf.f x102000 x102001 (Int.tmod t107 6) t108 x1).bind fun bt109 => (if x107002.length < 5864062014805 then (spec_MakePuzzle.l0 k x1 (wrap64 (x2 - 1)) t108 x102000 x102001 x107000 x107001 (x107002 ++ [(⟨bt109.1, bt109.2.1, bt109.2.2⟩ : S37)])) else (none))))) else (some (x107000, x107001, x107002, true))
end
def spec_MakePuzzle.f (k : Nat) (a0_0 : Int) (a0_1 : Int) (a1 : Int) (a2 : Int) (a3 : Int) : Option (Int × Int × (List (S37)) × Bool) := (spec_pzHidden.f a0_0 a0_1 a1).bind fun t103 => (if t103 = true then ((spec_l1In.f a2 0 6).bind fun t104 => (if t104 = true then ((spec_l1In.f a3 0 9999).bind fun t105 => (spec_MakePuzzle.j0 k a1 a2 a3 (!t105) a0_0 a0_1)) else (spec_MakePuzzle.j0 k a1 a2 a3 true a0_0 a0_1))) else (spec_MakePuzzle.j0 k a1 a2 a3 true a0_0 a0_1))
def spec_MakePuzzle.T10 : Bool × List (List Nat × List Nat) := (true, [([], []), ([0], [0]), ([], []), ([], []), ([], []), ([], []), ([2, 3, 4, 5], [2, 3, 4, 5]), ([6], [6]), ([1, 7, 6], [1, 7]), ([0, 1, 2, 3, 4, 5, 6, 7, 8], []), ([9, 8, 8, 0, 1, 2, 3, 4, 5, 6, 7, 8], [8, 9])])
def spec_MakePuzzle.B10 : List Nat := [0, 1, 0, 0, 0, 0, 60, 124, 255, 511, 1023]
theorem spec_MakePuzzle.tab10 : rtab .any (opsOf Try.f14 10) = spec_MakePuzzle.T10 := by kernel_rfl
theorem spec_MakePuzzle.bits10 : waitsOk spec_MakePuzzle.T10.2 spec_MakePuzzle.B10 = true := by kernel_rfl
theorem spec_MakePuzzle.calls (k : Nat) (a0_0 : Int) (a0_1 : Int) (a1 : Int) (a2 : Int) (a3 : Int) (r1 : Int) (r2 : Int) (r3 : List (S37)) (r4 : Bool) (w : World) (h : spec_MakePuzzle.f k a0_0 a0_1 a1 a2 a3 = some (r1, r2, r3, r4)) :
  Calls Try.prog 14 #[.agg #[.int .i64 a0_0, .int .i64 a0_1], .int .i64 a1, .int .i64 a2, .int .i64 a3] w fun e w' => ∃ v2_ : Value, e = .returned (.tuple #[.agg #[.int .i64 r1, .int .i64 r2, v2_], .bool r4]) ∧ Kd.R k37 37 w' w.heap.size (fun _ => True) v2_ r3 ∧ Below w.heap.size w w' := by
 have hu30 := Try.underlying30
 have hu33 := Try.underlying33
 have HB := am (Below.refl w.heap.size w)
 have H : ((spec_pzHidden.f a0_0 a0_1 a1).bind fun t103 => (if t103 = true then ((spec_l1In.f a2 0 6).bind fun t104 => (if t104 = true then ((spec_l1In.f a3 0 9999).bind fun t105 => (spec_MakePuzzle.j0 k a1 a2 a3 (!t105) a0_0 a0_1)) else (spec_MakePuzzle.j0 k a1 a2 a3 true a0_0 a0_1))) else (spec_MakePuzzle.j0 k a1 a2 a3 true a0_0 a0_1))) = some (r1, r2, r3, r4) := h
 clear h
 have HC5 := am H
 clear H
 go_enter Try.func14, Try.ntmps14
 go_upto_region 1 with (first | ((with_reducible refine gate_dst (N := 4) rfl ?_); refine uX (N := 4) (cs := #[.int .i64 a0_0, .int .i64 a0_1]) (t := 30) ?_; intro gb101 hg w6 hbox hb; have BK101 := am (hbox); have GW101 := uE hg; have GE101 := GW101; replace HB := uS hb; clear hb hbox hg) | ((with_reducible refine gate_dst (N := 8) rfl ?_); refine uX (N := 8) (cs := #[.int .i64 0, .int .i64 0, .slice none 0 0]) (t := 33) ?_; intro gb102 hg w7 hbox hb; have BK102 := am (hbox); have GW102 := uE hg; have GE102 := GW102; have NB101_102 := uL BK101 hg; have NB102_101 := uY NB101_102; replace BK101 := uB BK101 hb; replace HB := uS hb; clear hb hbox hg))
 (try simp only [Act.put, List.setIfInBounds_toArray, List.set_cons_zero, List.set_cons_succ])
 go_cut [26] (fun v26 wc => ∃ (kq : Nat) (x26_4 : Bool), v26 = .bool x26_4 ∧ Aside0 (spec_MakePuzzle.j0 kq a1 a2 a3 x26_4 a0_0 a0_1 = some (r1, r2, r3, r4)) ∧ Aside0 (kq ≤ k) ∧ Aside0 (wc.heap[gb101]? = some (.cells #[.int .i64 a0_0, .int .i64 a0_1] 30 (0, 0))) ∧ Aside0 (wc.heap[gb102]? = some (.cells #[.int .i64 0, .int .i64 0, (.slice none 0 0)] 33 (0, 0))) ∧ Aside0 (Below w.heap.size w wc))
 case first =>
  have H := HC5.out
  clear HC5
  replace H := bH H
  obtain ⟨t103, A80, H⟩ := H
  replace H : (if t103 = true then ((spec_l1In.f a2 0 6).bind fun t104 => (if t104 = true then ((spec_l1In.f a3 0 9999).bind fun t105 => (spec_MakePuzzle.j0 k a1 a2 a3 (!t105) a0_0 a0_1)) else (spec_MakePuzzle.j0 k a1 a2 a3 true a0_0 a0_1))) else (spec_MakePuzzle.j0 k a1 a2 a3 true a0_0 a0_1)) = some (r1, r2, r3, r4) := H
  have A8 := am A80
  clear A80
  by_cases c9 : t103 = true
  ·subst c9
   have H1 : ((spec_l1In.f a2 0 6).bind fun t104 => (if t104 = true then ((spec_l1In.f a3 0 9999).bind fun t105 => (spec_MakePuzzle.j0 k a1 a2 a3 (!t105) a0_0 a0_1)) else (spec_MakePuzzle.j0 k a1 a2 a3 true a0_0 a0_1))) = some (r1, r2, r3, r4) := by rw [if_pos rfl] at H; exact H
   clear H
   have H := H1
   clear H1
   replace H := bH H
   obtain ⟨t104, A100, H⟩ := H
   replace H : (if t104 = true then ((spec_l1In.f a3 0 9999).bind fun t105 => (spec_MakePuzzle.j0 k a1 a2 a3 (!t105) a0_0 a0_1)) else (spec_MakePuzzle.j0 k a1 a2 a3 true a0_0 a0_1)) = some (r1, r2, r3, r4) := H
   have A10 := am A100
   clear A100
   by_cases c11 : t104 = true
   ·subst c11
    have H1 : ((spec_l1In.f a3 0 9999).bind fun t105 => (spec_MakePuzzle.j0 k a1 a2 a3 (!t105) a0_0 a0_1)) = some (r1, r2, r3, r4) := by rw [if_pos rfl] at H; exact H
    clear H
    have H := H1
    clear H1
    replace H := bH H
    obtain ⟨t105, A120, H⟩ := H
    replace H : (spec_MakePuzzle.j0 k a1 a2 a3 (!t105) a0_0 a0_1) = some (r1, r2, r3, r4) := H
    have A12 := am A120
    clear A120
    have H' := am H
    clear H
    have hnb13 := NB101_102.out
    have hnc13 := NB102_101.out
    obtain ⟨hcz14_0, hcz14_1, hfz14_0, hfz14_1⟩ := uZ2 BK101
    go_wp2_with (first | ((with_reducible refine gate_callee (f := 49) rfl ?_); refine uGo (some 15) Try.func49 #[.agg #[.int .i64 a0_0, .int .i64 a0_1], .int .i64 a1] ?_; (with_reducible refine (spec_pzHidden.calls a0_0 a0_1 a1 true _ A8.out).mono ?_); rintro e w15 ⟨rfl, hb⟩; refine ⟨_, rfl, ?_⟩; replace BK101 := uB BK101 hb; replace BK102 := uB BK102 hb; replace HB := uS hb; (try clear hb); (try clear hb2); (try clear hk); (try clear hi)) | (go_at_call 50; (with_reducible refine (spec_l1In.calls a2 0 6 true _ A10.out).mono ?_); rintro e w' ⟨rfl, ⟨nd, rfl⟩⟩) | (go_at_call 50; (with_reducible refine (spec_l1In.calls a3 0 9999 t105 _ A12.out).mono ?_); rintro e w' ⟨rfl, ⟨nd, rfl⟩⟩))
    go_meet
    case rel => exact ⟨_, (!t105), (by first | rfl | (simp; done) | (simp [*]; done)), H', ⟨by first | omega | exact Nat.le_refl _⟩, ⟨by (with_reducible repeat (first | refine bN ?_ _ | refine bD ?_ | refine bA ?_ _)); exact BK101.out⟩, ⟨by (with_reducible repeat (first | refine bN ?_ _ | refine bD ?_ | refine bA ?_ _)); exact BK102.out⟩, ⟨by exact uW⟩⟩
   ·replace c11 := Bool.eq_false_iff.mpr c11
    subst c11
    have H1 : (spec_MakePuzzle.j0 k a1 a2 a3 true a0_0 a0_1) = some (r1, r2, r3, r4) := by rw [if_neg (show ¬ (false = true) by decide)] at H; exact H
    clear H
    have H := H1
    clear H1
    have H' := am H
    clear H
    have hnb16 := NB101_102.out
    have hnc16 := NB102_101.out
    obtain ⟨hcz17_0, hcz17_1, hfz17_0, hfz17_1⟩ := uZ2 BK101
    go_wp2_with (first | ((with_reducible refine gate_callee (f := 49) rfl ?_); refine uGo (some 15) Try.func49 #[.agg #[.int .i64 a0_0, .int .i64 a0_1], .int .i64 a1] ?_; (with_reducible refine (spec_pzHidden.calls a0_0 a0_1 a1 true _ A8.out).mono ?_); rintro e w18 ⟨rfl, hb⟩; refine ⟨_, rfl, ?_⟩; replace BK101 := uB BK101 hb; replace BK102 := uB BK102 hb; replace HB := uS hb; (try clear hb); (try clear hb2); (try clear hk); (try clear hi)) | (go_at_call 50; (with_reducible refine (spec_l1In.calls a2 0 6 false _ A10.out).mono ?_); rintro e w' ⟨rfl, ⟨nd, rfl⟩⟩))
    go_meet
    case rel => exact ⟨_, (true), (by first | rfl | (simp; done) | (simp [*]; done)), H', ⟨by first | omega | exact Nat.le_refl _⟩, ⟨by (with_reducible repeat (first | refine bN ?_ _ | refine bD ?_ | refine bA ?_ _)); exact BK101.out⟩, ⟨by (with_reducible repeat (first | refine bN ?_ _ | refine bD ?_ | refine bA ?_ _)); exact BK102.out⟩, ⟨by exact uW⟩⟩
  ·replace c9 := Bool.eq_false_iff.mpr c9
   subst c9
   have H1 : (spec_MakePuzzle.j0 k a1 a2 a3 true a0_0 a0_1) = some (r1, r2, r3, r4) := by rw [if_neg (show ¬ (false = true) by decide)] at H; exact H
   clear H
   have H := H1
   clear H1
   have H' := am H
   clear H
   have hnb19 := NB101_102.out
   have hnc19 := NB102_101.out
   obtain ⟨hcz20_0, hcz20_1, hfz20_0, hfz20_1⟩ := uZ2 BK101
   go_wp2_with (first | ((with_reducible refine gate_callee (f := 49) rfl ?_); refine uGo (some 15) Try.func49 #[.agg #[.int .i64 a0_0, .int .i64 a0_1], .int .i64 a1] ?_; (with_reducible refine (spec_pzHidden.calls a0_0 a0_1 a1 false _ A8.out).mono ?_); rintro e w21 ⟨rfl, hb⟩; refine ⟨_, rfl, ?_⟩; replace BK101 := uB BK101 hb; replace BK102 := uB BK102 hb; replace HB := uS hb; (try clear hb); (try clear hb2); (try clear hk); (try clear hi)))
   go_meet
   case rel => exact ⟨_, (true), (by first | rfl | (simp; done) | (simp [*]; done)), H', ⟨by first | omega | exact Nat.le_refl _⟩, ⟨by (with_reducible repeat (first | refine bN ?_ _ | refine bD ?_ | refine bA ?_ _)); exact BK101.out⟩, ⟨by (with_reducible repeat (first | refine bN ?_ _ | refine bD ?_ | refine bA ?_ _)); exact BK102.out⟩, ⟨by exact uW⟩⟩
 case rest =>
  clear HC5
  try clear c1
  try clear p2
  try clear c4
  try clear c9
  try clear c11
  try clear c13
  try clear c14
  try clear c16
  try clear c19
  try clear hcz14_0
  try clear hcz14_1
  try clear hcz17_0
  try clear hcz17_1
  try clear hcz20_0
  try clear hcz20_1
  try clear hfz14_0
  try clear hfz14_1
  try clear hfz17_0
  try clear hfz17_1
  try clear hfz20_0
  try clear hfz20_1
  obtain ⟨kq, x26_4, rfl, HA, HJ4, BK101, BK102, HB⟩ := hcut
  cases kq with
  | zero => exact absurd HA.out (by simp [spec_MakePuzzle.j0])
  | succ kj4 =>
   have H := HA.out
   clear HA
   simp only [spec_MakePuzzle.j0] at H
   by_cases c22 : x26_4 = true
   ·subst c22
    have H1 : (some (0, 0, ([] : List (S37)), false)) = some (r1, r2, r3, r4) := by rw [if_pos rfl] at H; exact H
    clear H
    have H := H1
    clear H1
    simp only [Option.some.injEq, Prod.mk.injEq] at H
    obtain ⟨rfl, rfl, rfl, rfl⟩ := H
    have hnb23 := NB102_101.out
    have hnc23 := NB101_102.out
    obtain ⟨hcz24_0, hcz24_1, hcz24_2, hfz24_0, hfz24_1, hfz24_2⟩ := uZ3 BK102
    go_wp2
    refine bodyPost_ret (results_ct rfl _ _ gb102 33 #[.int .i64 0, .int .i64 0, .slice none 0 0] (0, 0) _ rfl (by refine blk_put (cs := #[.int .i64 0, .int .i64 0, .slice none 0 0]) ?_ 2 _ rfl; refine blk_put (cs := #[.int .i64 0, .int .i64 0, .slice none 0 0]) ?_ 1 _ rfl; refine blk_put (cs := #[.int .i64 0, .int .i64 0, .slice none 0 0]) ?_ 0 _ rfl; exact (uP BK102)) Try.underlying33 rfl (by kernel_rfl)) rfl ?_
    exact ⟨_, uA, uN, by exact uW⟩
   ·replace c22 := Bool.eq_false_iff.mpr c22
    subst c22
    have H1 : (spec_MakePuzzle.l0 kj4 a1 a2 a3 a0_0 a0_1 a0_0 a0_1 ([] : List (S37))) = some (r1, r2, r3, r4) := by rw [if_neg (show ¬ (false = true) by decide)] at H; exact H
    clear H
    have H := H1
    clear H1
    have H' := am H
    clear H
    have hnb25 := NB101_102.out
    have hnc25 := NB102_101.out
    obtain ⟨hcz26_0, hcz26_1, hfz26_0, hfz26_1⟩ := uZ2 BK101
    go_wp2_with (first | ((with_reducible refine gate_dst (N := 10) rfl ?_); refine uX (N := 10) (cs := #[.int .i64 0, .int .i64 0, .slice none 0 0]) (t := 33) ?_; intro gb106 hg w27 hbox hb; have BK106 := am (hbox); have GW106 := uE hg; have GE106 := GW106; have NB101_106 := uL BK101 hg; have NB106_101 := uY NB101_106; have NB102_106 := uL BK102 hg; have NB106_102 := uY NB102_106; replace BK101 := uB BK101 hb; replace BK102 := uB BK102 hb; replace HB := uS hb; clear hb hbox hg; have hnb28 := NB106_101.out; have hnc28 := NB101_106.out; have hnb29 := NB106_102.out; have hnc29 := NB102_106.out; obtain ⟨hcz30_0, hcz30_1, hcz30_2, hfz30_0, hfz30_1, hfz30_2⟩ := uZ3 BK106))
    go_loopg [2, 11] kj4 (fun kq v2 v11 w' => ∃ (x2_2 : Int) (x11_2 : Int) (x107002_2 : List (S37)) (u107002 : Value), v2 = .int .i64 x2_2 ∧ v11 = .int .i64 x11_2 ∧ Aside0 (spec_MakePuzzle.l0 kq a1 x2_2 x11_2 a0_0 a0_1 a0_0 a0_1 x107002_2 = some (r1, r2, r3, r4)) ∧ Aside0 (kq ≤ kj4) ∧ Aside0 (Kd.R k37 37 w' w.heap.size (fun _ => True) u107002 x107002_2) ∧ Aside0 (w'.heap[gb101]? = some (.cells #[.int .i64 a0_0, .int .i64 a0_1] 30 (0, 0))) ∧ Aside0 (w'.heap[gb102]? = some (.cells #[.int .i64 0, .int .i64 0, (.slice none 0 0)] 33 (0, 0))) ∧ Aside0 (w'.heap[gb106]? = some (.cells #[.int .i64 a0_0, .int .i64 a0_1, u107002] 33 (0, 0))) ∧ Aside0 (Below w.heap.size w w'))
    case atStart => exact ⟨(a2), (a3), (([] : List (S37))), (.slice none 0 0), (by first | rfl | (simp; done) | (simp [*]; done)), (by first | rfl | (simp; done) | (simp [*]; done)), H', ⟨Nat.le_refl _⟩, ⟨uN⟩, ⟨by refine blk_far ?_ NB101_106.out _; refine blk_far ?_ NB101_106.out _; refine blk_far ?_ NB101_106.out _; exact (uP BK101)⟩, ⟨by refine blk_far ?_ NB102_106.out _; refine blk_far ?_ NB102_106.out _; refine blk_far ?_ NB102_106.out _; exact (uP BK102)⟩, ⟨by refine blk_put (cs := #[.int .i64 a0_0, .int .i64 a0_1, .slice none 0 0]) ?_ 2 _ rfl; refine blk_put (cs := #[.int .i64 a0_0, .int .i64 0, .slice none 0 0]) ?_ 1 _ rfl; refine blk_put (cs := #[.int .i64 0, .int .i64 0, .slice none 0 0]) ?_ 0 _ rfl; exact (uP BK106)⟩, ⟨by exact uW⟩⟩
    case round =>
     clear H'
     try clear c1
     try clear c2
     try clear p2
     try clear c4
     try clear c9
     try clear c11
     try clear c13
     try clear c14
     try clear c16
     try clear c19
     try clear c22
     try clear c23
     try clear c25
     try clear c28
     try clear c29
     try clear hcz14_0
     try clear hcz14_1
     try clear hcz17_0
     try clear hcz17_1
     try clear hcz20_0
     try clear hcz20_1
     try clear hcz24_0
     try clear hcz24_1
     try clear hcz24_2
     try clear hcz26_0
     try clear hcz26_1
     try clear hcz30_0
     try clear hcz30_1
     try clear hcz30_2
     try clear hfz14_0
     try clear hfz14_1
     try clear hfz17_0
     try clear hfz17_1
     try clear hfz20_0
     try clear hfz20_1
     try clear hfz24_0
     try clear hfz24_1
     try clear hfz24_2
     try clear hfz26_0
     try clear hfz26_1
     try clear hfz30_0
     try clear hfz30_1
     try clear hfz30_2
     try clear p2
     obtain ⟨x2_2, x11_2, x107002_2, u107002, rfl, rfl, HA, HK2, HO_107002, BK101, BK102, BK106, HB⟩ := hrel
     cases gk with
     | zero => exact absurd HA.out (by simp [spec_MakePuzzle.l0])
     | succ k2 =>
      have H := HA.out
      clear HA
      simp only [spec_MakePuzzle.l0] at H
      by_cases c31 : x2_2 > 0
      ·rw [if_pos c31] at H
       have c31b0 : decide (0 < x2_2) = true := decide_eq_true c31
       clear c31
       replace H := bH H
       obtain ⟨t107, A320, H⟩ := H
       replace H : ((spec_pzNext.f t107).bind fun t108 => ((spec_pzOf.f a0_0 a0_1 (Int.tmod t107 6) t108 a1).bind fun bt109 => (if x107002_2.length < 5864062014805 then (spec_MakePuzzle.l0 k2 a1 (wrap64 (x2_2 - 1)) t108 a0_0 a0_1 a0_0 a0_1 (x107002_2 ++ [(⟨bt109.1, bt109.2.1, bt109.2.2⟩ : S37)])) else (none)))) = some (r1, r2, r3, r4) := H
       have A32 := am A320
       clear A320
       replace H := bH H
       obtain ⟨t108, A330, H⟩ := H
       replace H : ((spec_pzOf.f a0_0 a0_1 (Int.tmod t107 6) t108 a1).bind fun bt109 => (if x107002_2.length < 5864062014805 then (spec_MakePuzzle.l0 k2 a1 (wrap64 (x2_2 - 1)) t108 a0_0 a0_1 a0_0 a0_1 (x107002_2 ++ [(⟨bt109.1, bt109.2.1, bt109.2.2⟩ : S37)])) else (none))) = some (r1, r2, r3, r4) := H
       have A33 := am A330
       clear A330
       replace H := bH H
       obtain ⟨⟨t109, t110, t111⟩, A340, H⟩ := H
       replace H : (if x107002_2.length < 5864062014805 then (spec_MakePuzzle.l0 k2 a1 (wrap64 (x2_2 - 1)) t108 a0_0 a0_1 a0_0 a0_1 (x107002_2 ++ [(⟨t109, t110, t111⟩ : S37)])) else (none)) = some (r1, r2, r3, r4) := H
       have A34 := am A340
       clear A340
       by_cases c35 : x107002_2.length < 5864062014805
       ·rw [if_pos c35] at H
        have LMc35 := am c35
        clear c35
        obtain ⟨y112, hy112⟩ : ∃ y_ : List (S37), y_ = (x107002_2 ++ [(⟨t109, t110, t111⟩ : S37)]) := ⟨_, rfl⟩
        replace H : (spec_MakePuzzle.l0 k2 a1 (wrap64 (x2_2 - 1)) t108 a0_0 a0_1 a0_0 a0_1 y112) = some (r1, r2, r3, r4) := by first | (rw [hy112]; with_reducible exact H) | (have H2_ := (Option.bind_some _ _).symm.trans H; rw [hy112]; with_reducible exact H2_) | (have H2_ := (Option.bind_some _ _).symm.trans H; with_reducible exact H2_) | with_reducible exact H | (rw [hy112]; exact H) | exact H
        have Ny112 := am hy112
        clear hy112
        have H' := am H
        clear H
        try go_wp2_with (first | ((with_reducible refine gate_callee (f := 51) rfl ?_); refine uGo (some 36) Try.func51 #[.int .i64 x11_2] ?_; (with_reducible refine (spec_pzNext.calls x11_2 t107 _ A32.out).mono ?_); rintro e w' ⟨rfl, ⟨nd, rfl⟩⟩; refine ⟨_, rfl, ?_⟩; (try (rw [drewN_self wr]; generalize hq_ : World.drewN wr _ = wr; have n0_ : Aside0 (Kd.R k37 37 wr w.heap.size (fun _ => True) u107002 x107002_2) := ⟨by rw [← hq_]; exact (uR HO_107002)⟩; have n1_ : Aside0 (wr.heap[gb101]? = some (.cells #[.int .i64 a0_0, .int .i64 a0_1] 30 (0, 0))) := ⟨by rw [← hq_]; exact (uP BK101)⟩; have n2_ : Aside0 (wr.heap[gb102]? = some (.cells #[.int .i64 0, .int .i64 0, .slice none 0 0] 33 (0, 0))) := ⟨by rw [← hq_]; exact (uP BK102)⟩; have n3_ : Aside0 (wr.heap[gb106]? = some (.cells #[.int .i64 a0_0, .int .i64 a0_1, u107002] 33 (0, 0))) := ⟨by rw [← hq_]; exact (uP BK106)⟩; have n4_ : Aside0 (Below w.heap.size w wr) := ⟨by rw [← hq_]; exact uW⟩; clear HO_107002 BK101 BK102 BK106 HB hq_; have HO_107002 := n0_; have BK101 := n1_; have BK102 := n2_; have BK106 := n3_; have HB := n4_; clear n0_ n1_ n2_ n3_ n4_))) | ((with_reducible refine gate_callee (f := 51) rfl ?_); refine uGo (some 40) Try.func51 #[.int .i64 t107] ?_; (with_reducible refine (spec_pzNext.calls t107 t108 _ A33.out).mono ?_); rintro e w' ⟨rfl, ⟨nd, rfl⟩⟩; refine ⟨_, rfl, ?_⟩; (try (rw [drewN_self wr]; generalize hq_ : World.drewN wr _ = wr; have n0_ : Aside0 (Kd.R k37 37 wr w.heap.size (fun _ => True) u107002 x107002_2) := ⟨by rw [← hq_]; exact (uR HO_107002)⟩; have n1_ : Aside0 (wr.heap[gb101]? = some (.cells #[.int .i64 a0_0, .int .i64 a0_1] 30 (0, 0))) := ⟨by rw [← hq_]; exact (uP BK101)⟩; have n2_ : Aside0 (wr.heap[gb102]? = some (.cells #[.int .i64 0, .int .i64 0, .slice none 0 0] 33 (0, 0))) := ⟨by rw [← hq_]; exact (uP BK102)⟩; have n3_ : Aside0 (wr.heap[gb106]? = some (.cells #[.int .i64 a0_0, .int .i64 a0_1, u107002] 33 (0, 0))) := ⟨by rw [← hq_]; exact (uP BK106)⟩; have n4_ : Aside0 (Below w.heap.size w wr) := ⟨by rw [← hq_]; exact uW⟩; clear HO_107002 BK101 BK102 BK106 HB hq_; have HO_107002 := n0_; have BK101 := n1_; have BK102 := n2_; have BK106 := n3_; have HB := n4_; clear n0_ n1_ n2_ n3_ n4_))))
        replace HO_107002 := am (Kd.R_drew HO_107002.out)
        replace BK101 := am (blk_drew BK101.out)
        replace BK102 := am (blk_drew BK102.out)
        replace BK106 := am (blk_drew BK106.out)
        replace HB := am (below_drew1 HB.out)
        refine start_ (n := 11) (S := fun w' => w'.cell? ⟨gb106, 0, none⟩ = some (.int .i64 a0_0) ∧ w'.cell? ⟨gb106, 1, none⟩ = some (.int .i64 a0_1) ∧ w'.cell? ⟨gb106, 2, none⟩ = some (u107002) ∧ w'.cell? ⟨gb101, 0, none⟩ = some (.int .i64 a0_0) ∧ w'.cell? ⟨gb101, 1, none⟩ = some (.int .i64 a0_1)) (ds := [10]) #[false, false, false, false, false, false, false, false, false, false, false] (by kernel_rfl) rfl rfl ⟨uT BK106 0, uT BK106 1, uT BK106 2, uT BK101 0, uT BK101 1⟩ (fun hHeld => ?_); refine with_tabW spec_MakePuzzle.tab10 spec_MakePuzzle.bits10 (fun HT_ HW_ => ?_)
        generalize wr.drew = w36 at HO_107002 BK101 BK102 BK106 HB hHeld ⊢
        refine uPu (i := 0) (N := some 41) #[true, false, false, false, false, false, false, false, false, false, false] ?_
        refine uPu (i := 3) (N := some 44) #[true, false, false, true, false, false, false, false, false, false, false] ?_
        refine uPu (i := 4) (N := some 45) #[true, false, false, true, true, false, false, false, false, false, false] ?_
        refine uPu (i := 5) (N := some 46) #[true, false, false, true, true, true, false, false, false, false, false] ?_
        refine uTk (i := 1) (N := some 42) #[true, true, false, true, true, true, false, false, false, false, false] hHeld ?_
        refine uTk (i := 2) (N := some 43) #[true, true, true, true, true, true, false, false, false, false, false] hHeld ?_
        refine uOn (i := 6) (N := some 47) #[true, true, true, true, true, true, true, false, false, false, false] (fun K hK => ?_)
        refine uGs Try.func52 #[.agg #[.int .i64 a0_0, .int .i64 a0_1], .int .i64 (Int.tmod t107 6), .int .i64 t108, .int .i64 a1] ?_
        with_reducible refine (spec_pzOf.calls a0_0 a0_1 (Int.tmod t107 6) t108 a1 t109 t110 t111 _ A34.out).mono ?_
        rintro e w37 ⟨rfl, hb⟩
        refine ⟨_, rfl, ?_⟩
        replace HO_107002 := am (Kd.R_below (uR HO_107002) hb)
        replace BK101 := uB BK101 hb
        replace BK102 := uB BK102 hb
        replace BK106 := uB BK106 hb
        replace HB := uS hb
        (try clear hb)
        (try clear hb2)
        (try clear hk)
        (try clear hi)
        refine hK.out _ _ ⟨uT BK106 0, uT BK106 1, uT BK106 2, uT BK101 0, uT BK101 1⟩ (fun hHeld => ?_)
        clear hK K
        refine uNo (some 47) ?_
        refine uOn (i := 7) (N := some 48) #[true, true, true, true, true, true, true, true, false, false, false] (fun K hK => ?_)
        refine value_ (w1 := ?_) (v := ?_) (by rfl) rfl ?_ ?_
        rotate_left 2
        ·go_simp
         constructor
         ·rfl
         ·rfl
        refine hK.out _ _ ⟨(blk_cell (blk_alloc BK106.out _) 0).trans rfl, (blk_cell (blk_alloc BK106.out _) 1).trans rfl, (blk_cell (blk_alloc BK106.out _) 2).trans rfl, (blk_cell (blk_alloc BK101.out _) 0).trans rfl, (blk_cell (blk_alloc BK101.out _) 1).trans rfl⟩ (fun hHeld => ?_)
        clear hK K
        refine uNo (some 48) ?_
        refine uOn (i := 8) (N := some 49) #[true, true, true, true, true, true, true, true, true, false, false] (fun K hK => ?_)
        refine Kd.R_append_step k37 (w0 := w) w.heap.size (by rfl) (.tmp 42) (.tmp 48) 31 37 (.agg #[(.int .i64 0), (.int .i64 0), (.int .i64 0)]) 24 rfl Try.underlying31 info37 rfl (by decide) (by omega) u107002 x107002_2 (⟨t109, t110, t111⟩ : S37) [.int .i64 t109, .int .i64 t110, .int .i64 t111] (fun _ => True) (fun _ => False) rfl rfl ?aP (fun _ hk => hk.elim) ?aF ?aO ?aB ?aS ?aL ?_
        (case aP => exact k37_mkM _ _ _ (⟨t109, t110, t111⟩ : S37))
        (case aB => exact uW)
        (case aF => exact (fun _ _ => trivial))
        (case aO => exact (uR HO_107002))
        (case aS => exact (below_size uW))
        (case aL => have := LMc35.out; omega)
        intro v113 w38 ho hb hg hat
        rw [← Ny112.out] at ho
        have HO114 := am (ho)
        replace BK101 := am (blk_grown (uP BK101) hg (Kd.R_ne HO_107002.out BK101.out (by decide)))
        replace BK102 := am (blk_grown (uP BK102) hg (Kd.R_ne HO_107002.out BK102.out (by decide)))
        replace BK106 := am (blk_grown (uP BK106) hg (Kd.R_ne HO_107002.out BK106.out (by decide)))
        replace HB := am (hb)
        clear HO_107002
        clear ho hb hg hat
        obtain ⟨Ao39, co39, eo39⟩ := Kd.R_slice HO114.out
        (first | subst eo39 | (injection eo39 with f1_ f2_ f3_; have f4_ := f1_.symm; have f5_ := f3_.symm; clear f1_ f2_ f3_; subst f4_; subst f5_))
        refine hK.out _ _ ⟨uT BK106 0, uT BK106 1, uT BK106 2, uT BK101 0, uT BK101 1⟩ (fun hHeld => ?_)
        clear hK K
        refine uNo (some 49) ?_
        refine uPu (i := 9) (N := some 50) #[true, true, true, true, true, true, true, true, true, true, false] ?_
        refine last_ (i := 10) (N := none) #[true, true, true, true, true, true, true, true, true, true, true] rfl rfl (one_of HT_.out (by kernel_rfl)) (by decide) (fun K hK => ?_)
        have hs40 : w38.cell? ⟨gb106, 2, none⟩ = some (u107002) := uT BK106 2
        have hfs40 := blk_frozen BK106.out 2
        have hns40_0 := NB101_106.out
        have hns40_1 := NB102_106.out
        have hms40_0 := NB106_101.out
        have hms40_1 := NB106_102.out
        refine skip_ (w1 := ?_) (by rfl) rfl ?_ ?_
        rotate_left
        ·go_simp
         rfl
        refine hK.out _ _ ?_
        clear hK K
        refine done_ (done_of HT_.out (by kernel_rfl)) ?_
        try go_wp2
        go_roundg k2
        case measure => have := HJ4.out; have := HK2.out; omega
        case rel => exact ⟨(wrap64 (x2_2 - 1)), (t108), (y112), (.slice Ao39 y112.length co39), (by first | rfl | (simp; done) | (simp [*]; done)), (by first | rfl | (simp; done) | (simp [*]; done)), H', ⟨by have := HJ4.out; have := HK2.out; omega⟩, ⟨by (with_reducible repeat (first | apply rA | apply rN | apply rD)); exact Kd.R_mono (Kd.R_far (p := ⟨gb106, 2, none⟩) (Kd.R_types HO114.out BK106.out (by decide)) (fun _ hk => hk.2) (.slice Ao39 y112.length co39)) (fun _ hk => trivial)⟩, ⟨by refine blk_far ?_ NB101_106.out _; exact (uP BK101)⟩, ⟨by refine blk_far ?_ NB102_106.out _; exact (uP BK102)⟩, ⟨by refine blk_put (cs := #[.int .i64 a0_0, .int .i64 a0_1, u107002]) ?_ 2 _ rfl; exact (uP BK106)⟩, ⟨by exact uW⟩⟩
       ·rw [if_neg c35] at H
        exact absurd H (by simp)
      ·rw [if_neg c31] at H
       have c31b0 : decide (0 < x2_2) = false := decide_eq_false c31
       clear c31
       simp only [Option.some.injEq, Prod.mk.injEq] at H
       obtain ⟨rfl, rfl, rfl, rfl⟩ := H
       have hnb41 := NB106_101.out
       have hnc41 := NB101_106.out
       have hnb42 := NB106_102.out
       have hnc42 := NB102_106.out
       obtain ⟨hcz43_0, hcz43_1, hcz43_2, hfz43_0, hfz43_1, hfz43_2⟩ := uZ3 BK106
       have hnb44 := NB102_101.out
       have hnc44 := NB101_102.out
       obtain ⟨hcz45_0, hcz45_1, hcz45_2, hfz45_0, hfz45_1, hfz45_2⟩ := uZ3 BK102
       obtain ⟨Ao46, co46, eo46⟩ := Kd.R_slice HO_107002.out
       subst eo46
       go_wp2
       refine bodyPost_ret (results_ct rfl _ _ gb102 33 #[.int .i64 a0_0, .int .i64 a0_1, .slice Ao46 x107002_2.length co46] (0, 0) _ rfl (by refine blk_put (cs := #[.int .i64 a0_0, .int .i64 a0_1, .slice none 0 0]) ?_ 2 _ rfl; refine blk_put (cs := #[.int .i64 a0_0, .int .i64 0, .slice none 0 0]) ?_ 1 _ rfl; refine blk_put (cs := #[.int .i64 0, .int .i64 0, .slice none 0 0]) ?_ 0 _ rfl; exact (uP BK102)) Try.underlying33 rfl (by kernel_rfl)) rfl ?_
       exact ⟨_, uA, by (with_reducible repeat (first | apply rA | apply rN | apply rD)); exact Kd.R_mono (Kd.R_far (p := ⟨gb102, 2, none⟩) (Kd.R_far (p := ⟨gb102, 1, none⟩) (Kd.R_far (p := ⟨gb102, 0, none⟩) (Kd.R_types HO_107002.out BK102.out (by decide)) (fun _ hk => hk.2) (.int .i64 a0_0)) (fun _ hk => hk.2) (.int .i64 a0_1)) (fun _ hk => hk.2) (.slice Ao46 x107002_2.length co46)) (fun _ hk => trivial), by exact uW⟩
def laws_big.f (l0 : List Int) (l1 : List Int) : Option (Bool) := if (l0.length : Int) > 1048576 then (some true) else (some (decide ((l1.length : Int) > (wrap64 (1048576 - (l0.length : Int))))))
theorem laws_big.calls (A0 : Option Addr) (c0 : Nat) (l0 : List Int) (A1 : Option Addr) (c1 : Nat) (l1 : List Int) (r : Bool) (w : World) (hr0 : Kd.C (Kd.int .u8) w A0 l0.length l0) (hc0 : l0.length ≤ c0) (hr1 : Kd.C (Kd.int .u8) w A1 l1.length l1) (hc1 : l1.length ≤ c1) (h : laws_big.f l0 l1 = some r) :
  Calls Try.prog 17 #[.slice A0 l0.length c0, .slice A1 l1.length c1] w fun e w' => e = .returned (.bool r) ∧ Drawn0 w w' := by
 have HR0 := am hr0
 have HC0 := am hc0
 clear hr0 hc0
 have HR1 := am hr1
 have HC1 := am hc1
 clear hr1 hc1
 have H : (if (l0.length : Int) > 1048576 then (some true) else (some (decide ((l1.length : Int) > (wrap64 (1048576 - (l0.length : Int))))))) = some r := h
 clear h
 by_cases c3 : (l0.length : Int) > 1048576
 ·rw [if_pos c3] at H
  have c3b0 : decide (1048576 < (l0.length : Int)) = true := decide_eq_true c3
  have c3b1 : decide (1048576 < l0.length) = true := decide_eq_true (by omega)
  clear c3
  obtain rfl := Option.some.inj H
  go_enter Try.func17, Try.ntmps17
  go_wp2
  go_ret
  exact ⟨by first | rfl | (simp; done) | (simp [*]; done), by repeat (first | exact Drawn0.refl _ | apply Drawn0.step)⟩
 ·rw [if_neg c3] at H
  have c3b0 : decide (1048576 < (l0.length : Int)) = false := decide_eq_false c3
  have c3b1 : decide (1048576 < l0.length) = false := decide_eq_false (by omega)
  clear c3
  obtain rfl := Option.some.inj H
  go_enter Try.func17, Try.ntmps17
  go_wp2
  go_ret
  exact ⟨by first | rfl | (simp; done) | (simp [*]; done), by repeat (first | exact Drawn0.refl _ | apply Drawn0.step)⟩
def IsS89 (w0 W : World) (g : Nat) (f0 : List Int) (f1 : Int) (f2 : Int) : Prop := ∃ A0 c0, W.heap[g]? = some (.cells #[.slice A0 f0.length c0, .int .i64 f1, .int .u64 f2] 89 (0, 0)) ∧ w0.heap.size ≤ g ∧ Kd.C (Kd.int .u8) w0 A0 f0.length f0
theorem IsS89.grown {w0 W : World} {g : Nat} {f0 : List Int} {f1 : Int} {f2 : Int} {W1 : World} {row : Option Nat} (h : IsS89 w0 W g f0 f1 f2) (hw : W.grownBy W1 row) (hne : some g ≠ row) : IsS89 w0 W1 g f0 f1 f2 := by
 obtain ⟨A0, c0, hb, hg, hr0⟩ := h
 exact ⟨A0, c0, blk_grown hb hw hne, hg, hr0⟩
theorem IsS89.below {w0 W : World} {g : Nat} {f0 : List Int} {f1 : Int} {f2 : Int} {W1 : World} (h : IsS89 w0 W g f0 f1 f2) (hw : Below W.heap.size W W1) : IsS89 w0 W1 g f0 f1 f2 := h.grown (grown_of_below hw none) (by simp)
theorem IsS89.alloc {w0 W : World} {g : Nat} {f0 : List Int} {f1 : Int} {f2 : Int} (h : IsS89 w0 W g f0 f1 f2) (o : Obj) : IsS89 w0 (W.alloc o) g f0 f1 f2 := h.below (below_alloc (Below.refl _ _) o)
theorem IsS89.drewN {w0 W : World} {g : Nat} {f0 : List Int} {f1 : Int} {f2 : Int} (h : IsS89 w0 W g f0 f1 f2) (m : Nat) : IsS89 w0 (W.drewN m) g f0 f1 f2 := h
theorem IsS89.drew {w0 W : World} {g : Nat} {f0 : List Int} {f1 : Int} {f2 : Int} (h : IsS89 w0 W g f0 f1 f2) : IsS89 w0 W.drew g f0 f1 f2 := h
theorem IsS89.apart {w0 W : World} {g : Nat} {f0 : List Int} {f1 : Int} {f2 : Int} {α : Type} {d : Kd α} {e : Nat} {base : Nat} {ok : Nat → Prop} {v : Value} {xs : List α} (h : IsS89 w0 W g f0 f1 f2) (ho : d.R e W base ok v xs) (ht : ∀ q, q ∈ e :: d.E → q ≠ 89) : d.R e W base (fun k => ok k ∧ k ≠ g) v xs := by
 obtain ⟨A0, c0, hb, hg, hr0⟩ := h
 exact Kd.R_types ho hb ht
theorem IsS89.own_ne {w0 W : World} {g : Nat} {f0 : List Int} {f1 : Int} {f2 : Int} {α : Type} {d : Kd α} {e : Nat} {base : Nat} {ok : Nat → Prop} {v : Value} {xs : List α} (h : IsS89 w0 W g f0 f1 f2) (ho : d.R e W base ok v xs) (ht : e ≠ 89) : some g ≠ v.ownBlock := by
 obtain ⟨A0, c0, hb, hg, hr0⟩ := h
 exact Kd.R_ne ho hb ht
theorem IsS89.lt {w0 W : World} {g : Nat} {f0 : List Int} {f1 : Int} {f2 : Int} (h : IsS89 w0 W g f0 f1 f2) : g < W.heap.size := by
 obtain ⟨A0, c0, hb, hg, hr0⟩ := h
 exact blk_lt hb
theorem IsS89.ge {w0 W : World} {g : Nat} {f0 : List Int} {f1 : Int} {f2 : Int} (h : IsS89 w0 W g f0 f1 f2) : w0.heap.size ≤ g := by
 obtain ⟨A0, c0, hb, hg, hr0⟩ := h
 exact hg
theorem IsS89.far {w0 W : World} {g : Nat} {f0 : List Int} {f1 : Int} {f2 : Int} {p : Addr} (h : IsS89 w0 W g f0 f1 f2) (hne : g ≠ p.block) (u : Value) : IsS89 w0 (W.setCell p u) g f0 f1 f2 := by
 obtain ⟨A0, c0, hb, hg, hr0⟩ := h
 exact ⟨A0, c0, blk_far hb hne u, hg, hr0⟩
theorem cellS89_0 {W : World} {g : Nat} {A0 : Option Addr} {c0 : Nat} {f0 : List Int} {f1 : Int} {f2 : Int} (h : W.heap[g]? = some (.cells #[.slice A0 f0.length c0, .int .i64 f1, .int .u64 f2] 89 (0, 0))) : W.cell? ⟨g, 0, none⟩ = some (.slice A0 f0.length c0) := (blk_cell h 0).trans rfl
theorem cellS89_1 {W : World} {g : Nat} {A0 : Option Addr} {c0 : Nat} {f0 : List Int} {f1 : Int} {f2 : Int} (h : W.heap[g]? = some (.cells #[.slice A0 f0.length c0, .int .i64 f1, .int .u64 f2] 89 (0, 0))) : W.cell? ⟨g, 1, none⟩ = some (.int .i64 f1) := (blk_cell h 1).trans rfl
theorem IsS89.set_1 {w0 W : World} {g : Nat} {f0 : List Int} {f1 : Int} {f2 : Int} (h : IsS89 w0 W g f0 f1 f2) (x : Int) : IsS89 w0 (W.setCell ⟨g, 1, none⟩ (.int .i64 x)) g f0 x f2 := by
 obtain ⟨A0, c0, hb, hg, hr0⟩ := h
 exact ⟨A0, c0, by simpa using blk_set hb 1 (.int .i64 x), hg, hr0⟩
theorem cellS89_2 {W : World} {g : Nat} {A0 : Option Addr} {c0 : Nat} {f0 : List Int} {f1 : Int} {f2 : Int} (h : W.heap[g]? = some (.cells #[.slice A0 f0.length c0, .int .i64 f1, .int .u64 f2] 89 (0, 0))) : W.cell? ⟨g, 2, none⟩ = some (.int .u64 f2) := (blk_cell h 2).trans rfl
theorem IsS89.set_2 {w0 W : World} {g : Nat} {f0 : List Int} {f1 : Int} {f2 : Int} (h : IsS89 w0 W g f0 f1 f2) (x : Int) : IsS89 w0 (W.setCell ⟨g, 2, none⟩ (.int .u64 x)) g f0 f1 x := by
 obtain ⟨A0, c0, hb, hg, hr0⟩ := h
 exact ⟨A0, c0, by simpa using blk_set hb 2 (.int .u64 x), hg, hr0⟩
def spec_l1Cur_next.f (s0_0 : List Int) (s0_1 : Int) (s0_2 : Int) : Option (Int × Int × Int) := if s0_1 < (s0_0.length : Int) then (if 0 ≤ s0_1 then (if (wrap64 (s0_1 + 1)) ≤ (s0_0.length : Int) then (some (wrap64 (rd s0_0 s0_1), wrap64 (s0_1 + 1), IntKind.u64.wrap ((IntKind.u64.wrap ((IntKind.u64.wrap (s0_2 * 6364136223846793005)) + (IntKind.u64.wrap (wrap64 (rd s0_0 s0_1))))) + 1442695040888963407))) else (some (wrap64 (Go.bits .and .u64 ((IntKind.u64.wrap ((IntKind.u64.wrap ((IntKind.u64.wrap (s0_2 * 6364136223846793005)) + (IntKind.u64.wrap (wrap64 (rd s0_0 s0_1))))) + 1442695040888963407)) / 1099511627776) 255), wrap64 (s0_1 + 1), IntKind.u64.wrap ((IntKind.u64.wrap ((IntKind.u64.wrap (s0_2 * 6364136223846793005)) + (IntKind.u64.wrap (wrap64 (rd s0_0 s0_1))))) + 1442695040888963407)))) else (none)) else (if (wrap64 (s0_1 + 1)) ≤ (s0_0.length : Int) then (some (0, wrap64 (s0_1 + 1), IntKind.u64.wrap ((IntKind.u64.wrap (IntKind.u64.wrap (s0_2 * 6364136223846793005))) + 1442695040888963407))) else (some (wrap64 (Go.bits .and .u64 ((IntKind.u64.wrap ((IntKind.u64.wrap (IntKind.u64.wrap (s0_2 * 6364136223846793005))) + 1442695040888963407)) / 1099511627776) 255), wrap64 (s0_1 + 1), IntKind.u64.wrap ((IntKind.u64.wrap (IntKind.u64.wrap (s0_2 * 6364136223846793005))) + 1442695040888963407))))
theorem spec_l1Cur_next.calls (g : Nat) (s0_0 : List Int) (s0_1 : Int) (s0_2 : Int) (r1 : Int) (r2 : Int) (r3 : Int) (w0 w : World) (hI : IsS89 w0 w g s0_0 s0_1 s0_2) (hB : Below w0.heap.size w0 w) (h : spec_l1Cur_next.f s0_0 s0_1 s0_2 = some (r1, r2, r3)) :
  Calls Try.prog 83 #[.pointer (some ⟨g, 0, none⟩)] w fun e w' => e = .returned (.int .i64 r1) ∧ IsS89 w0 w' g s0_0 r2 r3 ∧ Below w0.heap.size w0 w' ∧ KeepBut w w' g none := by
 have HI0 := am hI
 have HK := am (KeepBut.refl w g none)
 have HL := am hB.size
 clear hI
 have HW0 := am hB.size
 have HB := am hB
 clear hB
 have H : (if s0_1 < (s0_0.length : Int) then (if 0 ≤ s0_1 then (if (wrap64 (s0_1 + 1)) ≤ (s0_0.length : Int) then (some (wrap64 (rd s0_0 s0_1), wrap64 (s0_1 + 1), IntKind.u64.wrap ((IntKind.u64.wrap ((IntKind.u64.wrap (s0_2 * 6364136223846793005)) + (IntKind.u64.wrap (wrap64 (rd s0_0 s0_1))))) + 1442695040888963407))) else (some (wrap64 (Go.bits .and .u64 ((IntKind.u64.wrap ((IntKind.u64.wrap ((IntKind.u64.wrap (s0_2 * 6364136223846793005)) + (IntKind.u64.wrap (wrap64 (rd s0_0 s0_1))))) + 1442695040888963407)) / 1099511627776) 255), wrap64 (s0_1 + 1), IntKind.u64.wrap ((IntKind.u64.wrap ((IntKind.u64.wrap (s0_2 * 6364136223846793005)) + (IntKind.u64.wrap (wrap64 (rd s0_0 s0_1))))) + 1442695040888963407)))) else (none)) else (if (wrap64 (s0_1 + 1)) ≤ (s0_0.length : Int) then (some (0, wrap64 (s0_1 + 1), IntKind.u64.wrap ((IntKind.u64.wrap (IntKind.u64.wrap (s0_2 * 6364136223846793005))) + 1442695040888963407))) else (some (wrap64 (Go.bits .and .u64 ((IntKind.u64.wrap ((IntKind.u64.wrap (IntKind.u64.wrap (s0_2 * 6364136223846793005))) + 1442695040888963407)) / 1099511627776) 255), wrap64 (s0_1 + 1), IntKind.u64.wrap ((IntKind.u64.wrap (IntKind.u64.wrap (s0_2 * 6364136223846793005))) + 1442695040888963407))))) = some (r1, r2, r3) := h
 clear h
 by_cases c2 : s0_1 < (s0_0.length : Int)
 ·rw [if_pos c2] at H
  have c2b0 : decide (s0_1 < (s0_0.length : Int)) = true := decide_eq_true c2
  clear c2
  by_cases c3 : 0 ≤ s0_1
  ·rw [if_pos c3] at H
   have c3b0 : decide (0 ≤ s0_1) = true := decide_eq_true c3
   clear c3
   by_cases c4 : (wrap64 (s0_1 + 1)) ≤ (s0_0.length : Int)
   ·rw [if_pos c4] at H
    have c4b0 : decide ((wrap64 (s0_1 + 1)) ≤ (s0_0.length : Int)) = true := decide_eq_true c4
    clear c4
    simp only [Option.some.injEq, Prod.mk.injEq] at H
    obtain ⟨rfl, rfl, rfl⟩ := H
    obtain ⟨ASz5_0, cSz5_0, HGz5, hgz5, HSz5_0⟩ := HI0.out
    have hcz5_0 := cellS89_0 HGz5
    have hcz5_1 := cellS89_1 HGz5
    have hcz5_2 := cellS89_2 HGz5
    have hfz5_1 := blk_frozen HGz5 1
    have hfz5_2 := blk_frozen HGz5 2
    clear HGz5 hgz5
    have p101 : 0 ≤ (s0_1 : Int) := of_decide_eq_true (by first | (with_reducible assumption) | assumption)
    have q101 : s0_1 < (s0_0.length : Int) := of_decide_eq_true (by first | (with_reducible assumption) | assumption)
    obtain ⟨ad101, e101, hx101_0⟩ := Kd.at_int HSz5_0 s0_1 p101 q101
    cases e101
    replace hx101_0 := pw_cell_below HB.out hx101_0
    replace p101 := eq_true p101
    replace q101 := eq_true q101
    go_enter Try.func83, Try.ntmps83
    go_wp2
    repeat (go_quiet (fail); try go_wp2)
    go_ret
    exact ⟨uA, by exact uI, by exact uW, by exact uV⟩
   ·rw [if_neg c4] at H
    have c4b0 : decide ((wrap64 (s0_1 + 1)) ≤ (s0_0.length : Int)) = false := decide_eq_false c4
    clear c4
    simp only [Option.some.injEq, Prod.mk.injEq] at H
    obtain ⟨rfl, rfl, rfl⟩ := H
    obtain ⟨ASz6_0, cSz6_0, HGz6, hgz6, HSz6_0⟩ := HI0.out
    have hcz6_0 := cellS89_0 HGz6
    have hcz6_1 := cellS89_1 HGz6
    have hcz6_2 := cellS89_2 HGz6
    have hfz6_1 := blk_frozen HGz6 1
    have hfz6_2 := blk_frozen HGz6 2
    clear HGz6 hgz6
    have p101 : 0 ≤ (s0_1 : Int) := of_decide_eq_true (by first | (with_reducible assumption) | assumption)
    have q101 : s0_1 < (s0_0.length : Int) := of_decide_eq_true (by first | (with_reducible assumption) | assumption)
    obtain ⟨ad101, e101, hx101_0⟩ := Kd.at_int HSz6_0 s0_1 p101 q101
    cases e101
    replace hx101_0 := pw_cell_below HB.out hx101_0
    replace p101 := eq_true p101
    replace q101 := eq_true q101
    go_enter Try.func83, Try.ntmps83
    go_wp2
    repeat (go_quiet (fail); try go_wp2)
    go_ret
    exact ⟨uA, by exact uI, by exact uW, by exact uV⟩
  ·rw [if_neg c3] at H
   exact absurd H (by simp)
 ·rw [if_neg c2] at H
  have c2b0 : decide (s0_1 < (s0_0.length : Int)) = false := decide_eq_false c2
  clear c2
  by_cases c7 : (wrap64 (s0_1 + 1)) ≤ (s0_0.length : Int)
  ·rw [if_pos c7] at H
   have c7b0 : decide ((wrap64 (s0_1 + 1)) ≤ (s0_0.length : Int)) = true := decide_eq_true c7
   clear c7
   simp only [Option.some.injEq, Prod.mk.injEq] at H
   obtain ⟨rfl, rfl, rfl⟩ := H
   obtain ⟨ASz8_0, cSz8_0, HGz8, hgz8, HSz8_0⟩ := HI0.out
   have hcz8_0 := cellS89_0 HGz8
   have hcz8_1 := cellS89_1 HGz8
   have hcz8_2 := cellS89_2 HGz8
   have hfz8_1 := blk_frozen HGz8 1
   have hfz8_2 := blk_frozen HGz8 2
   clear HGz8 hgz8
   go_enter Try.func83, Try.ntmps83
   go_wp2
   repeat (go_quiet (fail); try go_wp2)
   go_ret
   exact ⟨uA, by exact uI, by exact uW, by exact uV⟩
  ·rw [if_neg c7] at H
   have c7b0 : decide ((wrap64 (s0_1 + 1)) ≤ (s0_0.length : Int)) = false := decide_eq_false c7
   clear c7
   simp only [Option.some.injEq, Prod.mk.injEq] at H
   obtain ⟨rfl, rfl, rfl⟩ := H
   obtain ⟨ASz9_0, cSz9_0, HGz9, hgz9, HSz9_0⟩ := HI0.out
   have hcz9_0 := cellS89_0 HGz9
   have hcz9_1 := cellS89_1 HGz9
   have hcz9_2 := cellS89_2 HGz9
   have hfz9_1 := blk_frozen HGz9 1
   have hfz9_2 := blk_frozen HGz9 2
   clear HGz9 hgz9
   go_enter Try.func83, Try.ntmps83
   go_wp2
   repeat (go_quiet (fail); try go_wp2)
   go_ret
   exact ⟨uA, by exact uI, by exact uW, by exact uV⟩
def spec_l1Cur_pick.f (s0_0 : List Int) (s0_1 : Int) (s0_2 : Int) (a1 : Int) : Option (Int × Int × Int) := if a1 ≤ 1 then (some (0, s0_1, s0_2)) else ((spec_l1Cur_next.f s0_0 s0_1 s0_2).bind fun bt101 => (if a1 > 200 then ((spec_l1Cur_next.f s0_0 bt101.2.1 bt101.2.2).bind fun bt104 => (if a1 = 0 then (none) else (some (Int.tmod (wrap64 ((wrap64 (bt101.1 * 256)) + bt104.1)) a1, bt104.2.1, bt104.2.2)))) else (if a1 = 0 then (none) else (some (Int.tmod bt101.1 a1, bt101.2.1, bt101.2.2)))))
theorem spec_l1Cur_pick.calls (g : Nat) (s0_0 : List Int) (s0_1 : Int) (s0_2 : Int) (a1 : Int) (r1 : Int) (r2 : Int) (r3 : Int) (w0 w : World) (hI : IsS89 w0 w g s0_0 s0_1 s0_2) (hB : Below w0.heap.size w0 w) (h : spec_l1Cur_pick.f s0_0 s0_1 s0_2 a1 = some (r1, r2, r3)) :
  Calls Try.prog 61 #[.pointer (some ⟨g, 0, none⟩), .int .i64 a1] w fun e w' => e = .returned (.int .i64 r1) ∧ IsS89 w0 w' g s0_0 r2 r3 ∧ Below w0.heap.size w0 w' ∧ KeepBut w w' g none := by
 have HI0 := am hI
 have HK := am (KeepBut.refl w g none)
 have HL := am hB.size
 clear hI
 have HW0 := am hB.size
 have HB := am hB
 clear hB
 have H : (if a1 ≤ 1 then (some (0, s0_1, s0_2)) else ((spec_l1Cur_next.f s0_0 s0_1 s0_2).bind fun bt101 => (if a1 > 200 then ((spec_l1Cur_next.f s0_0 bt101.2.1 bt101.2.2).bind fun bt104 => (if a1 = 0 then (none) else (some (Int.tmod (wrap64 ((wrap64 (bt101.1 * 256)) + bt104.1)) a1, bt104.2.1, bt104.2.2)))) else (if a1 = 0 then (none) else (some (Int.tmod bt101.1 a1, bt101.2.1, bt101.2.2)))))) = some (r1, r2, r3) := h
 clear h
 by_cases c3 : a1 ≤ 1
 ·rw [if_pos c3] at H
  have c3b0 : decide (a1 ≤ 1) = true := decide_eq_true c3
  clear c3
  simp only [Option.some.injEq, Prod.mk.injEq] at H
  obtain ⟨rfl, rfl, rfl⟩ := H
  go_enter Try.func61, Try.ntmps61
  go_wp2
  go_ret
  exact ⟨uA, by exact uI, by exact uW, by exact uV⟩
 ·rw [if_neg c3] at H
  have c3b0 : decide (a1 ≤ 1) = false := decide_eq_false c3
  clear c3
  replace H := bH H
  obtain ⟨⟨t101, t102, t103⟩, A40, H⟩ := H
  replace H : (if a1 > 200 then ((spec_l1Cur_next.f s0_0 t102 t103).bind fun bt104 => (if a1 = 0 then (none) else (some (Int.tmod (wrap64 ((wrap64 (t101 * 256)) + bt104.1)) a1, bt104.2.1, bt104.2.2)))) else (if a1 = 0 then (none) else (some (Int.tmod t101 a1, t102, t103)))) = some (r1, r2, r3) := H
  have A4 := am A40
  clear A40
  by_cases c5 : a1 > 200
  ·rw [if_pos c5] at H
   have c5b0 : decide (200 < a1) = true := decide_eq_true c5
   clear c5
   replace H := bH H
   obtain ⟨⟨t104, t105, t106⟩, A60, H⟩ := H
   replace H : (if a1 = 0 then (none) else (some (Int.tmod (wrap64 ((wrap64 (t101 * 256)) + t104)) a1, t105, t106))) = some (r1, r2, r3) := H
   have A6 := am A60
   clear A60
   by_cases c7 : a1 = 0
   ·rw [if_pos c7] at H
    exact absurd H (by simp)
   ·rw [if_neg c7] at H
    have c7b0 : (a1 == 0) = false := beq_eq_false_iff_ne.mpr c7
    have c7b1 : (a1 != 0) = true := bne_iff_ne.mpr c7
    simp only [Option.some.injEq, Prod.mk.injEq] at H
    obtain ⟨rfl, rfl, rfl⟩ := H
    go_enter Try.func61, Try.ntmps61
    go_wp2_with (first | ((with_reducible refine gate_callee (f := 83) rfl ?_); refine uGo (some 9) Try.func83 #[.pointer (some ⟨g, 0, none⟩)] ?_; (with_reducible refine (spec_l1Cur_next.calls g s0_0 s0_1 s0_2 t101 t102 t103 w0 _ ?side1 ?side2 A4.out).mono ?_); (case side1 => exact uI); (case side2 => exact uW); rintro e w8 ⟨rfl, hi, hb, hk⟩; refine ⟨_, rfl, ?_⟩; replace HK := am (KeepBut.trans uV hk (.inl rfl)); replace HB := am (hb); replace HI0 := am (hi); (try clear hb); (try clear hb2); (try clear hk); (try clear hi)) | ((with_reducible refine gate_callee (f := 83) rfl ?_); refine uGo (some 15) Try.func83 #[.pointer (some ⟨g, 0, none⟩)] ?_; (with_reducible refine (spec_l1Cur_next.calls g s0_0 t102 t103 t104 t105 t106 w0 _ ?side1 ?side2 A6.out).mono ?_); (case side1 => exact uI); (case side2 => exact uW); rintro e w9 ⟨rfl, hi, hb, hk⟩; refine ⟨_, rfl, ?_⟩; replace HK := am (KeepBut.trans uV hk (.inl rfl)); replace HB := am (hb); replace HI0 := am (hi); (try clear hb); (try clear hb2); (try clear hk); (try clear hi)))
    go_ret
    exact ⟨uA, by exact uI, by exact uW, by exact uV⟩
  ·rw [if_neg c5] at H
   have c5b0 : decide (200 < a1) = false := decide_eq_false c5
   clear c5
   by_cases c10 : a1 = 0
   ·rw [if_pos c10] at H
    exact absurd H (by simp)
   ·rw [if_neg c10] at H
    have c10b0 : (a1 == 0) = false := beq_eq_false_iff_ne.mpr c10
    have c10b1 : (a1 != 0) = true := bne_iff_ne.mpr c10
    simp only [Option.some.injEq, Prod.mk.injEq] at H
    obtain ⟨rfl, rfl, rfl⟩ := H
    go_enter Try.func61, Try.ntmps61
    go_wp2_with (first | ((with_reducible refine gate_callee (f := 83) rfl ?_); refine uGo (some 9) Try.func83 #[.pointer (some ⟨g, 0, none⟩)] ?_; (with_reducible refine (spec_l1Cur_next.calls g s0_0 s0_1 s0_2 t101 t102 t103 w0 _ ?side1 ?side2 A4.out).mono ?_); (case side1 => exact uI); (case side2 => exact uW); rintro e w11 ⟨rfl, hi, hb, hk⟩; refine ⟨_, rfl, ?_⟩; replace HK := am (KeepBut.trans uV hk (.inl rfl)); replace HB := am (hb); replace HI0 := am (hi); (try clear hb); (try clear hb2); (try clear hk); (try clear hi)))
    go_ret
    exact ⟨uA, by exact uI, by exact uW, by exact uV⟩
def spec_l1Cur_one.f (s0_0 : List Int) (s0_1 : Int) (s0_2 : Int) (a1 : Int) : Option (Bool × Int × Int) := (spec_l1Cur_pick.f s0_0 s0_1 s0_2 a1).bind fun bt101 => (some ((bt101.1 == 0), bt101.2.1, bt101.2.2))
theorem spec_l1Cur_one.calls (g : Nat) (s0_0 : List Int) (s0_1 : Int) (s0_2 : Int) (a1 : Int) (r1 : Bool) (r2 : Int) (r3 : Int) (w0 w : World) (hI : IsS89 w0 w g s0_0 s0_1 s0_2) (hB : Below w0.heap.size w0 w) (h : spec_l1Cur_one.f s0_0 s0_1 s0_2 a1 = some (r1, r2, r3)) :
  Calls Try.prog 57 #[.pointer (some ⟨g, 0, none⟩), .int .i64 a1] w fun e w' => e = .returned (.bool r1) ∧ IsS89 w0 w' g s0_0 r2 r3 ∧ Below w0.heap.size w0 w' ∧ KeepBut w w' g none := by
 have HI0 := am hI
 have HK := am (KeepBut.refl w g none)
 have HL := am hB.size
 clear hI
 have HW0 := am hB.size
 have HB := am hB
 clear hB
 have H : ((spec_l1Cur_pick.f s0_0 s0_1 s0_2 a1).bind fun bt101 => (some ((bt101.1 == 0), bt101.2.1, bt101.2.2))) = some (r1, r2, r3) := h
 clear h
 replace H := bH H
 obtain ⟨⟨t101, t102, t103⟩, A30, H⟩ := H
 replace H : (some ((t101 == 0), t102, t103)) = some (r1, r2, r3) := H
 have A3 := am A30
 clear A30
 simp only [Option.some.injEq, Prod.mk.injEq] at H
 obtain ⟨rfl, rfl, rfl⟩ := H
 go_enter Try.func57, Try.ntmps57
 go_wp2_with (first | ((with_reducible refine gate_callee (f := 61) rfl ?_); refine uGo (some 7) Try.func61 #[.pointer (some ⟨g, 0, none⟩), .int .i64 a1] ?_; (with_reducible refine (spec_l1Cur_pick.calls g s0_0 s0_1 s0_2 a1 t101 t102 t103 w0 _ ?side1 ?side2 A3.out).mono ?_); (case side1 => exact uI); (case side2 => exact uW); rintro e w4 ⟨rfl, hi, hb, hk⟩; refine ⟨_, rfl, ?_⟩; replace HK := am (KeepBut.trans uV hk (.inl rfl)); replace HB := am (hb); replace HI0 := am (hi); (try clear hb); (try clear hb2); (try clear hk); (try clear hi)))
 go_ret
 exact ⟨uA, by exact uI, by exact uW, by exact uV⟩
def spec_l1Cur_among.f (s0_0 : List Int) (s0_1 : Int) (s0_2 : Int) (l1 : List Int) : Option (Int × Int × Int) := (spec_l1Cur_pick.f s0_0 s0_1 s0_2 (l1.length : Int)).bind fun bt101 => (if 0 ≤ bt101.1 then (if bt101.1 < (l1.length : Int) then (some (rd l1 bt101.1, bt101.2.1, bt101.2.2)) else (none)) else (none))
theorem spec_l1Cur_among.calls (g : Nat) (s0_0 : List Int) (s0_1 : Int) (s0_2 : Int) (A1 : Option Addr) (c1 : Nat) (l1 : List Int) (r1 : Int) (r2 : Int) (r3 : Int) (w0 w : World) (hI : IsS89 w0 w g s0_0 s0_1 s0_2) (hB : Below w0.heap.size w0 w) (hr1 : Kd.C (Kd.int .i64) w A1 l1.length l1) (hc1 : l1.length ≤ c1) (hf1 : ∀ ad, A1 = some ad → 0 < l1.length → ad.block ≠ g) (h : spec_l1Cur_among.f s0_0 s0_1 s0_2 l1 = some (r1, r2, r3)) :
  Calls Try.prog 59 #[.pointer (some ⟨g, 0, none⟩), .slice A1 l1.length c1] w fun e w' => e = .returned (.int .i64 r1) ∧ IsS89 w0 w' g s0_0 r2 r3 ∧ Below w0.heap.size w0 w' ∧ KeepBut w w' g none := by
 have HR1 := am hr1
 have HC1 := am hc1
 clear hr1 hc1
 have HI0 := am hI
 have HK := am (KeepBut.refl w g none)
 have HL := am hB.size
 clear hI
 have HW0 := am hB.size
 have HB := am hB
 clear hB
 have H : ((spec_l1Cur_pick.f s0_0 s0_1 s0_2 (l1.length : Int)).bind fun bt101 => (if 0 ≤ bt101.1 then (if bt101.1 < (l1.length : Int) then (some (rd l1 bt101.1, bt101.2.1, bt101.2.2)) else (none)) else (none))) = some (r1, r2, r3) := h
 clear h
 replace H := bH H
 obtain ⟨⟨t101, t102, t103⟩, A30, H⟩ := H
 replace H : (if 0 ≤ t101 then (if t101 < (l1.length : Int) then (some (rd l1 t101, t102, t103)) else (none)) else (none)) = some (r1, r2, r3) := H
 have A3 := am A30
 clear A30
 by_cases c4 : 0 ≤ t101
 ·rw [if_pos c4] at H
  have c4b0 : decide (0 ≤ t101) = true := decide_eq_true c4
  clear c4
  by_cases c5 : t101 < (l1.length : Int)
  ·rw [if_pos c5] at H
   have c5b0 : decide (t101 < (l1.length : Int)) = true := decide_eq_true c5
   clear c5
   simp only [Option.some.injEq, Prod.mk.injEq] at H
   obtain ⟨rfl, rfl, rfl⟩ := H
   go_enter Try.func59, Try.ntmps59
   go_wp2_with (first | ((with_reducible refine gate_callee (f := 61) rfl ?_); refine uGo (some 9) Try.func61 #[.pointer (some ⟨g, 0, none⟩), .int .i64 (l1.length : Int)] ?_; (with_reducible refine (spec_l1Cur_pick.calls g s0_0 s0_1 s0_2 (l1.length : Int) t101 t102 t103 w0 _ ?side1 ?side2 A3.out).mono ?_); (case side1 => exact uI); (case side2 => exact uW); rintro e w6 ⟨rfl, hi, hb, hk⟩; refine ⟨_, rfl, ?_⟩; replace HK := am (KeepBut.trans uV hk (.inl rfl)); replace HB := am (hb); replace HI0 := am (hi); (try clear hb); (try clear hb2); (try clear hk); (try clear hi); have p104 : 0 ≤ (t101 : Int) := of_decide_eq_true (by first | (with_reducible assumption) | assumption); have q104 : t101 < (l1.length : Int) := of_decide_eq_true (by first | (with_reducible assumption) | assumption); obtain ⟨ad104, e104, hx104_0⟩ := Kd.at_int HR1.out t101 p104 q104; cases e104; replace hx104_0 := keep_cell HK.out hx104_0 (by first | (rw [add_block]; exact hf1 _ rfl (by omega)) | exact hf1 _ rfl (by omega) | exact hf1 ad104 rfl (by omega)); replace p104 := eq_true p104; replace q104 := eq_true q104))
   go_ret
   exact ⟨uA, by exact uI, by exact uW, by exact uV⟩
  ·rw [if_neg c5] at H
   exact absurd H (by simp)
 ·rw [if_neg c4] at H
  exact absurd H (by simp)
def spec_l1Cur_sureStreet.f (s0_0 : List Int) (s0_1 : Int) (s0_2 : Int) : Option (Int × Int × Int × Int) := (spec_l1Cur_pick.f s0_0 s0_1 s0_2 3).bind fun bt102 => ((spec_l1Cur_pick.f s0_0 bt102.2.1 bt102.2.2 12).bind fun bt105 => (some (bt102.1, wrap64 (1 + bt105.1), bt105.2.1, bt105.2.2)))
theorem spec_l1Cur_sureStreet.calls (g : Nat) (s0_0 : List Int) (s0_1 : Int) (s0_2 : Int) (r1 : Int) (r2 : Int) (r3 : Int) (r4 : Int) (w0 w : World) (hI : IsS89 w0 w g s0_0 s0_1 s0_2) (hB : Below w0.heap.size w0 w) (h : spec_l1Cur_sureStreet.f s0_0 s0_1 s0_2 = some (r1, r2, r3, r4)) :
  Calls Try.prog 82 #[.pointer (some ⟨g, 0, none⟩)] w fun e w' => e = .returned (.agg #[.int .i64 r1, .int .i64 r2]) ∧ IsS89 w0 w' g s0_0 r3 r4 ∧ Below w0.heap.size w0 w' ∧ KeepBut w w' g none := by
 have hu30 := Try.underlying30
 have HI0 := am hI
 have HK := am (KeepBut.refl w g none)
 have HL := am hB.size
 clear hI
 have HW0 := am hB.size
 have HB := am hB
 clear hB
 have H : ((spec_l1Cur_pick.f s0_0 s0_1 s0_2 3).bind fun bt102 => ((spec_l1Cur_pick.f s0_0 bt102.2.1 bt102.2.2 12).bind fun bt105 => (some (bt102.1, wrap64 (1 + bt105.1), bt105.2.1, bt105.2.2)))) = some (r1, r2, r3, r4) := h
 clear h
 replace H := bH H
 obtain ⟨⟨t102, t103, t104⟩, A20, H⟩ := H
 replace H : ((spec_l1Cur_pick.f s0_0 t103 t104 12).bind fun bt105 => (some (t102, wrap64 (1 + bt105.1), bt105.2.1, bt105.2.2))) = some (r1, r2, r3, r4) := H
 have A2 := am A20
 clear A20
 replace H := bH H
 obtain ⟨⟨t105, t106, t107⟩, A30, H⟩ := H
 replace H : (some (t102, wrap64 (1 + t105), t106, t107)) = some (r1, r2, r3, r4) := H
 have A3 := am A30
 clear A30
 simp only [Option.some.injEq, Prod.mk.injEq] at H
 obtain ⟨rfl, rfl, rfl, rfl⟩ := H
 go_enter Try.func82, Try.ntmps82
 go_wp2_with (first | ((with_reducible refine gate_dst (N := 2) rfl ?_); refine uX (N := 2) (cs := #[.int .i64 0, .int .i64 0]) (t := 30) ?_; intro gb101 hg w4 hbox hb; have BK101 := am (hbox); have GW101 := am ((by rw [hg]; exact (keep_size (w := w) (g := g) (row := none) uV) : w.heap.size ≤ gb101)); have GE101 := am ((Nat.le_trans HW0.out (by rw [hg]; exact (keep_size (w := w) (g := g) (row := none) uV) : w.heap.size ≤ gb101) : w0.heap.size ≤ gb101)); have NB0_101 := am ((by rw [hg]; exact Nat.ne_of_lt (IsS89.lt (show IsS89 w0 _ g s0_0 s0_1 s0_2 from by exact uI)) : g ≠ gb101)); have NB101_0 := am ((by rw [hg]; exact Nat.ne_of_gt (IsS89.lt (show IsS89 w0 _ g s0_0 s0_1 s0_2 from by exact uI)) : gb101 ≠ g)); replace HI0 := am (IsS89.below uI hb); replace HK := am (KeepBut.trans uV (KeepBut.of_below hb g none) (.inl rfl)); replace HB := uS hb; clear hb hbox hg) | ((with_reducible refine gate_callee (f := 61) rfl ?_); refine uGo (some 4) Try.func61 #[.pointer (some ⟨g, 0, none⟩), .int .i64 3] ?_; (with_reducible refine (spec_l1Cur_pick.calls g s0_0 s0_1 s0_2 3 t102 t103 t104 w0 _ ?side1 ?side2 A2.out).mono ?_); (case side1 => exact uI); (case side2 => exact uW); rintro e w5 ⟨rfl, hi, hb, hk⟩; refine ⟨_, rfl, ?_⟩; replace BK101 := am (KeepBut.blk hk (uP BK101) NB101_0.out (by simp)); replace HK := am (KeepBut.trans uV hk (.inl rfl)); replace HB := am (hb); replace HI0 := am (hi); (try clear hb); (try clear hb2); (try clear hk); (try clear hi)) | ((with_reducible refine gate_callee (f := 61) rfl ?_); refine uGo (some 6) Try.func61 #[.pointer (some ⟨g, 0, none⟩), .int .i64 12] ?_; (with_reducible refine (spec_l1Cur_pick.calls g s0_0 t103 t104 12 t105 t106 t107 w0 _ ?side1 ?side2 A3.out).mono ?_); (case side1 => exact uI); (case side2 => exact uW); rintro e w6 ⟨rfl, hi, hb, hk⟩; refine ⟨_, rfl, ?_⟩; replace BK101 := am (KeepBut.blk hk (uP BK101) NB101_0.out (by simp)); replace HK := am (KeepBut.trans uV hk (.inl rfl)); replace HB := am (hb); replace HI0 := am (hi); (try clear hb); (try clear hb2); (try clear hk); (try clear hi); have hnb7 := NB101_0.out; have hnc7 := NB0_101.out; obtain ⟨hcz8_0, hcz8_1, hfz8_0, hfz8_1⟩ := uZ2 BK101))
 refine bodyPost_ret (results_cell_row rfl _ _ gb101 30 #[.int .i64 t102, .int .i64 (wrap64 (1 + t105))] (0, 0) _ rfl (by refine blk_put (cs := #[.int .i64 t102, .int .i64 0]) ?_ 1 _ rfl; refine blk_put (cs := #[.int .i64 0, .int .i64 0]) ?_ 0 _ rfl; exact (uP BK101)) Try.underlying30 rfl (by kernel_rfl)) rfl ?_
 exact ⟨uA, by exact uI, by exact uW, by exact uV⟩
def spec_l1Cur_street.f (s0_0 : List Int) (s0_1 : Int) (s0_2 : Int) : Option (Int × Int × Int × Int) := (spec_l1Cur_sureStreet.f s0_0 s0_1 s0_2).bind fun bt102 => ((spec_l1Cur_pick.f s0_0 bt102.2.2.1 bt102.2.2.2 14).bind fun bt107 => (if bt107.1 = 0 then ((spec_l1Cur_among.f s0_0 bt107.2.1 bt107.2.2 (([(-1), 3, 4611686018427387904] : List Int))).bind fun bt113 => (some (bt113.1, bt102.2.1, bt113.2.1, bt113.2.2))) else (if bt107.1 = 1 then ((spec_l1Cur_among.f s0_0 bt107.2.1 bt107.2.2 (([0, (-1), 1000, 1001, 4611686018427387904] : List Int))).bind fun bt119 => (some (bt102.1, bt119.1, bt119.2.1, bt119.2.2))) else (some (bt102.1, bt102.2.1, bt107.2.1, bt107.2.2)))))
theorem spec_l1Cur_street.calls (g : Nat) (s0_0 : List Int) (s0_1 : Int) (s0_2 : Int) (r1 : Int) (r2 : Int) (r3 : Int) (r4 : Int) (w0 w : World) (hI : IsS89 w0 w g s0_0 s0_1 s0_2) (hB : Below w0.heap.size w0 w) (h : spec_l1Cur_street.f s0_0 s0_1 s0_2 = some (r1, r2, r3, r4)) :
  Calls Try.prog 58 #[.pointer (some ⟨g, 0, none⟩)] w fun e w' => e = .returned (.agg #[.int .i64 r1, .int .i64 r2]) ∧ IsS89 w0 w' g s0_0 r3 r4 ∧ Below w0.heap.size w0 w' ∧ KeepBut w w' g none := by
 have hu30 := Try.underlying30
 have HI0 := am hI
 have HK := am (KeepBut.refl w g none)
 have HL := am hB.size
 clear hI
 have HW0 := am hB.size
 have HB := am hB
 clear hB
 have H : ((spec_l1Cur_sureStreet.f s0_0 s0_1 s0_2).bind fun bt102 => ((spec_l1Cur_pick.f s0_0 bt102.2.2.1 bt102.2.2.2 14).bind fun bt107 => (if bt107.1 = 0 then ((spec_l1Cur_among.f s0_0 bt107.2.1 bt107.2.2 (([(-1), 3, 4611686018427387904] : List Int))).bind fun bt113 => (some (bt113.1, bt102.2.1, bt113.2.1, bt113.2.2))) else (if bt107.1 = 1 then ((spec_l1Cur_among.f s0_0 bt107.2.1 bt107.2.2 (([0, (-1), 1000, 1001, 4611686018427387904] : List Int))).bind fun bt119 => (some (bt102.1, bt119.1, bt119.2.1, bt119.2.2))) else (some (bt102.1, bt102.2.1, bt107.2.1, bt107.2.2)))))) = some (r1, r2, r3, r4) := h
 clear h
 replace H := bH H
 obtain ⟨⟨t102, t103, t104, t105⟩, A20, H⟩ := H
 replace H : ((spec_l1Cur_pick.f s0_0 t104 t105 14).bind fun bt107 => (if bt107.1 = 0 then ((spec_l1Cur_among.f s0_0 bt107.2.1 bt107.2.2 (([(-1), 3, 4611686018427387904] : List Int))).bind fun bt113 => (some (bt113.1, t103, bt113.2.1, bt113.2.2))) else (if bt107.1 = 1 then ((spec_l1Cur_among.f s0_0 bt107.2.1 bt107.2.2 (([0, (-1), 1000, 1001, 4611686018427387904] : List Int))).bind fun bt119 => (some (t102, bt119.1, bt119.2.1, bt119.2.2))) else (some (t102, t103, bt107.2.1, bt107.2.2))))) = some (r1, r2, r3, r4) := H
 have A2 := am A20
 clear A20
 replace H := bH H
 obtain ⟨⟨t107, t108, t109⟩, A30, H⟩ := H
 replace H : (if t107 = 0 then ((spec_l1Cur_among.f s0_0 t108 t109 (([(-1), 3, 4611686018427387904] : List Int))).bind fun bt113 => (some (bt113.1, t103, bt113.2.1, bt113.2.2))) else (if t107 = 1 then ((spec_l1Cur_among.f s0_0 t108 t109 (([0, (-1), 1000, 1001, 4611686018427387904] : List Int))).bind fun bt119 => (some (t102, bt119.1, bt119.2.1, bt119.2.2))) else (some (t102, t103, t108, t109)))) = some (r1, r2, r3, r4) := H
 have A3 := am A30
 clear A30
 by_cases c4 : t107 = 0
 ·rw [if_pos c4] at H
  have c4b0 : (t107 == 0) = true := beq_iff_eq.mpr c4
  have c4b1 : (t107 != 0) = false := bne_eq_false_iff_eq.mpr c4
  clear c4
  obtain ⟨y110, hy110⟩ : ∃ y_ : List Int, y_ = (([(-1), 3, 4611686018427387904] : List Int)) := ⟨_, rfl⟩
  replace H : ((spec_l1Cur_among.f s0_0 t108 t109 y110).bind fun bt113 => (some (bt113.1, t103, bt113.2.1, bt113.2.2))) = some (r1, r2, r3, r4) := by first | (rw [hy110]; with_reducible exact H) | (have H2_ := (Option.bind_some _ _).symm.trans H; rw [hy110]; with_reducible exact H2_) | (have H2_ := (Option.bind_some _ _).symm.trans H; with_reducible exact H2_) | with_reducible exact H | (rw [hy110]; exact H) | exact H
  have Ny110 := am hy110
  clear hy110
  replace H := bH H
  obtain ⟨⟨t113, t114, t115⟩, A50, H⟩ := H
  replace H : (some (t113, t103, t114, t115)) = some (r1, r2, r3, r4) := H
  have A5 := am A50
  clear A50
  simp only [Option.some.injEq, Prod.mk.injEq] at H
  obtain ⟨rfl, rfl, rfl, rfl⟩ := H
  go_enter Try.func58, Try.ntmps58
  go_wp2_with (first | ((with_reducible refine gate_dst (N := 2) rfl ?_); refine uX (N := 2) (cs := #[.int .i64 0, .int .i64 0]) (t := 30) ?_; intro gb101 hg w6 hbox hb; have BK101 := am (hbox); have GW101 := am ((by rw [hg]; exact (keep_size (w := w) (g := g) (row := none) uV) : w.heap.size ≤ gb101)); have GE101 := am ((Nat.le_trans HW0.out (by rw [hg]; exact (keep_size (w := w) (g := g) (row := none) uV) : w.heap.size ≤ gb101) : w0.heap.size ≤ gb101)); have NB0_101 := am ((by rw [hg]; exact Nat.ne_of_lt (IsS89.lt (show IsS89 w0 _ g s0_0 s0_1 s0_2 from by exact uI)) : g ≠ gb101)); have NB101_0 := am ((by rw [hg]; exact Nat.ne_of_gt (IsS89.lt (show IsS89 w0 _ g s0_0 s0_1 s0_2 from by exact uI)) : gb101 ≠ g)); replace HI0 := am (IsS89.below uI hb); replace HK := am (KeepBut.trans uV (KeepBut.of_below hb g none) (.inl rfl)); replace HB := uS hb; clear hb hbox hg) | ((with_reducible refine gate_callee (f := 82) rfl ?_); refine uGo (some 5) Try.func82 #[.pointer (some ⟨g, 0, none⟩)] ?_; (with_reducible refine (spec_l1Cur_sureStreet.calls g s0_0 s0_1 s0_2 t102 t103 t104 t105 w0 _ ?side1 ?side2 A2.out).mono ?_); (case side1 => exact uI); (case side2 => exact uW); rintro e w7 ⟨rfl, hi, hb, hk⟩; refine ⟨_, rfl, ?_⟩; replace BK101 := am (KeepBut.blk hk (uP BK101) NB101_0.out (by simp)); replace HK := am (KeepBut.trans uV hk (.inl rfl)); replace HB := am (hb); replace HI0 := am (hi); (try clear hb); (try clear hb2); (try clear hk); (try clear hi)) | ((with_reducible refine gate_dst (N := 3) rfl ?_); refine uX (N := 3) (cs := #[.int .i64 0, .int .i64 0]) (t := 30) ?_; intro gb106 hg w8 hbox hb; have BK106 := am (hbox); have GW106 := am ((by rw [hg]; exact (keep_size (w := w) (g := g) (row := none) uV) : w.heap.size ≤ gb106)); have GE106 := am ((Nat.le_trans HW0.out (by rw [hg]; exact (keep_size (w := w) (g := g) (row := none) uV) : w.heap.size ≤ gb106) : w0.heap.size ≤ gb106)); have NB101_106 := uL BK101 hg; have NB106_101 := uY NB101_106; have NB0_106 := am ((by rw [hg]; exact Nat.ne_of_lt (IsS89.lt (show IsS89 w0 _ g s0_0 t104 t105 from by exact uI)) : g ≠ gb106)); have NB106_0 := am ((by rw [hg]; exact Nat.ne_of_gt (IsS89.lt (show IsS89 w0 _ g s0_0 t104 t105 from by exact uI)) : gb106 ≠ g)); replace HI0 := am (IsS89.below uI hb); replace BK101 := uB BK101 hb; replace HK := am (KeepBut.trans uV (KeepBut.of_below hb g none) (.inl rfl)); replace HB := uS hb; clear hb hbox hg; have hnb9 := NB106_101.out; have hnc9 := NB101_106.out; have hnb10 := NB106_0.out; have hnc10 := NB0_106.out; obtain ⟨hcz11_0, hcz11_1, hfz11_0, hfz11_1⟩ := uZ2 BK106) | ((with_reducible refine gate_callee (f := 61) rfl ?_); refine uGo (some 7) Try.func61 #[.pointer (some ⟨g, 0, none⟩), .int .i64 14] ?_; (with_reducible refine (spec_l1Cur_pick.calls g s0_0 t104 t105 14 t107 t108 t109 w0 _ ?side1 ?side2 A3.out).mono ?_); (case side1 => exact uI); (case side2 => exact uW); rintro e w12 ⟨rfl, hi, hb, hk⟩; refine ⟨_, rfl, ?_⟩; replace BK101 := am (KeepBut.blk hk (g' := gb101) (o := .cells #[.int .i64 0, .int .i64 0] 30 (0, 0)) (by refine blk_far ?_ NB101_106.out _; refine blk_far ?_ NB101_106.out _; exact (uP BK101)) NB101_0.out (by simp)); replace BK106 := am (KeepBut.blk hk (g' := gb106) (o := .cells #[.int .i64 t102, .int .i64 t103] 30 (0, 0)) (by refine blk_put (cs := #[.int .i64 t102, .int .i64 0]) ?_ 1 _ rfl; refine blk_put (cs := #[.int .i64 0, .int .i64 0]) ?_ 0 _ rfl; exact (uP BK106)) NB106_0.out (by simp)); replace HK := am (KeepBut.trans uV hk (.inl rfl)); replace HB := am (hb); replace HI0 := am (hi); (try clear hb); (try clear hb2); (try clear hk); (try clear hi)) | ((with_reducible refine gate_dst (N := 11) rfl ?_); refine Kd.R_lit (Kd.int .i64) _ 3 ?hg (N := 11) ?hd (xs := ([(-1), 3, 4611686018427387904] : List Int)) (inner := [.int .i64 (-1), .int .i64 3, .int .i64 4611686018427387904]) (ok := fun _ => True) (okp := fun _ => True) ?hr ?hp (fun _ hk => hk) trivial (Below.refl _ _) (Nat.le_refl _) (by simp) ?_; (case hd => rfl); (case hg => rfl); (case hr => first | (go_simp; done) | (go_simp; rfl)); (case hp => exact (Reps.one (show Kd.M (Kd.int .i64) _ _ _ (-1) [.int .i64 (-1)] from rfl) (Reps.one (show Kd.M (Kd.int .i64) _ _ _ 3 [.int .i64 3] from rfl) (Reps.one (show Kd.M (Kd.int .i64) _ _ _ 4611686018427387904 [.int .i64 4611686018427387904] from rfl) (Reps.none _ _))))); intro v111 w13 ho14 hb hg_ hnew_; clear hg_ hnew_; (first | rw [← Ny110.out] at ho14 | (simp only [Int.reduceToNat] at ho14; rw [← Ny110.out] at ho14)); have HO112 := am (Kd.R_lower ho14 (keep_size (w := w) (g := g) (row := none) uV)); replace HI0 := am (IsS89.below uI hb); replace BK101 := uB BK101 hb; replace BK106 := uB BK106 hb; replace HK := am (KeepBut.trans uV (KeepBut.of_below hb g none) (.inl rfl)); replace HB := uS hb; clear hb ho14; obtain ⟨Ao15, co15, eo15⟩ := Kd.R_slice HO112.out; subst eo15) | ((with_reducible refine gate_callee (f := 59) rfl ?_); refine uGo (some 12) Try.func59 #[.pointer (some ⟨g, 0, none⟩), .slice Ao15 y110.length co15] ?_; (with_reducible refine (spec_l1Cur_among.calls g s0_0 t108 t109 _ _ y110 t113 t114 t115 w0 _ ?side1 ?side2 ?side3 ?side4 ?side5 A5.out).mono ?_); (case side1 => exact uI); (case side2 => exact uW); (case side3 => repeat (first | exact (Kd.R_reads' HO112.out).2.2 | (with_reducible refine cA ?_ _) | (with_reducible refine cN ?_ _) | (with_reducible refine cD ?_))); (case side4 => exact (Kd.R_reads' HO112.out).2.1); (case side5 => exact far_slice (IsS89.own_ne HI0.out HO112.out (by decide))); rintro e w16 ⟨rfl, hi, hb, hk⟩; refine ⟨_, rfl, ?_⟩; replace BK101 := am (KeepBut.blk hk (uP BK101) NB101_0.out (by simp)); replace BK106 := am (KeepBut.blk hk (uP BK106) NB106_0.out (by simp)); replace HO112 := am (Kd.R_mono (Kd.R_keep (IsS89.apart (show IsS89 w0 _ g s0_0 t108 t109 from by exact uI) (uR HO112) (by decide)) hk (fun _ h => h.2)) (fun _ h => h.1)); replace HK := am (KeepBut.trans uV hk (.inl rfl)); replace HB := am (hb); replace HI0 := am (hi); (try clear hb); (try clear hb2); (try clear hk); (try clear hi); obtain ⟨hcz17_0, hcz17_1, hfz17_0, hfz17_1⟩ := uZ2 BK106; have hnb18 := NB101_0.out; have hnc18 := NB0_101.out; obtain ⟨hcz19_0, hcz19_1, hfz19_0, hfz19_1⟩ := uZ2 BK101))
  refine bodyPost_ret (results_cell_row rfl _ _ gb101 30 #[.int .i64 t113, .int .i64 t103] (0, 0) _ rfl (by refine blk_put (cs := #[.int .i64 t113, .int .i64 0]) ?_ 1 _ rfl; refine blk_put (cs := #[.int .i64 0, .int .i64 0]) ?_ 0 _ rfl; refine blk_far ?_ NB101_106.out _; exact (uP BK101)) Try.underlying30 rfl (by kernel_rfl)) rfl ?_
  exact ⟨uA, by exact uI, by exact uW, by exact uV⟩
 ·rw [if_neg c4] at H
  have c4b0 : (t107 == 0) = false := beq_eq_false_iff_ne.mpr c4
  have c4b1 : (t107 != 0) = true := bne_iff_ne.mpr c4
  by_cases c20 : t107 = 1
  ·rw [if_pos c20] at H
   have c20b0 : (t107 == 1) = true := beq_iff_eq.mpr c20
   have c20b1 : (t107 != 1) = false := bne_eq_false_iff_eq.mpr c20
   clear c20
   obtain ⟨y116, hy116⟩ : ∃ y_ : List Int, y_ = (([0, (-1), 1000, 1001, 4611686018427387904] : List Int)) := ⟨_, rfl⟩
   replace H : ((spec_l1Cur_among.f s0_0 t108 t109 y116).bind fun bt119 => (some (t102, bt119.1, bt119.2.1, bt119.2.2))) = some (r1, r2, r3, r4) := by first | (rw [hy116]; with_reducible exact H) | (have H2_ := (Option.bind_some _ _).symm.trans H; rw [hy116]; with_reducible exact H2_) | (have H2_ := (Option.bind_some _ _).symm.trans H; with_reducible exact H2_) | with_reducible exact H | (rw [hy116]; exact H) | exact H
   have Ny116 := am hy116
   clear hy116
   replace H := bH H
   obtain ⟨⟨t119, t120, t121⟩, A210, H⟩ := H
   replace H : (some (t102, t119, t120, t121)) = some (r1, r2, r3, r4) := H
   have A21 := am A210
   clear A210
   simp only [Option.some.injEq, Prod.mk.injEq] at H
   obtain ⟨rfl, rfl, rfl, rfl⟩ := H
   go_enter Try.func58, Try.ntmps58
   go_wp2_with (first | ((with_reducible refine gate_dst (N := 2) rfl ?_); refine uX (N := 2) (cs := #[.int .i64 0, .int .i64 0]) (t := 30) ?_; intro gb101 hg w22 hbox hb; have BK101 := am (hbox); have GW101 := am ((by rw [hg]; exact (keep_size (w := w) (g := g) (row := none) uV) : w.heap.size ≤ gb101)); have GE101 := am ((Nat.le_trans HW0.out (by rw [hg]; exact (keep_size (w := w) (g := g) (row := none) uV) : w.heap.size ≤ gb101) : w0.heap.size ≤ gb101)); have NB0_101 := am ((by rw [hg]; exact Nat.ne_of_lt (IsS89.lt (show IsS89 w0 _ g s0_0 s0_1 s0_2 from by exact uI)) : g ≠ gb101)); have NB101_0 := am ((by rw [hg]; exact Nat.ne_of_gt (IsS89.lt (show IsS89 w0 _ g s0_0 s0_1 s0_2 from by exact uI)) : gb101 ≠ g)); replace HI0 := am (IsS89.below uI hb); replace HK := am (KeepBut.trans uV (KeepBut.of_below hb g none) (.inl rfl)); replace HB := uS hb; clear hb hbox hg) | ((with_reducible refine gate_callee (f := 82) rfl ?_); refine uGo (some 5) Try.func82 #[.pointer (some ⟨g, 0, none⟩)] ?_; (with_reducible refine (spec_l1Cur_sureStreet.calls g s0_0 s0_1 s0_2 t102 t103 t104 t105 w0 _ ?side1 ?side2 A2.out).mono ?_); (case side1 => exact uI); (case side2 => exact uW); rintro e w23 ⟨rfl, hi, hb, hk⟩; refine ⟨_, rfl, ?_⟩; replace BK101 := am (KeepBut.blk hk (uP BK101) NB101_0.out (by simp)); replace HK := am (KeepBut.trans uV hk (.inl rfl)); replace HB := am (hb); replace HI0 := am (hi); (try clear hb); (try clear hb2); (try clear hk); (try clear hi)) | ((with_reducible refine gate_dst (N := 3) rfl ?_); refine uX (N := 3) (cs := #[.int .i64 0, .int .i64 0]) (t := 30) ?_; intro gb106 hg w24 hbox hb; have BK106 := am (hbox); have GW106 := am ((by rw [hg]; exact (keep_size (w := w) (g := g) (row := none) uV) : w.heap.size ≤ gb106)); have GE106 := am ((Nat.le_trans HW0.out (by rw [hg]; exact (keep_size (w := w) (g := g) (row := none) uV) : w.heap.size ≤ gb106) : w0.heap.size ≤ gb106)); have NB101_106 := uL BK101 hg; have NB106_101 := uY NB101_106; have NB0_106 := am ((by rw [hg]; exact Nat.ne_of_lt (IsS89.lt (show IsS89 w0 _ g s0_0 t104 t105 from by exact uI)) : g ≠ gb106)); have NB106_0 := am ((by rw [hg]; exact Nat.ne_of_gt (IsS89.lt (show IsS89 w0 _ g s0_0 t104 t105 from by exact uI)) : gb106 ≠ g)); replace HI0 := am (IsS89.below uI hb); replace BK101 := uB BK101 hb; replace HK := am (KeepBut.trans uV (KeepBut.of_below hb g none) (.inl rfl)); replace HB := uS hb; clear hb hbox hg; have hnb25 := NB106_101.out; have hnc25 := NB101_106.out; have hnb26 := NB106_0.out; have hnc26 := NB0_106.out; obtain ⟨hcz27_0, hcz27_1, hfz27_0, hfz27_1⟩ := uZ2 BK106) | ((with_reducible refine gate_callee (f := 61) rfl ?_); refine uGo (some 7) Try.func61 #[.pointer (some ⟨g, 0, none⟩), .int .i64 14] ?_; (with_reducible refine (spec_l1Cur_pick.calls g s0_0 t104 t105 14 t107 t108 t109 w0 _ ?side1 ?side2 A3.out).mono ?_); (case side1 => exact uI); (case side2 => exact uW); rintro e w28 ⟨rfl, hi, hb, hk⟩; refine ⟨_, rfl, ?_⟩; replace BK101 := am (KeepBut.blk hk (g' := gb101) (o := .cells #[.int .i64 0, .int .i64 0] 30 (0, 0)) (by refine blk_far ?_ NB101_106.out _; refine blk_far ?_ NB101_106.out _; exact (uP BK101)) NB101_0.out (by simp)); replace BK106 := am (KeepBut.blk hk (g' := gb106) (o := .cells #[.int .i64 t102, .int .i64 t103] 30 (0, 0)) (by refine blk_put (cs := #[.int .i64 t102, .int .i64 0]) ?_ 1 _ rfl; refine blk_put (cs := #[.int .i64 0, .int .i64 0]) ?_ 0 _ rfl; exact (uP BK106)) NB106_0.out (by simp)); replace HK := am (KeepBut.trans uV hk (.inl rfl)); replace HB := am (hb); replace HI0 := am (hi); (try clear hb); (try clear hb2); (try clear hk); (try clear hi)) | ((with_reducible refine gate_dst (N := 17) rfl ?_); refine Kd.R_lit (Kd.int .i64) _ 3 ?hg (N := 17) ?hd (xs := ([0, (-1), 1000, 1001, 4611686018427387904] : List Int)) (inner := [.int .i64 0, .int .i64 (-1), .int .i64 1000, .int .i64 1001, .int .i64 4611686018427387904]) (ok := fun _ => True) (okp := fun _ => True) ?hr ?hp (fun _ hk => hk) trivial (Below.refl _ _) (Nat.le_refl _) (by simp) ?_; (case hd => rfl); (case hg => rfl); (case hr => first | (go_simp; done) | (go_simp; rfl)); (case hp => exact (Reps.one (show Kd.M (Kd.int .i64) _ _ _ 0 [.int .i64 0] from rfl) (Reps.one (show Kd.M (Kd.int .i64) _ _ _ (-1) [.int .i64 (-1)] from rfl) (Reps.one (show Kd.M (Kd.int .i64) _ _ _ 1000 [.int .i64 1000] from rfl) (Reps.one (show Kd.M (Kd.int .i64) _ _ _ 1001 [.int .i64 1001] from rfl) (Reps.one (show Kd.M (Kd.int .i64) _ _ _ 4611686018427387904 [.int .i64 4611686018427387904] from rfl) (Reps.none _ _))))))); intro v117 w29 ho30 hb hg_ hnew_; clear hg_ hnew_; (first | rw [← Ny116.out] at ho30 | (simp only [Int.reduceToNat] at ho30; rw [← Ny116.out] at ho30)); have HO118 := am (Kd.R_lower ho30 (keep_size (w := w) (g := g) (row := none) uV)); replace HI0 := am (IsS89.below uI hb); replace BK101 := uB BK101 hb; replace BK106 := uB BK106 hb; replace HK := am (KeepBut.trans uV (KeepBut.of_below hb g none) (.inl rfl)); replace HB := uS hb; clear hb ho30; obtain ⟨Ao31, co31, eo31⟩ := Kd.R_slice HO118.out; subst eo31) | ((with_reducible refine gate_callee (f := 59) rfl ?_); refine uGo (some 18) Try.func59 #[.pointer (some ⟨g, 0, none⟩), .slice Ao31 y116.length co31] ?_; (with_reducible refine (spec_l1Cur_among.calls g s0_0 t108 t109 _ _ y116 t119 t120 t121 w0 _ ?side1 ?side2 ?side3 ?side4 ?side5 A21.out).mono ?_); (case side1 => exact uI); (case side2 => exact uW); (case side3 => repeat (first | exact (Kd.R_reads' HO118.out).2.2 | (with_reducible refine cA ?_ _) | (with_reducible refine cN ?_ _) | (with_reducible refine cD ?_))); (case side4 => exact (Kd.R_reads' HO118.out).2.1); (case side5 => exact far_slice (IsS89.own_ne HI0.out HO118.out (by decide))); rintro e w32 ⟨rfl, hi, hb, hk⟩; refine ⟨_, rfl, ?_⟩; replace BK101 := am (KeepBut.blk hk (uP BK101) NB101_0.out (by simp)); replace BK106 := am (KeepBut.blk hk (uP BK106) NB106_0.out (by simp)); replace HO118 := am (Kd.R_mono (Kd.R_keep (IsS89.apart (show IsS89 w0 _ g s0_0 t108 t109 from by exact uI) (uR HO118) (by decide)) hk (fun _ h => h.2)) (fun _ h => h.1)); replace HK := am (KeepBut.trans uV hk (.inl rfl)); replace HB := am (hb); replace HI0 := am (hi); (try clear hb); (try clear hb2); (try clear hk); (try clear hi); obtain ⟨hcz33_0, hcz33_1, hfz33_0, hfz33_1⟩ := uZ2 BK106; have hnb34 := NB101_0.out; have hnc34 := NB0_101.out; obtain ⟨hcz35_0, hcz35_1, hfz35_0, hfz35_1⟩ := uZ2 BK101))
   refine bodyPost_ret (results_cell_row rfl _ _ gb101 30 #[.int .i64 t102, .int .i64 t119] (0, 0) _ rfl (by refine blk_put (cs := #[.int .i64 t102, .int .i64 0]) ?_ 1 _ rfl; refine blk_put (cs := #[.int .i64 0, .int .i64 0]) ?_ 0 _ rfl; refine blk_far ?_ NB101_106.out _; exact (uP BK101)) Try.underlying30 rfl (by kernel_rfl)) rfl ?_
   exact ⟨uA, by exact uI, by exact uW, by exact uV⟩
  ·rw [if_neg c20] at H
   have c20b0 : (t107 == 1) = false := beq_eq_false_iff_ne.mpr c20
   have c20b1 : (t107 != 1) = true := bne_iff_ne.mpr c20
   simp only [Option.some.injEq, Prod.mk.injEq] at H
   obtain ⟨rfl, rfl, rfl, rfl⟩ := H
   go_enter Try.func58, Try.ntmps58
   go_wp2_with (first | ((with_reducible refine gate_dst (N := 2) rfl ?_); refine uX (N := 2) (cs := #[.int .i64 0, .int .i64 0]) (t := 30) ?_; intro gb101 hg w36 hbox hb; have BK101 := am (hbox); have GW101 := am ((by rw [hg]; exact (keep_size (w := w) (g := g) (row := none) uV) : w.heap.size ≤ gb101)); have GE101 := am ((Nat.le_trans HW0.out (by rw [hg]; exact (keep_size (w := w) (g := g) (row := none) uV) : w.heap.size ≤ gb101) : w0.heap.size ≤ gb101)); have NB0_101 := am ((by rw [hg]; exact Nat.ne_of_lt (IsS89.lt (show IsS89 w0 _ g s0_0 s0_1 s0_2 from by exact uI)) : g ≠ gb101)); have NB101_0 := am ((by rw [hg]; exact Nat.ne_of_gt (IsS89.lt (show IsS89 w0 _ g s0_0 s0_1 s0_2 from by exact uI)) : gb101 ≠ g)); replace HI0 := am (IsS89.below uI hb); replace HK := am (KeepBut.trans uV (KeepBut.of_below hb g none) (.inl rfl)); replace HB := uS hb; clear hb hbox hg) | ((with_reducible refine gate_callee (f := 82) rfl ?_); refine uGo (some 5) Try.func82 #[.pointer (some ⟨g, 0, none⟩)] ?_; (with_reducible refine (spec_l1Cur_sureStreet.calls g s0_0 s0_1 s0_2 t102 t103 t104 t105 w0 _ ?side1 ?side2 A2.out).mono ?_); (case side1 => exact uI); (case side2 => exact uW); rintro e w37 ⟨rfl, hi, hb, hk⟩; refine ⟨_, rfl, ?_⟩; replace BK101 := am (KeepBut.blk hk (uP BK101) NB101_0.out (by simp)); replace HK := am (KeepBut.trans uV hk (.inl rfl)); replace HB := am (hb); replace HI0 := am (hi); (try clear hb); (try clear hb2); (try clear hk); (try clear hi)) | ((with_reducible refine gate_dst (N := 3) rfl ?_); refine uX (N := 3) (cs := #[.int .i64 0, .int .i64 0]) (t := 30) ?_; intro gb106 hg w38 hbox hb; have BK106 := am (hbox); have GW106 := am ((by rw [hg]; exact (keep_size (w := w) (g := g) (row := none) uV) : w.heap.size ≤ gb106)); have GE106 := am ((Nat.le_trans HW0.out (by rw [hg]; exact (keep_size (w := w) (g := g) (row := none) uV) : w.heap.size ≤ gb106) : w0.heap.size ≤ gb106)); have NB101_106 := uL BK101 hg; have NB106_101 := uY NB101_106; have NB0_106 := am ((by rw [hg]; exact Nat.ne_of_lt (IsS89.lt (show IsS89 w0 _ g s0_0 t104 t105 from by exact uI)) : g ≠ gb106)); have NB106_0 := am ((by rw [hg]; exact Nat.ne_of_gt (IsS89.lt (show IsS89 w0 _ g s0_0 t104 t105 from by exact uI)) : gb106 ≠ g)); replace HI0 := am (IsS89.below uI hb); replace BK101 := uB BK101 hb; replace HK := am (KeepBut.trans uV (KeepBut.of_below hb g none) (.inl rfl)); replace HB := uS hb; clear hb hbox hg; have hnb39 := NB106_101.out; have hnc39 := NB101_106.out; have hnb40 := NB106_0.out; have hnc40 := NB0_106.out; obtain ⟨hcz41_0, hcz41_1, hfz41_0, hfz41_1⟩ := uZ2 BK106) | ((with_reducible refine gate_callee (f := 61) rfl ?_); refine uGo (some 7) Try.func61 #[.pointer (some ⟨g, 0, none⟩), .int .i64 14] ?_; (with_reducible refine (spec_l1Cur_pick.calls g s0_0 t104 t105 14 t107 t108 t109 w0 _ ?side1 ?side2 A3.out).mono ?_); (case side1 => exact uI); (case side2 => exact uW); rintro e w42 ⟨rfl, hi, hb, hk⟩; refine ⟨_, rfl, ?_⟩; replace BK101 := am (KeepBut.blk hk (g' := gb101) (o := .cells #[.int .i64 0, .int .i64 0] 30 (0, 0)) (by refine blk_far ?_ NB101_106.out _; refine blk_far ?_ NB101_106.out _; exact (uP BK101)) NB101_0.out (by simp)); replace BK106 := am (KeepBut.blk hk (g' := gb106) (o := .cells #[.int .i64 t102, .int .i64 t103] 30 (0, 0)) (by refine blk_put (cs := #[.int .i64 t102, .int .i64 0]) ?_ 1 _ rfl; refine blk_put (cs := #[.int .i64 0, .int .i64 0]) ?_ 0 _ rfl; exact (uP BK106)) NB106_0.out (by simp)); replace HK := am (KeepBut.trans uV hk (.inl rfl)); replace HB := am (hb); replace HI0 := am (hi); (try clear hb); (try clear hb2); (try clear hk); (try clear hi); obtain ⟨hcz43_0, hcz43_1, hfz43_0, hfz43_1⟩ := uZ2 BK106; have hnb44 := NB101_0.out; have hnc44 := NB0_101.out; obtain ⟨hcz45_0, hcz45_1, hfz45_0, hfz45_1⟩ := uZ2 BK101))
   refine bodyPost_ret (results_cell_row rfl _ _ gb101 30 #[.int .i64 t102, .int .i64 t103] (0, 0) _ rfl (by refine blk_put (cs := #[.int .i64 t102, .int .i64 0]) ?_ 1 _ rfl; refine blk_put (cs := #[.int .i64 0, .int .i64 0]) ?_ 0 _ rfl; exact (uP BK101)) Try.underlying30 rfl (by kernel_rfl)) rfl ?_
   exact ⟨uA, by exact uI, by exact uW, by exact uV⟩
def spec_l1Cur_hidden.f (s0_0 : List Int) (s0_1 : Int) (s0_2 : Int) : Option (Int × Int × Int × Int × Int) := (spec_l1Cur_pick.f s0_0 s0_1 s0_2 3).bind fun bt102 => ((spec_l1Cur_pick.f s0_0 bt102.2.1 bt102.2.2 20).bind fun bt105 => ((spec_nuHouses.f bt102.1 (wrap64 (1 + bt105.1))).bind fun t109 => ((spec_l1Cur_pick.f s0_0 bt105.2.1 bt105.2.2 t109).bind fun bt110 => (some (bt102.1, wrap64 (1 + bt105.1), wrap64 (1 + bt110.1), bt110.2.1, bt110.2.2)))))
def spec_l1Cur_hidden.T2 : Bool × List (List Nat × List Nat) := (true, [([], []), ([], []), ([], []), ([2], [2]), ([1, 3, 3], [1, 3]), ([4], [4]), ([0, 4, 0], [0]), ([5, 6, 0, 1, 2, 3, 4, 5, 6], [5])])
def spec_l1Cur_hidden.B2 : List Nat := [0, 0, 0, 4, 14, 30, 31, 127]
theorem spec_l1Cur_hidden.tab2 : rtab .any (opsOf Try.f60 2) = spec_l1Cur_hidden.T2 := by kernel_rfl
theorem spec_l1Cur_hidden.bits2 : waitsOk spec_l1Cur_hidden.T2.2 spec_l1Cur_hidden.B2 = true := by kernel_rfl
theorem spec_l1Cur_hidden.calls (g : Nat) (s0_0 : List Int) (s0_1 : Int) (s0_2 : Int) (r1 : Int) (r2 : Int) (r3 : Int) (r4 : Int) (r5 : Int) (w0 w : World) (hI : IsS89 w0 w g s0_0 s0_1 s0_2) (hB : Below w0.heap.size w0 w) (h : spec_l1Cur_hidden.f s0_0 s0_1 s0_2 = some (r1, r2, r3, r4, r5)) :
  Calls Try.prog 60 #[.pointer (some ⟨g, 0, none⟩)] w fun e w' => e = .returned (.tuple #[.agg #[.int .i64 r1, .int .i64 r2], .int .i64 r3]) ∧ IsS89 w0 w' g s0_0 r4 r5 ∧ Below w0.heap.size w0 w' ∧ KeepBut w w' g none := by
 have hu30 := Try.underlying30
 have HI0 := am hI
 have HK := am (KeepBut.refl w g none)
 have HL := am hB.size
 clear hI
 have HW0 := am hB.size
 have HB := am hB
 clear hB
 have H : ((spec_l1Cur_pick.f s0_0 s0_1 s0_2 3).bind fun bt102 => ((spec_l1Cur_pick.f s0_0 bt102.2.1 bt102.2.2 20).bind fun bt105 => ((spec_nuHouses.f bt102.1 (wrap64 (1 + bt105.1))).bind fun t109 => ((spec_l1Cur_pick.f s0_0 bt105.2.1 bt105.2.2 t109).bind fun bt110 => (some (bt102.1, wrap64 (1 + bt105.1), wrap64 (1 + bt110.1), bt110.2.1, bt110.2.2)))))) = some (r1, r2, r3, r4, r5) := h
 clear h
 replace H := bH H
 obtain ⟨⟨t102, t103, t104⟩, A20, H⟩ := H
 replace H : ((spec_l1Cur_pick.f s0_0 t103 t104 20).bind fun bt105 => ((spec_nuHouses.f t102 (wrap64 (1 + bt105.1))).bind fun t109 => ((spec_l1Cur_pick.f s0_0 bt105.2.1 bt105.2.2 t109).bind fun bt110 => (some (t102, wrap64 (1 + bt105.1), wrap64 (1 + bt110.1), bt110.2.1, bt110.2.2))))) = some (r1, r2, r3, r4, r5) := H
 have A2 := am A20
 clear A20
 replace H := bH H
 obtain ⟨⟨t105, t106, t107⟩, A30, H⟩ := H
 replace H : ((spec_nuHouses.f t102 (wrap64 (1 + t105))).bind fun t109 => ((spec_l1Cur_pick.f s0_0 t106 t107 t109).bind fun bt110 => (some (t102, wrap64 (1 + t105), wrap64 (1 + bt110.1), bt110.2.1, bt110.2.2)))) = some (r1, r2, r3, r4, r5) := H
 have A3 := am A30
 clear A30
 replace H := bH H
 obtain ⟨t109, A40, H⟩ := H
 replace H : ((spec_l1Cur_pick.f s0_0 t106 t107 t109).bind fun bt110 => (some (t102, wrap64 (1 + t105), wrap64 (1 + bt110.1), bt110.2.1, bt110.2.2))) = some (r1, r2, r3, r4, r5) := H
 have A4 := am A40
 clear A40
 replace H := bH H
 obtain ⟨⟨t110, t111, t112⟩, A50, H⟩ := H
 replace H : (some (t102, wrap64 (1 + t105), wrap64 (1 + t110), t111, t112)) = some (r1, r2, r3, r4, r5) := H
 have A5 := am A50
 clear A50
 simp only [Option.some.injEq, Prod.mk.injEq] at H
 obtain ⟨rfl, rfl, rfl, rfl, rfl⟩ := H
 go_enter Try.func60, Try.ntmps60
 try go_wp2_with (first | ((with_reducible refine gate_dst (N := 2) rfl ?_); refine uX (N := 2) (cs := #[.int .i64 0, .int .i64 0]) (t := 30) ?_; intro gb101 hg w6 hbox hb; have BK101 := am (hbox); have GW101 := am ((by rw [hg]; exact (keep_size (w := w) (g := g) (row := none) uV) : w.heap.size ≤ gb101)); have GE101 := am ((Nat.le_trans HW0.out (by rw [hg]; exact (keep_size (w := w) (g := g) (row := none) uV) : w.heap.size ≤ gb101) : w0.heap.size ≤ gb101)); have NB0_101 := am ((by rw [hg]; exact Nat.ne_of_lt (IsS89.lt (show IsS89 w0 _ g s0_0 s0_1 s0_2 from by exact uI)) : g ≠ gb101)); have NB101_0 := am ((by rw [hg]; exact Nat.ne_of_gt (IsS89.lt (show IsS89 w0 _ g s0_0 s0_1 s0_2 from by exact uI)) : gb101 ≠ g)); replace HI0 := am (IsS89.below uI hb); replace HK := am (KeepBut.trans uV (KeepBut.of_below hb g none) (.inl rfl)); replace HB := uS hb; clear hb hbox hg) | ((with_reducible refine gate_callee (f := 61) rfl ?_); refine uGo (some 6) Try.func61 #[.pointer (some ⟨g, 0, none⟩), .int .i64 3] ?_; (with_reducible refine (spec_l1Cur_pick.calls g s0_0 s0_1 s0_2 3 t102 t103 t104 w0 _ ?side1 ?side2 A2.out).mono ?_); (case side1 => exact uI); (case side2 => exact uW); rintro e w7 ⟨rfl, hi, hb, hk⟩; refine ⟨_, rfl, ?_⟩; replace BK101 := am (KeepBut.blk hk (uP BK101) NB101_0.out (by simp)); replace HK := am (KeepBut.trans uV hk (.inl rfl)); replace HB := am (hb); replace HI0 := am (hi); (try clear hb); (try clear hb2); (try clear hk); (try clear hi)) | ((with_reducible refine gate_callee (f := 61) rfl ?_); refine uGo (some 8) Try.func61 #[.pointer (some ⟨g, 0, none⟩), .int .i64 20] ?_; (with_reducible refine (spec_l1Cur_pick.calls g s0_0 t103 t104 20 t105 t106 t107 w0 _ ?side1 ?side2 A3.out).mono ?_); (case side1 => exact uI); (case side2 => exact uW); rintro e w8 ⟨rfl, hi, hb, hk⟩; refine ⟨_, rfl, ?_⟩; replace BK101 := am (KeepBut.blk hk (uP BK101) NB101_0.out (by simp)); replace HK := am (KeepBut.trans uV hk (.inl rfl)); replace HB := am (hb); replace HI0 := am (hi); (try clear hb); (try clear hb2); (try clear hk); (try clear hi)) | ((with_reducible refine gate_dst (N := 4) rfl ?_); refine uX (N := 4) (cs := #[.int .i64 0, .int .i64 0]) (t := 30) ?_; intro gb108 hg w9 hbox hb; have BK108 := am (hbox); have GW108 := am ((by rw [hg]; exact (keep_size (w := w) (g := g) (row := none) uV) : w.heap.size ≤ gb108)); have GE108 := am ((Nat.le_trans HW0.out (by rw [hg]; exact (keep_size (w := w) (g := g) (row := none) uV) : w.heap.size ≤ gb108) : w0.heap.size ≤ gb108)); have NB101_108 := uL BK101 hg; have NB108_101 := uY NB101_108; have NB0_108 := am ((by rw [hg]; exact Nat.ne_of_lt (IsS89.lt (show IsS89 w0 _ g s0_0 t106 t107 from by exact uI)) : g ≠ gb108)); have NB108_0 := am ((by rw [hg]; exact Nat.ne_of_gt (IsS89.lt (show IsS89 w0 _ g s0_0 t106 t107 from by exact uI)) : gb108 ≠ g)); replace HI0 := am (IsS89.below uI hb); replace BK101 := uB BK101 hb; replace HK := am (KeepBut.trans uV (KeepBut.of_below hb g none) (.inl rfl)); replace HB := uS hb; clear hb hbox hg; have hnb10 := NB108_101.out; have hnc10 := NB101_108.out; have hnb11 := NB108_0.out; have hnc11 := NB0_108.out; obtain ⟨hcz12_0, hcz12_1, hfz12_0, hfz12_1⟩ := uZ2 BK108))
 have n0_ : Aside0 (((w9.setCell ⟨gb108, 0, none⟩ (.int .i64 t102)).setCell ⟨gb108, 1, none⟩ (.int .i64 (wrap64 (1 + t105)))).heap[gb101]? = some (.cells #[.int .i64 0, .int .i64 0] 30 (0, 0))) := ⟨by refine blk_far ?_ NB101_108.out _; refine blk_far ?_ NB101_108.out _; exact (uP BK101)⟩
 have n1_ : Aside0 (((w9.setCell ⟨gb108, 0, none⟩ (.int .i64 t102)).setCell ⟨gb108, 1, none⟩ (.int .i64 (wrap64 (1 + t105)))).heap[gb108]? = some (.cells #[.int .i64 t102, .int .i64 (wrap64 (1 + t105))] 30 (0, 0))) := ⟨by refine blk_put (cs := #[.int .i64 t102, .int .i64 0]) ?_ 1 _ rfl; refine blk_put (cs := #[.int .i64 0, .int .i64 0]) ?_ 0 _ rfl; exact (uP BK108)⟩
 have n2_ : Aside0 (IsS89 w0 ((w9.setCell ⟨gb108, 0, none⟩ (.int .i64 t102)).setCell ⟨gb108, 1, none⟩ (.int .i64 (wrap64 (1 + t105)))) g s0_0 t106 t107) := ⟨by exact uI⟩
 have n3_ : Aside0 (KeepBut w ((w9.setCell ⟨gb108, 0, none⟩ (.int .i64 t102)).setCell ⟨gb108, 1, none⟩ (.int .i64 (wrap64 (1 + t105)))) g none) := ⟨by exact uV⟩
 have n4_ : Aside0 (Below w0.heap.size w0 ((w9.setCell ⟨gb108, 0, none⟩ (.int .i64 t102)).setCell ⟨gb108, 1, none⟩ (.int .i64 (wrap64 (1 + t105))))) := ⟨by exact uW⟩
 (try clear BK101)
 (try clear BK108)
 (try clear HI0)
 (try clear HK)
 (try clear HB)
 generalize ((w9.setCell ⟨gb108, 0, none⟩ (.int .i64 t102)).setCell ⟨gb108, 1, none⟩ (.int .i64 (wrap64 (1 + t105)))) = w13 at n0_ n1_ n2_ n3_ n4_ ⊢
 have BK101 := n0_
 have BK108 := n1_
 have HI0 := n2_
 have HK := n3_
 have HB := n4_
 clear n0_ n1_ n2_ n3_ n4_
 replace BK101 := am (blk_drew BK101.out)
 replace BK108 := am (blk_drew BK108.out)
 replace HI0 := am (IsS89.drew HI0.out)
 replace HK := am (keep_drew HK.out)
 replace HB := am (below_drew1 HB.out)
 refine start_ (n := 8) (S := fun w' => w'.cell? ⟨gb108, 0, none⟩ = some (.int .i64 t102) ∧ w'.cell? ⟨gb108, 1, none⟩ = some (.int .i64 (wrap64 (1 + t105)))) (ds := []) #[false, false, false, false, false, false, false, false] (by kernel_rfl) rfl rfl ⟨uT BK108 0, uT BK108 1⟩ (fun hHeld => ?_); refine with_tabW spec_l1Cur_hidden.tab2 spec_l1Cur_hidden.bits2 (fun HT_ HW_ => ?_)
 generalize w13.drew = w14 at BK101 BK108 HI0 HK HB hHeld ⊢
 refine uPu (i := 1) (N := some 12) #[false, true, false, false, false, false, false, false] ?_
 refine uTk (i := 0) (N := some 11) #[true, true, false, false, false, false, false, false] hHeld ?_
 refine uTk (i := 2) (N := some 13) #[true, true, true, false, false, false, false, false] hHeld ?_
 refine uOn (i := 3) (N := some 14) #[true, true, true, true, false, false, false, false] (fun K hK => ?_)
 refine uGs Try.func77 #[.agg #[.int .i64 t102, .int .i64 (wrap64 (1 + t105))]] ?_
 with_reducible refine (spec_nuHouses.calls t102 (wrap64 (1 + t105)) t109 _ A4.out).mono ?_
 rintro e w15 ⟨rfl, hb⟩
 refine ⟨_, rfl, ?_⟩
 replace HI0 := am (IsS89.below uI hb)
 replace BK101 := uB BK101 hb
 replace BK108 := uB BK108 hb
 replace HK := am (KeepBut.trans uV (KeepBut.of_below hb g none) (.inl rfl))
 replace HB := uS hb
 (try clear hb)
 (try clear hb2)
 (try clear hk)
 (try clear hi)
 refine hK.out _ _ ⟨uT BK108 0, uT BK108 1⟩ (fun hHeld => ?_)
 clear hK K
 refine uNo (some 14) ?_
 refine uOn (i := 4) (N := some 15) #[true, true, true, true, true, false, false, false] (fun K hK => ?_)
 refine uGs Try.func61 #[.pointer (some ⟨g, 0, none⟩), .int .i64 t109] ?_
 with_reducible refine (spec_l1Cur_pick.calls g s0_0 t106 t107 t109 t110 t111 t112 w0 _ ?side1 ?side2 A5.out).mono ?_
 (case side1 => exact uI)
 (case side2 => exact uW)
 rintro e w16 ⟨rfl, hi, hb, hk⟩
 refine ⟨_, rfl, ?_⟩
 replace BK101 := am (KeepBut.blk hk (uP BK101) NB101_0.out (by simp))
 replace BK108 := am (KeepBut.blk hk (uP BK108) NB108_0.out (by simp))
 replace HK := am (KeepBut.trans uV hk (.inl rfl))
 replace HB := am (hb)
 replace HI0 := am (hi)
 (try clear hb)
 (try clear hb2)
 (try clear hk)
 (try clear hi)
 refine hK.out _ _ ⟨uT BK108 0, uT BK108 1⟩ (fun hHeld => ?_)
 clear hK K
 refine uNo (some 15) ?_
 refine uPu (i := 5) (N := some 16) #[true, true, true, true, true, true, false, false] ?_
 refine uOn (i := 6) (N := none) #[true, true, true, true, true, true, true, false] (fun K hK => ?_)
 have hs17 : w16.cell? ⟨gb101, 0, none⟩ = some (.int .i64 0) := uT BK101 0
 have hfs17 := blk_frozen BK101.out 0
 have hns17_1 := NB108_101.out
 have hms17_1 := NB101_108.out
 have hs18 : w16.cell? ⟨gb101, 1, none⟩ = some (.int .i64 0) := uT BK101 1
 have hfs18 := blk_frozen BK101.out 1
 have hns18_1 := NB108_101.out
 have hms18_1 := NB101_108.out
 refine skip_ (w1 := ?_) (by rfl) rfl ?_ ?_
 rotate_left
 ·go_simp
  rfl
 refine hK.out _ _ ⟨((cell_far (p := ⟨gb101, _, none⟩) NB108_101.out _).trans (((cell_far (p := ⟨gb101, _, none⟩) NB108_101.out _).trans (hHeld.1)))), ((cell_far (p := ⟨gb101, _, none⟩) NB108_101.out _).trans (((cell_far (p := ⟨gb101, _, none⟩) NB108_101.out _).trans (hHeld.2))))⟩ (fun hHeld => ?_)
 clear hK K
 refine uPu (i := 7) (N := some 3) #[true, true, true, true, true, true, true, true] ?_
 refine done_ (done_of HT_.out (by kernel_rfl)) ?_
 try go_wp2
 refine bodyPost_ret (results_ct rfl _ _ gb101 30 #[.int .i64 t102, .int .i64 (wrap64 (1 + t105))] (0, 0) _ rfl (by refine blk_put (cs := #[.int .i64 t102, .int .i64 0]) ?_ 1 _ rfl; refine blk_put (cs := #[.int .i64 0, .int .i64 0]) ?_ 0 _ rfl; exact (uP BK101)) Try.underlying30 rfl (by kernel_rfl)) rfl ?_
 exact ⟨uA, by exact uI, by exact uW, by exact uV⟩
def spec_DrawMakePuzzle.f (l0 : List Int) : Option (Int × Int × Int × Int × Int) := (spec_l1Cur_one.f l0 0 0 12).bind fun bt103 => (if bt103.1 = true then ((spec_l1Cur_street.f l0 bt103.2.1 bt103.2.2).bind fun bt106 => ((spec_l1Cur_among.f l0 bt106.2.2.1 bt106.2.2.2 (([(-1), 0, 1, 40, 41] : List Int))).bind fun bt113 => ((spec_l1Cur_among.f l0 bt113.2.1 bt113.2.2 (([(-1), 0, 6, 7] : List Int))).bind fun bt119 => ((spec_l1Cur_among.f l0 bt119.2.1 bt119.2.2 (([(-1), 9999, 10000] : List Int))).bind fun bt125 => (some (bt106.1, bt106.2.1, bt113.1, bt119.1, bt125.1)))))) else ((spec_l1Cur_hidden.f l0 bt103.2.1 bt103.2.2).bind fun bt128 => ((spec_l1Cur_pick.f l0 bt128.2.2.2.1 bt128.2.2.2.2 7).bind fun bt134 => ((spec_l1Cur_pick.f l0 bt134.2.1 bt134.2.2 10000).bind fun bt137 => (some (bt128.1, bt128.2.1, bt128.2.2.1, bt134.1, bt137.1))))))
def spec_DrawMakePuzzle.T5 : Bool × List (List Nat × List Nat) := (true, [([], []), ([], []), ([], []), ([2], [2]), ([], []), ([4, 3], [4]), ([0, 5, 0], [0]), ([1, 6, 0, 1, 6], [1]), ([3, 7, 0, 1, 2, 3, 6, 7], [3]), ([5, 8, 0, 1, 2, 3, 4, 5, 6, 7, 8], [5])])
def spec_DrawMakePuzzle.B5 : List Nat := [0, 0, 0, 4, 0, 28, 61, 127, 255, 511]
theorem spec_DrawMakePuzzle.tab5 : rtab .any (opsOf Try.f18 5) = spec_DrawMakePuzzle.T5 := by kernel_rfl
theorem spec_DrawMakePuzzle.bits5 : waitsOk spec_DrawMakePuzzle.T5.2 spec_DrawMakePuzzle.B5 = true := by kernel_rfl
theorem spec_DrawMakePuzzle.calls (A0 : Option Addr) (c0 : Nat) (l0 : List Int) (r1 : Int) (r2 : Int) (r3 : Int) (r4 : Int) (r5 : Int) (w : World) (hr0 : Kd.C (Kd.int .u8) w A0 l0.length l0) (hc0 : l0.length ≤ c0) (h : spec_DrawMakePuzzle.f l0 = some (r1, r2, r3, r4, r5)) :
  Calls Try.prog 18 #[.slice A0 l0.length c0] w fun e w' => e = .returned (.tuple #[.agg #[.int .i64 r1, .int .i64 r2], .int .i64 r3, .int .i64 r4, .int .i64 r5]) ∧ Below w.heap.size w w' := by
 have hu30 := Try.underlying30
 have hu89 := Try.underlying89
 have HR0 := am hr0
 have HC0 := am hc0
 clear hr0 hc0
 have HB := am (Below.refl w.heap.size w)
 have H : ((spec_l1Cur_one.f l0 0 0 12).bind fun bt103 => (if bt103.1 = true then ((spec_l1Cur_street.f l0 bt103.2.1 bt103.2.2).bind fun bt106 => ((spec_l1Cur_among.f l0 bt106.2.2.1 bt106.2.2.2 (([(-1), 0, 1, 40, 41] : List Int))).bind fun bt113 => ((spec_l1Cur_among.f l0 bt113.2.1 bt113.2.2 (([(-1), 0, 6, 7] : List Int))).bind fun bt119 => ((spec_l1Cur_among.f l0 bt119.2.1 bt119.2.2 (([(-1), 9999, 10000] : List Int))).bind fun bt125 => (some (bt106.1, bt106.2.1, bt113.1, bt119.1, bt125.1)))))) else ((spec_l1Cur_hidden.f l0 bt103.2.1 bt103.2.2).bind fun bt128 => ((spec_l1Cur_pick.f l0 bt128.2.2.2.1 bt128.2.2.2.2 7).bind fun bt134 => ((spec_l1Cur_pick.f l0 bt134.2.1 bt134.2.2 10000).bind fun bt137 => (some (bt128.1, bt128.2.1, bt128.2.2.1, bt134.1, bt137.1))))))) = some (r1, r2, r3, r4, r5) := h
 clear h
 replace H := bH H
 obtain ⟨⟨t103, t104, t105⟩, A20, H⟩ := H
 replace H : (if t103 = true then ((spec_l1Cur_street.f l0 t104 t105).bind fun bt106 => ((spec_l1Cur_among.f l0 bt106.2.2.1 bt106.2.2.2 (([(-1), 0, 1, 40, 41] : List Int))).bind fun bt113 => ((spec_l1Cur_among.f l0 bt113.2.1 bt113.2.2 (([(-1), 0, 6, 7] : List Int))).bind fun bt119 => ((spec_l1Cur_among.f l0 bt119.2.1 bt119.2.2 (([(-1), 9999, 10000] : List Int))).bind fun bt125 => (some (bt106.1, bt106.2.1, bt113.1, bt119.1, bt125.1)))))) else ((spec_l1Cur_hidden.f l0 t104 t105).bind fun bt128 => ((spec_l1Cur_pick.f l0 bt128.2.2.2.1 bt128.2.2.2.2 7).bind fun bt134 => ((spec_l1Cur_pick.f l0 bt134.2.1 bt134.2.2 10000).bind fun bt137 => (some (bt128.1, bt128.2.1, bt128.2.2.1, bt134.1, bt137.1)))))) = some (r1, r2, r3, r4, r5) := H
 have A2 := am A20
 clear A20
 by_cases c3 : t103 = true
 ·subst c3
  have H1 : ((spec_l1Cur_street.f l0 t104 t105).bind fun bt106 => ((spec_l1Cur_among.f l0 bt106.2.2.1 bt106.2.2.2 (([(-1), 0, 1, 40, 41] : List Int))).bind fun bt113 => ((spec_l1Cur_among.f l0 bt113.2.1 bt113.2.2 (([(-1), 0, 6, 7] : List Int))).bind fun bt119 => ((spec_l1Cur_among.f l0 bt119.2.1 bt119.2.2 (([(-1), 9999, 10000] : List Int))).bind fun bt125 => (some (bt106.1, bt106.2.1, bt113.1, bt119.1, bt125.1)))))) = some (r1, r2, r3, r4, r5) := by rw [if_pos rfl] at H; exact H
  clear H
  have H := H1
  clear H1
  replace H := bH H
  obtain ⟨⟨t106, t107, t108, t109⟩, A40, H⟩ := H
  replace H : ((spec_l1Cur_among.f l0 t108 t109 (([(-1), 0, 1, 40, 41] : List Int))).bind fun bt113 => ((spec_l1Cur_among.f l0 bt113.2.1 bt113.2.2 (([(-1), 0, 6, 7] : List Int))).bind fun bt119 => ((spec_l1Cur_among.f l0 bt119.2.1 bt119.2.2 (([(-1), 9999, 10000] : List Int))).bind fun bt125 => (some (t106, t107, bt113.1, bt119.1, bt125.1))))) = some (r1, r2, r3, r4, r5) := H
  have A4 := am A40
  clear A40
  obtain ⟨y110, hy110⟩ : ∃ y_ : List Int, y_ = (([(-1), 0, 1, 40, 41] : List Int)) := ⟨_, rfl⟩
  replace H : ((spec_l1Cur_among.f l0 t108 t109 y110).bind fun bt113 => ((spec_l1Cur_among.f l0 bt113.2.1 bt113.2.2 (([(-1), 0, 6, 7] : List Int))).bind fun bt119 => ((spec_l1Cur_among.f l0 bt119.2.1 bt119.2.2 (([(-1), 9999, 10000] : List Int))).bind fun bt125 => (some (t106, t107, bt113.1, bt119.1, bt125.1))))) = some (r1, r2, r3, r4, r5) := by first | (rw [hy110]; with_reducible exact H) | (have H2_ := (Option.bind_some _ _).symm.trans H; rw [hy110]; with_reducible exact H2_) | (have H2_ := (Option.bind_some _ _).symm.trans H; with_reducible exact H2_) | with_reducible exact H | (rw [hy110]; exact H) | exact H
  have Ny110 := am hy110
  clear hy110
  replace H := bH H
  obtain ⟨⟨t113, t114, t115⟩, A50, H⟩ := H
  replace H : ((spec_l1Cur_among.f l0 t114 t115 (([(-1), 0, 6, 7] : List Int))).bind fun bt119 => ((spec_l1Cur_among.f l0 bt119.2.1 bt119.2.2 (([(-1), 9999, 10000] : List Int))).bind fun bt125 => (some (t106, t107, t113, bt119.1, bt125.1)))) = some (r1, r2, r3, r4, r5) := H
  have A5 := am A50
  clear A50
  obtain ⟨y116, hy116⟩ : ∃ y_ : List Int, y_ = (([(-1), 0, 6, 7] : List Int)) := ⟨_, rfl⟩
  replace H : ((spec_l1Cur_among.f l0 t114 t115 y116).bind fun bt119 => ((spec_l1Cur_among.f l0 bt119.2.1 bt119.2.2 (([(-1), 9999, 10000] : List Int))).bind fun bt125 => (some (t106, t107, t113, bt119.1, bt125.1)))) = some (r1, r2, r3, r4, r5) := by first | (rw [hy116]; with_reducible exact H) | (have H2_ := (Option.bind_some _ _).symm.trans H; rw [hy116]; with_reducible exact H2_) | (have H2_ := (Option.bind_some _ _).symm.trans H; with_reducible exact H2_) | with_reducible exact H | (rw [hy116]; exact H) | exact H
  have Ny116 := am hy116
  clear hy116
  replace H := bH H
  obtain ⟨⟨t119, t120, t121⟩, A60, H⟩ := H
  replace H : ((spec_l1Cur_among.f l0 t120 t121 (([(-1), 9999, 10000] : List Int))).bind fun bt125 => (some (t106, t107, t113, t119, bt125.1))) = some (r1, r2, r3, r4, r5) := H
  have A6 := am A60
  clear A60
  obtain ⟨y122, hy122⟩ : ∃ y_ : List Int, y_ = (([(-1), 9999, 10000] : List Int)) := ⟨_, rfl⟩
  replace H : ((spec_l1Cur_among.f l0 t120 t121 y122).bind fun bt125 => (some (t106, t107, t113, t119, bt125.1))) = some (r1, r2, r3, r4, r5) := by first | (rw [hy122]; with_reducible exact H) | (have H2_ := (Option.bind_some _ _).symm.trans H; rw [hy122]; with_reducible exact H2_) | (have H2_ := (Option.bind_some _ _).symm.trans H; with_reducible exact H2_) | with_reducible exact H | (rw [hy122]; exact H) | exact H
  have Ny122 := am hy122
  clear hy122
  replace H := bH H
  obtain ⟨⟨t125, t126, t127⟩, A70, H⟩ := H
  replace H : (some (t106, t107, t113, t119, t125)) = some (r1, r2, r3, r4, r5) := H
  have A7 := am A70
  clear A70
  simp only [Option.some.injEq, Prod.mk.injEq] at H
  obtain ⟨rfl, rfl, rfl, rfl, rfl⟩ := H
  go_enter Try.func18, Try.ntmps18
  go_wp2_with (first | ((with_reducible refine gate_dst (N := 2) rfl ?_); refine uX (N := 2) (cs := #[.int .i64 0, .int .i64 0]) (t := 30) ?_; intro gb101 hg w8 hbox hb; have BK101 := am (hbox); have GW101 := uE hg; have GE101 := GW101; replace HB := uS hb; clear hb hbox hg) | ((with_reducible refine gate_dst (N := 11) rfl ?_); refine uX (N := 11) (cs := #[.slice A0 l0.length c0, .int .i64 0, .int .u64 0]) (t := 89) ?_; intro gb102 hg w9 hbox hb; have BK102 := am (hbox); have GW102 := uE hg; have GE102 := GW102; have NB101_102 := uL BK101 hg; have NB102_101 := uY NB101_102; replace BK101 := uB BK101 hb; replace HB := uS hb; clear hb hbox hg) | ((with_reducible refine gate_callee (f := 57) rfl ?_); refine uGo (some 13) Try.func57 #[.pointer (some ⟨gb102, 0, none⟩), .int .i64 12] ?_; (with_reducible refine (spec_l1Cur_one.calls gb102 l0 0 0 12 true t104 t105 w _ ?side1 ?side2 A2.out).mono ?_); (case side1 => exact ⟨_, _, by (with_reducible repeat (first | refine bN ?_ _ | refine bD ?_ | refine bA ?_ _)); exact BK102.out, GE102.out, HR0.out⟩); (case side2 => exact uW); rintro e w10 ⟨rfl, hi, hb, hk⟩; refine ⟨_, rfl, ?_⟩; have HI102 := am (hi); replace BK101 := am (KeepBut.blk hk (uP BK101) NB101_102.out (by simp)); replace HB := am (hb); clear BK102; (try clear hb); (try clear hb2); (try clear hk); (try clear hi)) | ((with_reducible refine gate_callee (f := 58) rfl ?_); refine uGo (some 15) Try.func58 #[.pointer (some ⟨gb102, 0, none⟩)] ?_; (with_reducible refine (spec_l1Cur_street.calls gb102 l0 t104 t105 t106 t107 t108 t109 w _ ?side1 ?side2 A4.out).mono ?_); (case side1 => exact uI); (case side2 => exact uW); rintro e w11 ⟨rfl, hi, hb, hk⟩; refine ⟨_, rfl, ?_⟩; replace BK101 := am (KeepBut.blk hk (uP BK101) NB101_102.out (by simp)); replace HB := am (hb); replace HI102 := am (hi); (try clear hb); (try clear hb2); (try clear hk); (try clear hi)) | ((with_reducible refine gate_dst (N := 17) rfl ?_); refine Kd.R_lit (Kd.int .i64) _ 3 ?hg (N := 17) ?hd (xs := ([(-1), 0, 1, 40, 41] : List Int)) (inner := [.int .i64 (-1), .int .i64 0, .int .i64 1, .int .i64 40, .int .i64 41]) (ok := fun _ => True) (okp := fun _ => True) ?hr ?hp (fun _ hk => hk) trivial (Below.refl _ _) (Nat.le_refl _) (by simp) ?_; (case hd => rfl); (case hg => rfl); (case hr => first | (go_simp; done) | (go_simp; rfl)); (case hp => exact (Reps.one (show Kd.M (Kd.int .i64) _ _ _ (-1) [.int .i64 (-1)] from rfl) (Reps.one (show Kd.M (Kd.int .i64) _ _ _ 0 [.int .i64 0] from rfl) (Reps.one (show Kd.M (Kd.int .i64) _ _ _ 1 [.int .i64 1] from rfl) (Reps.one (show Kd.M (Kd.int .i64) _ _ _ 40 [.int .i64 40] from rfl) (Reps.one (show Kd.M (Kd.int .i64) _ _ _ 41 [.int .i64 41] from rfl) (Reps.none _ _))))))); intro v111 w12 ho13 hb hg_ hnew_; clear hg_ hnew_; (first | rw [← Ny110.out] at ho13 | (simp only [Int.reduceToNat] at ho13; rw [← Ny110.out] at ho13)); have HO112 := am (Kd.R_lower ho13 (below_size uW)); replace BK101 := uB BK101 hb; replace HI102 := am (IsS89.below uI hb); replace HB := uS hb; clear hb ho13; obtain ⟨Ao14, co14, eo14⟩ := Kd.R_slice HO112.out; subst eo14) | ((with_reducible refine gate_callee (f := 59) rfl ?_); refine uGo (some 18) Try.func59 #[.pointer (some ⟨gb102, 0, none⟩), .slice Ao14 y110.length co14] ?_; (with_reducible refine (spec_l1Cur_among.calls gb102 l0 t108 t109 _ _ y110 t113 t114 t115 w _ ?side1 ?side2 ?side3 ?side4 ?side5 A5.out).mono ?_); (case side1 => exact uI); (case side2 => exact uW); (case side3 => repeat (first | exact (Kd.R_reads' HO112.out).2.2 | (with_reducible refine cA ?_ _) | (with_reducible refine cN ?_ _) | (with_reducible refine cD ?_))); (case side4 => exact (Kd.R_reads' HO112.out).2.1); (case side5 => exact far_slice (IsS89.own_ne HI102.out HO112.out (by decide))); rintro e w15 ⟨rfl, hi, hb, hk⟩; refine ⟨_, rfl, ?_⟩; replace BK101 := am (KeepBut.blk hk (uP BK101) NB101_102.out (by simp)); replace HO112 := am (Kd.R_mono (Kd.R_keep (IsS89.apart (show IsS89 w _ gb102 l0 t108 t109 from by exact uI) (uR HO112) (by decide)) hk (fun _ h => h.2)) (fun _ h => h.1)); replace HB := am (hb); replace HI102 := am (hi); (try clear hb); (try clear hb2); (try clear hk); (try clear hi)) | ((with_reducible refine gate_dst (N := 20) rfl ?_); refine Kd.R_lit (Kd.int .i64) _ 3 ?hg (N := 20) ?hd (xs := ([(-1), 0, 6, 7] : List Int)) (inner := [.int .i64 (-1), .int .i64 0, .int .i64 6, .int .i64 7]) (ok := fun _ => True) (okp := fun _ => True) ?hr ?hp (fun _ hk => hk) trivial (Below.refl _ _) (Nat.le_refl _) (by simp) ?_; (case hd => rfl); (case hg => rfl); (case hr => first | (go_simp; done) | (go_simp; rfl)); (case hp => exact (Reps.one (show Kd.M (Kd.int .i64) _ _ _ (-1) [.int .i64 (-1)] from rfl) (Reps.one (show Kd.M (Kd.int .i64) _ _ _ 0 [.int .i64 0] from rfl) (Reps.one (show Kd.M (Kd.int .i64) _ _ _ 6 [.int .i64 6] from rfl) (Reps.one (show Kd.M (Kd.int .i64) _ _ _ 7 [.int .i64 7] from rfl) (Reps.none _ _)))))); intro v117 w16 ho17 hb hg_ hnew_; clear hg_ hnew_; (first | rw [← Ny116.out] at ho17 | (simp only [Int.reduceToNat] at ho17; rw [← Ny116.out] at ho17)); have HO118 := am (Kd.R_lower (Kd.R_new' ho17 (Kd.R_lt (uR HO112))) (below_size uW)); replace HO112 := am (Kd.R_elder' (uR HO112) (Kd.R_base ho17) hb); replace BK101 := uB BK101 hb; replace HI102 := am (IsS89.below uI hb); replace HB := uS hb; clear hb ho17; obtain ⟨Ao18, co18, eo18⟩ := Kd.R_slice HO118.out; subst eo18) | ((with_reducible refine gate_callee (f := 59) rfl ?_); refine uGo (some 21) Try.func59 #[.pointer (some ⟨gb102, 0, none⟩), .slice Ao18 y116.length co18] ?_; (with_reducible refine (spec_l1Cur_among.calls gb102 l0 t114 t115 _ _ y116 t119 t120 t121 w _ ?side1 ?side2 ?side3 ?side4 ?side5 A6.out).mono ?_); (case side1 => exact uI); (case side2 => exact uW); (case side3 => repeat (first | exact (Kd.R_reads' HO118.out).2.2 | (with_reducible refine cA ?_ _) | (with_reducible refine cN ?_ _) | (with_reducible refine cD ?_))); (case side4 => exact (Kd.R_reads' HO118.out).2.1); (case side5 => exact far_slice (IsS89.own_ne HI102.out HO118.out (by decide))); rintro e w19 ⟨rfl, hi, hb, hk⟩; refine ⟨_, rfl, ?_⟩; replace BK101 := am (KeepBut.blk hk (uP BK101) NB101_102.out (by simp)); replace HO112 := am (Kd.R_mono (Kd.R_keep (IsS89.apart (show IsS89 w _ gb102 l0 t114 t115 from by exact uI) (uR HO112) (by decide)) hk (fun _ h => h.2)) (fun _ h => h.1)); replace HO118 := am (Kd.R_mono (Kd.R_keep (IsS89.apart (show IsS89 w _ gb102 l0 t114 t115 from by exact uI) (uR HO118) (by decide)) hk (fun _ h => h.2)) (fun _ h => h.1)); replace HB := am (hb); replace HI102 := am (hi); (try clear hb); (try clear hb2); (try clear hk); (try clear hi)) | ((with_reducible refine gate_dst (N := 23) rfl ?_); refine Kd.R_lit (Kd.int .i64) _ 3 ?hg (N := 23) ?hd (xs := ([(-1), 9999, 10000] : List Int)) (inner := [.int .i64 (-1), .int .i64 9999, .int .i64 10000]) (ok := fun _ => True) (okp := fun _ => True) ?hr ?hp (fun _ hk => hk) trivial (Below.refl _ _) (Nat.le_refl _) (by simp) ?_; (case hd => rfl); (case hg => rfl); (case hr => first | (go_simp; done) | (go_simp; rfl)); (case hp => exact (Reps.one (show Kd.M (Kd.int .i64) _ _ _ (-1) [.int .i64 (-1)] from rfl) (Reps.one (show Kd.M (Kd.int .i64) _ _ _ 9999 [.int .i64 9999] from rfl) (Reps.one (show Kd.M (Kd.int .i64) _ _ _ 10000 [.int .i64 10000] from rfl) (Reps.none _ _))))); intro v123 w20 ho21 hb hg_ hnew_; clear hg_ hnew_; (first | rw [← Ny122.out] at ho21 | (simp only [Int.reduceToNat] at ho21; rw [← Ny122.out] at ho21)); have HO124 := am (Kd.R_lower (Kd.R_new' (Kd.R_new' ho21 (Kd.R_lt (uR HO112))) (Kd.R_lt (uR HO118))) (below_size uW)); replace HO112 := am (Kd.R_elder' (uR HO112) (Kd.R_base ho21) hb); replace HO118 := am (Kd.R_elder' (uR HO118) (Kd.R_base ho21) hb); replace BK101 := uB BK101 hb; replace HI102 := am (IsS89.below uI hb); replace HB := uS hb; clear hb ho21; obtain ⟨Ao22, co22, eo22⟩ := Kd.R_slice HO124.out; subst eo22) | ((with_reducible refine gate_callee (f := 59) rfl ?_); refine uGo (some 24) Try.func59 #[.pointer (some ⟨gb102, 0, none⟩), .slice Ao22 y122.length co22] ?_; (with_reducible refine (spec_l1Cur_among.calls gb102 l0 t120 t121 _ _ y122 t125 t126 t127 w _ ?side1 ?side2 ?side3 ?side4 ?side5 A7.out).mono ?_); (case side1 => exact uI); (case side2 => exact uW); (case side3 => repeat (first | exact (Kd.R_reads' HO124.out).2.2 | (with_reducible refine cA ?_ _) | (with_reducible refine cN ?_ _) | (with_reducible refine cD ?_))); (case side4 => exact (Kd.R_reads' HO124.out).2.1); (case side5 => exact far_slice (IsS89.own_ne HI102.out HO124.out (by decide))); rintro e w23 ⟨rfl, hi, hb, hk⟩; refine ⟨_, rfl, ?_⟩; replace BK101 := am (KeepBut.blk hk (uP BK101) NB101_102.out (by simp)); replace HO112 := am (Kd.R_mono (Kd.R_keep (IsS89.apart (show IsS89 w _ gb102 l0 t120 t121 from by exact uI) (uR HO112) (by decide)) hk (fun _ h => h.2)) (fun _ h => h.1)); replace HO118 := am (Kd.R_mono (Kd.R_keep (IsS89.apart (show IsS89 w _ gb102 l0 t120 t121 from by exact uI) (uR HO118) (by decide)) hk (fun _ h => h.2)) (fun _ h => h.1)); replace HO124 := am (Kd.R_mono (Kd.R_keep (IsS89.apart (show IsS89 w _ gb102 l0 t120 t121 from by exact uI) (uR HO124) (by decide)) hk (fun _ h => h.2)) (fun _ h => h.1)); replace HB := am (hb); replace HI102 := am (hi); (try clear hb); (try clear hb2); (try clear hk); (try clear hi); have hnb24 := NB101_102.out; have hnc24 := NB102_101.out; obtain ⟨hcz25_0, hcz25_1, hfz25_0, hfz25_1⟩ := uZ2 BK101))
  refine bodyPost_ret (results_list (rs := [.cell 2 30, .tmp 3, .tmp 4, .tmp 5]) rfl (by simp) (.cell gb101 30 #[.int .i64 t106, .int .i64 t107] (0, 0) _ rfl (by refine blk_put (cs := #[.int .i64 t106, .int .i64 0]) ?_ 1 _ rfl; refine blk_put (cs := #[.int .i64 0, .int .i64 0]) ?_ 0 _ rfl; exact (uP BK101)) Try.underlying30 rfl (by kernel_rfl) (.tmp (.tmp (.tmp .nil))))) rfl ?_
  exact ⟨uA, by exact uW⟩
 ·replace c3 := Bool.eq_false_iff.mpr c3
  subst c3
  have H1 : ((spec_l1Cur_hidden.f l0 t104 t105).bind fun bt128 => ((spec_l1Cur_pick.f l0 bt128.2.2.2.1 bt128.2.2.2.2 7).bind fun bt134 => ((spec_l1Cur_pick.f l0 bt134.2.1 bt134.2.2 10000).bind fun bt137 => (some (bt128.1, bt128.2.1, bt128.2.2.1, bt134.1, bt137.1))))) = some (r1, r2, r3, r4, r5) := by rw [if_neg (show ¬ (false = true) by decide)] at H; exact H
  clear H
  have H := H1
  clear H1
  replace H := bH H
  obtain ⟨⟨t128, t129, t130, t131, t132⟩, A260, H⟩ := H
  replace H : ((spec_l1Cur_pick.f l0 t131 t132 7).bind fun bt134 => ((spec_l1Cur_pick.f l0 bt134.2.1 bt134.2.2 10000).bind fun bt137 => (some (t128, t129, t130, bt134.1, bt137.1)))) = some (r1, r2, r3, r4, r5) := H
  have A26 := am A260
  clear A260
  replace H := bH H
  obtain ⟨⟨t134, t135, t136⟩, A270, H⟩ := H
  replace H : ((spec_l1Cur_pick.f l0 t135 t136 10000).bind fun bt137 => (some (t128, t129, t130, t134, bt137.1))) = some (r1, r2, r3, r4, r5) := H
  have A27 := am A270
  clear A270
  replace H := bH H
  obtain ⟨⟨t137, t138, t139⟩, A280, H⟩ := H
  replace H : (some (t128, t129, t130, t134, t137)) = some (r1, r2, r3, r4, r5) := H
  have A28 := am A280
  clear A280
  simp only [Option.some.injEq, Prod.mk.injEq] at H
  obtain ⟨rfl, rfl, rfl, rfl, rfl⟩ := H
  go_enter Try.func18, Try.ntmps18
  try go_wp2_with (first | ((with_reducible refine gate_dst (N := 2) rfl ?_); refine uX (N := 2) (cs := #[.int .i64 0, .int .i64 0]) (t := 30) ?_; intro gb101 hg w29 hbox hb; have BK101 := am (hbox); have GW101 := uE hg; have GE101 := GW101; replace HB := uS hb; clear hb hbox hg) | ((with_reducible refine gate_dst (N := 11) rfl ?_); refine uX (N := 11) (cs := #[.slice A0 l0.length c0, .int .i64 0, .int .u64 0]) (t := 89) ?_; intro gb102 hg w30 hbox hb; have BK102 := am (hbox); have GW102 := uE hg; have GE102 := GW102; have NB101_102 := uL BK101 hg; have NB102_101 := uY NB101_102; replace BK101 := uB BK101 hb; replace HB := uS hb; clear hb hbox hg) | ((with_reducible refine gate_callee (f := 57) rfl ?_); refine uGo (some 13) Try.func57 #[.pointer (some ⟨gb102, 0, none⟩), .int .i64 12] ?_; (with_reducible refine (spec_l1Cur_one.calls gb102 l0 0 0 12 false t104 t105 w _ ?side1 ?side2 A2.out).mono ?_); (case side1 => exact ⟨_, _, by (with_reducible repeat (first | refine bN ?_ _ | refine bD ?_ | refine bA ?_ _)); exact BK102.out, GE102.out, HR0.out⟩); (case side2 => exact uW); rintro e w31 ⟨rfl, hi, hb, hk⟩; refine ⟨_, rfl, ?_⟩; have HI102 := am (hi); replace BK101 := am (KeepBut.blk hk (uP BK101) NB101_102.out (by simp)); replace HB := am (hb); clear BK102; (try clear hb); (try clear hb2); (try clear hk); (try clear hi)) | ((with_reducible refine gate_callee (f := 60) rfl ?_); refine uGo (some 27) Try.func60 #[.pointer (some ⟨gb102, 0, none⟩)] ?_; (with_reducible refine (spec_l1Cur_hidden.calls gb102 l0 t104 t105 t128 t129 t130 t131 t132 w _ ?side1 ?side2 A26.out).mono ?_); (case side1 => exact uI); (case side2 => exact uW); rintro e w32 ⟨rfl, hi, hb, hk⟩; refine ⟨_, rfl, ?_⟩; replace BK101 := am (KeepBut.blk hk (uP BK101) NB101_102.out (by simp)); replace HB := am (hb); replace HI102 := am (hi); (try clear hb); (try clear hb2); (try clear hk); (try clear hi)) | ((with_reducible refine gate_dst (N := 7) rfl ?_); refine uX (N := 7) (cs := #[.int .i64 0, .int .i64 0]) (t := 30) ?_; intro gb133 hg w33 hbox hb; have BK133 := am (hbox); have GW133 := uE hg; have GE133 := GW133; have NB101_133 := uL BK101 hg; have NB133_101 := uY NB101_133; have NB102_133 := am ((by rw [hg]; exact Nat.ne_of_lt (IsS89.lt (show IsS89 w _ gb102 l0 t131 t132 from by exact uI)) : gb102 ≠ gb133)); have NB133_102 := am ((by rw [hg]; exact Nat.ne_of_gt (IsS89.lt (show IsS89 w _ gb102 l0 t131 t132 from by exact uI)) : gb133 ≠ gb102)); replace BK101 := uB BK101 hb; replace HI102 := am (IsS89.below uI hb); replace HB := uS hb; clear hb hbox hg; have hnb34 := NB133_101.out; have hnc34 := NB101_133.out; have hnb35 := NB133_102.out; have hnc35 := NB102_133.out; obtain ⟨hcz36_0, hcz36_1, hfz36_0, hfz36_1⟩ := uZ2 BK133))
  have n0_ : Aside0 (((w33.setCell ⟨gb133, 0, none⟩ (.int .i64 t128)).setCell ⟨gb133, 1, none⟩ (.int .i64 t129)).heap[gb101]? = some (.cells #[.int .i64 0, .int .i64 0] 30 (0, 0))) := ⟨by refine blk_far ?_ NB101_133.out _; refine blk_far ?_ NB101_133.out _; exact (uP BK101)⟩
  have n1_ : Aside0 (((w33.setCell ⟨gb133, 0, none⟩ (.int .i64 t128)).setCell ⟨gb133, 1, none⟩ (.int .i64 t129)).heap[gb133]? = some (.cells #[.int .i64 t128, .int .i64 t129] 30 (0, 0))) := ⟨by refine blk_put (cs := #[.int .i64 t128, .int .i64 0]) ?_ 1 _ rfl; refine blk_put (cs := #[.int .i64 0, .int .i64 0]) ?_ 0 _ rfl; exact (uP BK133)⟩
  have n2_ : Aside0 (IsS89 w ((w33.setCell ⟨gb133, 0, none⟩ (.int .i64 t128)).setCell ⟨gb133, 1, none⟩ (.int .i64 t129)) gb102 l0 t131 t132) := ⟨by exact uI⟩
  have n3_ : Aside0 (Below w.heap.size w ((w33.setCell ⟨gb133, 0, none⟩ (.int .i64 t128)).setCell ⟨gb133, 1, none⟩ (.int .i64 t129))) := ⟨by exact uW⟩
  (try clear BK101)
  (try clear BK133)
  (try clear HI102)
  (try clear HB)
  generalize ((w33.setCell ⟨gb133, 0, none⟩ (.int .i64 t128)).setCell ⟨gb133, 1, none⟩ (.int .i64 t129)) = w37 at n0_ n1_ n2_ n3_ ⊢
  have BK101 := n0_
  have BK133 := n1_
  have HI102 := n2_
  have HB := n3_
  clear n0_ n1_ n2_ n3_
  replace BK101 := am (blk_drew BK101.out)
  replace BK133 := am (blk_drew BK133.out)
  replace HI102 := am (IsS89.drew HI102.out)
  replace HB := am (below_drew1 HB.out)
  refine start_ (n := 10) (S := fun w' => w'.cell? ⟨gb133, 0, none⟩ = some (.int .i64 t128) ∧ w'.cell? ⟨gb133, 1, none⟩ = some (.int .i64 t129)) (ds := []) #[false, false, false, false, false, false, false, false, false, false] (by kernel_rfl) rfl rfl ⟨uT BK133 0, uT BK133 1⟩ (fun hHeld => ?_); refine with_tabW spec_DrawMakePuzzle.tab5 spec_DrawMakePuzzle.bits5 (fun HT_ HW_ => ?_)
  generalize w37.drew = w38 at BK101 BK133 HI102 HB hHeld ⊢
  refine uPu (i := 1) (N := some 31) #[false, true, false, false, false, false, false, false, false, false] ?_
  refine uPu (i := 2) (N := some 32) #[false, true, true, false, false, false, false, false, false, false] ?_
  refine uPu (i := 4) (N := some 34) #[false, true, true, false, true, false, false, false, false, false] ?_
  refine uTk (i := 0) (N := some 30) #[true, true, true, false, true, false, false, false, false, false] hHeld ?_
  refine uOn (i := 3) (N := some 33) #[true, true, true, true, true, false, false, false, false, false] (fun K hK => ?_)
  refine uGs Try.func61 #[.pointer (some ⟨gb102, 0, none⟩), .int .i64 7] ?_
  with_reducible refine (spec_l1Cur_pick.calls gb102 l0 t131 t132 7 t134 t135 t136 w _ ?side1 ?side2 A27.out).mono ?_
  (case side1 => exact uI)
  (case side2 => exact uW)
  rintro e w39 ⟨rfl, hi, hb, hk⟩
  refine ⟨_, rfl, ?_⟩
  replace BK101 := am (KeepBut.blk hk (uP BK101) NB101_102.out (by simp))
  replace BK133 := am (KeepBut.blk hk (uP BK133) NB133_102.out (by simp))
  replace HB := am (hb)
  replace HI102 := am (hi)
  (try clear hb)
  (try clear hb2)
  (try clear hk)
  (try clear hi)
  refine hK.out _ _ ⟨uT BK133 0, uT BK133 1⟩ (fun hHeld => ?_)
  clear hK K
  refine uNo (some 33) ?_
  refine uOn (i := 5) (N := some 35) #[true, true, true, true, true, true, false, false, false, false] (fun K hK => ?_)
  refine uGs Try.func61 #[.pointer (some ⟨gb102, 0, none⟩), .int .i64 10000] ?_
  with_reducible refine (spec_l1Cur_pick.calls gb102 l0 t135 t136 10000 t137 t138 t139 w _ ?side1 ?side2 A28.out).mono ?_
  (case side1 => exact uI)
  (case side2 => exact uW)
  rintro e w40 ⟨rfl, hi, hb, hk⟩
  refine ⟨_, rfl, ?_⟩
  replace BK101 := am (KeepBut.blk hk (uP BK101) NB101_102.out (by simp))
  replace BK133 := am (KeepBut.blk hk (uP BK133) NB133_102.out (by simp))
  replace HB := am (hb)
  replace HI102 := am (hi)
  (try clear hb)
  (try clear hb2)
  (try clear hk)
  (try clear hi)
  refine hK.out _ _ ⟨uT BK133 0, uT BK133 1⟩ (fun hHeld => ?_)
  clear hK K
  refine uNo (some 35) ?_
  refine uOn (i := 6) (N := none) #[true, true, true, true, true, true, true, false, false, false] (fun K hK => ?_)
  have hs41 : w40.cell? ⟨gb101, 0, none⟩ = some (.int .i64 0) := uT BK101 0
  have hfs41 := blk_frozen BK101.out 0
  have hns41_1 := NB133_101.out
  have hms41_1 := NB101_133.out
  have hs42 : w40.cell? ⟨gb101, 1, none⟩ = some (.int .i64 0) := uT BK101 1
  have hfs42 := blk_frozen BK101.out 1
  have hns42_1 := NB133_101.out
  have hms42_1 := NB101_133.out
  refine skip_ (w1 := ?_) (by rfl) rfl ?_ ?_
  rotate_left
  ·go_simp
   rfl
  refine hK.out _ _ ⟨((cell_far (p := ⟨gb101, _, none⟩) NB133_101.out _).trans (((cell_far (p := ⟨gb101, _, none⟩) NB133_101.out _).trans (hHeld.1)))), ((cell_far (p := ⟨gb101, _, none⟩) NB133_101.out _).trans (((cell_far (p := ⟨gb101, _, none⟩) NB133_101.out _).trans (hHeld.2))))⟩ (fun hHeld => ?_)
  clear hK K
  refine uPu (i := 7) (N := some 3) #[true, true, true, true, true, true, true, true, false, false] ?_
  refine uPu (i := 8) (N := some 4) #[true, true, true, true, true, true, true, true, true, false] ?_
  refine uPu (i := 9) (N := some 5) #[true, true, true, true, true, true, true, true, true, true] ?_
  refine done_ (done_of HT_.out (by kernel_rfl)) ?_
  try go_wp2
  refine bodyPost_ret (results_list (rs := [.cell 2 30, .tmp 3, .tmp 4, .tmp 5]) rfl (by simp) (.cell gb101 30 #[.int .i64 t128, .int .i64 t129] (0, 0) _ rfl (by refine blk_put (cs := #[.int .i64 t128, .int .i64 0]) ?_ 1 _ rfl; refine blk_put (cs := #[.int .i64 0, .int .i64 0]) ?_ 0 _ rfl; exact (uP BK101)) Try.underlying30 rfl (by kernel_rfl) (.tmp (.tmp (.tmp .nil))))) rfl ?_
  exact ⟨uA, by exact uW⟩
def spec_l1Cur_clue.j0 : Nat → Bool → List Int → Int → Int → Int → Int → Int → Option (Int × Int × Int × Int × Int)
 | 0, _, _, _, _, _, _, _ => none
 | k + 1, x28, x1000, x1001, x1002, x115000, x115001, x115002 => if x28 = true then ((spec_l1Cur_pick.f x1000 x1001 x1002 10).bind fun bt118 => ((spec_l1Cur_pick.f x1000 bt118.2.1 bt118.2.2 3).bind fun bt121 => ((spec_l1Cur_pick.f x1000 bt121.2.1 bt121.2.2 9).bind fun bt124 => (some (x115000, wrap64 (1 + bt118.1), wrap64 (bt121.1 - (wrap64 (Int.tdiv bt124.1 8))), bt124.2.1, bt124.2.2))))) else (some (x115000, x115001, x115002, x1001, x1002))
def spec_l1Cur_clue.f (k : Nat) (s0_0 : List Int) (s0_1 : Int) (s0_2 : Int) : Option (Int × Int × Int × Int × Int) := (spec_l1Cur_pick.f s0_0 s0_1 s0_2 6).bind fun bt102 => ((spec_l1Cur_pick.f s0_0 bt102.2.1 bt102.2.2 9).bind fun bt105 => ((spec_l1Cur_pick.f s0_0 bt105.2.1 bt105.2.2 9).bind fun bt108 => ((spec_l1Cur_pick.f s0_0 bt108.2.1 bt108.2.2 9).bind fun bt111 => (if (wrap64 (bt102.1 + (wrap64 (Int.tdiv bt105.1 8)))) = 2 then (spec_l1Cur_clue.j0 k true s0_0 bt111.2.1 bt111.2.2 (wrap64 (bt102.1 + (wrap64 (Int.tdiv bt105.1 8)))) 0 (wrap64 (bt108.1 - (wrap64 (Int.tdiv bt111.1 8))))) else (if (wrap64 (bt102.1 + (wrap64 (Int.tdiv bt105.1 8)))) = 4 then (spec_l1Cur_clue.j0 k true s0_0 bt111.2.1 bt111.2.2 (wrap64 (bt102.1 + (wrap64 (Int.tdiv bt105.1 8)))) 0 (wrap64 (bt108.1 - (wrap64 (Int.tdiv bt111.1 8))))) else ((spec_l1Cur_one.f s0_0 bt111.2.1 bt111.2.2 10).bind fun bt115 => (spec_l1Cur_clue.j0 k bt115.1 s0_0 bt115.2.1 bt115.2.2 (wrap64 (bt102.1 + (wrap64 (Int.tdiv bt105.1 8)))) 0 (wrap64 (bt108.1 - (wrap64 (Int.tdiv bt111.1 8)))))))))))
theorem spec_l1Cur_clue.calls (k : Nat) (g : Nat) (s0_0 : List Int) (s0_1 : Int) (s0_2 : Int) (r1 : Int) (r2 : Int) (r3 : Int) (r4 : Int) (r5 : Int) (w0 w : World) (hI : IsS89 w0 w g s0_0 s0_1 s0_2) (hB : Below w0.heap.size w0 w) (h : spec_l1Cur_clue.f k s0_0 s0_1 s0_2 = some (r1, r2, r3, r4, r5)) :
  Calls Try.prog 73 #[.pointer (some ⟨g, 0, none⟩)] w fun e w' => e = .returned (.agg #[.int .i64 r1, .int .i64 r2, .int .i64 r3]) ∧ IsS89 w0 w' g s0_0 r4 r5 ∧ Below w0.heap.size w0 w' ∧ KeepBut w w' g none := by
 have hu37 := Try.underlying37
 have HI0 := am hI
 have HK := am (KeepBut.refl w g none)
 have HL := am hB.size
 clear hI
 have HW0 := am hB.size
 have HB := am hB
 clear hB
 have H : ((spec_l1Cur_pick.f s0_0 s0_1 s0_2 6).bind fun bt102 => ((spec_l1Cur_pick.f s0_0 bt102.2.1 bt102.2.2 9).bind fun bt105 => ((spec_l1Cur_pick.f s0_0 bt105.2.1 bt105.2.2 9).bind fun bt108 => ((spec_l1Cur_pick.f s0_0 bt108.2.1 bt108.2.2 9).bind fun bt111 => (if (wrap64 (bt102.1 + (wrap64 (Int.tdiv bt105.1 8)))) = 2 then (spec_l1Cur_clue.j0 k true s0_0 bt111.2.1 bt111.2.2 (wrap64 (bt102.1 + (wrap64 (Int.tdiv bt105.1 8)))) 0 (wrap64 (bt108.1 - (wrap64 (Int.tdiv bt111.1 8))))) else (if (wrap64 (bt102.1 + (wrap64 (Int.tdiv bt105.1 8)))) = 4 then (spec_l1Cur_clue.j0 k true s0_0 bt111.2.1 bt111.2.2 (wrap64 (bt102.1 + (wrap64 (Int.tdiv bt105.1 8)))) 0 (wrap64 (bt108.1 - (wrap64 (Int.tdiv bt111.1 8))))) else ((spec_l1Cur_one.f s0_0 bt111.2.1 bt111.2.2 10).bind fun bt115 => (spec_l1Cur_clue.j0 k bt115.1 s0_0 bt115.2.1 bt115.2.2 (wrap64 (bt102.1 + (wrap64 (Int.tdiv bt105.1 8)))) 0 (wrap64 (bt108.1 - (wrap64 (Int.tdiv bt111.1 8)))))))))))) = some (r1, r2, r3, r4, r5) := h
 clear h
 replace H := bH H
 obtain ⟨⟨t102, t103, t104⟩, A20, H⟩ := H
 replace H : ((spec_l1Cur_pick.f s0_0 t103 t104 9).bind fun bt105 => ((spec_l1Cur_pick.f s0_0 bt105.2.1 bt105.2.2 9).bind fun bt108 => ((spec_l1Cur_pick.f s0_0 bt108.2.1 bt108.2.2 9).bind fun bt111 => (if (wrap64 (t102 + (wrap64 (Int.tdiv bt105.1 8)))) = 2 then (spec_l1Cur_clue.j0 k true s0_0 bt111.2.1 bt111.2.2 (wrap64 (t102 + (wrap64 (Int.tdiv bt105.1 8)))) 0 (wrap64 (bt108.1 - (wrap64 (Int.tdiv bt111.1 8))))) else (if (wrap64 (t102 + (wrap64 (Int.tdiv bt105.1 8)))) = 4 then (spec_l1Cur_clue.j0 k true s0_0 bt111.2.1 bt111.2.2 (wrap64 (t102 + (wrap64 (Int.tdiv bt105.1 8)))) 0 (wrap64 (bt108.1 - (wrap64 (Int.tdiv bt111.1 8))))) else ((spec_l1Cur_one.f s0_0 bt111.2.1 bt111.2.2 10).bind fun bt115 => (spec_l1Cur_clue.j0 k bt115.1 s0_0 bt115.2.1 bt115.2.2 (wrap64 (t102 + (wrap64 (Int.tdiv bt105.1 8)))) 0 (wrap64 (bt108.1 - (wrap64 (Int.tdiv bt111.1 8))))))))))) = some (r1, r2, r3, r4, r5) := H
 have A2 := am A20
 clear A20
 replace H := bH H
 obtain ⟨⟨t105, t106, t107⟩, A30, H⟩ := H
 replace H : ((spec_l1Cur_pick.f s0_0 t106 t107 9).bind fun bt108 => ((spec_l1Cur_pick.f s0_0 bt108.2.1 bt108.2.2 9).bind fun bt111 => (if (wrap64 (t102 + (wrap64 (Int.tdiv t105 8)))) = 2 then (spec_l1Cur_clue.j0 k true s0_0 bt111.2.1 bt111.2.2 (wrap64 (t102 + (wrap64 (Int.tdiv t105 8)))) 0 (wrap64 (bt108.1 - (wrap64 (Int.tdiv bt111.1 8))))) else (if (wrap64 (t102 + (wrap64 (Int.tdiv t105 8)))) = 4 then (spec_l1Cur_clue.j0 k true s0_0 bt111.2.1 bt111.2.2 (wrap64 (t102 + (wrap64 (Int.tdiv t105 8)))) 0 (wrap64 (bt108.1 - (wrap64 (Int.tdiv bt111.1 8))))) else ((spec_l1Cur_one.f s0_0 bt111.2.1 bt111.2.2 10).bind fun bt115 => (spec_l1Cur_clue.j0 k bt115.1 s0_0 bt115.2.1 bt115.2.2 (wrap64 (t102 + (wrap64 (Int.tdiv t105 8)))) 0 (wrap64 (bt108.1 - (wrap64 (Int.tdiv bt111.1 8)))))))))) = some (r1, r2, r3, r4, r5) := H
 have A3 := am A30
 clear A30
 replace H := bH H
 obtain ⟨⟨t108, t109, t110⟩, A40, H⟩ := H
 replace H : ((spec_l1Cur_pick.f s0_0 t109 t110 9).bind fun bt111 => (if (wrap64 (t102 + (wrap64 (Int.tdiv t105 8)))) = 2 then (spec_l1Cur_clue.j0 k true s0_0 bt111.2.1 bt111.2.2 (wrap64 (t102 + (wrap64 (Int.tdiv t105 8)))) 0 (wrap64 (t108 - (wrap64 (Int.tdiv bt111.1 8))))) else (if (wrap64 (t102 + (wrap64 (Int.tdiv t105 8)))) = 4 then (spec_l1Cur_clue.j0 k true s0_0 bt111.2.1 bt111.2.2 (wrap64 (t102 + (wrap64 (Int.tdiv t105 8)))) 0 (wrap64 (t108 - (wrap64 (Int.tdiv bt111.1 8))))) else ((spec_l1Cur_one.f s0_0 bt111.2.1 bt111.2.2 10).bind fun bt115 => (spec_l1Cur_clue.j0 k bt115.1 s0_0 bt115.2.1 bt115.2.2 (wrap64 (t102 + (wrap64 (Int.tdiv t105 8)))) 0 (wrap64 (t108 - (wrap64 (Int.tdiv bt111.1 8))))))))) = some (r1, r2, r3, r4, r5) := H
 have A4 := am A40
 clear A40
 replace H := bH H
 obtain ⟨⟨t111, t112, t113⟩, A50, H⟩ := H
 replace H : (if (wrap64 (t102 + (wrap64 (Int.tdiv t105 8)))) = 2 then (spec_l1Cur_clue.j0 k true s0_0 t112 t113 (wrap64 (t102 + (wrap64 (Int.tdiv t105 8)))) 0 (wrap64 (t108 - (wrap64 (Int.tdiv t111 8))))) else (if (wrap64 (t102 + (wrap64 (Int.tdiv t105 8)))) = 4 then (spec_l1Cur_clue.j0 k true s0_0 t112 t113 (wrap64 (t102 + (wrap64 (Int.tdiv t105 8)))) 0 (wrap64 (t108 - (wrap64 (Int.tdiv t111 8))))) else ((spec_l1Cur_one.f s0_0 t112 t113 10).bind fun bt115 => (spec_l1Cur_clue.j0 k bt115.1 s0_0 bt115.2.1 bt115.2.2 (wrap64 (t102 + (wrap64 (Int.tdiv t105 8)))) 0 (wrap64 (t108 - (wrap64 (Int.tdiv t111 8)))))))) = some (r1, r2, r3, r4, r5) := H
 have A5 := am A50
 clear A50
 have HC6 := am H
 clear H
 go_enter Try.func73, Try.ntmps73
 go_upto_region 2 with (first | ((with_reducible refine gate_dst (N := 2) rfl ?_); refine uX (N := 2) (cs := #[.int .i64 0, .int .i64 0, .int .i64 0]) (t := 37) ?_; intro gb101 hg w7 hbox hb; have BK101 := am (hbox); have GW101 := am ((by rw [hg]; exact (keep_size (w := w) (g := g) (row := none) uV) : w.heap.size ≤ gb101)); have GE101 := am ((Nat.le_trans HW0.out (by rw [hg]; exact (keep_size (w := w) (g := g) (row := none) uV) : w.heap.size ≤ gb101) : w0.heap.size ≤ gb101)); have NB0_101 := am ((by rw [hg]; exact Nat.ne_of_lt (IsS89.lt (show IsS89 w0 _ g s0_0 s0_1 s0_2 from by exact uI)) : g ≠ gb101)); have NB101_0 := am ((by rw [hg]; exact Nat.ne_of_gt (IsS89.lt (show IsS89 w0 _ g s0_0 s0_1 s0_2 from by exact uI)) : gb101 ≠ g)); replace HI0 := am (IsS89.below uI hb); replace HK := am (KeepBut.trans uV (KeepBut.of_below hb g none) (.inl rfl)); replace HB := uS hb; clear hb hbox hg) | ((with_reducible refine gate_callee (f := 61) rfl ?_); refine uGo (some 5) Try.func61 #[.pointer (some ⟨g, 0, none⟩), .int .i64 6] ?_; (with_reducible refine (spec_l1Cur_pick.calls g s0_0 s0_1 s0_2 6 t102 t103 t104 w0 _ ?side1 ?side2 A2.out).mono ?_); (case side1 => exact uI); (case side2 => exact uW); rintro e w8 ⟨rfl, hi, hb, hk⟩; refine ⟨_, rfl, ?_⟩; replace BK101 := am (KeepBut.blk hk (uP BK101) NB101_0.out (by simp)); replace HK := am (KeepBut.trans uV hk (.inl rfl)); replace HB := am (hb); replace HI0 := am (hi); (try clear hb); (try clear hb2); (try clear hk); (try clear hi)) | ((with_reducible refine gate_callee (f := 61) rfl ?_); refine uGo (some 7) Try.func61 #[.pointer (some ⟨g, 0, none⟩), .int .i64 9] ?_; (with_reducible refine (spec_l1Cur_pick.calls g s0_0 t103 t104 9 t105 t106 t107 w0 _ ?side1 ?side2 A3.out).mono ?_); (case side1 => exact uI); (case side2 => exact uW); rintro e w9 ⟨rfl, hi, hb, hk⟩; refine ⟨_, rfl, ?_⟩; replace BK101 := am (KeepBut.blk hk (uP BK101) NB101_0.out (by simp)); replace HK := am (KeepBut.trans uV hk (.inl rfl)); replace HB := am (hb); replace HI0 := am (hi); (try clear hb); (try clear hb2); (try clear hk); (try clear hi)) | ((with_reducible refine gate_callee (f := 61) rfl ?_); refine uGo (some 11) Try.func61 #[.pointer (some ⟨g, 0, none⟩), .int .i64 9] ?_; (with_reducible refine (spec_l1Cur_pick.calls g s0_0 t106 t107 9 t108 t109 t110 w0 _ ?side1 ?side2 A4.out).mono ?_); (case side1 => exact uI); (case side2 => exact uW); rintro e w10 ⟨rfl, hi, hb, hk⟩; refine ⟨_, rfl, ?_⟩; replace BK101 := am (KeepBut.blk hk (uP BK101) NB101_0.out (by simp)); replace HK := am (KeepBut.trans uV hk (.inl rfl)); replace HB := am (hb); replace HI0 := am (hi); (try clear hb); (try clear hb2); (try clear hk); (try clear hi)) | ((with_reducible refine gate_callee (f := 61) rfl ?_); refine uGo (some 13) Try.func61 #[.pointer (some ⟨g, 0, none⟩), .int .i64 9] ?_; (with_reducible refine (spec_l1Cur_pick.calls g s0_0 t109 t110 9 t111 t112 t113 w0 _ ?side1 ?side2 A5.out).mono ?_); (case side1 => exact uI); (case side2 => exact uW); rintro e w11 ⟨rfl, hi, hb, hk⟩; refine ⟨_, rfl, ?_⟩; replace BK101 := am (KeepBut.blk hk (uP BK101) NB101_0.out (by simp)); replace HK := am (KeepBut.trans uV hk (.inl rfl)); replace HB := am (hb); replace HI0 := am (hi); (try clear hb); (try clear hb2); (try clear hk); (try clear hi)) | ((with_reducible refine gate_dst (N := 3) rfl ?_); refine uX (N := 3) (cs := #[.int .i64 0, .int .i64 0, .int .i64 0]) (t := 37) ?_; intro gb114 hg w12 hbox hb; have BK114 := am (hbox); have GW114 := am ((by rw [hg]; exact (keep_size (w := w) (g := g) (row := none) uV) : w.heap.size ≤ gb114)); have GE114 := am ((Nat.le_trans HW0.out (by rw [hg]; exact (keep_size (w := w) (g := g) (row := none) uV) : w.heap.size ≤ gb114) : w0.heap.size ≤ gb114)); have NB101_114 := uL BK101 hg; have NB114_101 := uY NB101_114; have NB0_114 := am ((by rw [hg]; exact Nat.ne_of_lt (IsS89.lt (show IsS89 w0 _ g s0_0 t112 t113 from by exact uI)) : g ≠ gb114)); have NB114_0 := am ((by rw [hg]; exact Nat.ne_of_gt (IsS89.lt (show IsS89 w0 _ g s0_0 t112 t113 from by exact uI)) : gb114 ≠ g)); replace HI0 := am (IsS89.below uI hb); replace BK101 := uB BK101 hb; replace HK := am (KeepBut.trans uV (KeepBut.of_below hb g none) (.inl rfl)); replace HB := uS hb; clear hb hbox hg; have hnb13 := NB114_101.out; have hnc13 := NB101_114.out; have hnb14 := NB114_0.out; have hnc14 := NB0_114.out; obtain ⟨hcz15_0, hcz15_1, hcz15_2, hfz15_0, hfz15_1, hfz15_2⟩ := uZ3 BK114))
 (try simp only [Act.put, List.setIfInBounds_toArray, List.set_cons_zero, List.set_cons_succ])
 go_cut [28] (fun v28 wc => ∃ (kq : Nat) (x28_5 : Bool) (x1001_5 : Int) (x1002_5 : Int), v28 = .bool x28_5 ∧ Aside0 (spec_l1Cur_clue.j0 kq x28_5 s0_0 x1001_5 x1002_5 (wrap64 (t102 + (wrap64 (Int.tdiv t105 8)))) 0 (wrap64 (t108 - (wrap64 (Int.tdiv t111 8)))) = some (r1, r2, r3, r4, r5)) ∧ Aside0 (kq ≤ k) ∧ Aside0 (wc.heap[gb101]? = some (.cells #[.int .i64 0, .int .i64 0, .int .i64 0] 37 (0, 0))) ∧ Aside0 (wc.heap[gb114]? = some (.cells #[.int .i64 (wrap64 (t102 + (wrap64 (Int.tdiv t105 8)))), .int .i64 0, .int .i64 (wrap64 (t108 - (wrap64 (Int.tdiv t111 8))))] 37 (0, 0))) ∧ Aside0 (IsS89 w0 wc g s0_0 x1001_5 x1002_5) ∧ Aside0 (KeepBut w wc g none) ∧ Aside0 (Below w0.heap.size w0 wc))
 case first =>
  have H := HC6.out
  clear HC6
  by_cases c16 : (wrap64 (t102 + (wrap64 (Int.tdiv t105 8)))) = 2
  ·rw [if_pos c16] at H
   have c16b0 : ((wrap64 (t102 + (wrap64 (Int.tdiv t105 8)))) == 2) = true := beq_iff_eq.mpr c16
   have c16b1 : ((wrap64 (t102 + (wrap64 (Int.tdiv t105 8)))) != 2) = false := bne_eq_false_iff_eq.mpr c16
   clear c16
   (first | rw [c16b0] | (simp only [i64_w, i32_w]; rw [c16b0]) | skip)
   have H' := am H
   clear H
   have hnb17 := NB114_101.out
   have hnc17 := NB101_114.out
   have hnb18 := NB114_0.out
   have hnc18 := NB0_114.out
   obtain ⟨hcz19_0, hcz19_1, hcz19_2, hfz19_0, hfz19_1, hfz19_2⟩ := uZ3 BK114
   go_wp2
   go_meet
   case rel => exact ⟨_, (true), (t112), (t113), (by first | rfl | (simp; done) | (simp [*]; done)), H', ⟨by first | omega | exact Nat.le_refl _⟩, ⟨by refine blk_far ?_ NB101_114.out _; refine blk_far ?_ NB101_114.out _; refine blk_far ?_ NB101_114.out _; exact (uP BK101)⟩, ⟨by refine blk_put (cs := #[.int .i64 (wrap64 (t102 + (wrap64 (Int.tdiv t105 8)))), .int .i64 0, .int .i64 0]) ?_ 2 _ rfl; refine blk_put (cs := #[.int .i64 (wrap64 (t102 + (wrap64 (Int.tdiv t105 8)))), .int .i64 0, .int .i64 0]) ?_ 1 _ rfl; refine blk_put (cs := #[.int .i64 0, .int .i64 0, .int .i64 0]) ?_ 0 _ rfl; exact (uP BK114)⟩, ⟨by exact uI⟩, ⟨by exact uV⟩, ⟨by exact uW⟩⟩
  ·rw [if_neg c16] at H
   have c16b0 : ((wrap64 (t102 + (wrap64 (Int.tdiv t105 8)))) == 2) = false := beq_eq_false_iff_ne.mpr c16
   have c16b1 : ((wrap64 (t102 + (wrap64 (Int.tdiv t105 8)))) != 2) = true := bne_iff_ne.mpr c16
   (first | rw [c16b0] | (simp only [i64_w, i32_w]; rw [c16b0]) | skip)
   by_cases c20 : (wrap64 (t102 + (wrap64 (Int.tdiv t105 8)))) = 4
   ·rw [if_pos c20] at H
    have c20b0 : ((wrap64 (t102 + (wrap64 (Int.tdiv t105 8)))) == 4) = true := beq_iff_eq.mpr c20
    have c20b1 : ((wrap64 (t102 + (wrap64 (Int.tdiv t105 8)))) != 4) = false := bne_eq_false_iff_eq.mpr c20
    clear c20
    have H' := am H
    clear H
    have hnb21 := NB114_101.out
    have hnc21 := NB101_114.out
    have hnb22 := NB114_0.out
    have hnc22 := NB0_114.out
    obtain ⟨hcz23_0, hcz23_1, hcz23_2, hfz23_0, hfz23_1, hfz23_2⟩ := uZ3 BK114
    go_wp2
    go_meet
    case rel => exact ⟨_, (true), (t112), (t113), (by first | rfl | (simp; done) | (simp [*]; done)), H', ⟨by first | omega | exact Nat.le_refl _⟩, ⟨by refine blk_far ?_ NB101_114.out _; refine blk_far ?_ NB101_114.out _; refine blk_far ?_ NB101_114.out _; exact (uP BK101)⟩, ⟨by refine blk_put (cs := #[.int .i64 (wrap64 (t102 + (wrap64 (Int.tdiv t105 8)))), .int .i64 0, .int .i64 0]) ?_ 2 _ rfl; refine blk_put (cs := #[.int .i64 (wrap64 (t102 + (wrap64 (Int.tdiv t105 8)))), .int .i64 0, .int .i64 0]) ?_ 1 _ rfl; refine blk_put (cs := #[.int .i64 0, .int .i64 0, .int .i64 0]) ?_ 0 _ rfl; exact (uP BK114)⟩, ⟨by exact uI⟩, ⟨by exact uV⟩, ⟨by exact uW⟩⟩
   ·rw [if_neg c20] at H
    have c20b0 : ((wrap64 (t102 + (wrap64 (Int.tdiv t105 8)))) == 4) = false := beq_eq_false_iff_ne.mpr c20
    have c20b1 : ((wrap64 (t102 + (wrap64 (Int.tdiv t105 8)))) != 4) = true := bne_iff_ne.mpr c20
    replace H := bH H
    obtain ⟨⟨t115, t116, t117⟩, A240, H⟩ := H
    replace H : (spec_l1Cur_clue.j0 k t115 s0_0 t116 t117 (wrap64 (t102 + (wrap64 (Int.tdiv t105 8)))) 0 (wrap64 (t108 - (wrap64 (Int.tdiv t111 8))))) = some (r1, r2, r3, r4, r5) := H
    have A24 := am A240
    clear A240
    have H' := am H
    clear H
    have hnb25 := NB114_101.out
    have hnc25 := NB101_114.out
    have hnb26 := NB114_0.out
    have hnc26 := NB0_114.out
    obtain ⟨hcz27_0, hcz27_1, hcz27_2, hfz27_0, hfz27_1, hfz27_2⟩ := uZ3 BK114
    go_wp2_with (first | (go_at_call 57; (with_reducible refine (spec_l1Cur_one.calls g s0_0 t112 t113 10 t115 t116 t117 w0 _ ?side1 ?side2 A24.out).mono ?_); (case side1 => exact uI); (case side2 => exact uW); rintro e w28 ⟨rfl, hi, hb, hk⟩; replace BK101 := am (KeepBut.blk hk (g' := gb101) (o := .cells #[.int .i64 0, .int .i64 0, .int .i64 0] 37 (0, 0)) (by refine blk_far ?_ NB101_114.out _; refine blk_far ?_ NB101_114.out _; refine blk_far ?_ NB101_114.out _; exact (uP BK101)) NB101_0.out (by simp)); replace BK114 := am (KeepBut.blk hk (g' := gb114) (o := .cells #[.int .i64 (wrap64 (t102 + (wrap64 (Int.tdiv t105 8)))), .int .i64 0, .int .i64 (wrap64 (t108 - (wrap64 (Int.tdiv t111 8))))] 37 (0, 0)) (by refine blk_put (cs := #[.int .i64 (wrap64 (t102 + (wrap64 (Int.tdiv t105 8)))), .int .i64 0, .int .i64 0]) ?_ 2 _ rfl; refine blk_put (cs := #[.int .i64 (wrap64 (t102 + (wrap64 (Int.tdiv t105 8)))), .int .i64 0, .int .i64 0]) ?_ 1 _ rfl; refine blk_put (cs := #[.int .i64 0, .int .i64 0, .int .i64 0]) ?_ 0 _ rfl; exact (uP BK114)) NB114_0.out (by simp)); replace HK := am (KeepBut.trans uV hk (.inl rfl)); replace HB := am (hb); replace HI0 := am (hi); (try clear hb); (try clear hb2); (try clear hk); (try clear hi)))
    go_meet
    case rel => exact ⟨_, (t115), (t116), (t117), (by first | rfl | (simp; done) | (simp [*]; done)), H', ⟨by first | omega | exact Nat.le_refl _⟩, ⟨by (with_reducible repeat (first | refine bN ?_ _ | refine bD ?_ | refine bA ?_ _)); exact BK101.out⟩, ⟨by (with_reducible repeat (first | refine bN ?_ _ | refine bD ?_ | refine bA ?_ _)); exact BK114.out⟩, ⟨by exact uI⟩, ⟨by exact uV⟩, ⟨by exact uW⟩⟩
 case rest =>
  clear HC6
  try clear c1
  try clear c2
  try clear p2
  try clear c6
  try clear p6
  try clear c7
  try clear c13
  try clear c14
  try clear c16
  try clear c16b0
  try clear c16b1
  try clear c17
  try clear c18
  try clear c20
  try clear c20b0
  try clear c20b1
  try clear c21
  try clear c22
  try clear c25
  try clear c26
  try clear hcz15_0
  try clear hcz15_1
  try clear hcz15_2
  try clear hcz19_0
  try clear hcz19_1
  try clear hcz19_2
  try clear hcz23_0
  try clear hcz23_1
  try clear hcz23_2
  try clear hcz27_0
  try clear hcz27_1
  try clear hcz27_2
  try clear hfz15_0
  try clear hfz15_1
  try clear hfz15_2
  try clear hfz19_0
  try clear hfz19_1
  try clear hfz19_2
  try clear hfz23_0
  try clear hfz23_1
  try clear hfz23_2
  try clear hfz27_0
  try clear hfz27_1
  try clear hfz27_2
  obtain ⟨kq, x28_5, x1001_5, x1002_5, rfl, HA, HJ5, BK101, BK114, HI0, HK, HB⟩ := hcut
  cases kq with
  | zero => exact absurd HA.out (by simp [spec_l1Cur_clue.j0])
  | succ kj5 =>
   have H := HA.out
   clear HA
   simp only [spec_l1Cur_clue.j0] at H
   by_cases c29 : x28_5 = true
   ·subst c29
    have H1 : ((spec_l1Cur_pick.f s0_0 x1001_5 x1002_5 10).bind fun bt118 => ((spec_l1Cur_pick.f s0_0 bt118.2.1 bt118.2.2 3).bind fun bt121 => ((spec_l1Cur_pick.f s0_0 bt121.2.1 bt121.2.2 9).bind fun bt124 => (some ((wrap64 (t102 + (wrap64 (Int.tdiv t105 8)))), wrap64 (1 + bt118.1), wrap64 (bt121.1 - (wrap64 (Int.tdiv bt124.1 8))), bt124.2.1, bt124.2.2))))) = some (r1, r2, r3, r4, r5) := by rw [if_pos rfl] at H; exact H
    clear H
    have H := H1
    clear H1
    replace H := bH H
    obtain ⟨⟨t118, t119, t120⟩, A300, H⟩ := H
    replace H : ((spec_l1Cur_pick.f s0_0 t119 t120 3).bind fun bt121 => ((spec_l1Cur_pick.f s0_0 bt121.2.1 bt121.2.2 9).bind fun bt124 => (some ((wrap64 (t102 + (wrap64 (Int.tdiv t105 8)))), wrap64 (1 + t118), wrap64 (bt121.1 - (wrap64 (Int.tdiv bt124.1 8))), bt124.2.1, bt124.2.2)))) = some (r1, r2, r3, r4, r5) := H
    have A30 := am A300
    clear A300
    replace H := bH H
    obtain ⟨⟨t121, t122, t123⟩, A310, H⟩ := H
    replace H : ((spec_l1Cur_pick.f s0_0 t122 t123 9).bind fun bt124 => (some ((wrap64 (t102 + (wrap64 (Int.tdiv t105 8)))), wrap64 (1 + t118), wrap64 (t121 - (wrap64 (Int.tdiv bt124.1 8))), bt124.2.1, bt124.2.2))) = some (r1, r2, r3, r4, r5) := H
    have A31 := am A310
    clear A310
    replace H := bH H
    obtain ⟨⟨t124, t125, t126⟩, A320, H⟩ := H
    replace H : (some ((wrap64 (t102 + (wrap64 (Int.tdiv t105 8)))), wrap64 (1 + t118), wrap64 (t121 - (wrap64 (Int.tdiv t124 8))), t125, t126)) = some (r1, r2, r3, r4, r5) := H
    have A32 := am A320
    clear A320
    simp only [Option.some.injEq, Prod.mk.injEq] at H
    obtain ⟨rfl, rfl, rfl, rfl, rfl⟩ := H
    go_wp2_with (first | ((with_reducible refine gate_callee (f := 61) rfl ?_); refine uGo (some 30) Try.func61 #[.pointer (some ⟨g, 0, none⟩), .int .i64 10] ?_; (with_reducible refine (spec_l1Cur_pick.calls g s0_0 x1001_5 x1002_5 10 t118 t119 t120 w0 _ ?side1 ?side2 A30.out).mono ?_); (case side1 => exact uI); (case side2 => exact uW); rintro e w33 ⟨rfl, hi, hb, hk⟩; refine ⟨_, rfl, ?_⟩; replace BK101 := am (KeepBut.blk hk (uP BK101) NB101_0.out (by simp)); replace BK114 := am (KeepBut.blk hk (uP BK114) NB114_0.out (by simp)); replace HK := am (KeepBut.trans uV hk (.inl rfl)); replace HB := am (hb); replace HI0 := am (hi); (try clear hb); (try clear hb2); (try clear hk); (try clear hi); have hnb34 := NB114_101.out; have hnc34 := NB101_114.out; have hnb35 := NB114_0.out; have hnc35 := NB0_114.out; obtain ⟨hcz36_0, hcz36_1, hcz36_2, hfz36_0, hfz36_1, hfz36_2⟩ := uZ3 BK114) | ((with_reducible refine gate_callee (f := 61) rfl ?_); refine uGo (some 34) Try.func61 #[.pointer (some ⟨g, 0, none⟩), .int .i64 3] ?_; (with_reducible refine (spec_l1Cur_pick.calls g s0_0 t119 t120 3 t121 t122 t123 w0 _ ?side1 ?side2 A31.out).mono ?_); (case side1 => exact uI); (case side2 => exact uW); rintro e w37 ⟨rfl, hi, hb, hk⟩; refine ⟨_, rfl, ?_⟩; replace BK101 := am (KeepBut.blk hk (g' := gb101) (o := .cells #[.int .i64 0, .int .i64 0, .int .i64 0] 37 (0, 0)) (by refine blk_far ?_ NB101_114.out _; exact (uP BK101)) NB101_0.out (by simp)); replace BK114 := am (KeepBut.blk hk (g' := gb114) (o := .cells #[.int .i64 (wrap64 (t102 + (wrap64 (Int.tdiv t105 8)))), .int .i64 (wrap64 (1 + t118)), .int .i64 (wrap64 (t108 - (wrap64 (Int.tdiv t111 8))))] 37 (0, 0)) (by refine blk_put (cs := #[.int .i64 (wrap64 (t102 + (wrap64 (Int.tdiv t105 8)))), .int .i64 0, .int .i64 (wrap64 (t108 - (wrap64 (Int.tdiv t111 8))))]) ?_ 1 _ rfl; exact (uP BK114)) NB114_0.out (by simp)); replace HK := am (KeepBut.trans uV hk (.inl rfl)); replace HB := am (hb); replace HI0 := am (hi); (try clear hb); (try clear hb2); (try clear hk); (try clear hi)) | ((with_reducible refine gate_callee (f := 61) rfl ?_); refine uGo (some 36) Try.func61 #[.pointer (some ⟨g, 0, none⟩), .int .i64 9] ?_; (with_reducible refine (spec_l1Cur_pick.calls g s0_0 t122 t123 9 t124 t125 t126 w0 _ ?side1 ?side2 A32.out).mono ?_); (case side1 => exact uI); (case side2 => exact uW); rintro e w38 ⟨rfl, hi, hb, hk⟩; refine ⟨_, rfl, ?_⟩; replace BK101 := am (KeepBut.blk hk (uP BK101) NB101_0.out (by simp)); replace BK114 := am (KeepBut.blk hk (uP BK114) NB114_0.out (by simp)); replace HK := am (KeepBut.trans uV hk (.inl rfl)); replace HB := am (hb); replace HI0 := am (hi); (try clear hb); (try clear hb2); (try clear hk); (try clear hi); obtain ⟨hcz39_0, hcz39_1, hcz39_2, hfz39_0, hfz39_1, hfz39_2⟩ := uZ3 BK114; have hnb40 := NB101_0.out; have hnc40 := NB0_101.out; obtain ⟨hcz41_0, hcz41_1, hcz41_2, hfz41_0, hfz41_1, hfz41_2⟩ := uZ3 BK101))
    refine bodyPost_ret (results_cell_row rfl _ _ gb101 37 #[.int .i64 (wrap64 (t102 + (wrap64 (Int.tdiv t105 8)))), .int .i64 (wrap64 (1 + t118)), .int .i64 (wrap64 (t121 - (wrap64 (Int.tdiv t124 8))))] (0, 0) _ rfl (by refine blk_put (cs := #[.int .i64 (wrap64 (t102 + (wrap64 (Int.tdiv t105 8)))), .int .i64 (wrap64 (1 + t118)), .int .i64 0]) ?_ 2 _ rfl; refine blk_put (cs := #[.int .i64 (wrap64 (t102 + (wrap64 (Int.tdiv t105 8)))), .int .i64 0, .int .i64 0]) ?_ 1 _ rfl; refine blk_put (cs := #[.int .i64 0, .int .i64 0, .int .i64 0]) ?_ 0 _ rfl; refine blk_far ?_ NB101_114.out _; exact (uP BK101)) Try.underlying37 rfl (by kernel_rfl)) rfl ?_
    exact ⟨uA, by exact uI, by exact uW, by exact uV⟩
   ·replace c29 := Bool.eq_false_iff.mpr c29
    subst c29
    have H1 : (some ((wrap64 (t102 + (wrap64 (Int.tdiv t105 8)))), 0, (wrap64 (t108 - (wrap64 (Int.tdiv t111 8)))), x1001_5, x1002_5)) = some (r1, r2, r3, r4, r5) := by rw [if_neg (show ¬ (false = true) by decide)] at H; exact H
    clear H
    have H := H1
    clear H1
    simp only [Option.some.injEq, Prod.mk.injEq] at H
    obtain ⟨rfl, rfl, rfl, rfl, rfl⟩ := H
    have hnb42 := NB114_101.out
    have hnc42 := NB101_114.out
    have hnb43 := NB114_0.out
    have hnc43 := NB0_114.out
    obtain ⟨hcz44_0, hcz44_1, hcz44_2, hfz44_0, hfz44_1, hfz44_2⟩ := uZ3 BK114
    have hnb45 := NB101_0.out
    have hnc45 := NB0_101.out
    obtain ⟨hcz46_0, hcz46_1, hcz46_2, hfz46_0, hfz46_1, hfz46_2⟩ := uZ3 BK101
    go_wp2
    refine bodyPost_ret (results_cell_row rfl _ _ gb101 37 #[.int .i64 (wrap64 (t102 + (wrap64 (Int.tdiv t105 8)))), .int .i64 0, .int .i64 (wrap64 (t108 - (wrap64 (Int.tdiv t111 8))))] (0, 0) _ rfl (by refine blk_put (cs := #[.int .i64 (wrap64 (t102 + (wrap64 (Int.tdiv t105 8)))), .int .i64 0, .int .i64 0]) ?_ 2 _ rfl; refine blk_put (cs := #[.int .i64 (wrap64 (t102 + (wrap64 (Int.tdiv t105 8)))), .int .i64 0, .int .i64 0]) ?_ 1 _ rfl; refine blk_put (cs := #[.int .i64 0, .int .i64 0, .int .i64 0]) ?_ 0 _ rfl; exact (uP BK101)) Try.underlying37 rfl (by kernel_rfl)) rfl ?_
    exact ⟨uA, by exact uI, by exact uW, by exact uV⟩
def spec_DrawDoesFit.j0 : Nat → Int → Bool → List Int → Int → Int → Int → Int → Int → Int → List (S37) → Option (Int × Int × Int × Int × Int × Int)
 | 0, _, _, _, _, _, _, _, _, _, _ => none
 | k + 1, x7, x30, x104000, x104001, x104002, x110000, x110001, x120000, x120001, x120002 => if x30 = true then (if 0 < (x120002.length : Int) then (some (x110000, x110001, (rd_T37 x120002 0).f0, (rd_T37 x120002 0).f1, (rd_T37 x120002 0).f2, x7)) else (none)) else ((spec_l1Cur_one.f x104000 x104001 x104002 10).bind fun bt124 => (if bt124.1 = true then ((spec_l1Cur_among.f x104000 bt124.2.1 bt124.2.2 (([(-1), 0, 1, 40, 41] : List Int))).bind fun bt130 => ((spec_l1Cur_clue.f k x104000 bt130.2.1 bt130.2.2).bind fun bt133 => (some (x110000, x110001, bt133.1, bt133.2.1, bt133.2.2.1, bt130.1)))) else ((spec_l1Cur_clue.f k x104000 bt124.2.1 bt124.2.2).bind fun bt138 => (some (x110000, x110001, bt138.1, bt138.2.1, bt138.2.2.1, x7)))))
def spec_DrawDoesFit.f (k : Nat) (l0 : List Int) : Option (Int × Int × Int × Int × Int × Int) := (spec_l1Cur_hidden.f l0 0 0).bind fun bt104 => ((spec_l1Cur_pick.f l0 bt104.2.2.2.1 bt104.2.2.2.2 10000).bind fun bt110 => ((spec_MakePuzzle.f k bt104.1 bt104.2.1 bt104.2.2.1 1 bt110.1).bind fun bt113 => (if bt113.2.2.2 = true then ((spec_l1Cur_one.f l0 bt110.2.1 bt110.2.2 3).bind fun bt120 => (spec_DrawDoesFit.j0 k bt104.2.2.1 bt120.1 l0 bt120.2.1 bt120.2.2 bt104.1 bt104.2.1 bt113.1 bt113.2.1 bt113.2.2.1)) else (spec_DrawDoesFit.j0 k bt104.2.2.1 false l0 bt110.2.1 bt110.2.2 bt104.1 bt104.2.1 bt113.1 bt113.2.1 bt113.2.2.1))))
def spec_DrawDoesFit.T3 : Bool × List (List Nat × List Nat) := (true, [([], []), ([], []), ([], []), ([2], [2]), ([0, 1, 3, 3], [0, 1, 3]), ([4], [4]), ([5], [5]), ([5], [5]), ([], []), ([8, 6, 4, 0, 1, 2, 3, 4, 5, 6, 8], [6, 8]), ([7, 9, 0, 1, 2, 3, 4, 5, 6, 7, 8, 9], [7])])
def spec_DrawDoesFit.B3 : List Nat := [0, 0, 0, 4, 15, 31, 63, 63, 0, 383, 1023]
theorem spec_DrawDoesFit.tab3 : rtab .any (opsOf Try.f35 3) = spec_DrawDoesFit.T3 := by kernel_rfl
theorem spec_DrawDoesFit.bits3 : waitsOk spec_DrawDoesFit.T3.2 spec_DrawDoesFit.B3 = true := by kernel_rfl
def spec_DrawDoesFit.T5 : Bool × List (List Nat × List Nat) := (true, [([], []), ([], []), ([1], [1]), ([2], [2]), ([3], [3]), ([], []), ([0, 0], [0]), ([4, 6, 0, 1, 2, 3, 4, 6], [4]), ([5, 7, 0, 1, 2, 3, 4, 5, 6, 7], [5])])
def spec_DrawDoesFit.B5 : List Nat := [0, 0, 2, 6, 14, 0, 1, 95, 255]
theorem spec_DrawDoesFit.tab5 : rtab .any (opsOf Try.f35 5) = spec_DrawDoesFit.T5 := by kernel_rfl
theorem spec_DrawDoesFit.bits5 : waitsOk spec_DrawDoesFit.T5.2 spec_DrawDoesFit.B5 = true := by kernel_rfl
theorem spec_DrawDoesFit.calls (k : Nat) (A0 : Option Addr) (c0 : Nat) (l0 : List Int) (r1 : Int) (r2 : Int) (r3 : Int) (r4 : Int) (r5 : Int) (r6 : Int) (w : World) (hr0 : Kd.C (Kd.int .u8) w A0 l0.length l0) (hc0 : l0.length ≤ c0) (h : spec_DrawDoesFit.f k l0 = some (r1, r2, r3, r4, r5, r6)) :
  Calls Try.prog 35 #[.slice A0 l0.length c0] w fun e w' => e = .returned (.tuple #[.agg #[.int .i64 r1, .int .i64 r2], .agg #[.int .i64 r3, .int .i64 r4, .int .i64 r5], .int .i64 r6]) ∧ Below w.heap.size w w' := by
 have hu30 := Try.underlying30
 have hu37 := Try.underlying37
 have hu89 := Try.underlying89
 have hu33 := Try.underlying33
 have HR0 := am hr0
 have HC0 := am hc0
 clear hr0 hc0
 have HB := am (Below.refl w.heap.size w)
 have H : ((spec_l1Cur_hidden.f l0 0 0).bind fun bt104 => ((spec_l1Cur_pick.f l0 bt104.2.2.2.1 bt104.2.2.2.2 10000).bind fun bt110 => ((spec_MakePuzzle.f k bt104.1 bt104.2.1 bt104.2.2.1 1 bt110.1).bind fun bt113 => (if bt113.2.2.2 = true then ((spec_l1Cur_one.f l0 bt110.2.1 bt110.2.2 3).bind fun bt120 => (spec_DrawDoesFit.j0 k bt104.2.2.1 bt120.1 l0 bt120.2.1 bt120.2.2 bt104.1 bt104.2.1 bt113.1 bt113.2.1 bt113.2.2.1)) else (spec_DrawDoesFit.j0 k bt104.2.2.1 false l0 bt110.2.1 bt110.2.2 bt104.1 bt104.2.1 bt113.1 bt113.2.1 bt113.2.2.1))))) = some (r1, r2, r3, r4, r5, r6) := h
 clear h
 replace H := bH H
 obtain ⟨⟨t104, t105, t106, t107, t108⟩, A20, H⟩ := H
 replace H : ((spec_l1Cur_pick.f l0 t107 t108 10000).bind fun bt110 => ((spec_MakePuzzle.f k t104 t105 t106 1 bt110.1).bind fun bt113 => (if bt113.2.2.2 = true then ((spec_l1Cur_one.f l0 bt110.2.1 bt110.2.2 3).bind fun bt120 => (spec_DrawDoesFit.j0 k t106 bt120.1 l0 bt120.2.1 bt120.2.2 t104 t105 bt113.1 bt113.2.1 bt113.2.2.1)) else (spec_DrawDoesFit.j0 k t106 false l0 bt110.2.1 bt110.2.2 t104 t105 bt113.1 bt113.2.1 bt113.2.2.1)))) = some (r1, r2, r3, r4, r5, r6) := H
 have A2 := am A20
 clear A20
 replace H := bH H
 obtain ⟨⟨t110, t111, t112⟩, A30, H⟩ := H
 replace H : ((spec_MakePuzzle.f k t104 t105 t106 1 t110).bind fun bt113 => (if bt113.2.2.2 = true then ((spec_l1Cur_one.f l0 t111 t112 3).bind fun bt120 => (spec_DrawDoesFit.j0 k t106 bt120.1 l0 bt120.2.1 bt120.2.2 t104 t105 bt113.1 bt113.2.1 bt113.2.2.1)) else (spec_DrawDoesFit.j0 k t106 false l0 t111 t112 t104 t105 bt113.1 bt113.2.1 bt113.2.2.1))) = some (r1, r2, r3, r4, r5, r6) := H
 have A3 := am A30
 clear A30
 replace H := bH H
 obtain ⟨⟨t113, t114, t115, t118⟩, A40, H⟩ := H
 replace H : (if t118 = true then ((spec_l1Cur_one.f l0 t111 t112 3).bind fun bt120 => (spec_DrawDoesFit.j0 k t106 bt120.1 l0 bt120.2.1 bt120.2.2 t104 t105 t113 t114 t115)) else (spec_DrawDoesFit.j0 k t106 false l0 t111 t112 t104 t105 t113 t114 t115)) = some (r1, r2, r3, r4, r5, r6) := H
 have A4 := am A40
 clear A40
 have HC5 := am H
 clear H
 go_enter Try.func35, Try.ntmps35
 try go_wp2_with (first | ((with_reducible refine gate_dst (N := 2) rfl ?_); refine uX (N := 2) (cs := #[.int .i64 0, .int .i64 0]) (t := 30) ?_; intro gb101 hg w6 hbox hb; have BK101 := am (hbox); have GW101 := uE hg; have GE101 := GW101; replace HB := uS hb; clear hb hbox hg) | ((with_reducible refine gate_dst (N := 3) rfl ?_); refine uX (N := 3) (cs := #[.int .i64 0, .int .i64 0, .int .i64 0]) (t := 37) ?_; intro gb102 hg w7 hbox hb; have BK102 := am (hbox); have GW102 := uE hg; have GE102 := GW102; have NB101_102 := uL BK101 hg; have NB102_101 := uY NB101_102; replace BK101 := uB BK101 hb; replace HB := uS hb; clear hb hbox hg) | ((with_reducible refine gate_dst (N := 12) rfl ?_); refine uX (N := 12) (cs := #[.slice A0 l0.length c0, .int .i64 0, .int .u64 0]) (t := 89) ?_; intro gb103 hg w8 hbox hb; have BK103 := am (hbox); have GW103 := uE hg; have GE103 := GW103; have NB101_103 := uL BK101 hg; have NB103_101 := uY NB101_103; have NB102_103 := uL BK102 hg; have NB103_102 := uY NB102_103; replace BK101 := uB BK101 hb; replace BK102 := uB BK102 hb; replace HB := uS hb; clear hb hbox hg) | ((with_reducible refine gate_callee (f := 60) rfl ?_); refine uGo (some 15) Try.func60 #[.pointer (some ⟨gb103, 0, none⟩)] ?_; (with_reducible refine (spec_l1Cur_hidden.calls gb103 l0 0 0 t104 t105 t106 t107 t108 w _ ?side1 ?side2 A2.out).mono ?_); (case side1 => exact ⟨_, _, by (with_reducible repeat (first | refine bN ?_ _ | refine bD ?_ | refine bA ?_ _)); exact BK103.out, GE103.out, HR0.out⟩); (case side2 => exact uW); rintro e w9 ⟨rfl, hi, hb, hk⟩; refine ⟨_, rfl, ?_⟩; have HI103 := am (hi); replace BK101 := am (KeepBut.blk hk (uP BK101) NB101_103.out (by simp)); replace BK102 := am (KeepBut.blk hk (uP BK102) NB102_103.out (by simp)); replace HB := am (hb); clear BK103; (try clear hb); (try clear hb2); (try clear hk); (try clear hi)) | ((with_reducible refine gate_dst (N := 6) rfl ?_); refine uX (N := 6) (cs := #[.int .i64 0, .int .i64 0]) (t := 30) ?_; intro gb109 hg w10 hbox hb; have BK109 := am (hbox); have GW109 := uE hg; have GE109 := GW109; have NB101_109 := uL BK101 hg; have NB109_101 := uY NB101_109; have NB102_109 := uL BK102 hg; have NB109_102 := uY NB102_109; have NB103_109 := am ((by rw [hg]; exact Nat.ne_of_lt (IsS89.lt (show IsS89 w _ gb103 l0 t107 t108 from by exact uI)) : gb103 ≠ gb109)); have NB109_103 := am ((by rw [hg]; exact Nat.ne_of_gt (IsS89.lt (show IsS89 w _ gb103 l0 t107 t108 from by exact uI)) : gb109 ≠ gb103)); replace BK101 := uB BK101 hb; replace BK102 := uB BK102 hb; replace HI103 := am (IsS89.below uI hb); replace HB := uS hb; clear hb hbox hg; have hnb11 := NB109_101.out; have hnc11 := NB101_109.out; have hnb12 := NB109_102.out; have hnc12 := NB102_109.out; have hnb13 := NB109_103.out; have hnc13 := NB103_109.out; obtain ⟨hcz14_0, hcz14_1, hfz14_0, hfz14_1⟩ := uZ2 BK109))
 have n0_ : Aside0 (((w10.setCell ⟨gb109, 0, none⟩ (.int .i64 t104)).setCell ⟨gb109, 1, none⟩ (.int .i64 t105)).heap[gb101]? = some (.cells #[.int .i64 0, .int .i64 0] 30 (0, 0))) := ⟨by refine blk_far ?_ NB101_109.out _; refine blk_far ?_ NB101_109.out _; exact (uP BK101)⟩
 have n1_ : Aside0 (((w10.setCell ⟨gb109, 0, none⟩ (.int .i64 t104)).setCell ⟨gb109, 1, none⟩ (.int .i64 t105)).heap[gb102]? = some (.cells #[.int .i64 0, .int .i64 0, .int .i64 0] 37 (0, 0))) := ⟨by refine blk_far ?_ NB102_109.out _; refine blk_far ?_ NB102_109.out _; exact (uP BK102)⟩
 have n2_ : Aside0 (((w10.setCell ⟨gb109, 0, none⟩ (.int .i64 t104)).setCell ⟨gb109, 1, none⟩ (.int .i64 t105)).heap[gb109]? = some (.cells #[.int .i64 t104, .int .i64 t105] 30 (0, 0))) := ⟨by refine blk_put (cs := #[.int .i64 t104, .int .i64 0]) ?_ 1 _ rfl; refine blk_put (cs := #[.int .i64 0, .int .i64 0]) ?_ 0 _ rfl; exact (uP BK109)⟩
 have n3_ : Aside0 (IsS89 w ((w10.setCell ⟨gb109, 0, none⟩ (.int .i64 t104)).setCell ⟨gb109, 1, none⟩ (.int .i64 t105)) gb103 l0 t107 t108) := ⟨by exact uI⟩
 have n4_ : Aside0 (Below w.heap.size w ((w10.setCell ⟨gb109, 0, none⟩ (.int .i64 t104)).setCell ⟨gb109, 1, none⟩ (.int .i64 t105))) := ⟨by exact uW⟩
 (try clear BK101)
 (try clear BK102)
 (try clear BK109)
 (try clear HI103)
 (try clear HB)
 generalize ((w10.setCell ⟨gb109, 0, none⟩ (.int .i64 t104)).setCell ⟨gb109, 1, none⟩ (.int .i64 t105)) = w15 at n0_ n1_ n2_ n3_ n4_ ⊢
 have BK101 := n0_
 have BK102 := n1_
 have BK109 := n2_
 have HI103 := n3_
 have HB := n4_
 clear n0_ n1_ n2_ n3_ n4_
 replace BK101 := am (blk_drew BK101.out)
 replace BK102 := am (blk_drew BK102.out)
 replace BK109 := am (blk_drew BK109.out)
 replace HI103 := am (IsS89.drew HI103.out)
 replace HB := am (below_drew1 HB.out)
 refine start_ (n := 11) (S := fun w' => w'.cell? ⟨gb109, 0, none⟩ = some (.int .i64 t104) ∧ w'.cell? ⟨gb109, 1, none⟩ = some (.int .i64 t105)) (ds := []) #[false, false, false, false, false, false, false, false, false, false, false] (by kernel_rfl) rfl rfl ⟨uT BK109 0, uT BK109 1⟩ (fun hHeld => ?_); refine with_tabW spec_DrawDoesFit.tab3 spec_DrawDoesFit.bits3 (fun HT_ HW_ => ?_)
 generalize w15.drew = w16 at BK101 BK102 BK109 HI103 HB hHeld ⊢
 refine uPu (i := 1) (N := some 20) #[false, true, false, false, false, false, false, false, false, false, false] ?_
 refine uPu (i := 2) (N := some 21) #[false, true, true, false, false, false, false, false, false, false, false] ?_
 refine uTk (i := 0) (N := some 19) #[true, true, true, false, false, false, false, false, false, false, false] hHeld ?_
 refine join_ (σ := Value × Nat) 2 #[true, true, true, true, true, true, true, true, true, false, false] (fun s_ => [(22, .int .i64 t110), (23, .tuple #[.agg #[.int .i64 t113, .int .i64 t114, s_.1], .bool t118]), (8, .pointer (some ⟨s_.2, 0, none⟩)), (18, .tuple #[.agg #[.int .i64 t113, .int .i64 t114, s_.1], .bool t118]), (24, .agg #[.int .i64 t113, .int .i64 t114, s_.1]), (25, .bool t118)]) (fun s_ w' => (w'.cell? ⟨gb109, 0, none⟩ = some (.int .i64 t104) ∧ w'.cell? ⟨gb109, 1, none⟩ = some (.int .i64 t105)) ∧ (Kd.R k37 37 w' w.heap.size (fun k_ => k_ ≠ gb102) s_.1 t115) ∧ (w'.heap[gb101]? = some (.cells #[.int .i64 0, .int .i64 0] 30 (0, 0))) ∧ (w'.heap[gb102]? = some (.cells #[.int .i64 0, .int .i64 0, .int .i64 0] 37 (0, 0))) ∧ (w'.heap[gb109]? = some (.cells #[.int .i64 t104, .int .i64 t105] 30 (0, 0))) ∧ (w'.heap[s_.2]? = some (.cells #[.int .i64 0, .int .i64 0, .slice none 0 0] 33 (0, 0))) ∧ (w.heap.size ≤ s_.2) ∧ (w.heap.size ≤ s_.2) ∧ (gb103 ≠ s_.2) ∧ (s_.2 ≠ gb103) ∧ (gb101 ≠ s_.2) ∧ (s_.2 ≠ gb101) ∧ (gb102 ≠ s_.2) ∧ (s_.2 ≠ gb102) ∧ (gb109 ≠ s_.2) ∧ (s_.2 ≠ gb109) ∧ (IsS89 w w' gb103 l0 t111 t112) ∧ (Below w.heap.size w w')) ?_ ?_
 rotate_left
 ·intro hCont
  refine two_ (i := 3) (j := 8) (Ni := some 22) (Nj := some 8) #[true, true, true, true, false, false, false, false, false, false, false] #[true, true, true, false, false, false, false, false, true, false, false] rfl rfl rfl rfl (two_of HT_.out (by kernel_rfl)) (by decide) (by decide) (fun K hK => ?_) (fun K hK => ?_)
  ·skip
   refine uGs Try.func61 #[.pointer (some ⟨gb103, 0, none⟩), .int .i64 10000] ?_
   with_reducible refine (spec_l1Cur_pick.calls gb103 l0 t107 t108 10000 t110 t111 t112 w _ ?side1 ?side2 A3.out).mono ?_
   (case side1 => exact uI)
   (case side2 => exact uW)
   rintro e w17 ⟨rfl, hi, hb, hk⟩
   refine ⟨_, rfl, ?_⟩
   replace BK101 := am (KeepBut.blk hk (uP BK101) NB101_103.out (by simp))
   replace BK102 := am (KeepBut.blk hk (uP BK102) NB102_103.out (by simp))
   replace BK109 := am (KeepBut.blk hk (uP BK109) NB109_103.out (by simp))
   replace HB := am (hb)
   replace HI103 := am (hi)
   (try clear hb)
   (try clear hb2)
   (try clear hk)
   (try clear hi)
   refine hK.out _ _ ⟨uT BK109 0, uT BK109 1⟩ (fun hHeld => ?_)
   clear hK K
   refine uNo (some 22) ?_
   refine two_ (i := 4) (j := 8) (Ni := some 23) (Nj := some 8) #[true, true, true, true, true, false, false, false, false, false, false] #[true, true, true, true, false, false, false, false, true, false, false] rfl rfl rfl rfl (two_of HT_.out (by kernel_rfl)) (by decide) (by decide) (fun K hK => ?_) (fun K hK => ?_)
   ·skip
    refine uGs Try.func14 #[.agg #[.int .i64 t104, .int .i64 t105], .int .i64 t106, .int .i64 1, .int .i64 t110] ?_
    with_reducible refine (spec_MakePuzzle.calls k t104 t105 t106 1 t110 t113 t114 t115 t118 _ A4.out).mono ?_
    rintro e w18 ⟨v116, rfl, ho0, hb⟩
    refine ⟨_, rfl, ?_⟩
    have HO117 := am (Kd.R_lower (Kd.R_newB ho0 (uP BK102)) (below_size uW))
    replace BK101 := uB BK101 hb
    replace BK102 := uB BK102 hb
    replace HI103 := am (IsS89.below uI hb)
    replace BK109 := uB BK109 hb
    replace HB := uS hb
    (try clear hb)
    (try clear hb2)
    (try clear hk)
    (try clear hi)
    (try clear ho0)
    refine hK.out _ _ ⟨uT BK109 0, uT BK109 1⟩ (fun hHeld => ?_)
    clear hK K
    refine uNo (some 23) ?_
    refine uPu (i := 5) (N := some 18) #[true, true, true, true, true, true, false, false, false, false, false] ?_
    refine uPu (i := 6) (N := some 24) #[true, true, true, true, true, true, true, false, false, false, false] ?_
    refine uPu (i := 7) (N := some 25) #[true, true, true, true, true, true, true, true, false, false, false] ?_
    refine uOn (i := 8) (N := some 8) #[true, true, true, true, true, true, true, true, true, false, false] (fun K hK => ?_)
    refine box_step ?hg (N := 8) ?hd (cs := #[.int .i64 0, .int .i64 0, .slice none 0 0]) (t := 33) ?hr ?_; (case hd => rfl); (case hg => rfl); (case hr => first | (go_simp; done) | (go_simp; rfl))
    intro gb119 hg w19 hbox hb
    have BK119 := am (hbox)
    have GW119 := uE hg
    have GE119 := GW119
    have NB101_119 := uL BK101 hg
    have NB119_101 := uY NB101_119
    have NB102_119 := uL BK102 hg
    have NB119_102 := uY NB102_119
    have NB109_119 := uL BK109 hg
    have NB119_109 := uY NB109_119
    have NB103_119 := am ((by rw [hg]; exact Nat.ne_of_lt (IsS89.lt (show IsS89 w _ gb103 l0 t111 t112 from by exact uI)) : gb103 ≠ gb119))
    have NB119_103 := am ((by rw [hg]; exact Nat.ne_of_gt (IsS89.lt (show IsS89 w _ gb103 l0 t111 t112 from by exact uI)) : gb119 ≠ gb103))
    replace HO117 := am (Kd.R_below (uR HO117) hb)
    replace BK101 := uB BK101 hb
    replace BK102 := uB BK102 hb
    replace HI103 := am (IsS89.below uI hb)
    replace BK109 := uB BK109 hb
    replace HB := uS hb
    clear hb hbox hg
    refine hK.out _ _ ⟨uT BK109 0, uT BK109 1⟩ (fun hHeld => ?_)
    clear hK K
    refine uNo (some 8) ?_
    exact norm_ (by simp only [putAll, Act.put, List.setIfInBounds_toArray, List.set_cons_zero, List.set_cons_succ]) (hCont (v116, gb119) _ ⟨hHeld, (by (with_reducible repeat (first | apply rA | apply rN | apply rD)); exact Kd.R_mono HO117.out (fun _ hk => hk.2)), (uP BK101), (uP BK102), (uP BK109), (uP BK119), GW119.out, GE119.out, NB103_119.out, NB119_103.out, NB101_119.out, NB119_101.out, NB102_119.out, NB119_102.out, NB109_119.out, NB119_109.out, uI, uW⟩)
   ·skip
    refine box_step ?hg (N := 8) ?hd (cs := #[.int .i64 0, .int .i64 0, .slice none 0 0]) (t := 33) ?hr ?_; (case hd => rfl); (case hg => rfl); (case hr => first | (go_simp; done) | (go_simp; rfl))
    intro gb119 hg w18 hbox hb
    have BK119 := am (hbox)
    have GW119 := uE hg
    have GE119 := GW119
    have NB101_119 := uL BK101 hg
    have NB119_101 := uY NB101_119
    have NB102_119 := uL BK102 hg
    have NB119_102 := uY NB102_119
    have NB109_119 := uL BK109 hg
    have NB119_109 := uY NB109_119
    have NB103_119 := am ((by rw [hg]; exact Nat.ne_of_lt (IsS89.lt (show IsS89 w _ gb103 l0 t111 t112 from by exact uI)) : gb103 ≠ gb119))
    have NB119_103 := am ((by rw [hg]; exact Nat.ne_of_gt (IsS89.lt (show IsS89 w _ gb103 l0 t111 t112 from by exact uI)) : gb119 ≠ gb103))
    replace BK101 := uB BK101 hb
    replace BK102 := uB BK102 hb
    replace HI103 := am (IsS89.below uI hb)
    replace BK109 := uB BK109 hb
    replace HB := uS hb
    clear hb hbox hg
    refine hK.out _ _ ⟨uT BK109 0, uT BK109 1⟩ (fun hHeld => ?_)
    clear hK K
    refine uNo (some 8) ?_
    refine uOn (i := 4) (N := some 23) #[true, true, true, true, true, false, false, false, true, false, false] (fun K hK => ?_)
    refine uGs Try.func14 #[.agg #[.int .i64 t104, .int .i64 t105], .int .i64 t106, .int .i64 1, .int .i64 t110] ?_
    with_reducible refine (spec_MakePuzzle.calls k t104 t105 t106 1 t110 t113 t114 t115 t118 _ A4.out).mono ?_
    rintro e w19 ⟨v116, rfl, ho0, hb⟩
    refine ⟨_, rfl, ?_⟩
    have HO117 := am (Kd.R_lower (Kd.R_newB ho0 (uP BK102)) (below_size uW))
    replace BK101 := uB BK101 hb
    replace BK102 := uB BK102 hb
    replace HI103 := am (IsS89.below uI hb)
    replace BK109 := uB BK109 hb
    replace BK119 := uB BK119 hb
    replace HB := uS hb
    (try clear hb)
    (try clear hb2)
    (try clear hk)
    (try clear hi)
    (try clear ho0)
    refine hK.out _ _ ⟨uT BK109 0, uT BK109 1⟩ (fun hHeld => ?_)
    clear hK K
    refine uNo (some 23) ?_
    refine uPu (i := 5) (N := some 18) #[true, true, true, true, true, true, false, false, true, false, false] ?_
    refine uPu (i := 6) (N := some 24) #[true, true, true, true, true, true, true, false, true, false, false] ?_
    refine uPu (i := 7) (N := some 25) #[true, true, true, true, true, true, true, true, true, false, false] ?_
    exact norm_ (by simp only [putAll, Act.put, List.setIfInBounds_toArray, List.set_cons_zero, List.set_cons_succ]) (hCont (v116, gb119) _ ⟨hHeld, (by (with_reducible repeat (first | apply rA | apply rN | apply rD)); exact Kd.R_mono HO117.out (fun _ hk => hk.2)), (uP BK101), (uP BK102), (uP BK109), (uP BK119), GW119.out, GE119.out, NB103_119.out, NB119_103.out, NB101_119.out, NB119_101.out, NB102_119.out, NB119_102.out, NB109_119.out, NB119_109.out, uI, uW⟩)
  ·skip
   refine box_step ?hg (N := 8) ?hd (cs := #[.int .i64 0, .int .i64 0, .slice none 0 0]) (t := 33) ?hr ?_; (case hd => rfl); (case hg => rfl); (case hr => first | (go_simp; done) | (go_simp; rfl))
   intro gb119 hg w17 hbox hb
   have BK119 := am (hbox)
   have GW119 := uE hg
   have GE119 := GW119
   have NB101_119 := uL BK101 hg
   have NB119_101 := uY NB101_119
   have NB102_119 := uL BK102 hg
   have NB119_102 := uY NB102_119
   have NB109_119 := uL BK109 hg
   have NB119_109 := uY NB109_119
   have NB103_119 := am ((by rw [hg]; exact Nat.ne_of_lt (IsS89.lt (show IsS89 w _ gb103 l0 t107 t108 from by exact uI)) : gb103 ≠ gb119))
   have NB119_103 := am ((by rw [hg]; exact Nat.ne_of_gt (IsS89.lt (show IsS89 w _ gb103 l0 t107 t108 from by exact uI)) : gb119 ≠ gb103))
   replace BK101 := uB BK101 hb
   replace BK102 := uB BK102 hb
   replace HI103 := am (IsS89.below uI hb)
   replace BK109 := uB BK109 hb
   replace HB := uS hb
   clear hb hbox hg
   refine hK.out _ _ ⟨uT BK109 0, uT BK109 1⟩ (fun hHeld => ?_)
   clear hK K
   refine uNo (some 8) ?_
   refine uOn (i := 3) (N := some 22) #[true, true, true, true, false, false, false, false, true, false, false] (fun K hK => ?_)
   refine uGs Try.func61 #[.pointer (some ⟨gb103, 0, none⟩), .int .i64 10000] ?_
   with_reducible refine (spec_l1Cur_pick.calls gb103 l0 t107 t108 10000 t110 t111 t112 w _ ?side1 ?side2 A3.out).mono ?_
   (case side1 => exact uI)
   (case side2 => exact uW)
   rintro e w18 ⟨rfl, hi, hb, hk⟩
   refine ⟨_, rfl, ?_⟩
   replace BK101 := am (KeepBut.blk hk (uP BK101) NB101_103.out (by simp))
   replace BK102 := am (KeepBut.blk hk (uP BK102) NB102_103.out (by simp))
   replace BK109 := am (KeepBut.blk hk (uP BK109) NB109_103.out (by simp))
   replace BK119 := am (KeepBut.blk hk (uP BK119) NB119_103.out (by simp))
   replace HB := am (hb)
   replace HI103 := am (hi)
   (try clear hb)
   (try clear hb2)
   (try clear hk)
   (try clear hi)
   refine hK.out _ _ ⟨uT BK109 0, uT BK109 1⟩ (fun hHeld => ?_)
   clear hK K
   refine uNo (some 22) ?_
   refine uOn (i := 4) (N := some 23) #[true, true, true, true, true, false, false, false, true, false, false] (fun K hK => ?_)
   refine uGs Try.func14 #[.agg #[.int .i64 t104, .int .i64 t105], .int .i64 t106, .int .i64 1, .int .i64 t110] ?_
   with_reducible refine (spec_MakePuzzle.calls k t104 t105 t106 1 t110 t113 t114 t115 t118 _ A4.out).mono ?_
   rintro e w19 ⟨v116, rfl, ho0, hb⟩
   refine ⟨_, rfl, ?_⟩
   have HO117 := am (Kd.R_lower (Kd.R_newB ho0 (uP BK102)) (below_size uW))
   replace BK101 := uB BK101 hb
   replace BK102 := uB BK102 hb
   replace HI103 := am (IsS89.below uI hb)
   replace BK109 := uB BK109 hb
   replace BK119 := uB BK119 hb
   replace HB := uS hb
   (try clear hb)
   (try clear hb2)
   (try clear hk)
   (try clear hi)
   (try clear ho0)
   refine hK.out _ _ ⟨uT BK109 0, uT BK109 1⟩ (fun hHeld => ?_)
   clear hK K
   refine uNo (some 23) ?_
   refine uPu (i := 5) (N := some 18) #[true, true, true, true, true, true, false, false, true, false, false] ?_
   refine uPu (i := 6) (N := some 24) #[true, true, true, true, true, true, true, false, true, false, false] ?_
   refine uPu (i := 7) (N := some 25) #[true, true, true, true, true, true, true, true, true, false, false] ?_
   exact norm_ (by simp only [putAll, Act.put, List.setIfInBounds_toArray, List.set_cons_zero, List.set_cons_succ]) (hCont (v116, gb119) _ ⟨hHeld, (by (with_reducible repeat (first | apply rA | apply rN | apply rD)); exact Kd.R_mono HO117.out (fun _ hk => hk.2)), (uP BK101), (uP BK102), (uP BK109), (uP BK119), GW119.out, GE119.out, NB103_119.out, NB119_103.out, NB101_119.out, NB119_101.out, NB102_119.out, NB119_102.out, NB109_119.out, NB119_109.out, uI, uW⟩)
 rintro ⟨v116, gb119⟩ w20 ⟨hS_, h0_, h1_, h2_, h3_, h4_, h5_, h6_, h7_, h8_, h9_, h10_, h11_, h12_, h13_, h14_, h15_, h16_⟩
 have n0_ : Aside0 (Kd.R k37 37 w20 w.heap.size (fun k_ => k_ ≠ gb102) v116 t115) := ⟨h0_⟩
 have n1_ : Aside0 (w20.heap[gb101]? = some (.cells #[.int .i64 0, .int .i64 0] 30 (0, 0))) := ⟨h1_⟩
 have n2_ : Aside0 (w20.heap[gb102]? = some (.cells #[.int .i64 0, .int .i64 0, .int .i64 0] 37 (0, 0))) := ⟨h2_⟩
 have n3_ : Aside0 (w20.heap[gb109]? = some (.cells #[.int .i64 t104, .int .i64 t105] 30 (0, 0))) := ⟨h3_⟩
 have n4_ : Aside0 (w20.heap[gb119]? = some (.cells #[.int .i64 0, .int .i64 0, .slice none 0 0] 33 (0, 0))) := ⟨h4_⟩
 have n5_ : Aside0 (w.heap.size ≤ gb119) := ⟨h5_⟩
 have n6_ : Aside0 (w.heap.size ≤ gb119) := ⟨h6_⟩
 have n7_ : Aside0 (gb103 ≠ gb119) := ⟨h7_⟩
 have n8_ : Aside0 (gb119 ≠ gb103) := ⟨h8_⟩
 have n9_ : Aside0 (gb101 ≠ gb119) := ⟨h9_⟩
 have n10_ : Aside0 (gb119 ≠ gb101) := ⟨h10_⟩
 have n11_ : Aside0 (gb102 ≠ gb119) := ⟨h11_⟩
 have n12_ : Aside0 (gb119 ≠ gb102) := ⟨h12_⟩
 have n13_ : Aside0 (gb109 ≠ gb119) := ⟨h13_⟩
 have n14_ : Aside0 (gb119 ≠ gb109) := ⟨h14_⟩
 have n15_ : Aside0 (IsS89 w w20 gb103 l0 t111 t112) := ⟨h15_⟩
 have n16_ : Aside0 (Below w.heap.size w w20) := ⟨h16_⟩
 clear BK101
 clear BK102
 clear BK109
 clear HI103
 clear HB
 clear h0_ h1_ h2_ h3_ h4_ h5_ h6_ h7_ h8_ h9_ h10_ h11_ h12_ h13_ h14_ h15_ h16_
 have HO117 := n0_
 have BK101 := n1_
 have BK102 := n2_
 have BK109 := n3_
 have BK119 := n4_
 have GW119 := n5_
 have GE119 := n6_
 have NB103_119 := n7_
 have NB119_103 := n8_
 have NB101_119 := n9_
 have NB119_101 := n10_
 have NB102_119 := n11_
 have NB119_102 := n12_
 have NB109_119 := n13_
 have NB119_109 := n14_
 have HI103 := n15_
 have HB := n16_
 clear n0_ n1_ n2_ n3_ n4_ n5_ n6_ n7_ n8_ n9_ n10_ n11_ n12_ n13_ n14_ n15_ n16_
 have hHeld : w20.cell? ⟨gb109, 0, none⟩ = some (.int .i64 t104) ∧ w20.cell? ⟨gb109, 1, none⟩ = some (.int .i64 t105) := hS_
 obtain ⟨Ao23, co23, eo23⟩ := Kd.R_slice HO117.out
 (first | subst eo23 | (injection eo23 with f1_ f2_ f3_; have f4_ := f1_.symm; have f5_ := f3_.symm; clear f1_ f2_ f3_; subst f4_; subst f5_))
 refine uNp ?_
 refine uOn (i := 9) (N := none) #[true, true, true, true, true, true, true, true, true, true, false] (fun K hK => ?_)
 have hs21 : w20.cell? ⟨gb119, 0, none⟩ = some (.int .i64 0) := uT BK119 0
 have hfs21 := blk_frozen BK119.out 0
 have hns21_0 := NB101_119.out
 have hns21_1 := NB102_119.out
 have hns21_2 := NB109_119.out
 have hms21_0 := NB119_101.out
 have hms21_1 := NB119_102.out
 have hms21_2 := NB119_109.out
 have hs22 : w20.cell? ⟨gb119, 1, none⟩ = some (.int .i64 0) := uT BK119 1
 have hfs22 := blk_frozen BK119.out 1
 have hns22_0 := NB101_119.out
 have hns22_1 := NB102_119.out
 have hns22_2 := NB109_119.out
 have hms22_0 := NB119_101.out
 have hms22_1 := NB119_102.out
 have hms22_2 := NB119_109.out
 have hs24 : w20.cell? ⟨gb119, 2, none⟩ = some (.slice none 0 0) := uT BK119 2
 have hfs24 := blk_frozen BK119.out 2
 have hns24_0 := NB101_119.out
 have hns24_1 := NB102_119.out
 have hns24_2 := NB109_119.out
 have hms24_0 := NB119_101.out
 have hms24_1 := NB119_102.out
 have hms24_2 := NB119_109.out
 refine skip_ (w1 := ?_) (by rfl) rfl ?_ ?_
 rotate_left
 ·go_simp
  rfl
 refine hK.out _ _ ⟨((cell_far (p := ⟨gb119, _, none⟩) NB109_119.out _).trans (((cell_far (p := ⟨gb119, _, none⟩) NB109_119.out _).trans (((cell_far (p := ⟨gb119, _, none⟩) NB109_119.out _).trans (hHeld.1)))))), ((cell_far (p := ⟨gb119, _, none⟩) NB109_119.out _).trans (((cell_far (p := ⟨gb119, _, none⟩) NB109_119.out _).trans (((cell_far (p := ⟨gb119, _, none⟩) NB109_119.out _).trans (hHeld.2))))))⟩ (fun hHeld => ?_)
 clear hK K
 refine uPu (i := 10) (N := some 9) #[true, true, true, true, true, true, true, true, true, true, true] ?_
 refine done_ (done_of HT_.out (by kernel_rfl)) ?_
 go_upto_region 4 with (fail)
 go_cut [30] (fun v30 wc => ∃ (kq : Nat) (x30_4 : Bool) (x104001_4 : Int) (x104002_4 : Int), v30 = .bool x30_4 ∧ Aside0 (spec_DrawDoesFit.j0 kq t106 x30_4 l0 x104001_4 x104002_4 t104 t105 t113 t114 t115 = some (r1, r2, r3, r4, r5, r6)) ∧ Aside0 (kq ≤ k) ∧ Aside0 (Kd.R k37 37 wc w.heap.size (fun k_ => k_ ≠ gb102) (.slice Ao23 t115.length co23) t115) ∧ Aside0 (wc.heap[gb101]? = some (.cells #[.int .i64 0, .int .i64 0] 30 (0, 0))) ∧ Aside0 (wc.heap[gb102]? = some (.cells #[.int .i64 0, .int .i64 0, .int .i64 0] 37 (0, 0))) ∧ Aside0 (wc.heap[gb109]? = some (.cells #[.int .i64 t104, .int .i64 t105] 30 (0, 0))) ∧ Aside0 (wc.heap[gb119]? = some (.cells #[.int .i64 t113, .int .i64 t114, (.slice Ao23 t115.length co23)] 33 (0, 0))) ∧ Aside0 (IsS89 w wc gb103 l0 x104001_4 x104002_4) ∧ Aside0 (Below w.heap.size w wc))
 case first =>
  have H := HC5.out
  clear HC5
  by_cases c25 : t118 = true
  ·subst c25
   have H1 : ((spec_l1Cur_one.f l0 t111 t112 3).bind fun bt120 => (spec_DrawDoesFit.j0 k t106 bt120.1 l0 bt120.2.1 bt120.2.2 t104 t105 t113 t114 t115)) = some (r1, r2, r3, r4, r5, r6) := by rw [if_pos rfl] at H; exact H
   clear H
   have H := H1
   clear H1
   replace H := bH H
   obtain ⟨⟨t120, t121, t122⟩, A260, H⟩ := H
   replace H : (spec_DrawDoesFit.j0 k t106 t120 l0 t121 t122 t104 t105 t113 t114 t115) = some (r1, r2, r3, r4, r5, r6) := H
   have A26 := am A260
   clear A260
   have H' := am H
   clear H
   go_wp2_with (first | (go_at_call 57; (with_reducible refine (spec_l1Cur_one.calls gb103 l0 t111 t112 3 t120 t121 t122 w _ ?side1 ?side2 A26.out).mono ?_); (case side1 => exact uI); (case side2 => exact uW); rintro e w27 ⟨rfl, hi, hb, hk⟩; replace BK101 := am (KeepBut.blk hk (g' := gb101) (o := .cells #[.int .i64 0, .int .i64 0] 30 (0, 0)) (by refine blk_far ?_ NB101_119.out _; refine blk_far ?_ NB101_119.out _; refine blk_far ?_ NB101_119.out _; exact (uP BK101)) NB101_103.out (by simp)); replace BK102 := am (KeepBut.blk hk (g' := gb102) (o := .cells #[.int .i64 0, .int .i64 0, .int .i64 0] 37 (0, 0)) (by refine blk_far ?_ NB102_119.out _; refine blk_far ?_ NB102_119.out _; refine blk_far ?_ NB102_119.out _; exact (uP BK102)) NB102_103.out (by simp)); replace BK109 := am (KeepBut.blk hk (g' := gb109) (o := .cells #[.int .i64 t104, .int .i64 t105] 30 (0, 0)) (by refine blk_far ?_ NB109_119.out _; refine blk_far ?_ NB109_119.out _; refine blk_far ?_ NB109_119.out _; exact (uP BK109)) NB109_103.out (by simp)); replace HO117 := am (Kd.R_mono (Kd.R_keep (IsS89.apart (show IsS89 w _ gb103 l0 t111 t112 from by exact uI) (by (with_reducible repeat (first | apply rA | apply rN | apply rD)); exact (Kd.R_mono (Kd.R_far (p := ⟨gb119, 2, none⟩) (Kd.R_far (p := ⟨gb119, 1, none⟩) (Kd.R_far (p := ⟨gb119, 0, none⟩) (Kd.R_types HO117.out BK119.out (by decide)) (fun _ hk => hk.2) (.int .i64 t113)) (fun _ hk => hk.2) (.int .i64 t114)) (fun _ hk => hk.2) (.slice Ao23 t115.length co23)) (fun _ h_ => h_.1))) (by decide)) hk (fun _ h => h.2)) (fun _ h => h.1)); replace BK119 := am (KeepBut.blk hk (g' := gb119) (o := .cells #[.int .i64 t113, .int .i64 t114, .slice Ao23 t115.length co23] 33 (0, 0)) (by refine blk_put (cs := #[.int .i64 t113, .int .i64 t114, .slice none 0 0]) ?_ 2 _ rfl; refine blk_put (cs := #[.int .i64 t113, .int .i64 0, .slice none 0 0]) ?_ 1 _ rfl; refine blk_put (cs := #[.int .i64 0, .int .i64 0, .slice none 0 0]) ?_ 0 _ rfl; exact (uP BK119)) NB119_103.out (by simp)); replace HB := am (hb); replace HI103 := am (hi); (try clear hb); (try clear hb2); (try clear hk); (try clear hi)))
   go_meet
   case rel => exact ⟨_, (t120), (t121), (t122), (by first | rfl | (simp; done) | (simp [*]; done)), H', ⟨by first | omega | exact Nat.le_refl _⟩, ⟨by (with_reducible repeat (first | apply rA | apply rN | apply rD)); exact HO117.out⟩, ⟨by (with_reducible repeat (first | refine bN ?_ _ | refine bD ?_ | refine bA ?_ _)); exact BK101.out⟩, ⟨by (with_reducible repeat (first | refine bN ?_ _ | refine bD ?_ | refine bA ?_ _)); exact BK102.out⟩, ⟨by (with_reducible repeat (first | refine bN ?_ _ | refine bD ?_ | refine bA ?_ _)); exact BK109.out⟩, ⟨by (with_reducible repeat (first | refine bN ?_ _ | refine bD ?_ | refine bA ?_ _)); exact BK119.out⟩, ⟨by exact uI⟩, ⟨by exact uW⟩⟩
  ·replace c25 := Bool.eq_false_iff.mpr c25
   subst c25
   have H1 : (spec_DrawDoesFit.j0 k t106 false l0 t111 t112 t104 t105 t113 t114 t115) = some (r1, r2, r3, r4, r5, r6) := by rw [if_neg (show ¬ (false = true) by decide)] at H; exact H
   clear H
   have H := H1
   clear H1
   have H' := am H
   clear H
   go_wp2
   go_meet
   case rel => exact ⟨_, (false), (t111), (t112), (by first | rfl | (simp; done) | (simp [*]; done)), H', ⟨by first | omega | exact Nat.le_refl _⟩, ⟨by (with_reducible repeat (first | apply rA | apply rN | apply rD)); exact Kd.R_mono (Kd.R_far (p := ⟨gb119, 2, none⟩) (Kd.R_far (p := ⟨gb119, 1, none⟩) (Kd.R_far (p := ⟨gb119, 0, none⟩) (Kd.R_types HO117.out BK119.out (by decide)) (fun _ hk => hk.2) (.int .i64 t113)) (fun _ hk => hk.2) (.int .i64 t114)) (fun _ hk => hk.2) (.slice Ao23 t115.length co23)) (fun _ hk => hk.1)⟩, ⟨by refine blk_far ?_ NB101_119.out _; refine blk_far ?_ NB101_119.out _; refine blk_far ?_ NB101_119.out _; exact (uP BK101)⟩, ⟨by refine blk_far ?_ NB102_119.out _; refine blk_far ?_ NB102_119.out _; refine blk_far ?_ NB102_119.out _; exact (uP BK102)⟩, ⟨by refine blk_far ?_ NB109_119.out _; refine blk_far ?_ NB109_119.out _; refine blk_far ?_ NB109_119.out _; exact (uP BK109)⟩, ⟨by refine blk_put (cs := #[.int .i64 t113, .int .i64 t114, .slice none 0 0]) ?_ 2 _ rfl; refine blk_put (cs := #[.int .i64 t113, .int .i64 0, .slice none 0 0]) ?_ 1 _ rfl; refine blk_put (cs := #[.int .i64 0, .int .i64 0, .slice none 0 0]) ?_ 0 _ rfl; exact (uP BK119)⟩, ⟨by exact uI⟩, ⟨by exact uW⟩⟩
 case rest =>
  clear HC5
  try clear c1
  try clear c2
  try clear p2
  try clear c3
  try clear c6
  try clear c11
  try clear c12
  try clear c13
  try clear c14
  try clear c25
  try clear hcz14_0
  try clear hcz14_1
  try clear hfz14_0
  try clear hfz14_1
  obtain ⟨kq, x30_4, x104001_4, x104002_4, rfl, HA, HJ4, HO_120002, BK101, BK102, BK109, BK119, HI103, HB⟩ := hcut
  cases kq with
  | zero => exact absurd HA.out (by simp [spec_DrawDoesFit.j0])
  | succ kj4 =>
   have H := HA.out
   clear HA
   simp only [spec_DrawDoesFit.j0] at H
   by_cases c28 : x30_4 = true
   ·subst c28
    have H1 : (if 0 < (t115.length : Int) then (some (t104, t105, (rd_T37 t115 0).f0, (rd_T37 t115 0).f1, (rd_T37 t115 0).f2, t106)) else (none)) = some (r1, r2, r3, r4, r5, r6) := by rw [if_pos rfl] at H; exact H
    clear H
    have H := H1
    clear H1
    by_cases c29 : 0 < (t115.length : Int)
    ·rw [if_pos c29] at H
     have c29b0 : decide (0 < (t115.length : Int)) = true := decide_eq_true c29
     have c29b1 : decide (0 < t115.length) = true := decide_eq_true (by omega)
     clear c29
     simp only [Option.some.injEq, Prod.mk.injEq] at H
     obtain ⟨rfl, rfl, rfl, rfl, rfl, rfl⟩ := H
     try go_wp2
     replace HO_120002 := am (Kd.R_drew HO_120002.out)
     replace BK101 := am (blk_drew BK101.out)
     replace BK102 := am (blk_drew BK102.out)
     replace BK109 := am (blk_drew BK109.out)
     replace BK119 := am (blk_drew BK119.out)
     replace HI103 := am (IsS89.drew HI103.out)
     replace HB := am (below_drew1 HB.out)
     have p123 : 0 ≤ (0 : Int) := (by omega)
     have q123 : 0 < (t115.length : Int) := of_decide_eq_true (by first | (with_reducible assumption) | assumption)
     obtain ⟨ad123, e123, hx123_0, hx123_1, hx123_2⟩ := at_T37 (Kd.R_reads' HO_120002.out).2.2 0 p123 q123
     cases e123
     have qi123 : (0 < t115.length) = True := eq_true (by omega)
     (try rw [show ((0 : Int)).toNat = 0 from rfl] at hx123_0)
     (try rw [show 0 * 3 = 0 from rfl] at hx123_0)
     (try rw [Addr.add_zero'] at hx123_0)
     (try rw [show ((0 : Int)).toNat = 0 from rfl] at hx123_1)
     (try rw [show 0 * 3 = 0 from rfl] at hx123_1)
     (try rw [Addr.add_zero'] at hx123_1)
     (try rw [show ((0 : Int)).toNat = 0 from rfl] at hx123_2)
     (try rw [show 0 * 3 = 0 from rfl] at hx123_2)
     (try rw [Addr.add_zero'] at hx123_2)
     replace p123 := eq_true p123
     replace q123 := eq_true q123
     refine start_ (n := 9) (S := fun w' => w'.cell? ⟨gb109, 0, none⟩ = some (.int .i64 t104) ∧ w'.cell? ⟨gb109, 1, none⟩ = some (.int .i64 t105) ∧ w'.cell? ⟨gb119, 0, none⟩ = some (.int .i64 t113) ∧ w'.cell? ⟨gb119, 1, none⟩ = some (.int .i64 t114) ∧ w'.cell? ⟨gb119, 2, none⟩ = some (.slice (some ad123) t115.length co23) ∧ w'.cell? ad123 = some (.int .i64 ((rd_T37 t115 0).f0)) ∧ w'.cell? ⟨ad123.block, ad123.off + 1, none⟩ = some (.int .i64 ((rd_T37 t115 0).f1)) ∧ w'.cell? ⟨ad123.block, ad123.off + 2, none⟩ = some (.int .i64 ((rd_T37 t115 0).f2))) (ds := []) #[false, false, false, false, false, false, false, false, false] (by kernel_rfl) rfl rfl ⟨uT BK109 0, uT BK109 1, uT BK119 0, uT BK119 1, uT BK119 2, hx123_0, hx123_1, hx123_2⟩ (fun hHeld => ?_); refine with_tabW spec_DrawDoesFit.tab5 spec_DrawDoesFit.bits5 (fun HT_ HW_ => ?_)
     generalize wc.drew = w30 at HO_120002 BK101 BK102 BK109 BK119 HI103 HB hx123_0 hx123_1 hx123_2 hHeld ⊢
     refine uPu (i := 1) (N := some 32) #[false, true, false, false, false, false, false, false, false] ?_
     refine uPu (i := 5) (N := some 36) #[false, true, false, false, false, true, false, false, false] ?_
     refine uTk (i := 0) (N := some 31) #[true, true, false, false, false, true, false, false, false] hHeld ?_
     refine uTk (i := 2) (N := some 33) #[true, true, true, false, false, true, false, false, false] hHeld ?_
     refine uPu (i := 3) (N := some 34) #[true, true, true, true, false, true, false, false, false] ?_
     refine uTk (i := 4) (N := some 35) #[true, true, true, true, true, true, false, false, false] hHeld ?_
     refine uOn (i := 6) (N := none) #[true, true, true, true, true, true, true, false, false] (fun K hK => ?_)
     have hs31 : w30.cell? ⟨gb101, 0, none⟩ = some (.int .i64 0) := uT BK101 0
     have hfs31 := blk_frozen BK101.out 0
     have hns31_1 := NB102_101.out
     have hns31_2 := NB109_101.out
     have hns31_3 := NB119_101.out
     have hms31_1 := NB101_102.out
     have hms31_2 := NB101_109.out
     have hms31_3 := NB101_119.out
     have hs32 : w30.cell? ⟨gb101, 1, none⟩ = some (.int .i64 0) := uT BK101 1
     have hfs32 := blk_frozen BK101.out 1
     have hns32_1 := NB102_101.out
     have hns32_2 := NB109_101.out
     have hns32_3 := NB119_101.out
     have hms32_1 := NB101_102.out
     have hms32_2 := NB101_109.out
     have hms32_3 := NB101_119.out
     refine skip_ (w1 := ?_) (by rfl) rfl ?_ ?_
     rotate_left
     ·go_simp
      rfl
     refine hK.out _ _ ⟨((cell_far (p := ⟨gb101, _, none⟩) NB109_101.out _).trans (((cell_far (p := ⟨gb101, _, none⟩) NB109_101.out _).trans (hHeld.1)))), ((cell_far (p := ⟨gb101, _, none⟩) NB109_101.out _).trans (((cell_far (p := ⟨gb101, _, none⟩) NB109_101.out _).trans (hHeld.2.1)))), ((cell_far (p := ⟨gb101, _, none⟩) NB119_101.out _).trans (((cell_far (p := ⟨gb101, _, none⟩) NB119_101.out _).trans (hHeld.2.2.1)))), ((cell_far (p := ⟨gb101, _, none⟩) NB119_101.out _).trans (((cell_far (p := ⟨gb101, _, none⟩) NB119_101.out _).trans (hHeld.2.2.2.1)))), ((cell_far (p := ⟨gb101, _, none⟩) NB119_101.out _).trans (((cell_far (p := ⟨gb101, _, none⟩) NB119_101.out _).trans (hHeld.2.2.2.2.1)))), ((cell_far (p := ⟨gb101, _, none⟩) (by first | exact Kd.own_blk (Kd.R_ne HO_120002.out BK101.out (by decide)) | (rw [add_block]; exact Kd.own_blk (Kd.R_ne HO_120002.out BK101.out (by decide))) | (show (Addr.add _ _).block ≠ _; rw [add_block]; exact Kd.own_blk (Kd.R_ne HO_120002.out BK101.out (by decide))) | (dsimp only; exact Kd.own_blk (Kd.R_ne HO_120002.out BK101.out (by decide)))) _).trans (((cell_far (p := ⟨gb101, _, none⟩) (by first | exact Kd.own_blk (Kd.R_ne HO_120002.out BK101.out (by decide)) | (rw [add_block]; exact Kd.own_blk (Kd.R_ne HO_120002.out BK101.out (by decide))) | (show (Addr.add _ _).block ≠ _; rw [add_block]; exact Kd.own_blk (Kd.R_ne HO_120002.out BK101.out (by decide))) | (dsimp only; exact Kd.own_blk (Kd.R_ne HO_120002.out BK101.out (by decide)))) _).trans (hHeld.2.2.2.2.2.1)))), ((cell_far (p := ⟨gb101, _, none⟩) (by first | exact Kd.own_blk (Kd.R_ne HO_120002.out BK101.out (by decide)) | (rw [add_block]; exact Kd.own_blk (Kd.R_ne HO_120002.out BK101.out (by decide))) | (show (Addr.add _ _).block ≠ _; rw [add_block]; exact Kd.own_blk (Kd.R_ne HO_120002.out BK101.out (by decide))) | (dsimp only; exact Kd.own_blk (Kd.R_ne HO_120002.out BK101.out (by decide)))) _).trans (((cell_far (p := ⟨gb101, _, none⟩) (by first | exact Kd.own_blk (Kd.R_ne HO_120002.out BK101.out (by decide)) | (rw [add_block]; exact Kd.own_blk (Kd.R_ne HO_120002.out BK101.out (by decide))) | (show (Addr.add _ _).block ≠ _; rw [add_block]; exact Kd.own_blk (Kd.R_ne HO_120002.out BK101.out (by decide))) | (dsimp only; exact Kd.own_blk (Kd.R_ne HO_120002.out BK101.out (by decide)))) _).trans (hHeld.2.2.2.2.2.2.1)))), ((cell_far (p := ⟨gb101, _, none⟩) (by first | exact Kd.own_blk (Kd.R_ne HO_120002.out BK101.out (by decide)) | (rw [add_block]; exact Kd.own_blk (Kd.R_ne HO_120002.out BK101.out (by decide))) | (show (Addr.add _ _).block ≠ _; rw [add_block]; exact Kd.own_blk (Kd.R_ne HO_120002.out BK101.out (by decide))) | (dsimp only; exact Kd.own_blk (Kd.R_ne HO_120002.out BK101.out (by decide)))) _).trans (((cell_far (p := ⟨gb101, _, none⟩) (by first | exact Kd.own_blk (Kd.R_ne HO_120002.out BK101.out (by decide)) | (rw [add_block]; exact Kd.own_blk (Kd.R_ne HO_120002.out BK101.out (by decide))) | (show (Addr.add _ _).block ≠ _; rw [add_block]; exact Kd.own_blk (Kd.R_ne HO_120002.out BK101.out (by decide))) | (dsimp only; exact Kd.own_blk (Kd.R_ne HO_120002.out BK101.out (by decide)))) _).trans (hHeld.2.2.2.2.2.2.2))))⟩ (fun hHeld => ?_)
     clear hK K
     refine uOn (i := 7) (N := none) #[true, true, true, true, true, true, true, true, false] (fun K hK => ?_)
     have hs33 : w30.cell? ⟨gb102, 0, none⟩ = some (.int .i64 0) := uT BK102 0
     have hfs33 := blk_frozen BK102.out 0
     have hns33_0 := NB101_102.out
     have hns33_2 := NB109_102.out
     have hns33_3 := NB119_102.out
     have hms33_0 := NB102_101.out
     have hms33_2 := NB102_109.out
     have hms33_3 := NB102_119.out
     have hs34 : w30.cell? ⟨gb102, 1, none⟩ = some (.int .i64 0) := uT BK102 1
     have hfs34 := blk_frozen BK102.out 1
     have hns34_0 := NB101_102.out
     have hns34_2 := NB109_102.out
     have hns34_3 := NB119_102.out
     have hms34_0 := NB102_101.out
     have hms34_2 := NB102_109.out
     have hms34_3 := NB102_119.out
     have hs35 : w30.cell? ⟨gb102, 2, none⟩ = some (.int .i64 0) := uT BK102 2
     have hfs35 := blk_frozen BK102.out 2
     have hns35_0 := NB101_102.out
     have hns35_2 := NB109_102.out
     have hns35_3 := NB119_102.out
     have hms35_0 := NB102_101.out
     have hms35_2 := NB102_109.out
     have hms35_3 := NB102_119.out
     refine skip_ (w1 := ?_) (by rfl) rfl ?_ ?_
     rotate_left
     ·go_simp
      rfl
     refine hK.out _ _ ⟨((cell_far (p := ⟨gb102, _, none⟩) NB109_102.out _).trans (((cell_far (p := ⟨gb102, _, none⟩) NB109_102.out _).trans (((cell_far (p := ⟨gb102, _, none⟩) NB109_102.out _).trans (hHeld.1)))))), ((cell_far (p := ⟨gb102, _, none⟩) NB109_102.out _).trans (((cell_far (p := ⟨gb102, _, none⟩) NB109_102.out _).trans (((cell_far (p := ⟨gb102, _, none⟩) NB109_102.out _).trans (hHeld.2.1)))))), ((cell_far (p := ⟨gb102, _, none⟩) NB119_102.out _).trans (((cell_far (p := ⟨gb102, _, none⟩) NB119_102.out _).trans (((cell_far (p := ⟨gb102, _, none⟩) NB119_102.out _).trans (hHeld.2.2.1)))))), ((cell_far (p := ⟨gb102, _, none⟩) NB119_102.out _).trans (((cell_far (p := ⟨gb102, _, none⟩) NB119_102.out _).trans (((cell_far (p := ⟨gb102, _, none⟩) NB119_102.out _).trans (hHeld.2.2.2.1)))))), ((cell_far (p := ⟨gb102, _, none⟩) NB119_102.out _).trans (((cell_far (p := ⟨gb102, _, none⟩) NB119_102.out _).trans (((cell_far (p := ⟨gb102, _, none⟩) NB119_102.out _).trans (hHeld.2.2.2.2.1)))))), ((cell_far (p := ⟨gb102, _, none⟩) (by first | exact Kd.own_blk (Kd.R_away HO_120002.out (fun _ hk => hk)) | (rw [add_block]; exact Kd.own_blk (Kd.R_away HO_120002.out (fun _ hk => hk))) | (show (Addr.add _ _).block ≠ _; rw [add_block]; exact Kd.own_blk (Kd.R_away HO_120002.out (fun _ hk => hk))) | (dsimp only; exact Kd.own_blk (Kd.R_away HO_120002.out (fun _ hk => hk)))) _).trans (((cell_far (p := ⟨gb102, _, none⟩) (by first | exact Kd.own_blk (Kd.R_away HO_120002.out (fun _ hk => hk)) | (rw [add_block]; exact Kd.own_blk (Kd.R_away HO_120002.out (fun _ hk => hk))) | (show (Addr.add _ _).block ≠ _; rw [add_block]; exact Kd.own_blk (Kd.R_away HO_120002.out (fun _ hk => hk))) | (dsimp only; exact Kd.own_blk (Kd.R_away HO_120002.out (fun _ hk => hk)))) _).trans (((cell_far (p := ⟨gb102, _, none⟩) (by first | exact Kd.own_blk (Kd.R_away HO_120002.out (fun _ hk => hk)) | (rw [add_block]; exact Kd.own_blk (Kd.R_away HO_120002.out (fun _ hk => hk))) | (show (Addr.add _ _).block ≠ _; rw [add_block]; exact Kd.own_blk (Kd.R_away HO_120002.out (fun _ hk => hk))) | (dsimp only; exact Kd.own_blk (Kd.R_away HO_120002.out (fun _ hk => hk)))) _).trans (hHeld.2.2.2.2.2.1)))))), ((cell_far (p := ⟨gb102, _, none⟩) (by first | exact Kd.own_blk (Kd.R_away HO_120002.out (fun _ hk => hk)) | (rw [add_block]; exact Kd.own_blk (Kd.R_away HO_120002.out (fun _ hk => hk))) | (show (Addr.add _ _).block ≠ _; rw [add_block]; exact Kd.own_blk (Kd.R_away HO_120002.out (fun _ hk => hk))) | (dsimp only; exact Kd.own_blk (Kd.R_away HO_120002.out (fun _ hk => hk)))) _).trans (((cell_far (p := ⟨gb102, _, none⟩) (by first | exact Kd.own_blk (Kd.R_away HO_120002.out (fun _ hk => hk)) | (rw [add_block]; exact Kd.own_blk (Kd.R_away HO_120002.out (fun _ hk => hk))) | (show (Addr.add _ _).block ≠ _; rw [add_block]; exact Kd.own_blk (Kd.R_away HO_120002.out (fun _ hk => hk))) | (dsimp only; exact Kd.own_blk (Kd.R_away HO_120002.out (fun _ hk => hk)))) _).trans (((cell_far (p := ⟨gb102, _, none⟩) (by first | exact Kd.own_blk (Kd.R_away HO_120002.out (fun _ hk => hk)) | (rw [add_block]; exact Kd.own_blk (Kd.R_away HO_120002.out (fun _ hk => hk))) | (show (Addr.add _ _).block ≠ _; rw [add_block]; exact Kd.own_blk (Kd.R_away HO_120002.out (fun _ hk => hk))) | (dsimp only; exact Kd.own_blk (Kd.R_away HO_120002.out (fun _ hk => hk)))) _).trans (hHeld.2.2.2.2.2.2.1)))))), ((cell_far (p := ⟨gb102, _, none⟩) (by first | exact Kd.own_blk (Kd.R_away HO_120002.out (fun _ hk => hk)) | (rw [add_block]; exact Kd.own_blk (Kd.R_away HO_120002.out (fun _ hk => hk))) | (show (Addr.add _ _).block ≠ _; rw [add_block]; exact Kd.own_blk (Kd.R_away HO_120002.out (fun _ hk => hk))) | (dsimp only; exact Kd.own_blk (Kd.R_away HO_120002.out (fun _ hk => hk)))) _).trans (((cell_far (p := ⟨gb102, _, none⟩) (by first | exact Kd.own_blk (Kd.R_away HO_120002.out (fun _ hk => hk)) | (rw [add_block]; exact Kd.own_blk (Kd.R_away HO_120002.out (fun _ hk => hk))) | (show (Addr.add _ _).block ≠ _; rw [add_block]; exact Kd.own_blk (Kd.R_away HO_120002.out (fun _ hk => hk))) | (dsimp only; exact Kd.own_blk (Kd.R_away HO_120002.out (fun _ hk => hk)))) _).trans (((cell_far (p := ⟨gb102, _, none⟩) (by first | exact Kd.own_blk (Kd.R_away HO_120002.out (fun _ hk => hk)) | (rw [add_block]; exact Kd.own_blk (Kd.R_away HO_120002.out (fun _ hk => hk))) | (show (Addr.add _ _).block ≠ _; rw [add_block]; exact Kd.own_blk (Kd.R_away HO_120002.out (fun _ hk => hk))) | (dsimp only; exact Kd.own_blk (Kd.R_away HO_120002.out (fun _ hk => hk)))) _).trans (hHeld.2.2.2.2.2.2.2))))))⟩ (fun hHeld => ?_)
     clear hK K
     refine uPu (i := 8) (N := some 4) #[true, true, true, true, true, true, true, true, true] ?_
     refine done_ (done_of HT_.out (by kernel_rfl)) ?_
     try go_wp2
     refine bodyPost_ret (results_list (rs := [.cell 2 30, .cell 3 37, .tmp 4]) rfl (by simp) (.cell gb101 30 #[.int .i64 t104, .int .i64 t105] (0, 0) _ rfl (by refine blk_far ?_ NB101_102.out _; refine blk_far ?_ NB101_102.out _; refine blk_far ?_ NB101_102.out _; refine blk_put (cs := #[.int .i64 t104, .int .i64 0]) ?_ 1 _ rfl; refine blk_put (cs := #[.int .i64 0, .int .i64 0]) ?_ 0 _ rfl; exact (uP BK101)) Try.underlying30 rfl (by kernel_rfl) (.cell gb102 37 #[.int .i64 ((rd_T37 t115 0).f0), .int .i64 ((rd_T37 t115 0).f1), .int .i64 ((rd_T37 t115 0).f2)] (0, 0) _ rfl (by refine blk_put (cs := #[.int .i64 ((rd_T37 t115 0).f0), .int .i64 ((rd_T37 t115 0).f1), .int .i64 0]) ?_ 2 _ rfl; refine blk_put (cs := #[.int .i64 ((rd_T37 t115 0).f0), .int .i64 0, .int .i64 0]) ?_ 1 _ rfl; refine blk_put (cs := #[.int .i64 0, .int .i64 0, .int .i64 0]) ?_ 0 _ rfl; refine blk_far ?_ NB102_101.out _; refine blk_far ?_ NB102_101.out _; exact (uP BK102)) Try.underlying37 rfl (by kernel_rfl) (.tmp .nil)))) rfl ?_
     exact ⟨uA, by exact uW⟩
    ·rw [if_neg c29] at H
     exact absurd H (by simp)
   ·replace c28 := Bool.eq_false_iff.mpr c28
    subst c28
    have H1 : ((spec_l1Cur_one.f l0 x104001_4 x104002_4 10).bind fun bt124 => (if bt124.1 = true then ((spec_l1Cur_among.f l0 bt124.2.1 bt124.2.2 (([(-1), 0, 1, 40, 41] : List Int))).bind fun bt130 => ((spec_l1Cur_clue.f kj4 l0 bt130.2.1 bt130.2.2).bind fun bt133 => (some (t104, t105, bt133.1, bt133.2.1, bt133.2.2.1, bt130.1)))) else ((spec_l1Cur_clue.f kj4 l0 bt124.2.1 bt124.2.2).bind fun bt138 => (some (t104, t105, bt138.1, bt138.2.1, bt138.2.2.1, t106))))) = some (r1, r2, r3, r4, r5, r6) := by rw [if_neg (show ¬ (false = true) by decide)] at H; exact H
    clear H
    have H := H1
    clear H1
    replace H := bH H
    obtain ⟨⟨t124, t125, t126⟩, A360, H⟩ := H
    replace H : (if t124 = true then ((spec_l1Cur_among.f l0 t125 t126 (([(-1), 0, 1, 40, 41] : List Int))).bind fun bt130 => ((spec_l1Cur_clue.f kj4 l0 bt130.2.1 bt130.2.2).bind fun bt133 => (some (t104, t105, bt133.1, bt133.2.1, bt133.2.2.1, bt130.1)))) else ((spec_l1Cur_clue.f kj4 l0 t125 t126).bind fun bt138 => (some (t104, t105, bt138.1, bt138.2.1, bt138.2.2.1, t106)))) = some (r1, r2, r3, r4, r5, r6) := H
    have A36 := am A360
    clear A360
    by_cases c37 : t124 = true
    ·subst c37
     have H1 : ((spec_l1Cur_among.f l0 t125 t126 (([(-1), 0, 1, 40, 41] : List Int))).bind fun bt130 => ((spec_l1Cur_clue.f kj4 l0 bt130.2.1 bt130.2.2).bind fun bt133 => (some (t104, t105, bt133.1, bt133.2.1, bt133.2.2.1, bt130.1)))) = some (r1, r2, r3, r4, r5, r6) := by rw [if_pos rfl] at H; exact H
     clear H
     have H := H1
     clear H1
     obtain ⟨y127, hy127⟩ : ∃ y_ : List Int, y_ = (([(-1), 0, 1, 40, 41] : List Int)) := ⟨_, rfl⟩
     replace H : ((spec_l1Cur_among.f l0 t125 t126 y127).bind fun bt130 => ((spec_l1Cur_clue.f kj4 l0 bt130.2.1 bt130.2.2).bind fun bt133 => (some (t104, t105, bt133.1, bt133.2.1, bt133.2.2.1, bt130.1)))) = some (r1, r2, r3, r4, r5, r6) := by first | (rw [hy127]; with_reducible exact H) | (have H2_ := (Option.bind_some _ _).symm.trans H; rw [hy127]; with_reducible exact H2_) | (have H2_ := (Option.bind_some _ _).symm.trans H; with_reducible exact H2_) | with_reducible exact H | (rw [hy127]; exact H) | exact H
     have Ny127 := am hy127
     clear hy127
     replace H := bH H
     obtain ⟨⟨t130, t131, t132⟩, A380, H⟩ := H
     replace H : ((spec_l1Cur_clue.f kj4 l0 t131 t132).bind fun bt133 => (some (t104, t105, bt133.1, bt133.2.1, bt133.2.2.1, t130))) = some (r1, r2, r3, r4, r5, r6) := H
     have A38 := am A380
     clear A380
     replace H := bH H
     obtain ⟨⟨t133, t134, t135, t136, t137⟩, A390, H⟩ := H
     replace H : (some (t104, t105, t133, t134, t135, t130)) = some (r1, r2, r3, r4, r5, r6) := H
     have A39 := am A390
     clear A390
     simp only [Option.some.injEq, Prod.mk.injEq] at H
     obtain ⟨rfl, rfl, rfl, rfl, rfl, rfl⟩ := H
     try go_wp2_with (first | ((with_reducible refine gate_callee (f := 57) rfl ?_); refine uGo (some 38) Try.func57 #[.pointer (some ⟨gb103, 0, none⟩), .int .i64 10] ?_; (with_reducible refine (spec_l1Cur_one.calls gb103 l0 x104001_4 x104002_4 10 true t125 t126 w _ ?side1 ?side2 A36.out).mono ?_); (case side1 => exact uI); (case side2 => exact uW); rintro e w40 ⟨rfl, hi, hb, hk⟩; refine ⟨_, rfl, ?_⟩; replace HO_120002 := am (Kd.R_mono (Kd.R_keep (IsS89.apart (show IsS89 w _ gb103 l0 x104001_4 x104002_4 from by exact uI) (uR HO_120002) (by decide)) hk (fun _ h => h.2)) (fun _ h => h.1)); replace BK101 := am (KeepBut.blk hk (uP BK101) NB101_103.out (by simp)); replace BK102 := am (KeepBut.blk hk (uP BK102) NB102_103.out (by simp)); replace BK109 := am (KeepBut.blk hk (uP BK109) NB109_103.out (by simp)); replace BK119 := am (KeepBut.blk hk (uP BK119) NB119_103.out (by simp)); replace HB := am (hb); replace HI103 := am (hi); (try clear hb); (try clear hb2); (try clear hk); (try clear hi)) | ((with_reducible refine gate_dst (N := 40) rfl ?_); refine Kd.R_lit (Kd.int .i64) _ 3 ?hg (N := 40) ?hd (xs := ([(-1), 0, 1, 40, 41] : List Int)) (inner := [.int .i64 (-1), .int .i64 0, .int .i64 1, .int .i64 40, .int .i64 41]) (ok := fun _ => True) (okp := fun _ => True) ?hr ?hp (fun _ hk => hk) trivial (Below.refl _ _) (Nat.le_refl _) (by simp) ?_; (case hd => rfl); (case hg => rfl); (case hr => first | (go_simp; done) | (go_simp; rfl)); (case hp => exact (Reps.one (show Kd.M (Kd.int .i64) _ _ _ (-1) [.int .i64 (-1)] from rfl) (Reps.one (show Kd.M (Kd.int .i64) _ _ _ 0 [.int .i64 0] from rfl) (Reps.one (show Kd.M (Kd.int .i64) _ _ _ 1 [.int .i64 1] from rfl) (Reps.one (show Kd.M (Kd.int .i64) _ _ _ 40 [.int .i64 40] from rfl) (Reps.one (show Kd.M (Kd.int .i64) _ _ _ 41 [.int .i64 41] from rfl) (Reps.none _ _))))))); intro v128 w41 ho42 hb hg_ hnew_; clear hg_ hnew_; (first | rw [← Ny127.out] at ho42 | (simp only [Int.reduceToNat] at ho42; rw [← Ny127.out] at ho42)); have HO129 := am (Kd.R_lower ho42 (below_size uW)); replace HO_120002 := am (Kd.R_below (uR HO_120002) hb); replace BK101 := uB BK101 hb; replace BK102 := uB BK102 hb; replace BK109 := uB BK109 hb; replace BK119 := uB BK119 hb; replace HI103 := am (IsS89.below uI hb); replace HB := uS hb; clear hb ho42; obtain ⟨Ao43, co43, eo43⟩ := Kd.R_slice HO129.out; subst eo43) | ((with_reducible refine gate_callee (f := 59) rfl ?_); refine uGo (some 41) Try.func59 #[.pointer (some ⟨gb103, 0, none⟩), .slice Ao43 y127.length co43] ?_; (with_reducible refine (spec_l1Cur_among.calls gb103 l0 t125 t126 _ _ y127 t130 t131 t132 w _ ?side1 ?side2 ?side3 ?side4 ?side5 A38.out).mono ?_); (case side1 => exact uI); (case side2 => exact uW); (case side3 => repeat (first | exact (Kd.R_reads' HO129.out).2.2 | (with_reducible refine cA ?_ _) | (with_reducible refine cN ?_ _) | (with_reducible refine cD ?_))); (case side4 => exact (Kd.R_reads' HO129.out).2.1); (case side5 => exact far_slice (IsS89.own_ne HI103.out HO129.out (by decide))); rintro e w44 ⟨rfl, hi, hb, hk⟩; refine ⟨_, rfl, ?_⟩; replace HO_120002 := am (Kd.R_mono (Kd.R_keep (IsS89.apart (show IsS89 w _ gb103 l0 t125 t126 from by exact uI) (uR HO_120002) (by decide)) hk (fun _ h => h.2)) (fun _ h => h.1)); replace BK101 := am (KeepBut.blk hk (uP BK101) NB101_103.out (by simp)); replace BK102 := am (KeepBut.blk hk (uP BK102) NB102_103.out (by simp)); replace BK109 := am (KeepBut.blk hk (uP BK109) NB109_103.out (by simp)); replace BK119 := am (KeepBut.blk hk (uP BK119) NB119_103.out (by simp)); replace HO129 := am (Kd.R_mono (Kd.R_keep (IsS89.apart (show IsS89 w _ gb103 l0 t125 t126 from by exact uI) (uR HO129) (by decide)) hk (fun _ h => h.2)) (fun _ h => h.1)); replace HB := am (hb); replace HI103 := am (hi); (try clear hb); (try clear hb2); (try clear hk); (try clear hi)))
     replace HO_120002 := am (Kd.R_drew HO_120002.out)
     replace HO129 := am (Kd.R_drew HO129.out)
     replace BK101 := am (blk_drew BK101.out)
     replace BK102 := am (blk_drew BK102.out)
     replace BK109 := am (blk_drew BK109.out)
     replace BK119 := am (blk_drew BK119.out)
     replace HI103 := am (IsS89.drew HI103.out)
     replace HB := am (below_drew1 HB.out)
     refine start_ (n := 7) (S := fun w' => w'.cell? ⟨gb109, 0, none⟩ = some (.int .i64 t104) ∧ w'.cell? ⟨gb109, 1, none⟩ = some (.int .i64 t105)) (ds := []) #[false, false, false, false, false, false, false] (by kernel_rfl) rfl rfl ⟨uT BK109 0, uT BK109 1⟩ (fun hHeld => ?_)
     generalize w44.drew = w45 at HO_120002 HO129 BK101 BK102 BK109 BK119 HI103 HB hHeld ⊢
     refine pure_ (i := 1) (N := some 43) (v := ?_) (a' := ?_) #[false, true, false, false, false, false, false] rfl rfl (by kernel_rfl) (fun _ _ _ h => h) (Or.inl ⟨by rfl, ?_⟩) ?_ ?_
     rotate_left
     ·intro w'
      go_simp
      with_reducible rfl
     rotate_left
     ·simp only [Act.put, List.setIfInBounds_toArray, List.set_cons_zero, List.set_cons_succ, i64_w, i32_w]
      rfl
     refine pure_ (i := 3) (N := some 45) (v := ?_) (a' := ?_) #[false, true, false, true, false, false, false] rfl rfl (by kernel_rfl) (fun _ _ _ h => h) (Or.inl ⟨by rfl, ?_⟩) ?_ ?_
     rotate_left
     ·intro w'
      go_simp
      with_reducible rfl
     rotate_left
     ·simp only [Act.put, List.setIfInBounds_toArray, List.set_cons_zero, List.set_cons_succ, i64_w, i32_w]
      rfl
     refine take_ (i := 0) (N := some 42) (v := ?_) (a' := ?_) #[true, true, false, true, false, false, false] rfl rfl (by kernel_rfl) (fun _ _ _ h => h) (Or.inl ⟨by rfl, ?_⟩) hHeld ?_ ?_
     rotate_left
     ·rintro w' ⟨s0, s1⟩
      go_simp
      with_reducible rfl
     rotate_left
     ·simp only [Act.put, List.setIfInBounds_toArray, List.set_cons_zero, List.set_cons_succ, i64_w, i32_w]
      rfl
     refine one_ (i := 2) (N := some 44) #[true, true, true, true, false, false, false] rfl rfl (by kernel_rfl) (by decide) (fun K hK => ?_)
     refine uGs Try.func73 #[.pointer (some ⟨gb103, 0, none⟩)] ?_
     with_reducible refine (spec_l1Cur_clue.calls kj4 gb103 l0 t131 t132 t133 t134 t135 t136 t137 w _ ?side1 ?side2 A39.out).mono ?_
     (case side1 => exact uI)
     (case side2 => exact uW)
     rintro e w46 ⟨rfl, hi, hb, hk⟩
     refine ⟨_, rfl, ?_⟩
     replace HO_120002 := am (Kd.R_mono (Kd.R_keep (IsS89.apart (show IsS89 w _ gb103 l0 t131 t132 from by exact uI) (uR HO_120002) (by decide)) hk (fun _ h => h.2)) (fun _ h => h.1))
     replace BK101 := am (KeepBut.blk hk (uP BK101) NB101_103.out (by simp))
     replace BK102 := am (KeepBut.blk hk (uP BK102) NB102_103.out (by simp))
     replace BK109 := am (KeepBut.blk hk (uP BK109) NB109_103.out (by simp))
     replace BK119 := am (KeepBut.blk hk (uP BK119) NB119_103.out (by simp))
     replace HO129 := am (Kd.R_mono (Kd.R_keep (IsS89.apart (show IsS89 w _ gb103 l0 t131 t132 from by exact uI) (uR HO129) (by decide)) hk (fun _ h => h.2)) (fun _ h => h.1))
     replace HB := am (hb)
     replace HI103 := am (hi)
     (try clear hb)
     (try clear hb2)
     (try clear hk)
     (try clear hi)
     refine hK.out _ _ ⟨uT BK109 0, uT BK109 1⟩ (fun hHeld => ?_)
     clear hK K
     refine uNo (some 44) ?_
     refine one_ (i := 4) (N := none) #[true, true, true, true, true, false, false] rfl rfl (by kernel_rfl) (by decide) (fun K hK => ?_)
     have hs47 : w46.cell? ⟨gb101, 0, none⟩ = some (.int .i64 0) := uT BK101 0
     have hfs47 := blk_frozen BK101.out 0
     have hns47_1 := NB102_101.out
     have hns47_2 := NB109_101.out
     have hns47_3 := NB119_101.out
     have hms47_1 := NB101_102.out
     have hms47_2 := NB101_109.out
     have hms47_3 := NB101_119.out
     have hs48 : w46.cell? ⟨gb101, 1, none⟩ = some (.int .i64 0) := uT BK101 1
     have hfs48 := blk_frozen BK101.out 1
     have hns48_1 := NB102_101.out
     have hns48_2 := NB109_101.out
     have hns48_3 := NB119_101.out
     have hms48_1 := NB101_102.out
     have hms48_2 := NB101_109.out
     have hms48_3 := NB101_119.out
     refine skip_ (w1 := ?_) (by rfl) rfl ?_ ?_
     rotate_left
     ·go_simp
      rfl
     refine hK.out _ _ ⟨((cell_far (p := ⟨gb101, _, none⟩) NB109_101.out _).trans (((cell_far (p := ⟨gb101, _, none⟩) NB109_101.out _).trans (hHeld.1)))), ((cell_far (p := ⟨gb101, _, none⟩) NB109_101.out _).trans (((cell_far (p := ⟨gb101, _, none⟩) NB109_101.out _).trans (hHeld.2))))⟩ (fun hHeld => ?_)
     clear hK K
     refine one_ (i := 5) (N := none) #[true, true, true, true, true, true, false] rfl rfl (by kernel_rfl) (by decide) (fun K hK => ?_)
     have hs49 : w46.cell? ⟨gb102, 0, none⟩ = some (.int .i64 0) := uT BK102 0
     have hfs49 := blk_frozen BK102.out 0
     have hns49_0 := NB101_102.out
     have hns49_2 := NB109_102.out
     have hns49_3 := NB119_102.out
     have hms49_0 := NB102_101.out
     have hms49_2 := NB102_109.out
     have hms49_3 := NB102_119.out
     have hs50 : w46.cell? ⟨gb102, 1, none⟩ = some (.int .i64 0) := uT BK102 1
     have hfs50 := blk_frozen BK102.out 1
     have hns50_0 := NB101_102.out
     have hns50_2 := NB109_102.out
     have hns50_3 := NB119_102.out
     have hms50_0 := NB102_101.out
     have hms50_2 := NB102_109.out
     have hms50_3 := NB102_119.out
     have hs51 : w46.cell? ⟨gb102, 2, none⟩ = some (.int .i64 0) := uT BK102 2
     have hfs51 := blk_frozen BK102.out 2
     have hns51_0 := NB101_102.out
     have hns51_2 := NB109_102.out
     have hns51_3 := NB119_102.out
     have hms51_0 := NB102_101.out
     have hms51_2 := NB102_109.out
     have hms51_3 := NB102_119.out
     refine skip_ (w1 := ?_) (by rfl) rfl ?_ ?_
     rotate_left
     ·go_simp
      rfl
     refine hK.out _ _ ⟨((cell_far (p := ⟨gb102, _, none⟩) NB109_102.out _).trans (((cell_far (p := ⟨gb102, _, none⟩) NB109_102.out _).trans (((cell_far (p := ⟨gb102, _, none⟩) NB109_102.out _).trans (hHeld.1)))))), ((cell_far (p := ⟨gb102, _, none⟩) NB109_102.out _).trans (((cell_far (p := ⟨gb102, _, none⟩) NB109_102.out _).trans (((cell_far (p := ⟨gb102, _, none⟩) NB109_102.out _).trans (hHeld.2))))))⟩ (fun hHeld => ?_)
     clear hK K
     refine pure_ (i := 6) (N := some 4) (v := ?_) (a' := ?_) #[true, true, true, true, true, true, true] rfl rfl (by kernel_rfl) (fun _ _ _ h => h) (Or.inl ⟨by rfl, ?_⟩) ?_ ?_
     rotate_left
     ·intro w'
      go_simp
      with_reducible rfl
     rotate_left
     ·simp only [Act.put, List.setIfInBounds_toArray, List.set_cons_zero, List.set_cons_succ, i64_w, i32_w]
      rfl
     refine done_ (by kernel_rfl) ?_
     try go_wp2
     refine bodyPost_ret (results_list (rs := [.cell 2 30, .cell 3 37, .tmp 4]) rfl (by simp) (.cell gb101 30 #[.int .i64 t104, .int .i64 t105] (0, 0) _ rfl (by refine blk_far ?_ NB101_102.out _; refine blk_far ?_ NB101_102.out _; refine blk_far ?_ NB101_102.out _; refine blk_put (cs := #[.int .i64 t104, .int .i64 0]) ?_ 1 _ rfl; refine blk_put (cs := #[.int .i64 0, .int .i64 0]) ?_ 0 _ rfl; exact (uP BK101)) Try.underlying30 rfl (by kernel_rfl) (.cell gb102 37 #[.int .i64 t133, .int .i64 t134, .int .i64 t135] (0, 0) _ rfl (by refine blk_put (cs := #[.int .i64 t133, .int .i64 t134, .int .i64 0]) ?_ 2 _ rfl; refine blk_put (cs := #[.int .i64 t133, .int .i64 0, .int .i64 0]) ?_ 1 _ rfl; refine blk_put (cs := #[.int .i64 0, .int .i64 0, .int .i64 0]) ?_ 0 _ rfl; refine blk_far ?_ NB102_101.out _; refine blk_far ?_ NB102_101.out _; exact (uP BK102)) Try.underlying37 rfl (by kernel_rfl) (.tmp .nil)))) rfl ?_
     exact ⟨uA, by exact uW⟩
    ·replace c37 := Bool.eq_false_iff.mpr c37
     subst c37
     have H1 : ((spec_l1Cur_clue.f kj4 l0 t125 t126).bind fun bt138 => (some (t104, t105, bt138.1, bt138.2.1, bt138.2.2.1, t106))) = some (r1, r2, r3, r4, r5, r6) := by rw [if_neg (show ¬ (false = true) by decide)] at H; exact H
     clear H
     have H := H1
     clear H1
     replace H := bH H
     obtain ⟨⟨t138, t139, t140, t141, t142⟩, A520, H⟩ := H
     replace H : (some (t104, t105, t138, t139, t140, t106)) = some (r1, r2, r3, r4, r5, r6) := H
     have A52 := am A520
     clear A520
     simp only [Option.some.injEq, Prod.mk.injEq] at H
     obtain ⟨rfl, rfl, rfl, rfl, rfl, rfl⟩ := H
     try go_wp2_with (first | ((with_reducible refine gate_callee (f := 57) rfl ?_); refine uGo (some 38) Try.func57 #[.pointer (some ⟨gb103, 0, none⟩), .int .i64 10] ?_; (with_reducible refine (spec_l1Cur_one.calls gb103 l0 x104001_4 x104002_4 10 false t125 t126 w _ ?side1 ?side2 A36.out).mono ?_); (case side1 => exact uI); (case side2 => exact uW); rintro e w53 ⟨rfl, hi, hb, hk⟩; refine ⟨_, rfl, ?_⟩; replace HO_120002 := am (Kd.R_mono (Kd.R_keep (IsS89.apart (show IsS89 w _ gb103 l0 x104001_4 x104002_4 from by exact uI) (uR HO_120002) (by decide)) hk (fun _ h => h.2)) (fun _ h => h.1)); replace BK101 := am (KeepBut.blk hk (uP BK101) NB101_103.out (by simp)); replace BK102 := am (KeepBut.blk hk (uP BK102) NB102_103.out (by simp)); replace BK109 := am (KeepBut.blk hk (uP BK109) NB109_103.out (by simp)); replace BK119 := am (KeepBut.blk hk (uP BK119) NB119_103.out (by simp)); replace HB := am (hb); replace HI103 := am (hi); (try clear hb); (try clear hb2); (try clear hk); (try clear hi)))
     replace HO_120002 := am (Kd.R_drew HO_120002.out)
     replace BK101 := am (blk_drew BK101.out)
     replace BK102 := am (blk_drew BK102.out)
     replace BK109 := am (blk_drew BK109.out)
     replace BK119 := am (blk_drew BK119.out)
     replace HI103 := am (IsS89.drew HI103.out)
     replace HB := am (below_drew1 HB.out)
     refine start_ (n := 7) (S := fun w' => w'.cell? ⟨gb109, 0, none⟩ = some (.int .i64 t104) ∧ w'.cell? ⟨gb109, 1, none⟩ = some (.int .i64 t105)) (ds := []) #[false, false, false, false, false, false, false] (by kernel_rfl) rfl rfl ⟨uT BK109 0, uT BK109 1⟩ (fun hHeld => ?_)
     generalize w53.drew = w54 at HO_120002 BK101 BK102 BK109 BK119 HI103 HB hHeld ⊢
     refine pure_ (i := 1) (N := some 43) (v := ?_) (a' := ?_) #[false, true, false, false, false, false, false] rfl rfl (by kernel_rfl) (fun _ _ _ h => h) (Or.inl ⟨by rfl, ?_⟩) ?_ ?_
     rotate_left
     ·intro w'
      go_simp
      with_reducible rfl
     rotate_left
     ·simp only [Act.put, List.setIfInBounds_toArray, List.set_cons_zero, List.set_cons_succ, i64_w, i32_w]
      rfl
     refine pure_ (i := 3) (N := some 45) (v := ?_) (a' := ?_) #[false, true, false, true, false, false, false] rfl rfl (by kernel_rfl) (fun _ _ _ h => h) (Or.inl ⟨by rfl, ?_⟩) ?_ ?_
     rotate_left
     ·intro w'
      go_simp
      with_reducible rfl
     rotate_left
     ·simp only [Act.put, List.setIfInBounds_toArray, List.set_cons_zero, List.set_cons_succ, i64_w, i32_w]
      rfl
     refine take_ (i := 0) (N := some 42) (v := ?_) (a' := ?_) #[true, true, false, true, false, false, false] rfl rfl (by kernel_rfl) (fun _ _ _ h => h) (Or.inl ⟨by rfl, ?_⟩) hHeld ?_ ?_
     rotate_left
     ·rintro w' ⟨s0, s1⟩
      go_simp
      with_reducible rfl
     rotate_left
     ·simp only [Act.put, List.setIfInBounds_toArray, List.set_cons_zero, List.set_cons_succ, i64_w, i32_w]
      rfl
     refine one_ (i := 2) (N := some 44) #[true, true, true, true, false, false, false] rfl rfl (by kernel_rfl) (by decide) (fun K hK => ?_)
     refine uGs Try.func73 #[.pointer (some ⟨gb103, 0, none⟩)] ?_
     with_reducible refine (spec_l1Cur_clue.calls kj4 gb103 l0 t125 t126 t138 t139 t140 t141 t142 w _ ?side1 ?side2 A52.out).mono ?_
     (case side1 => exact uI)
     (case side2 => exact uW)
     rintro e w55 ⟨rfl, hi, hb, hk⟩
     refine ⟨_, rfl, ?_⟩
     replace HO_120002 := am (Kd.R_mono (Kd.R_keep (IsS89.apart (show IsS89 w _ gb103 l0 t125 t126 from by exact uI) (uR HO_120002) (by decide)) hk (fun _ h => h.2)) (fun _ h => h.1))
     replace BK101 := am (KeepBut.blk hk (uP BK101) NB101_103.out (by simp))
     replace BK102 := am (KeepBut.blk hk (uP BK102) NB102_103.out (by simp))
     replace BK109 := am (KeepBut.blk hk (uP BK109) NB109_103.out (by simp))
     replace BK119 := am (KeepBut.blk hk (uP BK119) NB119_103.out (by simp))
     replace HB := am (hb)
     replace HI103 := am (hi)
     (try clear hb)
     (try clear hb2)
     (try clear hk)
     (try clear hi)
     refine hK.out _ _ ⟨uT BK109 0, uT BK109 1⟩ (fun hHeld => ?_)
     clear hK K
     refine uNo (some 44) ?_
     refine one_ (i := 4) (N := none) #[true, true, true, true, true, false, false] rfl rfl (by kernel_rfl) (by decide) (fun K hK => ?_)
     have hs56 : w55.cell? ⟨gb101, 0, none⟩ = some (.int .i64 0) := uT BK101 0
     have hfs56 := blk_frozen BK101.out 0
     have hns56_1 := NB102_101.out
     have hns56_2 := NB109_101.out
     have hns56_3 := NB119_101.out
     have hms56_1 := NB101_102.out
     have hms56_2 := NB101_109.out
     have hms56_3 := NB101_119.out
     have hs57 : w55.cell? ⟨gb101, 1, none⟩ = some (.int .i64 0) := uT BK101 1
     have hfs57 := blk_frozen BK101.out 1
     have hns57_1 := NB102_101.out
     have hns57_2 := NB109_101.out
     have hns57_3 := NB119_101.out
     have hms57_1 := NB101_102.out
     have hms57_2 := NB101_109.out
     have hms57_3 := NB101_119.out
     refine skip_ (w1 := ?_) (by rfl) rfl ?_ ?_
     rotate_left
     ·go_simp
      rfl
     refine hK.out _ _ ⟨((cell_far (p := ⟨gb101, _, none⟩) NB109_101.out _).trans (((cell_far (p := ⟨gb101, _, none⟩) NB109_101.out _).trans (hHeld.1)))), ((cell_far (p := ⟨gb101, _, none⟩) NB109_101.out _).trans (((cell_far (p := ⟨gb101, _, none⟩) NB109_101.out _).trans (hHeld.2))))⟩ (fun hHeld => ?_)
     clear hK K
     refine one_ (i := 5) (N := none) #[true, true, true, true, true, true, false] rfl rfl (by kernel_rfl) (by decide) (fun K hK => ?_)
     have hs58 : w55.cell? ⟨gb102, 0, none⟩ = some (.int .i64 0) := uT BK102 0
     have hfs58 := blk_frozen BK102.out 0
     have hns58_0 := NB101_102.out
     have hns58_2 := NB109_102.out
     have hns58_3 := NB119_102.out
     have hms58_0 := NB102_101.out
     have hms58_2 := NB102_109.out
     have hms58_3 := NB102_119.out
     have hs59 : w55.cell? ⟨gb102, 1, none⟩ = some (.int .i64 0) := uT BK102 1
     have hfs59 := blk_frozen BK102.out 1
     have hns59_0 := NB101_102.out
     have hns59_2 := NB109_102.out
     have hns59_3 := NB119_102.out
     have hms59_0 := NB102_101.out
     have hms59_2 := NB102_109.out
     have hms59_3 := NB102_119.out
     have hs60 : w55.cell? ⟨gb102, 2, none⟩ = some (.int .i64 0) := uT BK102 2
     have hfs60 := blk_frozen BK102.out 2
     have hns60_0 := NB101_102.out
     have hns60_2 := NB109_102.out
     have hns60_3 := NB119_102.out
     have hms60_0 := NB102_101.out
     have hms60_2 := NB102_109.out
     have hms60_3 := NB102_119.out
     refine skip_ (w1 := ?_) (by rfl) rfl ?_ ?_
     rotate_left
     ·go_simp
      rfl
     refine hK.out _ _ ⟨((cell_far (p := ⟨gb102, _, none⟩) NB109_102.out _).trans (((cell_far (p := ⟨gb102, _, none⟩) NB109_102.out _).trans (((cell_far (p := ⟨gb102, _, none⟩) NB109_102.out _).trans (hHeld.1)))))), ((cell_far (p := ⟨gb102, _, none⟩) NB109_102.out _).trans (((cell_far (p := ⟨gb102, _, none⟩) NB109_102.out _).trans (((cell_far (p := ⟨gb102, _, none⟩) NB109_102.out _).trans (hHeld.2))))))⟩ (fun hHeld => ?_)
     clear hK K
     refine pure_ (i := 6) (N := some 4) (v := ?_) (a' := ?_) #[true, true, true, true, true, true, true] rfl rfl (by kernel_rfl) (fun _ _ _ h => h) (Or.inl ⟨by rfl, ?_⟩) ?_ ?_
     rotate_left
     ·intro w'
      go_simp
      with_reducible rfl
     rotate_left
     ·simp only [Act.put, List.setIfInBounds_toArray, List.set_cons_zero, List.set_cons_succ, i64_w, i32_w]
      rfl
     refine done_ (by kernel_rfl) ?_
     try go_wp2
     refine bodyPost_ret (results_list (rs := [.cell 2 30, .cell 3 37, .tmp 4]) rfl (by simp) (.cell gb101 30 #[.int .i64 t104, .int .i64 t105] (0, 0) _ rfl (by refine blk_far ?_ NB101_102.out _; refine blk_far ?_ NB101_102.out _; refine blk_far ?_ NB101_102.out _; refine blk_put (cs := #[.int .i64 t104, .int .i64 0]) ?_ 1 _ rfl; refine blk_put (cs := #[.int .i64 0, .int .i64 0]) ?_ 0 _ rfl; exact (uP BK101)) Try.underlying30 rfl (by kernel_rfl) (.cell gb102 37 #[.int .i64 t138, .int .i64 t139, .int .i64 t140] (0, 0) _ rfl (by refine blk_put (cs := #[.int .i64 t138, .int .i64 t139, .int .i64 0]) ?_ 2 _ rfl; refine blk_put (cs := #[.int .i64 t138, .int .i64 0, .int .i64 0]) ?_ 1 _ rfl; refine blk_put (cs := #[.int .i64 0, .int .i64 0, .int .i64 0]) ?_ 0 _ rfl; refine blk_far ?_ NB102_101.out _; refine blk_far ?_ NB102_101.out _; exact (uP BK102)) Try.underlying37 rfl (by kernel_rfl) (.tmp .nil)))) rfl ?_
     exact ⟨uA, by exact uW⟩
end Go.Proofs.Ytcloklakffgbmaa.G
end
