/- Texts of this seat's proofs: contracts of its functions and plain laws about them, with no condition beyond those that each theorem states. -/
import Derived.Test.YtgdhbkoggfaioaaGreatDoorQe85c5c19
import Derived.Test.YtgdhbkoggfaioaaGreatDoorQ97079d4b
import Derived.Test.YtgdhbkoggfaioaaGreatDoorQbb626c0f
import Derived.Test.YtgdhbkoggfaioaaGreatDoorQ3577be40
set_option maxHeartbeats 8000000
set_option maxRecDepth 100000
section
namespace Go.Proofs.YtgdhbkoggfaioaaGreatDoor.G
open Go.RowKit Go.Proofs.YtgdhbkoggfaioaaGreatDoorW.PrintWords Go.Proofs.YtgdhbkoggfaioaaGreatDoorW.PrintLast Go.Proofs.YtgdhbkoggfaioaaGreatDoorW.PrintMore
attribute [local go_sem] max2_int min2_int max_two min_two max_three min_three max_four min_four
set_option linter.unusedVariables false
set_option linter.unusedSimpArgs false
section
attribute [local go_sem high] eqA62
def laws_aParcels.l0 : Nat → List (S62) → List (S62) → Int → Int → Option (Bool)
 | 0, _, _, _, _ => none
 | k + 1, x0, x1, x12, x13 => if x13 < x12 then (if 0 ≤ x13 then (if x13 < (x0.length : Int) then (if x13 < (x1.length : Int) then (if (!(((rd_T62 x0 x13).f0) == ((rd_T62 x1 x13).f0)) || (!(((rd_T62 x0 x13).f1) == ((rd_T62 x1 x13).f1)))) = true then (some false) else (laws_aParcels.l0 k x0 x1 x12 (wrap64 (x13 + 1)))) else (none)) else (none)) else (none)) else (some true)
def laws_aParcels.f (k : Nat) (l0 : List (S62)) (l1 : List (S62)) : Option (Bool) := if (l0.length : Int) = (l1.length : Int) then (laws_aParcels.l0 k l0 l1 (l0.length : Int) 0) else (some false)
theorem laws_aParcels.calls (k : Nat) (A0 : Option Addr) (c0 : Nat) (l0 : List (S62)) (A1 : Option Addr) (c1 : Nat) (l1 : List (S62)) (r : Bool) (w : World) (hr0 : Kd.C k62 w A0 l0.length l0) (hc0 : l0.length ≤ c0) (hr1 : Kd.C k62 w A1 l1.length l1) (hc1 : l1.length ≤ c1) (h : laws_aParcels.f k l0 l1 = some r) :
  Calls Tryz.prog 13 #[.slice A0 l0.length c0, .slice A1 l1.length c1] w fun e w' => e = .returned (.bool r) ∧ Drawn0 w w' := by
 have hu62 := Tryz.underlying62
 have HR0 := Aside0.mk hr0
 have HC0 := Aside0.mk hc0
 clear hr0 hc0
 have HR1 := Aside0.mk hr1
 have HC1 := Aside0.mk hc1
 clear hr1 hc1
 have H : (if (l0.length : Int) = (l1.length : Int) then (laws_aParcels.l0 k l0 l1 (l0.length : Int) 0) else (some false)) = some r := h
 clear h
 by_cases c3 : (l0.length : Int) = (l1.length : Int)
 ·rw [if_pos c3] at H
  have c3b0 : ((l0.length : Int) == (l1.length : Int)) = true := beq_iff_eq.mpr c3
  have c3b1 : ((l0.length : Int) != (l1.length : Int)) = false := bne_eq_false_iff_eq.mpr c3
  have c3b2 : (l0.length == l1.length) = true := by first | simpa using c3 | (simp at c3 ⊢; omega)
  clear c3
  have H' := Aside0.mk H
  clear H
  go_enter Tryz.func13, Tryz.ntmps13
  go_wp2
  repeat (go_quiet (fail); try go_wp2)
  go_loopg [13] k (fun kq v13 w' => ∃ (x13_1 : Int), v13 = .int .i64 x13_1 ∧ Aside0 (laws_aParcels.l0 kq l0 l1 (l0.length : Int) x13_1 = some r) ∧ Aside0 (kq ≤ k) ∧ Drawn0 w w')
  case atStart => exact ⟨(0), (by first | rfl | (simp; done) | (simp [*]; done)), H', ⟨Nat.le_refl _⟩, by repeat (first | exact Drawn0.refl _ | apply Drawn0.step)⟩
  case round =>
   clear H'
   try clear c1
   try clear p2
   try clear c3
   try clear c3b0
   try clear c3b1
   try clear c3b2
   obtain ⟨x13_1, rfl, HA, HK1, ⟨m1, rfl⟩⟩ := hrel
   cases gk with
   | zero => exact absurd HA.out (by simp [laws_aParcels.l0])
   | succ k1 =>
    have H := HA.out
    clear HA
    simp only [laws_aParcels.l0] at H
    by_cases c4 : x13_1 < (l0.length : Int)
    ·rw [if_pos c4] at H
     have c4b0 : decide (x13_1 < (l0.length : Int)) = true := decide_eq_true c4
     clear c4
     by_cases c5 : 0 ≤ x13_1
     ·rw [if_pos c5] at H
      have c5b0 : decide (0 ≤ x13_1) = true := decide_eq_true c5
      clear c5
      by_cases c6 : x13_1 < (l0.length : Int)
      ·rw [if_pos c6] at H
       have c6b0 : decide (x13_1 < (l0.length : Int)) = true := decide_eq_true c6
       clear c6
       by_cases c7 : x13_1 < (l1.length : Int)
       ·rw [if_pos c7] at H
        have c7b0 : decide (x13_1 < (l1.length : Int)) = true := decide_eq_true c7
        clear c7
        by_cases c8 : (!(((rd_T62 l0 x13_1).f0) == ((rd_T62 l1 x13_1).f0)) || (!(((rd_T62 l0 x13_1).f1) == ((rd_T62 l1 x13_1).f1)))) = true
        ·rw [if_pos c8] at H
         have c8b0 : (!(((rd_T62 l0 x13_1).f0) == ((rd_T62 l1 x13_1).f0)) || (!(((rd_T62 l0 x13_1).f1) == ((rd_T62 l1 x13_1).f1)))) = true := c8
         clear c8
         obtain rfl := Option.some.inj H
         have p101 : 0 ≤ (x13_1 : Int) := of_decide_eq_true (by first | (with_reducible assumption) | assumption)
         have q101 : x13_1 < (l0.length : Int) := of_decide_eq_true (by first | (with_reducible assumption) | assumption)
         obtain ⟨ad101, e101, hx101_0, hx101_1⟩ := at_T62 HR0.out x13_1 p101 q101
         cases e101
         replace p101 := eq_true p101
         replace q101 := eq_true q101
         have p102 : 0 ≤ (x13_1 : Int) := of_decide_eq_true (by first | (with_reducible assumption) | assumption)
         have q102 : x13_1 < (l1.length : Int) := of_decide_eq_true (by first | (with_reducible assumption) | assumption)
         obtain ⟨ad102, e102, hx102_0, hx102_1⟩ := at_T62 HR1.out x13_1 p102 q102
         cases e102
         replace p102 := eq_true p102
         replace q102 := eq_true q102
         go_wp2
         repeat (go_quiet (fail); try go_wp2)
         go_ret
         exact ⟨by first | rfl | (simp; done) | (simp [*]; done), by repeat (first | exact Drawn0.refl _ | apply Drawn0.step)⟩
        ·rw [if_neg c8] at H
         have c8b0 : (!(((rd_T62 l0 x13_1).f0) == ((rd_T62 l1 x13_1).f0)) || (!(((rd_T62 l0 x13_1).f1) == ((rd_T62 l1 x13_1).f1)))) = false := by simpa using c8
         clear c8
         have H' := Aside0.mk H
         clear H
         have p101 : 0 ≤ (x13_1 : Int) := of_decide_eq_true (by first | (with_reducible assumption) | assumption)
         have q101 : x13_1 < (l0.length : Int) := of_decide_eq_true (by first | (with_reducible assumption) | assumption)
         obtain ⟨ad101, e101, hx101_0, hx101_1⟩ := at_T62 HR0.out x13_1 p101 q101
         cases e101
         replace p101 := eq_true p101
         replace q101 := eq_true q101
         have p102 : 0 ≤ (x13_1 : Int) := of_decide_eq_true (by first | (with_reducible assumption) | assumption)
         have q102 : x13_1 < (l1.length : Int) := of_decide_eq_true (by first | (with_reducible assumption) | assumption)
         obtain ⟨ad102, e102, hx102_0, hx102_1⟩ := at_T62 HR1.out x13_1 p102 q102
         cases e102
         replace p102 := eq_true p102
         replace q102 := eq_true q102
         go_wp2
         repeat (go_quiet (fail); try go_wp2)
         go_roundg k1
         case measure => have := HK1.out; omega
         case rel => exact ⟨(wrap64 (x13_1 + 1)), (by first | rfl | (simp; done) | (simp [*]; done)), H', ⟨by have := HK1.out; omega⟩, by repeat (first | exact Drawn0.refl _ | apply Drawn0.step)⟩
       ·rw [if_neg c7] at H
        exact absurd H (by simp)
      ·rw [if_neg c6] at H
       exact absurd H (by simp)
     ·rw [if_neg c5] at H
      exact absurd H (by simp)
    ·rw [if_neg c4] at H
     have c4b0 : decide (x13_1 < (l0.length : Int)) = false := decide_eq_false c4
     clear c4
     obtain rfl := Option.some.inj H
     go_wp2
     repeat (go_quiet (fail); try go_wp2)
     go_ret
     exact ⟨by first | rfl | (simp; done) | (simp [*]; done), by repeat (first | exact Drawn0.refl _ | apply Drawn0.step)⟩
 ·rw [if_neg c3] at H
  have c3b0 : ((l0.length : Int) == (l1.length : Int)) = false := beq_eq_false_iff_ne.mpr c3
  have c3b1 : ((l0.length : Int) != (l1.length : Int)) = true := bne_iff_ne.mpr c3
  have c3b2 : (l0.length == l1.length) = false := by first | simpa using c3 | (simp at c3 ⊢; omega)
  obtain rfl := Option.some.inj H
  go_enter Tryz.func13, Tryz.ntmps13
  go_wp2
  repeat (go_quiet (fail); try go_wp2)
  go_ret
  exact ⟨by first | rfl | (simp; done) | (simp [*]; done), by repeat (first | exact Drawn0.refl _ | apply Drawn0.step)⟩
mutual
def spec_DrawLettersLength.l0 : Nat → List Int → Int → List Int → Int → Int → Option (List Int × Int)
 | 0, _, _, _, _, _ => none
 | k + 1, x5, x6, x102000, x102001, x102002 => if x6 > 0 then ((spec_l1Cur_pick.f x102000 x102001 x102002 9).bind fun bt105 => (if x5.length < 17592186044416 then (spec_DrawLettersLength.l0 k (x5 ++ [bt105.1]) (wrap64 (x6 - 1)) x102000 bt105.2.1 bt105.2.2) else (none))) else ((spec_l1Cur_pick.f x102000 x102001 x102002 14).bind fun bt111 => (if bt111.1 = 0 then ((spec_l1Cur_among.f x102000 bt111.2.1 bt111.2.2 (([(-1), 0, 1000, 1001, 4611686018427387904] : List Int))).bind fun bt117 => (if x5.length < 17592186044416 then ((spec_l1Cur_among.f x102000 bt117.2.1 bt117.2.2 (([1, 2, 3, 3, 5, 10, 100, 10000, 10001, 0] : List Int))).bind fun bt126 => (some ((x5 ++ [bt117.1]), bt126.1))) else (none))) else (if bt111.1 = 1 then (spec_DrawLettersLength.l1 k x5 x102000 bt111.2.1 bt111.2.2) else (if bt111.1 = 2 then ((spec_l1Cur_among.f x102000 bt111.2.1 bt111.2.2 (([1, 2, 3, 3, 5, 10, 100, 10000, 10001, 0] : List Int))).bind fun bt147 => (some (([] : List Int), bt147.1))) else ((spec_l1Cur_among.f x102000 bt111.2.1 bt111.2.2 (([1, 2, 3, 3, 5, 10, 100, 10000, 10001, 0] : List Int))).bind fun bt153 => (some (x5, bt153.1)))))))
def spec_DrawLettersLength.l1 : Nat → List Int → List Int → Int → Int → Option (List Int × Int)
 | 0, _, _, _, _ => none
 | k + 1, x5, x102000, x102001, x102002 => (spec_l1Cur_pick.f x102000 x102001 x102002 2).bind fun bt129 => (if (x5.length : Int) < (wrap64 (100 + bt129.1)) then ((spec_l1Cur_pick.f x102000 bt129.2.1 bt129.2.2 3).bind fun bt132 => (if x5.length < 17592186044416 then (spec_DrawLettersLength.l1 k (x5 ++ [bt132.1]) x102000 bt132.2.1 bt132.2.2) else (none))) else ((spec_l1Cur_among.f x102000 bt129.2.1 bt129.2.2 (([1, 2, 3, 3, 5, 10, 100, 10000, 10001, 0] : List Int))).bind fun bt141 => (some (x5, bt141.1))))
end
def spec_DrawLettersLength.f (k : Nat) (l0 : List Int) : Option (List Int × Int) := (spec_l1Cur_pick.f l0 0 0 8).bind fun bt102 => (spec_DrawLettersLength.l0 k ([] : List Int) (wrap64 (1 + bt102.1)) l0 bt102.2.1 bt102.2.2)
theorem spec_DrawLettersLength.calls (k : Nat) (A0 : Option Addr) (c0 : Nat) (l0 : List Int) (r1 : List Int) (r2 : Int) (w : World) (hr0 : Kd.C (Kd.int .u8) w A0 l0.length l0) (hc0 : l0.length ≤ c0) (h : spec_DrawLettersLength.f k l0 = some (r1, r2)) :
  Calls Tryz.prog 50 #[.slice A0 l0.length c0] w fun e w' => ∃ v0_ : Value, e = .returned (.tuple #[v0_, .int .i64 r2]) ∧ Kd.R (Kd.int .i64) 3 w' w.heap.size (fun _ => True) v0_ r1 ∧ Below w.heap.size w w' := by
 have hu49 := Tryz.underlying49
 have HR0 := Aside0.mk hr0
 have HC0 := Aside0.mk hc0
 clear hr0 hc0
 have HB := Aside0.mk (Below.refl w.heap.size w)
 have H : ((spec_l1Cur_pick.f l0 0 0 8).bind fun bt102 => (spec_DrawLettersLength.l0 k ([] : List Int) (wrap64 (1 + bt102.1)) l0 bt102.2.1 bt102.2.2)) = some (r1, r2) := h
 clear h
 replace H := Option.bind_eq_some_iff.mp H
 obtain ⟨⟨t102, t103, t104⟩, A20, H⟩ := H
 replace H : (spec_DrawLettersLength.l0 k ([] : List Int) (wrap64 (1 + t102)) l0 t103 t104) = some (r1, r2) := H
 have A2 := Aside0.mk A20
 clear A20
 have H' := Aside0.mk H
 clear H
 go_enter Tryz.func50, Tryz.ntmps50
 go_wp2_with (first | ((with_reducible refine gate_dst (N := 9) rfl ?_); refine box_event ?hg (N := 9) ?hd (cs := #[.slice A0 l0.length c0, .int .i64 0, .int .u64 0]) (t := 49) ?hr ?_; (case hd => rfl); (case hg => rfl); (case hr => first | (go_simp; done) | (go_simp; rfl)); intro gb101 hg w3 hbox hb; have n0_ := Aside0.mk (below_step (by repeat (first | (with_reducible first | exact HB.out | apply below_alloc | apply pw_below_drewN | apply below_drew1) | exact HB.out)) hb); have n1_ := Aside0.mk (hbox); have n2_ := Aside0.mk ((by rw [hg]; exact (below_size (by repeat (first | (with_reducible first | exact HB.out | apply below_alloc | apply pw_below_drewN | apply below_drew1) | exact HB.out))) : w.heap.size ≤ gb101)); have n3_ := Aside0.mk ((by rw [hg]; exact (below_size (by repeat (first | (with_reducible first | exact HB.out | apply below_alloc | apply pw_below_drewN | apply below_drew1) | exact HB.out))) : w.heap.size ≤ gb101)); clear HB; have HB := n0_; have BK101 := n1_; have GW101 := n2_; have GE101 := n3_; clear n0_ n1_ n2_ n3_; clear hb hbox hg) | ((with_reducible refine gate_callee (f := 57) rfl ?_); refine goesL_ (some 11) rfl rfl Tryz.func57 (by kernel_rfl) rfl #[.pointer (some ⟨gb101, 0, none⟩), .int .i64 8] rfl (by (try simp only [List.map_toArray, List.map_cons, List.map_nil]); first | done | rfl | (simp only [List.length_drop, List.length_take]; rfl)) ?_; (with_reducible refine (spec_l1Cur_pick.calls gb101 l0 0 0 8 t102 t103 t104 w _ ?side1 ?side2 A2.out).mono ?_); (case side1 => exact ⟨_, _, by (with_reducible repeat (first | refine blk_drewN ?_ _ | refine blk_drew ?_ | refine blk_alloc ?_ _)); exact BK101.out, GE101.out, HR0.out⟩); (case side2 => repeat (first | (with_reducible first | exact HB.out | apply below_alloc | apply pw_below_drewN | apply below_drew1 | refine below_set ?_ GE101.out) | exact HB.out)); rintro e w4 ⟨rfl, hi, hb, hk⟩; refine ⟨_, rfl, ?_⟩; have n0_ := Aside0.mk (hb); have n1_ := Aside0.mk (hi); clear HB; clear BK101; have HB := n0_; have HI101 := n1_; clear n0_ n1_; (try clear hb); (try clear hb2); (try clear hk); (try clear hi)))
 go_loopg [5, 6] k (fun kq v5 v6 w' => ∃ (x5_1 : List Int) (x6_1 : Int) (x102001_1 : Int) (x102002_1 : Int), v6 = .int .i64 x6_1 ∧ Aside0 (spec_DrawLettersLength.l0 kq x5_1 x6_1 l0 x102001_1 x102002_1 = some (r1, r2)) ∧ Aside0 (kq ≤ k) ∧ Aside0 (Kd.R (Kd.int .i64) 3 w' w.heap.size (fun _ => True) v5 x5_1) ∧ Aside0 (IsS49 w w' gb101 l0 x102001_1 x102002_1) ∧ Aside0 (Below w.heap.size w w'))
 case atStart => exact ⟨(([] : List Int)), (wrap64 (1 + t102)), (t103), (t104), (by first | rfl | (simp; done) | (simp [*]; done)), H', ⟨Nat.le_refl _⟩, ⟨by first | exact Kd.R_nil _ _ _ _ _ | exact Kd.N_nil _ _ _ _ _ | exact Kd.V_nil _ _ _ _ _ | exact Kd.Q_nil _ _ _ _ _ | exact Kd.S_nil _ _ _ _ _⟩, ⟨by repeat (first | (with_reducible first | exact HI101.out | apply IsS49.alloc | apply IsS49.drewN | apply IsS49.drew | apply IsS49.set_1 | apply IsS49.set_2) | exact HI101.out)⟩, ⟨by repeat (first | (with_reducible first | exact HB.out | apply below_alloc | apply pw_below_drewN | apply below_drew1 | refine below_set ?_ (IsS49.ge HI101.out)) | exact HB.out)⟩⟩
 case round =>
  clear H'
  try clear p2
  obtain ⟨x5_1, x6_1, x102001_1, x102002_1, rfl, HA, HK1, HO_5, HI101, HB⟩ := hrel
  cases gk with
  | zero => exact absurd HA.out (by simp [spec_DrawLettersLength.l0])
  | succ k1 =>
   have H := HA.out
   clear HA
   simp only [spec_DrawLettersLength.l0] at H
   by_cases c5 : x6_1 > 0
   ·rw [if_pos c5] at H
    have c5b0 : decide (0 < x6_1) = true := decide_eq_true c5
    clear c5
    replace H := Option.bind_eq_some_iff.mp H
    obtain ⟨⟨t105, t106, t107⟩, A60, H⟩ := H
    replace H : (if x5_1.length < 17592186044416 then (spec_DrawLettersLength.l0 k1 (x5_1 ++ [t105]) (wrap64 (x6_1 - 1)) l0 t106 t107) else (none)) = some (r1, r2) := H
    have A6 := Aside0.mk A60
    clear A60
    by_cases c7 : x5_1.length < 17592186044416
    ·rw [if_pos c7] at H
     have LMc7 := Aside0.mk c7
     clear c7
     obtain ⟨y108, hy108⟩ : ∃ y_ : List Int, y_ = (x5_1 ++ [t105]) := ⟨_, rfl⟩
     replace H : (spec_DrawLettersLength.l0 k1 y108 (wrap64 (x6_1 - 1)) l0 t106 t107) = some (r1, r2) := by first | (rw [hy108]; with_reducible exact H) | (have H2_ := (Option.bind_some _ _).symm.trans H; rw [hy108]; with_reducible exact H2_) | (have H2_ := (Option.bind_some _ _).symm.trans H; with_reducible exact H2_) | with_reducible exact H | (rw [hy108]; exact H) | exact H
     have Ny108 := Aside0.mk hy108
     clear hy108
     have H' := Aside0.mk H
     clear H
     go_wp2_with (first | ((with_reducible refine gate_callee (f := 57) rfl ?_); refine goesL_ (some 19) rfl rfl Tryz.func57 (by kernel_rfl) rfl #[.pointer (some ⟨gb101, 0, none⟩), .int .i64 9] rfl (by (try simp only [List.map_toArray, List.map_cons, List.map_nil]); first | done | rfl | (simp only [List.length_drop, List.length_take]; rfl)) ?_; (with_reducible refine (spec_l1Cur_pick.calls gb101 l0 x102001_1 x102002_1 9 t105 t106 t107 w _ ?side1 ?side2 A6.out).mono ?_); (case side1 => repeat (first | (with_reducible first | exact HI101.out | apply IsS49.alloc | apply IsS49.drewN | apply IsS49.drew | apply IsS49.set_1 | apply IsS49.set_2) | exact HI101.out)); (case side2 => repeat (first | (with_reducible first | exact HB.out | apply below_alloc | apply pw_below_drewN | apply below_drew1 | refine below_set ?_ (IsS49.ge HI101.out)) | exact HB.out)); rintro e w8 ⟨rfl, hi, hb, hk⟩; refine ⟨_, rfl, ?_⟩; have n0_ := Aside0.mk (Kd.R_mono (Kd.R_keep (IsS49.apart (show IsS49 w _ gb101 l0 x102001_1 x102002_1 from by repeat (first | (with_reducible first | exact HI101.out | apply IsS49.alloc | apply IsS49.drewN | apply IsS49.drew | apply IsS49.set_1 | apply IsS49.set_2) | exact HI101.out)) (by (with_reducible repeat (first | apply Kd.R_alloc | apply Kd.R_drewN | apply Kd.R_drew)); exact HO_5.out) (by decide)) hk (fun _ h => h.2)) (fun _ h => h.1)); have n1_ := Aside0.mk (hb); have n2_ := Aside0.mk (hi); clear HO_5; clear HB; clear HI101; have HO_5 := n0_; have HB := n1_; have HI101 := n2_; clear n0_ n1_ n2_; (try clear hb); (try clear hb2); (try clear hk); (try clear hi)) | ((with_reducible refine gate_builtin (b := .append) (xs := #[.tmp 17, .tmp 20]) rfl ?_); at_builtin; refine Kd.R_append (Kd.int .i64) (w0 := w) w.heap.size rfl (.tmp 17) (.tmp 20) 35 3 (.int .i64 0) 8 rfl Tryz.underlying35 info3 rfl (by decide) (by omega) u5 x5_1 t105 [.int .i64 t105] (fun _ => True) (fun _ => False) rfl rfl ?aP (fun _ hk => hk.elim) ?aF ?aO ?aB ?aS ?aL ?_; (case aP => exact rfl); (case aB => exact (by repeat (first | (with_reducible first | exact HB.out | apply below_alloc | apply pw_below_drewN | apply below_drew1 | refine below_set ?_ (IsS49.ge HI101.out)) | exact HB.out))); (case aF => exact (fun _ _ => trivial)); (case aO => exact (by (with_reducible repeat (first | apply Kd.R_alloc | apply Kd.R_drewN | apply Kd.R_drew)); exact HO_5.out)); (case aS => exact (below_size (by repeat (first | (with_reducible first | exact HB.out | apply below_alloc | apply pw_below_drewN | apply below_drew1 | refine below_set ?_ (IsS49.ge HI101.out)) | exact HB.out)))); (case aL => have := LMc7.out; omega); intro v109 w9 ho hb hg hat; rw [← Ny108.out] at ho; have n0_ := Aside0.mk (IsS49.grown (by repeat (first | (with_reducible first | exact HI101.out | apply IsS49.alloc | apply IsS49.drewN | apply IsS49.drew | apply IsS49.set_1 | apply IsS49.set_2) | exact HI101.out)) hg (IsS49.own_ne HI101.out HO_5.out (by decide))); have n1_ := Aside0.mk (hb); have n2_ := Aside0.mk (ho); clear HI101; clear HB; clear HO_5; have HI101 := n0_; have HB := n1_; have HO110 := n2_; clear n0_ n1_ n2_; clear ho hb hg hat))
     go_roundg k1
     case measure => have := HK1.out; omega
     case rel => exact ⟨(y108), (wrap64 (x6_1 - 1)), (t106), (t107), (by first | rfl | (simp; done) | (simp [*]; done)), H', ⟨by have := HK1.out; omega⟩, ⟨by (with_reducible repeat (first | apply Kd.R_alloc | apply Kd.R_drewN | apply Kd.R_drew)); exact HO110.out⟩, ⟨by repeat (first | (with_reducible first | exact HI101.out | apply IsS49.alloc | apply IsS49.drewN | apply IsS49.drew | apply IsS49.set_1 | apply IsS49.set_2) | exact HI101.out)⟩, ⟨by repeat (first | (with_reducible first | exact HB.out | apply below_alloc | apply pw_below_drewN | apply below_drew1 | refine below_set ?_ (IsS49.ge HI101.out)) | exact HB.out)⟩⟩
    ·rw [if_neg c7] at H
     exact absurd H (by simp)
   ·rw [if_neg c5] at H
    have c5b0 : decide (0 < x6_1) = false := decide_eq_false c5
    clear c5
    replace H := Option.bind_eq_some_iff.mp H
    obtain ⟨⟨t111, t112, t113⟩, A100, H⟩ := H
    replace H : (if t111 = 0 then ((spec_l1Cur_among.f l0 t112 t113 (([(-1), 0, 1000, 1001, 4611686018427387904] : List Int))).bind fun bt117 => (if x5_1.length < 17592186044416 then ((spec_l1Cur_among.f l0 bt117.2.1 bt117.2.2 (([1, 2, 3, 3, 5, 10, 100, 10000, 10001, 0] : List Int))).bind fun bt126 => (some ((x5_1 ++ [bt117.1]), bt126.1))) else (none))) else (if t111 = 1 then (spec_DrawLettersLength.l1 k1 x5_1 l0 t112 t113) else (if t111 = 2 then ((spec_l1Cur_among.f l0 t112 t113 (([1, 2, 3, 3, 5, 10, 100, 10000, 10001, 0] : List Int))).bind fun bt147 => (some (([] : List Int), bt147.1))) else ((spec_l1Cur_among.f l0 t112 t113 (([1, 2, 3, 3, 5, 10, 100, 10000, 10001, 0] : List Int))).bind fun bt153 => (some (x5_1, bt153.1)))))) = some (r1, r2) := H
    have A10 := Aside0.mk A100
    clear A100
    by_cases c11 : t111 = 0
    ·rw [if_pos c11] at H
     have c11b0 : (t111 == 0) = true := beq_iff_eq.mpr c11
     have c11b1 : (t111 != 0) = false := bne_eq_false_iff_eq.mpr c11
     clear c11
     obtain ⟨y114, hy114⟩ : ∃ y_ : List Int, y_ = (([(-1), 0, 1000, 1001, 4611686018427387904] : List Int)) := ⟨_, rfl⟩
     replace H : ((spec_l1Cur_among.f l0 t112 t113 y114).bind fun bt117 => (if x5_1.length < 17592186044416 then ((spec_l1Cur_among.f l0 bt117.2.1 bt117.2.2 (([1, 2, 3, 3, 5, 10, 100, 10000, 10001, 0] : List Int))).bind fun bt126 => (some ((x5_1 ++ [bt117.1]), bt126.1))) else (none))) = some (r1, r2) := by first | (rw [hy114]; with_reducible exact H) | (have H2_ := (Option.bind_some _ _).symm.trans H; rw [hy114]; with_reducible exact H2_) | (have H2_ := (Option.bind_some _ _).symm.trans H; with_reducible exact H2_) | with_reducible exact H | (rw [hy114]; exact H) | exact H
     have Ny114 := Aside0.mk hy114
     clear hy114
     replace H := Option.bind_eq_some_iff.mp H
     obtain ⟨⟨t117, t118, t119⟩, A120, H⟩ := H
     replace H : (if x5_1.length < 17592186044416 then ((spec_l1Cur_among.f l0 t118 t119 (([1, 2, 3, 3, 5, 10, 100, 10000, 10001, 0] : List Int))).bind fun bt126 => (some ((x5_1 ++ [t117]), bt126.1))) else (none)) = some (r1, r2) := H
     have A12 := Aside0.mk A120
     clear A120
     by_cases c13 : x5_1.length < 17592186044416
     ·rw [if_pos c13] at H
      have LMc13 := Aside0.mk c13
      clear c13
      obtain ⟨y120, hy120⟩ : ∃ y_ : List Int, y_ = (x5_1 ++ [t117]) := ⟨_, rfl⟩
      replace H : ((spec_l1Cur_among.f l0 t118 t119 (([1, 2, 3, 3, 5, 10, 100, 10000, 10001, 0] : List Int))).bind fun bt126 => (some (y120, bt126.1))) = some (r1, r2) := by first | (rw [hy120]; with_reducible exact H) | (have H2_ := (Option.bind_some _ _).symm.trans H; rw [hy120]; with_reducible exact H2_) | (have H2_ := (Option.bind_some _ _).symm.trans H; with_reducible exact H2_) | with_reducible exact H | (rw [hy120]; exact H) | exact H
      have Ny120 := Aside0.mk hy120
      clear hy120
      obtain ⟨y123, hy123⟩ : ∃ y_ : List Int, y_ = (([1, 2, 3, 3, 5, 10, 100, 10000, 10001, 0] : List Int)) := ⟨_, rfl⟩
      replace H : ((spec_l1Cur_among.f l0 t118 t119 y123).bind fun bt126 => (some (y120, bt126.1))) = some (r1, r2) := by first | (rw [hy123]; with_reducible exact H) | (have H2_ := (Option.bind_some _ _).symm.trans H; rw [hy123]; with_reducible exact H2_) | (have H2_ := (Option.bind_some _ _).symm.trans H; with_reducible exact H2_) | with_reducible exact H | (rw [hy123]; exact H) | exact H
      have Ny123 := Aside0.mk hy123
      clear hy123
      replace H := Option.bind_eq_some_iff.mp H
      obtain ⟨⟨t126, t127, t128⟩, A140, H⟩ := H
      replace H : (some (y120, t126)) = some (r1, r2) := H
      have A14 := Aside0.mk A140
      clear A140
      simp only [Option.some.injEq, Prod.mk.injEq] at H
      obtain ⟨rfl, rfl⟩ := H
      go_wp2_with (first | ((with_reducible refine gate_callee (f := 57) rfl ?_); refine goesL_ (some 23) rfl rfl Tryz.func57 (by kernel_rfl) rfl #[.pointer (some ⟨gb101, 0, none⟩), .int .i64 14] rfl (by (try simp only [List.map_toArray, List.map_cons, List.map_nil]); first | done | rfl | (simp only [List.length_drop, List.length_take]; rfl)) ?_; (with_reducible refine (spec_l1Cur_pick.calls gb101 l0 x102001_1 x102002_1 14 t111 t112 t113 w _ ?side1 ?side2 A10.out).mono ?_); (case side1 => repeat (first | (with_reducible first | exact HI101.out | apply IsS49.alloc | apply IsS49.drewN | apply IsS49.drew | apply IsS49.set_1 | apply IsS49.set_2) | exact HI101.out)); (case side2 => repeat (first | (with_reducible first | exact HB.out | apply below_alloc | apply pw_below_drewN | apply below_drew1 | refine below_set ?_ (IsS49.ge HI101.out)) | exact HB.out)); rintro e w15 ⟨rfl, hi, hb, hk⟩; refine ⟨_, rfl, ?_⟩; have n0_ := Aside0.mk (Kd.R_mono (Kd.R_keep (IsS49.apart (show IsS49 w _ gb101 l0 x102001_1 x102002_1 from by repeat (first | (with_reducible first | exact HI101.out | apply IsS49.alloc | apply IsS49.drewN | apply IsS49.drew | apply IsS49.set_1 | apply IsS49.set_2) | exact HI101.out)) (by (with_reducible repeat (first | apply Kd.R_alloc | apply Kd.R_drewN | apply Kd.R_drew)); exact HO_5.out) (by decide)) hk (fun _ h => h.2)) (fun _ h => h.1)); have n1_ := Aside0.mk (hb); have n2_ := Aside0.mk (hi); clear HO_5; clear HB; clear HI101; have HO_5 := n0_; have HB := n1_; have HI101 := n2_; clear n0_ n1_ n2_; (try clear hb); (try clear hb2); (try clear hk); (try clear hi)) | ((with_reducible refine gate_dst (N := 28) rfl ?_); refine Kd.R_lit (Kd.int .i64) _ 3 ?hg (N := 28) ?hd (xs := ([(-1), 0, 1000, 1001, 4611686018427387904] : List Int)) (inner := [.int .i64 (-1), .int .i64 0, .int .i64 1000, .int .i64 1001, .int .i64 4611686018427387904]) (ok := fun _ => True) (okp := fun _ => True) ?hr ?hp (fun _ hk => hk) trivial (Below.refl _ _) (Nat.le_refl _) (by simp) ?_; (case hd => rfl); (case hg => rfl); (case hr => first | (go_simp; done) | (go_simp; rfl)); (case hp => exact (Reps.one (show Kd.M (Kd.int .i64) _ _ _ (-1) [.int .i64 (-1)] from rfl) (Reps.one (show Kd.M (Kd.int .i64) _ _ _ 0 [.int .i64 0] from rfl) (Reps.one (show Kd.M (Kd.int .i64) _ _ _ 1000 [.int .i64 1000] from rfl) (Reps.one (show Kd.M (Kd.int .i64) _ _ _ 1001 [.int .i64 1001] from rfl) (Reps.one (show Kd.M (Kd.int .i64) _ _ _ 4611686018427387904 [.int .i64 4611686018427387904] from rfl) (Reps.none _ _))))))); intro v115 w16 ho17 hb hg_ hnew_; clear hg_ hnew_; (first | rw [← Ny114.out] at ho17 | (simp only [Int.reduceToNat] at ho17; rw [← Ny114.out] at ho17)); have n0_ := Aside0.mk (Kd.R_elder' (by (with_reducible repeat (first | apply Kd.R_alloc | apply Kd.R_drewN | apply Kd.R_drew)); exact HO_5.out) (Kd.R_base ho17) hb); have n1_ := Aside0.mk (Kd.R_lower (Kd.R_new' ho17 (Kd.R_lt (by (with_reducible repeat (first | apply Kd.R_alloc | apply Kd.R_drewN | apply Kd.R_drew)); exact HO_5.out))) (below_size (by repeat (first | (with_reducible first | exact HB.out | apply below_alloc | apply pw_below_drewN | apply below_drew1 | refine below_set ?_ (IsS49.ge HI101.out)) | exact HB.out)))); have n2_ := Aside0.mk (IsS49.below (by repeat (first | (with_reducible first | exact HI101.out | apply IsS49.alloc | apply IsS49.drewN | apply IsS49.drew | apply IsS49.set_1 | apply IsS49.set_2) | exact HI101.out)) hb); have n3_ := Aside0.mk (below_step (by repeat (first | (with_reducible first | exact HB.out | apply below_alloc | apply pw_below_drewN | apply below_drew1 | refine below_set ?_ (IsS49.ge HI101.out)) | exact HB.out)) hb); clear HO_5; clear HI101; clear HB; have HO_5 := n0_; have HO116 := n1_; have HI101 := n2_; have HB := n3_; clear n0_ n1_ n2_ n3_; clear hb ho17; obtain ⟨Ao18, co18, eo18⟩ := Kd.R_slice HO116.out; subst eo18) | ((with_reducible refine gate_callee (f := 27) rfl ?_); refine goesL_ (some 29) rfl rfl Tryz.func27 (by kernel_rfl) rfl #[.pointer (some ⟨gb101, 0, none⟩), .slice Ao18 y114.length co18] rfl (by (try simp only [List.map_toArray, List.map_cons, List.map_nil]); first | done | rfl | (simp only [List.length_drop, List.length_take]; rfl)) ?_; (with_reducible refine (spec_l1Cur_among.calls gb101 l0 t112 t113 _ _ y114 t117 t118 t119 w _ ?side1 ?side2 ?side3 ?side4 ?side5 A12.out).mono ?_); (case side1 => repeat (first | (with_reducible first | exact HI101.out | apply IsS49.alloc | apply IsS49.drewN | apply IsS49.drew | apply IsS49.set_1 | apply IsS49.set_2) | exact HI101.out)); (case side2 => repeat (first | (with_reducible first | exact HB.out | apply below_alloc | apply pw_below_drewN | apply below_drew1 | refine below_set ?_ (IsS49.ge HI101.out)) | exact HB.out)); (case side3 => repeat (first | exact (Kd.R_reads' HO116.out).2.2 | (with_reducible refine Kd.C_alloc ?_ _) | (with_reducible refine Kd.C_drewN ?_ _) | (with_reducible refine Kd.C_drew ?_))); (case side4 => exact (Kd.R_reads' HO116.out).2.1); (case side5 => exact far_slice (IsS49.own_ne HI101.out HO116.out (by decide))); rintro e w19 ⟨rfl, hi, hb, hk⟩; refine ⟨_, rfl, ?_⟩; have n0_ := Aside0.mk (Kd.R_mono (Kd.R_keep (IsS49.apart (show IsS49 w _ gb101 l0 t112 t113 from by repeat (first | (with_reducible first | exact HI101.out | apply IsS49.alloc | apply IsS49.drewN | apply IsS49.drew | apply IsS49.set_1 | apply IsS49.set_2) | exact HI101.out)) (by (with_reducible repeat (first | apply Kd.R_alloc | apply Kd.R_drewN | apply Kd.R_drew)); exact HO_5.out) (by decide)) hk (fun _ h => h.2)) (fun _ h => h.1)); have n1_ := Aside0.mk (Kd.R_mono (Kd.R_keep (IsS49.apart (show IsS49 w _ gb101 l0 t112 t113 from by repeat (first | (with_reducible first | exact HI101.out | apply IsS49.alloc | apply IsS49.drewN | apply IsS49.drew | apply IsS49.set_1 | apply IsS49.set_2) | exact HI101.out)) (by (with_reducible repeat (first | apply Kd.R_alloc | apply Kd.R_drewN | apply Kd.R_drew)); exact HO116.out) (by decide)) hk (fun _ h => h.2)) (fun _ h => h.1)); have n2_ := Aside0.mk (hb); have n3_ := Aside0.mk (hi); clear HO_5; clear HO116; clear HB; clear HI101; have HO_5 := n0_; have HO116 := n1_; have HB := n2_; have HI101 := n3_; clear n0_ n1_ n2_ n3_; (try clear hb); (try clear hb2); (try clear hk); (try clear hi)) | ((with_reducible refine gate_builtin (b := .append) (xs := #[.tmp 26, .tmp 30]) rfl ?_); at_builtin; refine Kd.R_append (Kd.int .i64) (w0 := w) w.heap.size rfl (.tmp 26) (.tmp 30) 35 3 (.int .i64 0) 8 rfl Tryz.underlying35 info3 rfl (by decide) (by omega) u5 x5_1 t117 [.int .i64 t117] (fun k_ => some k_ ≠ (.slice Ao18 y114.length co18 : Value).ownBlock) (fun _ => False) rfl rfl ?aP (fun _ hk => hk.elim) ?aF ?aO ?aB ?aS ?aL ?_; (case aP => exact rfl); (case aB => exact (by repeat (first | (with_reducible first | exact HB.out | apply below_alloc | apply pw_below_drewN | apply below_drew1 | refine below_set ?_ (IsS49.ge HI101.out)) | exact HB.out))); (case aF => exact (fun k_ hk => Kd.fresh' (Kd.R_lt (by (with_reducible repeat (first | apply Kd.R_alloc | apply Kd.R_drewN | apply Kd.R_drew)); exact HO116.out)) k_ hk)); (case aO => exact (by (with_reducible repeat (first | apply Kd.R_alloc | apply Kd.R_drewN | apply Kd.R_drew)); exact Kd.R_mono HO_5.out (fun _ hk => hk.2))); (case aS => exact (below_size (by repeat (first | (with_reducible first | exact HB.out | apply below_alloc | apply pw_below_drewN | apply below_drew1 | refine below_set ?_ (IsS49.ge HI101.out)) | exact HB.out)))); (case aL => have := LMc13.out; omega); intro v121 w20 ho hb hg hat; rw [← Ny120.out] at ho; have n0_ := Aside0.mk (IsS49.grown (by repeat (first | (with_reducible first | exact HI101.out | apply IsS49.alloc | apply IsS49.drewN | apply IsS49.drew | apply IsS49.set_1 | apply IsS49.set_2) | exact HI101.out)) hg (IsS49.own_ne HI101.out HO_5.out (by decide))); have n1_ := Aside0.mk (Kd.R_after (ok := (fun _ => True)) (by (with_reducible repeat (first | apply Kd.R_alloc | apply Kd.R_drewN | apply Kd.R_drew)); exact HO116.out) hg hat); have n2_ := Aside0.mk (hb); have n3_ := Aside0.mk (ho); clear HI101; clear HO116; clear HB; clear HO_5; have HI101 := n0_; have HO116 := n1_; have HB := n2_; have HO122 := n3_; clear n0_ n1_ n2_ n3_; clear ho hb hg hat) | ((with_reducible refine gate_dst (N := 49) rfl ?_); refine Kd.R_lit (Kd.int .i64) _ 3 ?hg (N := 49) ?hd (xs := ([1, 2, 3, 3, 5, 10, 100, 10000, 10001, 0] : List Int)) (inner := [.int .i64 1, .int .i64 2, .int .i64 3, .int .i64 3, .int .i64 5, .int .i64 10, .int .i64 100, .int .i64 10000, .int .i64 10001, .int .i64 0]) (ok := fun _ => True) (okp := fun _ => True) ?hr ?hp (fun _ hk => hk) trivial (Below.refl _ _) (Nat.le_refl _) (by simp) ?_; (case hd => rfl); (case hg => rfl); (case hr => first | (go_simp; done) | (go_simp; rfl)); (case hp => exact (Reps.one (show Kd.M (Kd.int .i64) _ _ _ 1 [.int .i64 1] from rfl) (Reps.one (show Kd.M (Kd.int .i64) _ _ _ 2 [.int .i64 2] from rfl) (Reps.one (show Kd.M (Kd.int .i64) _ _ _ 3 [.int .i64 3] from rfl) (Reps.one (show Kd.M (Kd.int .i64) _ _ _ 3 [.int .i64 3] from rfl) (Reps.one (show Kd.M (Kd.int .i64) _ _ _ 5 [.int .i64 5] from rfl) (Reps.one (show Kd.M (Kd.int .i64) _ _ _ 10 [.int .i64 10] from rfl) (Reps.one (show Kd.M (Kd.int .i64) _ _ _ 100 [.int .i64 100] from rfl) (Reps.one (show Kd.M (Kd.int .i64) _ _ _ 10000 [.int .i64 10000] from rfl) (Reps.one (show Kd.M (Kd.int .i64) _ _ _ 10001 [.int .i64 10001] from rfl) (Reps.one (show Kd.M (Kd.int .i64) _ _ _ 0 [.int .i64 0] from rfl) (Reps.none _ _)))))))))))); intro v124 w21 ho22 hb hg_ hnew_; clear hg_ hnew_; (first | rw [← Ny123.out] at ho22 | (simp only [Int.reduceToNat] at ho22; rw [← Ny123.out] at ho22)); have n0_ := Aside0.mk (Kd.R_elder' (by (with_reducible repeat (first | apply Kd.R_alloc | apply Kd.R_drewN | apply Kd.R_drew)); exact HO116.out) (Kd.R_base ho22) hb); have n1_ := Aside0.mk (Kd.R_elder' (by (with_reducible repeat (first | apply Kd.R_alloc | apply Kd.R_drewN | apply Kd.R_drew)); exact HO122.out) (Kd.R_base ho22) hb); have n2_ := Aside0.mk (Kd.R_lower (Kd.R_new' (Kd.R_new' ho22 (Kd.R_lt (by (with_reducible repeat (first | apply Kd.R_alloc | apply Kd.R_drewN | apply Kd.R_drew)); exact HO116.out))) (Kd.R_lt (by (with_reducible repeat (first | apply Kd.R_alloc | apply Kd.R_drewN | apply Kd.R_drew)); exact HO122.out))) (below_size (by repeat (first | (with_reducible first | exact HB.out | apply below_alloc | apply pw_below_drewN | apply below_drew1 | refine below_set ?_ (IsS49.ge HI101.out)) | exact HB.out)))); have n3_ := Aside0.mk (IsS49.below (by repeat (first | (with_reducible first | exact HI101.out | apply IsS49.alloc | apply IsS49.drewN | apply IsS49.drew | apply IsS49.set_1 | apply IsS49.set_2) | exact HI101.out)) hb); have n4_ := Aside0.mk (below_step (by repeat (first | (with_reducible first | exact HB.out | apply below_alloc | apply pw_below_drewN | apply below_drew1 | refine below_set ?_ (IsS49.ge HI101.out)) | exact HB.out)) hb); clear HO116; clear HO122; clear HI101; clear HB; have HO116 := n0_; have HO122 := n1_; have HO125 := n2_; have HI101 := n3_; have HB := n4_; clear n0_ n1_ n2_ n3_ n4_; clear hb ho22; obtain ⟨Ao23, co23, eo23⟩ := Kd.R_slice HO125.out; subst eo23) | ((with_reducible refine gate_callee (f := 27) rfl ?_); refine goesL_ (some 50) rfl rfl Tryz.func27 (by kernel_rfl) rfl #[.pointer (some ⟨gb101, 0, none⟩), .slice Ao23 y123.length co23] rfl (by (try simp only [List.map_toArray, List.map_cons, List.map_nil]); first | done | rfl | (simp only [List.length_drop, List.length_take]; rfl)) ?_; (with_reducible refine (spec_l1Cur_among.calls gb101 l0 t118 t119 _ _ y123 t126 t127 t128 w _ ?side1 ?side2 ?side3 ?side4 ?side5 A14.out).mono ?_); (case side1 => repeat (first | (with_reducible first | exact HI101.out | apply IsS49.alloc | apply IsS49.drewN | apply IsS49.drew | apply IsS49.set_1 | apply IsS49.set_2) | exact HI101.out)); (case side2 => repeat (first | (with_reducible first | exact HB.out | apply below_alloc | apply pw_below_drewN | apply below_drew1 | refine below_set ?_ (IsS49.ge HI101.out)) | exact HB.out)); (case side3 => repeat (first | exact (Kd.R_reads' HO125.out).2.2 | (with_reducible refine Kd.C_alloc ?_ _) | (with_reducible refine Kd.C_drewN ?_ _) | (with_reducible refine Kd.C_drew ?_))); (case side4 => exact (Kd.R_reads' HO125.out).2.1); (case side5 => exact far_slice (IsS49.own_ne HI101.out HO125.out (by decide))); rintro e w24 ⟨rfl, hi, hb, hk⟩; refine ⟨_, rfl, ?_⟩; have n0_ := Aside0.mk (Kd.R_mono (Kd.R_keep (IsS49.apart (show IsS49 w _ gb101 l0 t118 t119 from by repeat (first | (with_reducible first | exact HI101.out | apply IsS49.alloc | apply IsS49.drewN | apply IsS49.drew | apply IsS49.set_1 | apply IsS49.set_2) | exact HI101.out)) (by (with_reducible repeat (first | apply Kd.R_alloc | apply Kd.R_drewN | apply Kd.R_drew)); exact HO116.out) (by decide)) hk (fun _ h => h.2)) (fun _ h => h.1)); have n1_ := Aside0.mk (Kd.R_mono (Kd.R_keep (IsS49.apart (show IsS49 w _ gb101 l0 t118 t119 from by repeat (first | (with_reducible first | exact HI101.out | apply IsS49.alloc | apply IsS49.drewN | apply IsS49.drew | apply IsS49.set_1 | apply IsS49.set_2) | exact HI101.out)) (by (with_reducible repeat (first | apply Kd.R_alloc | apply Kd.R_drewN | apply Kd.R_drew)); exact HO122.out) (by decide)) hk (fun _ h => h.2)) (fun _ h => h.1)); have n2_ := Aside0.mk (Kd.R_mono (Kd.R_keep (IsS49.apart (show IsS49 w _ gb101 l0 t118 t119 from by repeat (first | (with_reducible first | exact HI101.out | apply IsS49.alloc | apply IsS49.drewN | apply IsS49.drew | apply IsS49.set_1 | apply IsS49.set_2) | exact HI101.out)) (by (with_reducible repeat (first | apply Kd.R_alloc | apply Kd.R_drewN | apply Kd.R_drew)); exact HO125.out) (by decide)) hk (fun _ h => h.2)) (fun _ h => h.1)); have n3_ := Aside0.mk (hb); have n4_ := Aside0.mk (hi); clear HO116; clear HO122; clear HO125; clear HB; clear HI101; have HO116 := n0_; have HO122 := n1_; have HO125 := n2_; have HB := n3_; have HI101 := n4_; clear n0_ n1_ n2_ n3_ n4_; (try clear hb); (try clear hb2); (try clear hk); (try clear hi)))
      go_ret2
      exact ⟨_, by first | rfl | (simp [errW_none, errW_some] <;> rfl) | (simp [*, errW_none, errW_some] <;> rfl), by (with_reducible repeat (first | apply Kd.R_alloc | apply Kd.R_drewN | apply Kd.R_drew)); exact Kd.R_mono HO122.out (fun _ hk => trivial), by repeat (first | (with_reducible first | exact HB.out | apply below_alloc | apply pw_below_drewN | apply below_drew1 | refine below_set ?_ (IsS49.ge HI101.out)) | exact HB.out)⟩
     ·rw [if_neg c13] at H
      exact absurd H (by simp)
    ·rw [if_neg c11] at H
     have c11b0 : (t111 == 0) = false := beq_eq_false_iff_ne.mpr c11
     have c11b1 : (t111 != 0) = true := bne_iff_ne.mpr c11
     by_cases c25 : t111 = 1
     ·rw [if_pos c25] at H
      have c25b0 : (t111 == 1) = true := beq_iff_eq.mpr c25
      have c25b1 : (t111 != 1) = false := bne_eq_false_iff_eq.mpr c25
      clear c25
      have H' := Aside0.mk H
      clear H
      go_wp2_with (first | ((with_reducible refine gate_callee (f := 57) rfl ?_); refine goesL_ (some 23) rfl rfl Tryz.func57 (by kernel_rfl) rfl #[.pointer (some ⟨gb101, 0, none⟩), .int .i64 14] rfl (by (try simp only [List.map_toArray, List.map_cons, List.map_nil]); first | done | rfl | (simp only [List.length_drop, List.length_take]; rfl)) ?_; (with_reducible refine (spec_l1Cur_pick.calls gb101 l0 x102001_1 x102002_1 14 t111 t112 t113 w _ ?side1 ?side2 A10.out).mono ?_); (case side1 => repeat (first | (with_reducible first | exact HI101.out | apply IsS49.alloc | apply IsS49.drewN | apply IsS49.drew | apply IsS49.set_1 | apply IsS49.set_2) | exact HI101.out)); (case side2 => repeat (first | (with_reducible first | exact HB.out | apply below_alloc | apply pw_below_drewN | apply below_drew1 | refine below_set ?_ (IsS49.ge HI101.out)) | exact HB.out)); rintro e w26 ⟨rfl, hi, hb, hk⟩; refine ⟨_, rfl, ?_⟩; have n0_ := Aside0.mk (Kd.R_mono (Kd.R_keep (IsS49.apart (show IsS49 w _ gb101 l0 x102001_1 x102002_1 from by repeat (first | (with_reducible first | exact HI101.out | apply IsS49.alloc | apply IsS49.drewN | apply IsS49.drew | apply IsS49.set_1 | apply IsS49.set_2) | exact HI101.out)) (by (with_reducible repeat (first | apply Kd.R_alloc | apply Kd.R_drewN | apply Kd.R_drew)); exact HO_5.out) (by decide)) hk (fun _ h => h.2)) (fun _ h => h.1)); have n1_ := Aside0.mk (hb); have n2_ := Aside0.mk (hi); clear HO_5; clear HB; clear HI101; have HO_5 := n0_; have HB := n1_; have HI101 := n2_; clear n0_ n1_ n2_; (try clear hb); (try clear hb2); (try clear hk); (try clear hi)))
      go_loopg [5] k1 (fun kq v5 w' => ∃ (x5_2 : List Int) (x102001_2 : Int) (x102002_2 : Int), Aside0 (spec_DrawLettersLength.l1 kq x5_2 l0 x102001_2 x102002_2 = some (r1, r2)) ∧ Aside0 (kq ≤ k1) ∧ Aside0 (Kd.R (Kd.int .i64) 3 w' w.heap.size (fun _ => True) v5 x5_2) ∧ Aside0 (IsS49 w w' gb101 l0 x102001_2 x102002_2) ∧ Aside0 (Below w.heap.size w w'))
      case atStart => exact ⟨(x5_1), (t112), (t113), H', ⟨Nat.le_refl _⟩, ⟨by (with_reducible repeat (first | apply Kd.R_alloc | apply Kd.R_drewN | apply Kd.R_drew)); exact HO_5.out⟩, ⟨by repeat (first | (with_reducible first | exact HI101.out | apply IsS49.alloc | apply IsS49.drewN | apply IsS49.drew | apply IsS49.set_1 | apply IsS49.set_2) | exact HI101.out)⟩, ⟨by repeat (first | (with_reducible first | exact HB.out | apply below_alloc | apply pw_below_drewN | apply below_drew1 | refine below_set ?_ (IsS49.ge HI101.out)) | exact HB.out)⟩⟩
      case round =>
       clear H'
       try clear c1
       try clear c2
       try clear p2
       try clear c5
       try clear c5b0
       try clear p6
       try clear c7
       try clear c11
       try clear c11b0
       try clear c11b1
       try clear c13
       try clear c25
       try clear c25b0
       try clear c25b1
       try clear p2
       obtain ⟨x5_2, x102001_2, x102002_2, HA, HK2, HO_5, HI101, HB⟩ := hrel
       cases gk with
       | zero => exact absurd HA.out (by simp [spec_DrawLettersLength.l1])
       | succ k2 =>
        have H := HA.out
        clear HA
        simp only [spec_DrawLettersLength.l1] at H
        replace H := Option.bind_eq_some_iff.mp H
        obtain ⟨⟨t129, t130, t131⟩, A270, H⟩ := H
        replace H : (if (x5_2.length : Int) < (wrap64 (100 + t129)) then ((spec_l1Cur_pick.f l0 t130 t131 3).bind fun bt132 => (if x5_2.length < 17592186044416 then (spec_DrawLettersLength.l1 k2 (x5_2 ++ [bt132.1]) l0 bt132.2.1 bt132.2.2) else (none))) else ((spec_l1Cur_among.f l0 t130 t131 (([1, 2, 3, 3, 5, 10, 100, 10000, 10001, 0] : List Int))).bind fun bt141 => (some (x5_2, bt141.1)))) = some (r1, r2) := H
        have A27 := Aside0.mk A270
        clear A270
        by_cases c28 : (x5_2.length : Int) < (wrap64 (100 + t129))
        ·rw [if_pos c28] at H
         have c28b0 : decide ((x5_2.length : Int) < (wrap64 (100 + t129))) = true := decide_eq_true c28
         clear c28
         replace H := Option.bind_eq_some_iff.mp H
         obtain ⟨⟨t132, t133, t134⟩, A290, H⟩ := H
         replace H : (if x5_2.length < 17592186044416 then (spec_DrawLettersLength.l1 k2 (x5_2 ++ [t132]) l0 t133 t134) else (none)) = some (r1, r2) := H
         have A29 := Aside0.mk A290
         clear A290
         by_cases c30 : x5_2.length < 17592186044416
         ·rw [if_pos c30] at H
          have LMc30 := Aside0.mk c30
          clear c30
          obtain ⟨y135, hy135⟩ : ∃ y_ : List Int, y_ = (x5_2 ++ [t132]) := ⟨_, rfl⟩
          replace H : (spec_DrawLettersLength.l1 k2 y135 l0 t133 t134) = some (r1, r2) := by first | (rw [hy135]; with_reducible exact H) | (have H2_ := (Option.bind_some _ _).symm.trans H; rw [hy135]; with_reducible exact H2_) | (have H2_ := (Option.bind_some _ _).symm.trans H; with_reducible exact H2_) | with_reducible exact H | (rw [hy135]; exact H) | exact H
          have Ny135 := Aside0.mk hy135
          clear hy135
          have H' := Aside0.mk H
          clear H
          obtain ⟨Ao31, co31, eo31⟩ := Kd.R_slice HO_5.out
          subst eo31
          go_wp2_with (first | ((with_reducible refine gate_callee (f := 57) rfl ?_); refine goesL_ (some 37) rfl rfl Tryz.func57 (by kernel_rfl) rfl #[.pointer (some ⟨gb101, 0, none⟩), .int .i64 2] rfl (by (try simp only [List.map_toArray, List.map_cons, List.map_nil]); first | done | rfl | (simp only [List.length_drop, List.length_take]; rfl)) ?_; (with_reducible refine (spec_l1Cur_pick.calls gb101 l0 x102001_2 x102002_2 2 t129 t130 t131 w _ ?side1 ?side2 A27.out).mono ?_); (case side1 => repeat (first | (with_reducible first | exact HI101.out | apply IsS49.alloc | apply IsS49.drewN | apply IsS49.drew | apply IsS49.set_1 | apply IsS49.set_2) | exact HI101.out)); (case side2 => repeat (first | (with_reducible first | exact HB.out | apply below_alloc | apply pw_below_drewN | apply below_drew1 | refine below_set ?_ (IsS49.ge HI101.out)) | exact HB.out)); rintro e w32 ⟨rfl, hi, hb, hk⟩; refine ⟨_, rfl, ?_⟩; have n0_ := Aside0.mk (Kd.R_mono (Kd.R_keep (IsS49.apart (show IsS49 w _ gb101 l0 x102001_2 x102002_2 from by repeat (first | (with_reducible first | exact HI101.out | apply IsS49.alloc | apply IsS49.drewN | apply IsS49.drew | apply IsS49.set_1 | apply IsS49.set_2) | exact HI101.out)) (by (with_reducible repeat (first | apply Kd.R_alloc | apply Kd.R_drewN | apply Kd.R_drew)); exact HO_5.out) (by decide)) hk (fun _ h => h.2)) (fun _ h => h.1)); have n1_ := Aside0.mk (hb); have n2_ := Aside0.mk (hi); clear HO_5; clear HB; clear HI101; have HO_5 := n0_; have HB := n1_; have HI101 := n2_; clear n0_ n1_ n2_; (try clear hb); (try clear hb2); (try clear hk); (try clear hi)) | ((with_reducible refine gate_callee (f := 57) rfl ?_); refine goesL_ (some 42) rfl rfl Tryz.func57 (by kernel_rfl) rfl #[.pointer (some ⟨gb101, 0, none⟩), .int .i64 3] rfl (by (try simp only [List.map_toArray, List.map_cons, List.map_nil]); first | done | rfl | (simp only [List.length_drop, List.length_take]; rfl)) ?_; (with_reducible refine (spec_l1Cur_pick.calls gb101 l0 t130 t131 3 t132 t133 t134 w _ ?side1 ?side2 A29.out).mono ?_); (case side1 => repeat (first | (with_reducible first | exact HI101.out | apply IsS49.alloc | apply IsS49.drewN | apply IsS49.drew | apply IsS49.set_1 | apply IsS49.set_2) | exact HI101.out)); (case side2 => repeat (first | (with_reducible first | exact HB.out | apply below_alloc | apply pw_below_drewN | apply below_drew1 | refine below_set ?_ (IsS49.ge HI101.out)) | exact HB.out)); rintro e w33 ⟨rfl, hi, hb, hk⟩; refine ⟨_, rfl, ?_⟩; have n0_ := Aside0.mk (Kd.R_mono (Kd.R_keep (IsS49.apart (show IsS49 w _ gb101 l0 t130 t131 from by repeat (first | (with_reducible first | exact HI101.out | apply IsS49.alloc | apply IsS49.drewN | apply IsS49.drew | apply IsS49.set_1 | apply IsS49.set_2) | exact HI101.out)) (by (with_reducible repeat (first | apply Kd.R_alloc | apply Kd.R_drewN | apply Kd.R_drew)); exact HO_5.out) (by decide)) hk (fun _ h => h.2)) (fun _ h => h.1)); have n1_ := Aside0.mk (hb); have n2_ := Aside0.mk (hi); clear HO_5; clear HB; clear HI101; have HO_5 := n0_; have HB := n1_; have HI101 := n2_; clear n0_ n1_ n2_; (try clear hb); (try clear hb2); (try clear hk); (try clear hi)) | ((with_reducible refine gate_builtin (b := .append) (xs := #[.tmp 40, .tmp 43]) rfl ?_); at_builtin; refine Kd.R_append (Kd.int .i64) (w0 := w) w.heap.size rfl (.tmp 40) (.tmp 43) 35 3 (.int .i64 0) 8 rfl Tryz.underlying35 info3 rfl (by decide) (by omega) (.slice Ao31 x5_2.length co31) x5_2 t132 [.int .i64 t132] (fun _ => True) (fun _ => False) rfl rfl ?aP (fun _ hk => hk.elim) ?aF ?aO ?aB ?aS ?aL ?_; (case aP => exact rfl); (case aB => exact (by repeat (first | (with_reducible first | exact HB.out | apply below_alloc | apply pw_below_drewN | apply below_drew1 | refine below_set ?_ (IsS49.ge HI101.out)) | exact HB.out))); (case aF => exact (fun _ _ => trivial)); (case aO => exact (by (with_reducible repeat (first | apply Kd.R_alloc | apply Kd.R_drewN | apply Kd.R_drew)); exact HO_5.out)); (case aS => exact (below_size (by repeat (first | (with_reducible first | exact HB.out | apply below_alloc | apply pw_below_drewN | apply below_drew1 | refine below_set ?_ (IsS49.ge HI101.out)) | exact HB.out)))); (case aL => have := LMc30.out; omega); intro v136 w34 ho hb hg hat; rw [← Ny135.out] at ho; have n0_ := Aside0.mk (IsS49.grown (by repeat (first | (with_reducible first | exact HI101.out | apply IsS49.alloc | apply IsS49.drewN | apply IsS49.drew | apply IsS49.set_1 | apply IsS49.set_2) | exact HI101.out)) hg (IsS49.own_ne HI101.out HO_5.out (by decide))); have n1_ := Aside0.mk (hb); have n2_ := Aside0.mk (ho); clear HI101; clear HB; clear HO_5; have HI101 := n0_; have HB := n1_; have HO137 := n2_; clear n0_ n1_ n2_; clear ho hb hg hat))
          go_roundg k2
          case measure => have := HK1.out; have := HK2.out; omega
          case rel => exact ⟨(y135), (t133), (t134), H', ⟨by have := HK1.out; have := HK2.out; omega⟩, ⟨by (with_reducible repeat (first | apply Kd.R_alloc | apply Kd.R_drewN | apply Kd.R_drew)); exact HO137.out⟩, ⟨by repeat (first | (with_reducible first | exact HI101.out | apply IsS49.alloc | apply IsS49.drewN | apply IsS49.drew | apply IsS49.set_1 | apply IsS49.set_2) | exact HI101.out)⟩, ⟨by repeat (first | (with_reducible first | exact HB.out | apply below_alloc | apply pw_below_drewN | apply below_drew1 | refine below_set ?_ (IsS49.ge HI101.out)) | exact HB.out)⟩⟩
         ·rw [if_neg c30] at H
          exact absurd H (by simp)
        ·rw [if_neg c28] at H
         have c28b0 : decide ((x5_2.length : Int) < (wrap64 (100 + t129))) = false := decide_eq_false c28
         clear c28
         obtain ⟨y138, hy138⟩ : ∃ y_ : List Int, y_ = (([1, 2, 3, 3, 5, 10, 100, 10000, 10001, 0] : List Int)) := ⟨_, rfl⟩
         replace H : ((spec_l1Cur_among.f l0 t130 t131 y138).bind fun bt141 => (some (x5_2, bt141.1))) = some (r1, r2) := by first | (rw [hy138]; with_reducible exact H) | (have H2_ := (Option.bind_some _ _).symm.trans H; rw [hy138]; with_reducible exact H2_) | (have H2_ := (Option.bind_some _ _).symm.trans H; with_reducible exact H2_) | with_reducible exact H | (rw [hy138]; exact H) | exact H
         have Ny138 := Aside0.mk hy138
         clear hy138
         replace H := Option.bind_eq_some_iff.mp H
         obtain ⟨⟨t141, t142, t143⟩, A350, H⟩ := H
         replace H : (some (x5_2, t141)) = some (r1, r2) := H
         have A35 := Aside0.mk A350
         clear A350
         simp only [Option.some.injEq, Prod.mk.injEq] at H
         obtain ⟨rfl, rfl⟩ := H
         obtain ⟨Ao36, co36, eo36⟩ := Kd.R_slice HO_5.out
         subst eo36
         go_wp2_with (first | ((with_reducible refine gate_callee (f := 57) rfl ?_); refine goesL_ (some 37) rfl rfl Tryz.func57 (by kernel_rfl) rfl #[.pointer (some ⟨gb101, 0, none⟩), .int .i64 2] rfl (by (try simp only [List.map_toArray, List.map_cons, List.map_nil]); first | done | rfl | (simp only [List.length_drop, List.length_take]; rfl)) ?_; (with_reducible refine (spec_l1Cur_pick.calls gb101 l0 x102001_2 x102002_2 2 t129 t130 t131 w _ ?side1 ?side2 A27.out).mono ?_); (case side1 => repeat (first | (with_reducible first | exact HI101.out | apply IsS49.alloc | apply IsS49.drewN | apply IsS49.drew | apply IsS49.set_1 | apply IsS49.set_2) | exact HI101.out)); (case side2 => repeat (first | (with_reducible first | exact HB.out | apply below_alloc | apply pw_below_drewN | apply below_drew1 | refine below_set ?_ (IsS49.ge HI101.out)) | exact HB.out)); rintro e w37 ⟨rfl, hi, hb, hk⟩; refine ⟨_, rfl, ?_⟩; have n0_ := Aside0.mk (Kd.R_mono (Kd.R_keep (IsS49.apart (show IsS49 w _ gb101 l0 x102001_2 x102002_2 from by repeat (first | (with_reducible first | exact HI101.out | apply IsS49.alloc | apply IsS49.drewN | apply IsS49.drew | apply IsS49.set_1 | apply IsS49.set_2) | exact HI101.out)) (by (with_reducible repeat (first | apply Kd.R_alloc | apply Kd.R_drewN | apply Kd.R_drew)); exact HO_5.out) (by decide)) hk (fun _ h => h.2)) (fun _ h => h.1)); have n1_ := Aside0.mk (hb); have n2_ := Aside0.mk (hi); clear HO_5; clear HB; clear HI101; have HO_5 := n0_; have HB := n1_; have HI101 := n2_; clear n0_ n1_ n2_; (try clear hb); (try clear hb2); (try clear hk); (try clear hi)) | ((with_reducible refine gate_dst (N := 49) rfl ?_); refine Kd.R_lit (Kd.int .i64) _ 3 ?hg (N := 49) ?hd (xs := ([1, 2, 3, 3, 5, 10, 100, 10000, 10001, 0] : List Int)) (inner := [.int .i64 1, .int .i64 2, .int .i64 3, .int .i64 3, .int .i64 5, .int .i64 10, .int .i64 100, .int .i64 10000, .int .i64 10001, .int .i64 0]) (ok := fun _ => True) (okp := fun _ => True) ?hr ?hp (fun _ hk => hk) trivial (Below.refl _ _) (Nat.le_refl _) (by simp) ?_; (case hd => rfl); (case hg => rfl); (case hr => first | (go_simp; done) | (go_simp; rfl)); (case hp => exact (Reps.one (show Kd.M (Kd.int .i64) _ _ _ 1 [.int .i64 1] from rfl) (Reps.one (show Kd.M (Kd.int .i64) _ _ _ 2 [.int .i64 2] from rfl) (Reps.one (show Kd.M (Kd.int .i64) _ _ _ 3 [.int .i64 3] from rfl) (Reps.one (show Kd.M (Kd.int .i64) _ _ _ 3 [.int .i64 3] from rfl) (Reps.one (show Kd.M (Kd.int .i64) _ _ _ 5 [.int .i64 5] from rfl) (Reps.one (show Kd.M (Kd.int .i64) _ _ _ 10 [.int .i64 10] from rfl) (Reps.one (show Kd.M (Kd.int .i64) _ _ _ 100 [.int .i64 100] from rfl) (Reps.one (show Kd.M (Kd.int .i64) _ _ _ 10000 [.int .i64 10000] from rfl) (Reps.one (show Kd.M (Kd.int .i64) _ _ _ 10001 [.int .i64 10001] from rfl) (Reps.one (show Kd.M (Kd.int .i64) _ _ _ 0 [.int .i64 0] from rfl) (Reps.none _ _)))))))))))); intro v139 w38 ho39 hb hg_ hnew_; clear hg_ hnew_; (first | rw [← Ny138.out] at ho39 | (simp only [Int.reduceToNat] at ho39; rw [← Ny138.out] at ho39)); have n0_ := Aside0.mk (Kd.R_elder' (by (with_reducible repeat (first | apply Kd.R_alloc | apply Kd.R_drewN | apply Kd.R_drew)); exact HO_5.out) (Kd.R_base ho39) hb); have n1_ := Aside0.mk (Kd.R_lower (Kd.R_new' ho39 (Kd.R_lt (by (with_reducible repeat (first | apply Kd.R_alloc | apply Kd.R_drewN | apply Kd.R_drew)); exact HO_5.out))) (below_size (by repeat (first | (with_reducible first | exact HB.out | apply below_alloc | apply pw_below_drewN | apply below_drew1 | refine below_set ?_ (IsS49.ge HI101.out)) | exact HB.out)))); have n2_ := Aside0.mk (IsS49.below (by repeat (first | (with_reducible first | exact HI101.out | apply IsS49.alloc | apply IsS49.drewN | apply IsS49.drew | apply IsS49.set_1 | apply IsS49.set_2) | exact HI101.out)) hb); have n3_ := Aside0.mk (below_step (by repeat (first | (with_reducible first | exact HB.out | apply below_alloc | apply pw_below_drewN | apply below_drew1 | refine below_set ?_ (IsS49.ge HI101.out)) | exact HB.out)) hb); clear HO_5; clear HI101; clear HB; have HO_5 := n0_; have HO140 := n1_; have HI101 := n2_; have HB := n3_; clear n0_ n1_ n2_ n3_; clear hb ho39; obtain ⟨Ao40, co40, eo40⟩ := Kd.R_slice HO140.out; subst eo40) | ((with_reducible refine gate_callee (f := 27) rfl ?_); refine goesL_ (some 50) rfl rfl Tryz.func27 (by kernel_rfl) rfl #[.pointer (some ⟨gb101, 0, none⟩), .slice Ao40 y138.length co40] rfl (by (try simp only [List.map_toArray, List.map_cons, List.map_nil]); first | done | rfl | (simp only [List.length_drop, List.length_take]; rfl)) ?_; (with_reducible refine (spec_l1Cur_among.calls gb101 l0 t130 t131 _ _ y138 t141 t142 t143 w _ ?side1 ?side2 ?side3 ?side4 ?side5 A35.out).mono ?_); (case side1 => repeat (first | (with_reducible first | exact HI101.out | apply IsS49.alloc | apply IsS49.drewN | apply IsS49.drew | apply IsS49.set_1 | apply IsS49.set_2) | exact HI101.out)); (case side2 => repeat (first | (with_reducible first | exact HB.out | apply below_alloc | apply pw_below_drewN | apply below_drew1 | refine below_set ?_ (IsS49.ge HI101.out)) | exact HB.out)); (case side3 => repeat (first | exact (Kd.R_reads' HO140.out).2.2 | (with_reducible refine Kd.C_alloc ?_ _) | (with_reducible refine Kd.C_drewN ?_ _) | (with_reducible refine Kd.C_drew ?_))); (case side4 => exact (Kd.R_reads' HO140.out).2.1); (case side5 => exact far_slice (IsS49.own_ne HI101.out HO140.out (by decide))); rintro e w41 ⟨rfl, hi, hb, hk⟩; refine ⟨_, rfl, ?_⟩; have n0_ := Aside0.mk (Kd.R_mono (Kd.R_keep (IsS49.apart (show IsS49 w _ gb101 l0 t130 t131 from by repeat (first | (with_reducible first | exact HI101.out | apply IsS49.alloc | apply IsS49.drewN | apply IsS49.drew | apply IsS49.set_1 | apply IsS49.set_2) | exact HI101.out)) (by (with_reducible repeat (first | apply Kd.R_alloc | apply Kd.R_drewN | apply Kd.R_drew)); exact HO_5.out) (by decide)) hk (fun _ h => h.2)) (fun _ h => h.1)); have n1_ := Aside0.mk (Kd.R_mono (Kd.R_keep (IsS49.apart (show IsS49 w _ gb101 l0 t130 t131 from by repeat (first | (with_reducible first | exact HI101.out | apply IsS49.alloc | apply IsS49.drewN | apply IsS49.drew | apply IsS49.set_1 | apply IsS49.set_2) | exact HI101.out)) (by (with_reducible repeat (first | apply Kd.R_alloc | apply Kd.R_drewN | apply Kd.R_drew)); exact HO140.out) (by decide)) hk (fun _ h => h.2)) (fun _ h => h.1)); have n2_ := Aside0.mk (hb); have n3_ := Aside0.mk (hi); clear HO_5; clear HO140; clear HB; clear HI101; have HO_5 := n0_; have HO140 := n1_; have HB := n2_; have HI101 := n3_; clear n0_ n1_ n2_ n3_; (try clear hb); (try clear hb2); (try clear hk); (try clear hi)))
         go_ret2
         exact ⟨_, by first | rfl | (simp [errW_none, errW_some] <;> rfl) | (simp [*, errW_none, errW_some] <;> rfl), by (with_reducible repeat (first | apply Kd.R_alloc | apply Kd.R_drewN | apply Kd.R_drew)); exact Kd.R_mono HO_5.out (fun _ hk => trivial), by repeat (first | (with_reducible first | exact HB.out | apply below_alloc | apply pw_below_drewN | apply below_drew1 | refine below_set ?_ (IsS49.ge HI101.out)) | exact HB.out)⟩
     ·rw [if_neg c25] at H
      have c25b0 : (t111 == 1) = false := beq_eq_false_iff_ne.mpr c25
      have c25b1 : (t111 != 1) = true := bne_iff_ne.mpr c25
      by_cases c42 : t111 = 2
      ·rw [if_pos c42] at H
       have c42b0 : (t111 == 2) = true := beq_iff_eq.mpr c42
       have c42b1 : (t111 != 2) = false := bne_eq_false_iff_eq.mpr c42
       clear c42
       obtain ⟨y144, hy144⟩ : ∃ y_ : List Int, y_ = (([1, 2, 3, 3, 5, 10, 100, 10000, 10001, 0] : List Int)) := ⟨_, rfl⟩
       replace H : ((spec_l1Cur_among.f l0 t112 t113 y144).bind fun bt147 => (some (([] : List Int), bt147.1))) = some (r1, r2) := by first | (rw [hy144]; with_reducible exact H) | (have H2_ := (Option.bind_some _ _).symm.trans H; rw [hy144]; with_reducible exact H2_) | (have H2_ := (Option.bind_some _ _).symm.trans H; with_reducible exact H2_) | with_reducible exact H | (rw [hy144]; exact H) | exact H
       have Ny144 := Aside0.mk hy144
       clear hy144
       replace H := Option.bind_eq_some_iff.mp H
       obtain ⟨⟨t147, t148, t149⟩, A430, H⟩ := H
       replace H : (some (([] : List Int), t147)) = some (r1, r2) := H
       have A43 := Aside0.mk A430
       clear A430
       simp only [Option.some.injEq, Prod.mk.injEq] at H
       obtain ⟨rfl, rfl⟩ := H
       go_wp2_with (first | ((with_reducible refine gate_callee (f := 57) rfl ?_); refine goesL_ (some 23) rfl rfl Tryz.func57 (by kernel_rfl) rfl #[.pointer (some ⟨gb101, 0, none⟩), .int .i64 14] rfl (by (try simp only [List.map_toArray, List.map_cons, List.map_nil]); first | done | rfl | (simp only [List.length_drop, List.length_take]; rfl)) ?_; (with_reducible refine (spec_l1Cur_pick.calls gb101 l0 x102001_1 x102002_1 14 t111 t112 t113 w _ ?side1 ?side2 A10.out).mono ?_); (case side1 => repeat (first | (with_reducible first | exact HI101.out | apply IsS49.alloc | apply IsS49.drewN | apply IsS49.drew | apply IsS49.set_1 | apply IsS49.set_2) | exact HI101.out)); (case side2 => repeat (first | (with_reducible first | exact HB.out | apply below_alloc | apply pw_below_drewN | apply below_drew1 | refine below_set ?_ (IsS49.ge HI101.out)) | exact HB.out)); rintro e w44 ⟨rfl, hi, hb, hk⟩; refine ⟨_, rfl, ?_⟩; have n0_ := Aside0.mk (Kd.R_mono (Kd.R_keep (IsS49.apart (show IsS49 w _ gb101 l0 x102001_1 x102002_1 from by repeat (first | (with_reducible first | exact HI101.out | apply IsS49.alloc | apply IsS49.drewN | apply IsS49.drew | apply IsS49.set_1 | apply IsS49.set_2) | exact HI101.out)) (by (with_reducible repeat (first | apply Kd.R_alloc | apply Kd.R_drewN | apply Kd.R_drew)); exact HO_5.out) (by decide)) hk (fun _ h => h.2)) (fun _ h => h.1)); have n1_ := Aside0.mk (hb); have n2_ := Aside0.mk (hi); clear HO_5; clear HB; clear HI101; have HO_5 := n0_; have HB := n1_; have HI101 := n2_; clear n0_ n1_ n2_; (try clear hb); (try clear hb2); (try clear hk); (try clear hi)) | ((with_reducible refine gate_dst (N := 49) rfl ?_); refine Kd.R_lit (Kd.int .i64) _ 3 ?hg (N := 49) ?hd (xs := ([1, 2, 3, 3, 5, 10, 100, 10000, 10001, 0] : List Int)) (inner := [.int .i64 1, .int .i64 2, .int .i64 3, .int .i64 3, .int .i64 5, .int .i64 10, .int .i64 100, .int .i64 10000, .int .i64 10001, .int .i64 0]) (ok := fun _ => True) (okp := fun _ => True) ?hr ?hp (fun _ hk => hk) trivial (Below.refl _ _) (Nat.le_refl _) (by simp) ?_; (case hd => rfl); (case hg => rfl); (case hr => first | (go_simp; done) | (go_simp; rfl)); (case hp => exact (Reps.one (show Kd.M (Kd.int .i64) _ _ _ 1 [.int .i64 1] from rfl) (Reps.one (show Kd.M (Kd.int .i64) _ _ _ 2 [.int .i64 2] from rfl) (Reps.one (show Kd.M (Kd.int .i64) _ _ _ 3 [.int .i64 3] from rfl) (Reps.one (show Kd.M (Kd.int .i64) _ _ _ 3 [.int .i64 3] from rfl) (Reps.one (show Kd.M (Kd.int .i64) _ _ _ 5 [.int .i64 5] from rfl) (Reps.one (show Kd.M (Kd.int .i64) _ _ _ 10 [.int .i64 10] from rfl) (Reps.one (show Kd.M (Kd.int .i64) _ _ _ 100 [.int .i64 100] from rfl) (Reps.one (show Kd.M (Kd.int .i64) _ _ _ 10000 [.int .i64 10000] from rfl) (Reps.one (show Kd.M (Kd.int .i64) _ _ _ 10001 [.int .i64 10001] from rfl) (Reps.one (show Kd.M (Kd.int .i64) _ _ _ 0 [.int .i64 0] from rfl) (Reps.none _ _)))))))))))); intro v145 w45 ho46 hb hg_ hnew_; clear hg_ hnew_; (first | rw [← Ny144.out] at ho46 | (simp only [Int.reduceToNat] at ho46; rw [← Ny144.out] at ho46)); have n0_ := Aside0.mk (Kd.R_elder' (by (with_reducible repeat (first | apply Kd.R_alloc | apply Kd.R_drewN | apply Kd.R_drew)); exact HO_5.out) (Kd.R_base ho46) hb); have n1_ := Aside0.mk (Kd.R_lower (Kd.R_new' ho46 (Kd.R_lt (by (with_reducible repeat (first | apply Kd.R_alloc | apply Kd.R_drewN | apply Kd.R_drew)); exact HO_5.out))) (below_size (by repeat (first | (with_reducible first | exact HB.out | apply below_alloc | apply pw_below_drewN | apply below_drew1 | refine below_set ?_ (IsS49.ge HI101.out)) | exact HB.out)))); have n2_ := Aside0.mk (IsS49.below (by repeat (first | (with_reducible first | exact HI101.out | apply IsS49.alloc | apply IsS49.drewN | apply IsS49.drew | apply IsS49.set_1 | apply IsS49.set_2) | exact HI101.out)) hb); have n3_ := Aside0.mk (below_step (by repeat (first | (with_reducible first | exact HB.out | apply below_alloc | apply pw_below_drewN | apply below_drew1 | refine below_set ?_ (IsS49.ge HI101.out)) | exact HB.out)) hb); clear HO_5; clear HI101; clear HB; have HO_5 := n0_; have HO146 := n1_; have HI101 := n2_; have HB := n3_; clear n0_ n1_ n2_ n3_; clear hb ho46; obtain ⟨Ao47, co47, eo47⟩ := Kd.R_slice HO146.out; subst eo47) | ((with_reducible refine gate_callee (f := 27) rfl ?_); refine goesL_ (some 50) rfl rfl Tryz.func27 (by kernel_rfl) rfl #[.pointer (some ⟨gb101, 0, none⟩), .slice Ao47 y144.length co47] rfl (by (try simp only [List.map_toArray, List.map_cons, List.map_nil]); first | done | rfl | (simp only [List.length_drop, List.length_take]; rfl)) ?_; (with_reducible refine (spec_l1Cur_among.calls gb101 l0 t112 t113 _ _ y144 t147 t148 t149 w _ ?side1 ?side2 ?side3 ?side4 ?side5 A43.out).mono ?_); (case side1 => repeat (first | (with_reducible first | exact HI101.out | apply IsS49.alloc | apply IsS49.drewN | apply IsS49.drew | apply IsS49.set_1 | apply IsS49.set_2) | exact HI101.out)); (case side2 => repeat (first | (with_reducible first | exact HB.out | apply below_alloc | apply pw_below_drewN | apply below_drew1 | refine below_set ?_ (IsS49.ge HI101.out)) | exact HB.out)); (case side3 => repeat (first | exact (Kd.R_reads' HO146.out).2.2 | (with_reducible refine Kd.C_alloc ?_ _) | (with_reducible refine Kd.C_drewN ?_ _) | (with_reducible refine Kd.C_drew ?_))); (case side4 => exact (Kd.R_reads' HO146.out).2.1); (case side5 => exact far_slice (IsS49.own_ne HI101.out HO146.out (by decide))); rintro e w48 ⟨rfl, hi, hb, hk⟩; refine ⟨_, rfl, ?_⟩; have n0_ := Aside0.mk (Kd.R_mono (Kd.R_keep (IsS49.apart (show IsS49 w _ gb101 l0 t112 t113 from by repeat (first | (with_reducible first | exact HI101.out | apply IsS49.alloc | apply IsS49.drewN | apply IsS49.drew | apply IsS49.set_1 | apply IsS49.set_2) | exact HI101.out)) (by (with_reducible repeat (first | apply Kd.R_alloc | apply Kd.R_drewN | apply Kd.R_drew)); exact HO_5.out) (by decide)) hk (fun _ h => h.2)) (fun _ h => h.1)); have n1_ := Aside0.mk (Kd.R_mono (Kd.R_keep (IsS49.apart (show IsS49 w _ gb101 l0 t112 t113 from by repeat (first | (with_reducible first | exact HI101.out | apply IsS49.alloc | apply IsS49.drewN | apply IsS49.drew | apply IsS49.set_1 | apply IsS49.set_2) | exact HI101.out)) (by (with_reducible repeat (first | apply Kd.R_alloc | apply Kd.R_drewN | apply Kd.R_drew)); exact HO146.out) (by decide)) hk (fun _ h => h.2)) (fun _ h => h.1)); have n2_ := Aside0.mk (hb); have n3_ := Aside0.mk (hi); clear HO_5; clear HO146; clear HB; clear HI101; have HO_5 := n0_; have HO146 := n1_; have HB := n2_; have HI101 := n3_; clear n0_ n1_ n2_ n3_; (try clear hb); (try clear hb2); (try clear hk); (try clear hi)))
       go_ret2
       exact ⟨_, by first | rfl | (simp [errW_none, errW_some] <;> rfl) | (simp [*, errW_none, errW_some] <;> rfl), by first | exact Kd.R_nil _ _ _ _ _ | exact Kd.N_nil _ _ _ _ _ | exact Kd.V_nil _ _ _ _ _ | exact Kd.Q_nil _ _ _ _ _ | exact Kd.S_nil _ _ _ _ _, by repeat (first | (with_reducible first | exact HB.out | apply below_alloc | apply pw_below_drewN | apply below_drew1 | refine below_set ?_ (IsS49.ge HI101.out)) | exact HB.out)⟩
      ·rw [if_neg c42] at H
       have c42b0 : (t111 == 2) = false := beq_eq_false_iff_ne.mpr c42
       have c42b1 : (t111 != 2) = true := bne_iff_ne.mpr c42
       obtain ⟨y150, hy150⟩ : ∃ y_ : List Int, y_ = (([1, 2, 3, 3, 5, 10, 100, 10000, 10001, 0] : List Int)) := ⟨_, rfl⟩
       replace H : ((spec_l1Cur_among.f l0 t112 t113 y150).bind fun bt153 => (some (x5_1, bt153.1))) = some (r1, r2) := by first | (rw [hy150]; with_reducible exact H) | (have H2_ := (Option.bind_some _ _).symm.trans H; rw [hy150]; with_reducible exact H2_) | (have H2_ := (Option.bind_some _ _).symm.trans H; with_reducible exact H2_) | with_reducible exact H | (rw [hy150]; exact H) | exact H
       have Ny150 := Aside0.mk hy150
       clear hy150
       replace H := Option.bind_eq_some_iff.mp H
       obtain ⟨⟨t153, t154, t155⟩, A490, H⟩ := H
       replace H : (some (x5_1, t153)) = some (r1, r2) := H
       have A49 := Aside0.mk A490
       clear A490
       simp only [Option.some.injEq, Prod.mk.injEq] at H
       obtain ⟨rfl, rfl⟩ := H
       go_wp2_with (first | ((with_reducible refine gate_callee (f := 57) rfl ?_); refine goesL_ (some 23) rfl rfl Tryz.func57 (by kernel_rfl) rfl #[.pointer (some ⟨gb101, 0, none⟩), .int .i64 14] rfl (by (try simp only [List.map_toArray, List.map_cons, List.map_nil]); first | done | rfl | (simp only [List.length_drop, List.length_take]; rfl)) ?_; (with_reducible refine (spec_l1Cur_pick.calls gb101 l0 x102001_1 x102002_1 14 t111 t112 t113 w _ ?side1 ?side2 A10.out).mono ?_); (case side1 => repeat (first | (with_reducible first | exact HI101.out | apply IsS49.alloc | apply IsS49.drewN | apply IsS49.drew | apply IsS49.set_1 | apply IsS49.set_2) | exact HI101.out)); (case side2 => repeat (first | (with_reducible first | exact HB.out | apply below_alloc | apply pw_below_drewN | apply below_drew1 | refine below_set ?_ (IsS49.ge HI101.out)) | exact HB.out)); rintro e w50 ⟨rfl, hi, hb, hk⟩; refine ⟨_, rfl, ?_⟩; have n0_ := Aside0.mk (Kd.R_mono (Kd.R_keep (IsS49.apart (show IsS49 w _ gb101 l0 x102001_1 x102002_1 from by repeat (first | (with_reducible first | exact HI101.out | apply IsS49.alloc | apply IsS49.drewN | apply IsS49.drew | apply IsS49.set_1 | apply IsS49.set_2) | exact HI101.out)) (by (with_reducible repeat (first | apply Kd.R_alloc | apply Kd.R_drewN | apply Kd.R_drew)); exact HO_5.out) (by decide)) hk (fun _ h => h.2)) (fun _ h => h.1)); have n1_ := Aside0.mk (hb); have n2_ := Aside0.mk (hi); clear HO_5; clear HB; clear HI101; have HO_5 := n0_; have HB := n1_; have HI101 := n2_; clear n0_ n1_ n2_; (try clear hb); (try clear hb2); (try clear hk); (try clear hi)) | ((with_reducible refine gate_dst (N := 49) rfl ?_); refine Kd.R_lit (Kd.int .i64) _ 3 ?hg (N := 49) ?hd (xs := ([1, 2, 3, 3, 5, 10, 100, 10000, 10001, 0] : List Int)) (inner := [.int .i64 1, .int .i64 2, .int .i64 3, .int .i64 3, .int .i64 5, .int .i64 10, .int .i64 100, .int .i64 10000, .int .i64 10001, .int .i64 0]) (ok := fun _ => True) (okp := fun _ => True) ?hr ?hp (fun _ hk => hk) trivial (Below.refl _ _) (Nat.le_refl _) (by simp) ?_; (case hd => rfl); (case hg => rfl); (case hr => first | (go_simp; done) | (go_simp; rfl)); (case hp => exact (Reps.one (show Kd.M (Kd.int .i64) _ _ _ 1 [.int .i64 1] from rfl) (Reps.one (show Kd.M (Kd.int .i64) _ _ _ 2 [.int .i64 2] from rfl) (Reps.one (show Kd.M (Kd.int .i64) _ _ _ 3 [.int .i64 3] from rfl) (Reps.one (show Kd.M (Kd.int .i64) _ _ _ 3 [.int .i64 3] from rfl) (Reps.one (show Kd.M (Kd.int .i64) _ _ _ 5 [.int .i64 5] from rfl) (Reps.one (show Kd.M (Kd.int .i64) _ _ _ 10 [.int .i64 10] from rfl) (Reps.one (show Kd.M (Kd.int .i64) _ _ _ 100 [.int .i64 100] from rfl) (Reps.one (show Kd.M (Kd.int .i64) _ _ _ 10000 [.int .i64 10000] from rfl) (Reps.one (show Kd.M (Kd.int .i64) _ _ _ 10001 [.int .i64 10001] from rfl) (Reps.one (show Kd.M (Kd.int .i64) _ _ _ 0 [.int .i64 0] from rfl) (Reps.none _ _)))))))))))); intro v151 w51 ho52 hb hg_ hnew_; clear hg_ hnew_; (first | rw [← Ny150.out] at ho52 | (simp only [Int.reduceToNat] at ho52; rw [← Ny150.out] at ho52)); have n0_ := Aside0.mk (Kd.R_elder' (by (with_reducible repeat (first | apply Kd.R_alloc | apply Kd.R_drewN | apply Kd.R_drew)); exact HO_5.out) (Kd.R_base ho52) hb); have n1_ := Aside0.mk (Kd.R_lower (Kd.R_new' ho52 (Kd.R_lt (by (with_reducible repeat (first | apply Kd.R_alloc | apply Kd.R_drewN | apply Kd.R_drew)); exact HO_5.out))) (below_size (by repeat (first | (with_reducible first | exact HB.out | apply below_alloc | apply pw_below_drewN | apply below_drew1 | refine below_set ?_ (IsS49.ge HI101.out)) | exact HB.out)))); have n2_ := Aside0.mk (IsS49.below (by repeat (first | (with_reducible first | exact HI101.out | apply IsS49.alloc | apply IsS49.drewN | apply IsS49.drew | apply IsS49.set_1 | apply IsS49.set_2) | exact HI101.out)) hb); have n3_ := Aside0.mk (below_step (by repeat (first | (with_reducible first | exact HB.out | apply below_alloc | apply pw_below_drewN | apply below_drew1 | refine below_set ?_ (IsS49.ge HI101.out)) | exact HB.out)) hb); clear HO_5; clear HI101; clear HB; have HO_5 := n0_; have HO152 := n1_; have HI101 := n2_; have HB := n3_; clear n0_ n1_ n2_ n3_; clear hb ho52; obtain ⟨Ao53, co53, eo53⟩ := Kd.R_slice HO152.out; subst eo53) | ((with_reducible refine gate_callee (f := 27) rfl ?_); refine goesL_ (some 50) rfl rfl Tryz.func27 (by kernel_rfl) rfl #[.pointer (some ⟨gb101, 0, none⟩), .slice Ao53 y150.length co53] rfl (by (try simp only [List.map_toArray, List.map_cons, List.map_nil]); first | done | rfl | (simp only [List.length_drop, List.length_take]; rfl)) ?_; (with_reducible refine (spec_l1Cur_among.calls gb101 l0 t112 t113 _ _ y150 t153 t154 t155 w _ ?side1 ?side2 ?side3 ?side4 ?side5 A49.out).mono ?_); (case side1 => repeat (first | (with_reducible first | exact HI101.out | apply IsS49.alloc | apply IsS49.drewN | apply IsS49.drew | apply IsS49.set_1 | apply IsS49.set_2) | exact HI101.out)); (case side2 => repeat (first | (with_reducible first | exact HB.out | apply below_alloc | apply pw_below_drewN | apply below_drew1 | refine below_set ?_ (IsS49.ge HI101.out)) | exact HB.out)); (case side3 => repeat (first | exact (Kd.R_reads' HO152.out).2.2 | (with_reducible refine Kd.C_alloc ?_ _) | (with_reducible refine Kd.C_drewN ?_ _) | (with_reducible refine Kd.C_drew ?_))); (case side4 => exact (Kd.R_reads' HO152.out).2.1); (case side5 => exact far_slice (IsS49.own_ne HI101.out HO152.out (by decide))); rintro e w54 ⟨rfl, hi, hb, hk⟩; refine ⟨_, rfl, ?_⟩; have n0_ := Aside0.mk (Kd.R_mono (Kd.R_keep (IsS49.apart (show IsS49 w _ gb101 l0 t112 t113 from by repeat (first | (with_reducible first | exact HI101.out | apply IsS49.alloc | apply IsS49.drewN | apply IsS49.drew | apply IsS49.set_1 | apply IsS49.set_2) | exact HI101.out)) (by (with_reducible repeat (first | apply Kd.R_alloc | apply Kd.R_drewN | apply Kd.R_drew)); exact HO_5.out) (by decide)) hk (fun _ h => h.2)) (fun _ h => h.1)); have n1_ := Aside0.mk (Kd.R_mono (Kd.R_keep (IsS49.apart (show IsS49 w _ gb101 l0 t112 t113 from by repeat (first | (with_reducible first | exact HI101.out | apply IsS49.alloc | apply IsS49.drewN | apply IsS49.drew | apply IsS49.set_1 | apply IsS49.set_2) | exact HI101.out)) (by (with_reducible repeat (first | apply Kd.R_alloc | apply Kd.R_drewN | apply Kd.R_drew)); exact HO152.out) (by decide)) hk (fun _ h => h.2)) (fun _ h => h.1)); have n2_ := Aside0.mk (hb); have n3_ := Aside0.mk (hi); clear HO_5; clear HO152; clear HB; clear HI101; have HO_5 := n0_; have HO152 := n1_; have HB := n2_; have HI101 := n3_; clear n0_ n1_ n2_ n3_; (try clear hb); (try clear hb2); (try clear hk); (try clear hi)))
       go_ret2
       exact ⟨_, by first | rfl | (simp [errW_none, errW_some] <;> rfl) | (simp [*, errW_none, errW_some] <;> rfl), by (with_reducible repeat (first | apply Kd.R_alloc | apply Kd.R_drewN | apply Kd.R_drew)); exact Kd.R_mono HO_5.out (fun _ hk => trivial), by repeat (first | (with_reducible first | exact HB.out | apply below_alloc | apply pw_below_drewN | apply below_drew1 | refine below_set ?_ (IsS49.ge HI101.out)) | exact HB.out)⟩
def spec_DrawLettersTrips.f (k : Nat) (l0 : List Int) : Option (List Int × Int) := (spec_DrawLettersLength.f k l0).bind fun bt101 => (some (bt101.1, bt101.2))
theorem spec_DrawLettersTrips.calls (k : Nat) (A0 : Option Addr) (c0 : Nat) (l0 : List Int) (r1 : List Int) (r2 : Int) (w : World) (hr0 : Kd.C (Kd.int .u8) w A0 l0.length l0) (hc0 : l0.length ≤ c0) (h : spec_DrawLettersTrips.f k l0 = some (r1, r2)) :
  Calls Tryz.prog 14 #[.slice A0 l0.length c0] w fun e w' => ∃ v0_ : Value, e = .returned (.tuple #[v0_, .int .i64 r2]) ∧ Kd.R (Kd.int .i64) 3 w' w.heap.size (fun _ => True) v0_ r1 ∧ Below w.heap.size w w' := by
 have HR0 := Aside0.mk hr0
 have HC0 := Aside0.mk hc0
 clear hr0 hc0
 have HB := Aside0.mk (Below.refl w.heap.size w)
 have H : ((spec_DrawLettersLength.f k l0).bind fun bt101 => (some (bt101.1, bt101.2))) = some (r1, r2) := h
 clear h
 replace H := Option.bind_eq_some_iff.mp H
 obtain ⟨⟨t101, t102⟩, A20, H⟩ := H
 replace H : (some (t101, t102)) = some (r1, r2) := H
 have A2 := Aside0.mk A20
 clear A20
 simp only [Option.some.injEq, Prod.mk.injEq] at H
 obtain ⟨rfl, rfl⟩ := H
 go_enter Tryz.func14, Tryz.ntmps14
 go_wp2_with (first | ((with_reducible refine gate_callee (f := 50) rfl ?_); refine goesL_ (some 5) rfl rfl Tryz.func50 (by kernel_rfl) rfl #[.slice A0 l0.length c0] rfl (by (try simp only [List.map_toArray, List.map_cons, List.map_nil]); first | done | rfl | (simp only [List.length_drop, List.length_take]; rfl)) ?_; (with_reducible refine (spec_DrawLettersLength.calls k _ _ l0 t101 t102 _ ?side1 ?side2 A2.out).mono ?_); (case side1 => repeat (first | exact HR0.out | (with_reducible refine Kd.C_alloc ?_ _) | (with_reducible refine Kd.C_drewN ?_ _) | (with_reducible refine Kd.C_drew ?_))); (case side2 => exact HC0.out); rintro e w3 ⟨v103, rfl, ho0, hb⟩; refine ⟨_, rfl, ?_⟩; have n0_ := Aside0.mk (Kd.R_lower ho0 (below_size (by repeat (first | (with_reducible first | exact HB.out | apply below_alloc | apply pw_below_drewN | apply below_drew1) | exact HB.out)))); have n1_ := Aside0.mk (below_step (by repeat (first | (with_reducible first | exact HB.out | apply below_alloc | apply pw_below_drewN | apply below_drew1) | exact HB.out)) hb); clear HB; have HO104 := n0_; have HB := n1_; clear n0_ n1_; (try clear hb); (try clear hb2); (try clear hk); (try clear hi); (try clear ho0)))
 go_ret2
 exact ⟨_, by first | rfl | (simp [errW_none, errW_some] <;> rfl) | (simp [*, errW_none, errW_some] <;> rfl), by (with_reducible repeat (first | apply Kd.R_alloc | apply Kd.R_drewN | apply Kd.R_drew)); exact HO104.out, by repeat (first | (with_reducible first | exact HB.out | apply below_alloc | apply pw_below_drewN | apply below_drew1) | exact HB.out)⟩
end
def impl_joinNumbers.l0 : Nat → ByteArray → List ByteArray → List Int → Int → Int → Option (ByteArray)
 | 0, _, _, _, _, _ => none
 | k + 1, x1, x5, x11, x12, x13 => if x13 < x12 then (if 0 ≤ x13 then (if x13 < (x11.length : Int) then ((strconv_Itoa.f (rd x11 x13)).bind fun t105 => (if x13 < (x5.length : Int) then (impl_joinNumbers.l0 k x1 (x5.set (x13 : Int).toNat t105) x11 x12 (wrap64 (x13 + 1))) else (none))) else (none)) else (none)) else ((strings_Join.f x5 x1).bind fun t107 => (some t107))
def impl_joinNumbers.f (k : Nat) (l0 : List Int) (a1 : ByteArray) : Option (ByteArray) := if 0 ≤ (l0.length : Int) then (if ((l0.length : Int) : Int).toNat ≤ 17592186044416 then (impl_joinNumbers.l0 k a1 (List.replicate ((l0.length : Int) : Int).toNat (⟨#[]⟩ : ByteArray)) l0 (l0.length : Int) 0) else (none)) else (none)
theorem impl_joinNumbers.calls (k : Nat) (A0 : Option Addr) (c0 : Nat) (l0 : List Int) (a1 : ByteArray) (r : ByteArray) (w : World) (hr0 : Kd.C (Kd.int .i64) w A0 l0.length l0) (hc0 : l0.length ≤ c0) (hT : Tb w) (h : impl_joinNumbers.f k l0 a1 = some r) :
  Calls Tryz.prog 42 #[.slice A0 l0.length c0, .string a1] w fun e w' => e = .returned (.string r) ∧ Below w.heap.size w w' := by
 have HT0 := Aside0.mk hT
 clear hT
 have HR0 := Aside0.mk hr0
 have HC0 := Aside0.mk hc0
 clear hr0 hc0
 have HB := Aside0.mk (Below.refl w.heap.size w)
 have H : (if 0 ≤ (l0.length : Int) then (if ((l0.length : Int) : Int).toNat ≤ 17592186044416 then (impl_joinNumbers.l0 k a1 (List.replicate ((l0.length : Int) : Int).toNat (⟨#[]⟩ : ByteArray)) l0 (l0.length : Int) 0) else (none)) else (none)) = some r := h
 clear h
 by_cases c3 : 0 ≤ (l0.length : Int)
 ·rw [if_pos c3] at H
  have c3b0 := eq_true c3
  have c3b1 : decide (0 ≤ (l0.length : Int)) = true := decide_eq_true c3
  clear c3
  by_cases c4 : ((l0.length : Int) : Int).toNat ≤ 17592186044416
  ·rw [if_pos c4] at H
   have c4b0 := eq_true c4
   have c4b1 : decide (((l0.length : Int) : Int).toNat ≤ 17592186044416) = true := decide_eq_true c4
   clear c4
   obtain ⟨y101, hy101⟩ : ∃ y_ : List ByteArray, y_ = (List.replicate ((l0.length : Int) : Int).toNat (⟨#[]⟩ : ByteArray)) := ⟨_, rfl⟩
   replace H : (impl_joinNumbers.l0 k a1 y101 l0 (l0.length : Int) 0) = some r := by first | (rw [hy101]; with_reducible exact H) | (have H2_ := (Option.bind_some _ _).symm.trans H; rw [hy101]; with_reducible exact H2_) | (have H2_ := (Option.bind_some _ _).symm.trans H; with_reducible exact H2_) | with_reducible exact H | (rw [hy101]; exact H) | exact H
   have Ny101 := Aside0.mk hy101
   clear hy101
   have H' := Aside0.mk H
   clear H
   go_enter Tryz.func42, Tryz.ntmps42
   go_wp2_with (first | ((with_reducible refine gate_dst (N := 10) rfl ?_); refine Kd.R_make Kd.string _ 9 rfl (N := 10) rfl 60 _ _ rfl (l0.length : Int) rfl rfl Tryz.underlying60 (.string ⟨#[]⟩) 16 info9 rfl (by decide) (by omega) (⟨#[]⟩ : ByteArray) (ok := fun _ => True) (okp := fun _ => True) rfl (fun _ hk => hk) trivial (of_decide_eq_true (by first | (with_reducible assumption) | assumption)) (Nat.le_trans (Nat.mul_le_mul_right _ (of_decide_eq_true (by first | (with_reducible assumption) | assumption) : (l0.length : Int).toNat ≤ 17592186044416)) (by omega)) (Below.refl _ _) (Nat.le_refl _) ?_; intro v102 w5 ho6 hb hg_ hnew_; clear hg_ hnew_; (first | rw [← Ny101.out] at ho6 | (simp only [Int.reduceToNat] at ho6; rw [← Ny101.out] at ho6)); have n0_ := Aside0.mk (Kd.R_lower ho6 (below_size (by repeat (first | (with_reducible first | exact HB.out | apply below_alloc | apply pw_below_drewN | apply below_drew1) | exact HB.out)))); have n1_ := Aside0.mk (below_step (by repeat (first | (with_reducible first | exact HB.out | apply below_alloc | apply pw_below_drewN | apply below_drew1) | exact HB.out)) hb); clear HB; have HO103 := n0_; have HB := n1_; clear n0_ n1_; clear hb ho6))
   go_loopg [13] k (fun kq v13 w' => ∃ (x5_1 : List ByteArray) (x13_1 : Int), v13 = .int .i64 x13_1 ∧ Aside0 (impl_joinNumbers.l0 kq a1 x5_1 l0 (l0.length : Int) x13_1 = some r) ∧ Aside0 (kq ≤ k) ∧ Aside0 (Kd.R Kd.string 9 w' w.heap.size (fun _ => True) v102 x5_1) ∧ Aside0 (Below w.heap.size w w'))
   case atStart => exact ⟨(y101), (0), (by first | rfl | (simp; done) | (simp [*]; done)), H', ⟨Nat.le_refl _⟩, ⟨by (with_reducible repeat (first | apply Kd.R_alloc | apply Kd.R_drewN | apply Kd.R_drew)); exact HO103.out⟩, ⟨by repeat (first | (with_reducible first | exact HB.out | apply below_alloc | apply pw_below_drewN | apply below_drew1) | exact HB.out)⟩⟩
   case round =>
    clear H'
    try clear p2
    try clear c3
    try clear c3b0
    try clear c3b1
    try clear c4
    try clear c4b0
    try clear c4b1
    obtain ⟨x5_1, x13_1, rfl, HA, HK1, HO_5, HB⟩ := hrel
    cases gk with
    | zero => exact absurd HA.out (by simp [impl_joinNumbers.l0])
    | succ k1 =>
     have H := HA.out
     clear HA
     simp only [impl_joinNumbers.l0] at H
     by_cases c7 : x13_1 < (l0.length : Int)
     ·rw [if_pos c7] at H
      have c7b0 : decide (x13_1 < (l0.length : Int)) = true := decide_eq_true c7
      clear c7
      by_cases c8 : 0 ≤ x13_1
      ·rw [if_pos c8] at H
       have c8b0 : decide (0 ≤ x13_1) = true := decide_eq_true c8
       clear c8
       by_cases c9 : x13_1 < (l0.length : Int)
       ·rw [if_pos c9] at H
        have c9b0 : decide (x13_1 < (l0.length : Int)) = true := decide_eq_true c9
        clear c9
        replace H := Option.bind_eq_some_iff.mp H
        obtain ⟨t105, A100, H⟩ := H
        replace H : (if x13_1 < (x5_1.length : Int) then (impl_joinNumbers.l0 k1 a1 (x5_1.set (x13_1 : Int).toNat t105) l0 (l0.length : Int) (wrap64 (x13_1 + 1))) else (none)) = some r := H
        have A10 := Aside0.mk A100
        clear A100
        by_cases c11 : x13_1 < (x5_1.length : Int)
        ·rw [if_pos c11] at H
         have c11b0 : decide (x13_1 < (x5_1.length : Int)) = true := decide_eq_true c11
         clear c11
         obtain ⟨y106, hy106⟩ : ∃ y_ : List ByteArray, y_ = (x5_1.set (x13_1 : Int).toNat t105) := ⟨_, rfl⟩
         replace H : (impl_joinNumbers.l0 k1 a1 y106 l0 (l0.length : Int) (wrap64 (x13_1 + 1))) = some r := by first | (rw [hy106]; with_reducible exact H) | (have H2_ := (Option.bind_some _ _).symm.trans H; rw [hy106]; with_reducible exact H2_) | (have H2_ := (Option.bind_some _ _).symm.trans H; with_reducible exact H2_) | with_reducible exact H | (rw [hy106]; exact H) | exact H
         have Ny106 := Aside0.mk hy106
         clear hy106
         have H' := Aside0.mk H
         clear H
         have p104 : 0 ≤ (x13_1 : Int) := of_decide_eq_true (by first | (with_reducible assumption) | assumption)
         have q104 : x13_1 < (l0.length : Int) := of_decide_eq_true (by first | (with_reducible assumption) | assumption)
         obtain ⟨ad104, e104, hx104_0⟩ := Kd.at_int HR0.out x13_1 p104 q104
         cases e104
         try replace hx104_0 := (HB.out.cell (World.block_lt_of_cell? w _ hx104_0)).trans hx104_0
         replace p104 := eq_true p104
         replace q104 := eq_true q104
         go_wp2_with (first | ((with_reducible refine gate_callee (f := 68) rfl ?_); refine goesL_ (some 21) rfl rfl Tryz.func68 (by kernel_rfl) rfl #[.int .i64 (rd l0 x13_1)] rfl (by (try simp only [List.map_toArray, List.map_cons, List.map_nil]); first | done | rfl | (simp only [List.length_drop, List.length_take]; rfl)) ?_; (with_reducible refine (strconv_Itoa.calls (rd l0 x13_1) t105 _ ?side1 A10.out).mono ?_); (case side1 => exact Tb.below HT0.out (by repeat (first | (with_reducible first | exact HB.out | apply below_alloc | apply pw_below_drewN | apply below_drew1) | exact HB.out))); rintro e w13 ⟨rfl, hb⟩; refine ⟨_, rfl, ?_⟩; have n0_ := Aside0.mk (Kd.R_below (by (with_reducible repeat (first | apply Kd.R_alloc | apply Kd.R_drewN | apply Kd.R_drew)); exact HO_5.out) hb); have n1_ := Aside0.mk (below_step (by repeat (first | (with_reducible first | exact HB.out | apply below_alloc | apply pw_below_drewN | apply below_drew1) | exact HB.out)) hb); clear HO_5; clear HB; have HO_5 := n0_; have HB := n1_; clear n0_ n1_; (try clear hb); (try clear hb2); (try clear hk); (try clear hi); have p12 : 0 ≤ (x13_1 : Int) := of_decide_eq_true (by first | (with_reducible assumption) | assumption); have q12 : (x13_1 : Int) < ((x5_1.length : Int) : Int) := of_decide_eq_true (by first | (with_reducible assumption) | assumption); obtain ⟨go12, co12, eo12, gb12, gl12, cl12, HG12⟩ := Kd.R_form HO_5.out (by omega); (first | cases eo12 | (injection eo12 with ea_ en_ ec_; (first | subst ea_ | (injection ea_ with ea_; subst ea_)); subst ec_; clear en_)); have GB12 := Aside0.mk gb12; have GG12 := Aside0.mk HG12; clear gb12 gl12 HG12; obtain ⟨hx12_0, hf12_0⟩ := Kd.R_celln (⟨#[]⟩ : ByteArray) HO_5.out (x13_1 : Int) p12 q12; replace p12 := eq_true p12; replace q12 := eq_true q12; obtain ⟨hy14_, hz14_⟩ := Kd.R_celln (⟨#[]⟩ : ByteArray) HO_5.out (x13_1 : Int) (of_decide_eq_true (by first | (with_reducible assumption) | assumption)) (of_decide_eq_true (by first | (with_reducible assumption) | assumption)); have HP14 := Kd.R_putg HO_5.out (x13_1 : Int) t105) | ((with_reducible refine gate_store (t := 9) (p := 22) rfl ?_); refine store_event (t := 9) (p := 22) (v := ?vo_w15) (w1 := (w13.setCell ⟨go12, (x13_1 : Int).toNat, none⟩ (.string t105))) ?hg ?ho ?hn ?hr ?_; (case ho => rfl); (case hg => rfl); (case hn => rfl); (case hr => first | (go_simp; done) | (go_simp; rfl)); intro w15 hw; have hg : w13.grownBy w15 (some go12) := (by rw [hw]; exact HP14.2); have hp_ : Kd.R Kd.string 9 w15 w.heap.size (fun _ => True) (.slice (some ⟨go12, 0, none⟩) x5_1.length co12) y106 := (by rw [hw, Ny106.out]; exact HP14.1); clear HP14; have n0_ := Aside0.mk (hp_); have n1_ := Aside0.mk ((by rw [hw]; exact below_set (HB.out) GB12.out : Below w.heap.size w w15)); clear HO_5; clear HB; have HO_5 := n0_; have HB := n1_; clear n0_ n1_; clear hg hw hp_))
         go_roundg k1
         case measure => have := HK1.out; omega
         case rel => exact ⟨(y106), (wrap64 (x13_1 + 1)), (by first | rfl | (simp; done) | (simp [*]; done)), H', ⟨by have := HK1.out; omega⟩, ⟨by (with_reducible repeat (first | apply Kd.R_alloc | apply Kd.R_drewN | apply Kd.R_drew)); exact HO_5.out⟩, ⟨by repeat (first | (with_reducible first | exact HB.out | apply below_alloc | apply pw_below_drewN | apply below_drew1) | exact HB.out)⟩⟩
        ·rw [if_neg c11] at H
         exact absurd H (by simp)
       ·rw [if_neg c9] at H
        exact absurd H (by simp)
      ·rw [if_neg c8] at H
       exact absurd H (by simp)
     ·rw [if_neg c7] at H
      have c7b0 : decide (x13_1 < (l0.length : Int)) = false := decide_eq_false c7
      clear c7
      replace H := Option.bind_eq_some_iff.mp H
      obtain ⟨t107, A160, H⟩ := H
      replace H : (some t107) = some r := H
      have A16 := Aside0.mk A160
      clear A160
      obtain rfl := Option.some.inj H
      obtain ⟨Ao17, co17, eo17⟩ := Kd.R_slice HO_5.out
      subst eo17
      go_wp2_with (first | ((with_reducible refine gate_callee (f := 43) rfl ?_); refine goesL_ (some 26) rfl rfl Tryz.func43 (by kernel_rfl) rfl #[.slice Ao17 x5_1.length co17, .string a1] rfl (by (try simp only [List.map_toArray, List.map_cons, List.map_nil]); first | done | rfl | (simp only [List.length_drop, List.length_take]; rfl)) ?_; (with_reducible refine (strings_Join.calls _ _ x5_1 a1 t107 _ ?side1 ?side2 A16.out).mono ?_); (case side1 => repeat (first | exact (Kd.R_reads' HO_5.out).2.2 | (with_reducible refine Kd.C_alloc ?_ _) | (with_reducible refine Kd.C_drewN ?_ _) | (with_reducible refine Kd.C_drew ?_))); (case side2 => exact (Kd.R_reads' HO_5.out).2.1); rintro e w18 ⟨rfl, hb⟩; refine ⟨_, rfl, ?_⟩; have n0_ := Aside0.mk (Kd.R_below (by (with_reducible repeat (first | apply Kd.R_alloc | apply Kd.R_drewN | apply Kd.R_drew)); exact HO_5.out) hb); have n1_ := Aside0.mk (below_step (by repeat (first | (with_reducible first | exact HB.out | apply below_alloc | apply pw_below_drewN | apply below_drew1) | exact HB.out)) hb); clear HO_5; clear HB; have HO_5 := n0_; have HB := n1_; clear n0_ n1_; (try clear hb); (try clear hb2); (try clear hk); (try clear hi)))
      go_ret
      exact ⟨by first | rfl | (simp [errW_none, errW_some] <;> rfl) | (simp [*, errW_none, errW_some] <;> rfl), by repeat (first | (with_reducible first | exact HB.out | apply below_alloc | apply pw_below_drewN | apply below_drew1) | exact HB.out)⟩
  ·rw [if_neg c4] at H
   exact absurd H (by simp)
 ·rw [if_neg c3] at H
  exact absurd H (by simp)
def impl_ParcelsText.l0 : Nat → List ByteArray → List (S62) → Int → Int → Option (ByteArray × Bool)
 | 0, _, _, _, _ => none
 | k + 1, x4, x13, x14, x15 => if x15 < x14 then (if 0 ≤ x15 then (if x15 < (x13.length : Int) then ((impl_joinNumbers.f k (([(rd_T62 x13 x15).f0, (rd_T62 x13 x15).f1] : List Int)) (⟨#[42]⟩ : ByteArray)).bind fun t110 => (if x15 < (x4.length : Int) then (impl_ParcelsText.l0 k (x4.set (x15 : Int).toNat t110) x13 x14 (wrap64 (x15 + 1))) else (none))) else (none)) else (none)) else ((strings_Join.f x4 (⟨#[44]⟩ : ByteArray)).bind fun t112 => (some (t112, true)))
def impl_ParcelsText.f (k : Nat) (l0 : List (S62)) : Option (ByteArray × Bool) := (impl_AreParcels.f l0).bind fun t101 => (if t101 = true then (if 0 ≤ (l0.length : Int) then (if ((l0.length : Int) : Int).toNat ≤ 17592186044416 then (impl_ParcelsText.l0 k (List.replicate ((l0.length : Int) : Int).toNat (⟨#[]⟩ : ByteArray)) l0 (l0.length : Int) 0) else (none)) else (none)) else (some ((⟨#[]⟩ : ByteArray), false)))
theorem impl_ParcelsText.calls (k : Nat) (A0 : Option Addr) (c0 : Nat) (l0 : List (S62)) (r1 : ByteArray) (r2 : Bool) (w : World) (hr0 : Kd.C k62 w A0 l0.length l0) (hc0 : l0.length ≤ c0) (hT : Tb w) (h : impl_ParcelsText.f k l0 = some (r1, r2)) :
  Calls Tryz.prog 8 #[.slice A0 l0.length c0] w fun e w' => e = .returned (.tuple #[.string r1, .bool r2]) ∧ Below w.heap.size w w' := by
 have hu62 := Tryz.underlying62
 have HT0 := Aside0.mk hT
 clear hT
 have HR0 := Aside0.mk hr0
 have HC0 := Aside0.mk hc0
 clear hr0 hc0
 have HB := Aside0.mk (Below.refl w.heap.size w)
 have H : ((impl_AreParcels.f l0).bind fun t101 => (if t101 = true then (if 0 ≤ (l0.length : Int) then (if ((l0.length : Int) : Int).toNat ≤ 17592186044416 then (impl_ParcelsText.l0 k (List.replicate ((l0.length : Int) : Int).toNat (⟨#[]⟩ : ByteArray)) l0 (l0.length : Int) 0) else (none)) else (none)) else (some ((⟨#[]⟩ : ByteArray), false)))) = some (r1, r2) := h
 clear h
 replace H := Option.bind_eq_some_iff.mp H
 obtain ⟨t101, A20, H⟩ := H
 replace H : (if t101 = true then (if 0 ≤ (l0.length : Int) then (if ((l0.length : Int) : Int).toNat ≤ 17592186044416 then (impl_ParcelsText.l0 k (List.replicate ((l0.length : Int) : Int).toNat (⟨#[]⟩ : ByteArray)) l0 (l0.length : Int) 0) else (none)) else (none)) else (some ((⟨#[]⟩ : ByteArray), false))) = some (r1, r2) := H
 have A2 := Aside0.mk A20
 clear A20
 by_cases c3 : t101 = true
 ·subst c3
  have H1 : (if 0 ≤ (l0.length : Int) then (if ((l0.length : Int) : Int).toNat ≤ 17592186044416 then (impl_ParcelsText.l0 k (List.replicate ((l0.length : Int) : Int).toNat (⟨#[]⟩ : ByteArray)) l0 (l0.length : Int) 0) else (none)) else (none)) = some (r1, r2) := by rw [if_pos rfl] at H; exact H
  clear H
  have H := H1
  clear H1
  by_cases c4 : 0 ≤ (l0.length : Int)
  ·rw [if_pos c4] at H
   have c4b0 := eq_true c4
   have c4b1 : decide (0 ≤ (l0.length : Int)) = true := decide_eq_true c4
   clear c4
   by_cases c5 : ((l0.length : Int) : Int).toNat ≤ 17592186044416
   ·rw [if_pos c5] at H
    have c5b0 := eq_true c5
    have c5b1 : decide (((l0.length : Int) : Int).toNat ≤ 17592186044416) = true := decide_eq_true c5
    clear c5
    obtain ⟨y102, hy102⟩ : ∃ y_ : List ByteArray, y_ = (List.replicate ((l0.length : Int) : Int).toNat (⟨#[]⟩ : ByteArray)) := ⟨_, rfl⟩
    replace H : (impl_ParcelsText.l0 k y102 l0 (l0.length : Int) 0) = some (r1, r2) := by first | (rw [hy102]; with_reducible exact H) | (have H2_ := (Option.bind_some _ _).symm.trans H; rw [hy102]; with_reducible exact H2_) | (have H2_ := (Option.bind_some _ _).symm.trans H; with_reducible exact H2_) | with_reducible exact H | (rw [hy102]; exact H) | exact H
    have Ny102 := Aside0.mk hy102
    clear hy102
    have H' := Aside0.mk H
    clear H
    go_enter Tryz.func8, Tryz.ntmps8
    go_wp2_with (first | ((with_reducible refine gate_callee (f := 10) rfl ?_); refine goesL_ (some 8) rfl rfl Tryz.func10 (by kernel_rfl) rfl #[.slice A0 l0.length c0] rfl (by (try simp only [List.map_toArray, List.map_cons, List.map_nil]); first | done | rfl | (simp only [List.length_drop, List.length_take]; rfl)) ?_; (with_reducible refine (impl_AreParcels.calls _ _ l0 true _ ?side1 ?side2 A2.out).mono ?_); (case side1 => repeat (first | exact HR0.out | (with_reducible refine Kd.C_alloc ?_ _) | (with_reducible refine Kd.C_drewN ?_ _) | (with_reducible refine Kd.C_drew ?_))); (case side2 => exact HC0.out); rintro e w6 ⟨rfl, hb⟩; refine ⟨_, rfl, ?_⟩; have n0_ := Aside0.mk (below_step (by repeat (first | (with_reducible first | exact HB.out | apply below_alloc | apply pw_below_drewN | apply below_drew1) | exact HB.out)) hb); clear HB; have HB := n0_; clear n0_; (try clear hb); (try clear hb2); (try clear hk); (try clear hi)) | ((with_reducible refine gate_dst (N := 12) rfl ?_); refine Kd.R_make Kd.string _ 9 rfl (N := 12) rfl 60 _ _ rfl (l0.length : Int) rfl rfl Tryz.underlying60 (.string ⟨#[]⟩) 16 info9 rfl (by decide) (by omega) (⟨#[]⟩ : ByteArray) (ok := fun _ => True) (okp := fun _ => True) rfl (fun _ hk => hk) trivial (of_decide_eq_true (by first | (with_reducible assumption) | assumption)) (Nat.le_trans (Nat.mul_le_mul_right _ (of_decide_eq_true (by first | (with_reducible assumption) | assumption) : (l0.length : Int).toNat ≤ 17592186044416)) (by omega)) (Below.refl _ _) (Nat.le_refl _) ?_; intro v103 w7 ho8 hb hg_ hnew_; clear hg_ hnew_; (first | rw [← Ny102.out] at ho8 | (simp only [Int.reduceToNat] at ho8; rw [← Ny102.out] at ho8)); have n0_ := Aside0.mk (Kd.R_lower ho8 (below_size (by repeat (first | (with_reducible first | exact HB.out | apply below_alloc | apply pw_below_drewN | apply below_drew1) | exact HB.out)))); have n1_ := Aside0.mk (below_step (by repeat (first | (with_reducible first | exact HB.out | apply below_alloc | apply pw_below_drewN | apply below_drew1) | exact HB.out)) hb); clear HB; have HO104 := n0_; have HB := n1_; clear n0_ n1_; clear hb ho8))
    go_loopg [15] k (fun kq v15 w' => ∃ (x4_1 : List ByteArray) (x15_1 : Int), v15 = .int .i64 x15_1 ∧ Aside0 (impl_ParcelsText.l0 kq x4_1 l0 (l0.length : Int) x15_1 = some (r1, r2)) ∧ Aside0 (kq ≤ k) ∧ Aside0 (Kd.R Kd.string 9 w' w.heap.size (fun _ => True) v103 x4_1) ∧ Aside0 (Below w.heap.size w w'))
    case atStart => exact ⟨(y102), (0), (by first | rfl | (simp; done) | (simp [*]; done)), H', ⟨Nat.le_refl _⟩, ⟨by (with_reducible repeat (first | apply Kd.R_alloc | apply Kd.R_drewN | apply Kd.R_drew)); exact HO104.out⟩, ⟨by repeat (first | (with_reducible first | exact HB.out | apply below_alloc | apply pw_below_drewN | apply below_drew1) | exact HB.out)⟩⟩
    case round =>
     clear H'
     try clear c1
     try clear p2
     try clear c3
     try clear c4
     try clear c4b0
     try clear c4b1
     try clear c5
     try clear c5b0
     try clear c5b1
     try clear c8
     obtain ⟨x4_1, x15_1, rfl, HA, HK1, HO_4, HB⟩ := hrel
     cases gk with
     | zero => exact absurd HA.out (by simp [impl_ParcelsText.l0])
     | succ k1 =>
      have H := HA.out
      clear HA
      simp only [impl_ParcelsText.l0] at H
      by_cases c9 : x15_1 < (l0.length : Int)
      ·rw [if_pos c9] at H
       have c9b0 : decide (x15_1 < (l0.length : Int)) = true := decide_eq_true c9
       clear c9
       by_cases c10 : 0 ≤ x15_1
       ·rw [if_pos c10] at H
        have c10b0 : decide (0 ≤ x15_1) = true := decide_eq_true c10
        clear c10
        by_cases c11 : x15_1 < (l0.length : Int)
        ·rw [if_pos c11] at H
         have c11b0 : decide (x15_1 < (l0.length : Int)) = true := decide_eq_true c11
         clear c11
         obtain ⟨y107, hy107⟩ : ∃ y_ : List Int, y_ = (([(rd_T62 l0 x15_1).f0, (rd_T62 l0 x15_1).f1] : List Int)) := ⟨_, rfl⟩
         replace H : ((impl_joinNumbers.f k1 y107 (⟨#[42]⟩ : ByteArray)).bind fun t110 => (if x15_1 < (x4_1.length : Int) then (impl_ParcelsText.l0 k1 (x4_1.set (x15_1 : Int).toNat t110) l0 (l0.length : Int) (wrap64 (x15_1 + 1))) else (none))) = some (r1, r2) := by first | (rw [hy107]; with_reducible exact H) | (have H2_ := (Option.bind_some _ _).symm.trans H; rw [hy107]; with_reducible exact H2_) | (have H2_ := (Option.bind_some _ _).symm.trans H; with_reducible exact H2_) | with_reducible exact H | (rw [hy107]; exact H) | exact H
         have Ny107 := Aside0.mk hy107
         clear hy107
         replace H := Option.bind_eq_some_iff.mp H
         obtain ⟨t110, A120, H⟩ := H
         replace H : (if x15_1 < (x4_1.length : Int) then (impl_ParcelsText.l0 k1 (x4_1.set (x15_1 : Int).toNat t110) l0 (l0.length : Int) (wrap64 (x15_1 + 1))) else (none)) = some (r1, r2) := H
         have A12 := Aside0.mk A120
         clear A120
         by_cases c13 : x15_1 < (x4_1.length : Int)
         ·rw [if_pos c13] at H
          have c13b0 : decide (x15_1 < (x4_1.length : Int)) = true := decide_eq_true c13
          clear c13
          obtain ⟨y111, hy111⟩ : ∃ y_ : List ByteArray, y_ = (x4_1.set (x15_1 : Int).toNat t110) := ⟨_, rfl⟩
          replace H : (impl_ParcelsText.l0 k1 y111 l0 (l0.length : Int) (wrap64 (x15_1 + 1))) = some (r1, r2) := by first | (rw [hy111]; with_reducible exact H) | (have H2_ := (Option.bind_some _ _).symm.trans H; rw [hy111]; with_reducible exact H2_) | (have H2_ := (Option.bind_some _ _).symm.trans H; with_reducible exact H2_) | with_reducible exact H | (rw [hy111]; exact H) | exact H
          have Ny111 := Aside0.mk hy111
          clear hy111
          have H' := Aside0.mk H
          clear H
          have p105 : 0 ≤ (x15_1 : Int) := of_decide_eq_true (by first | (with_reducible assumption) | assumption)
          have q105 : x15_1 < (l0.length : Int) := of_decide_eq_true (by first | (with_reducible assumption) | assumption)
          obtain ⟨ad105, e105, hx105_0, hx105_1⟩ := at_T62 HR0.out x15_1 p105 q105
          cases e105
          try replace hx105_0 := (HB.out.cell (World.block_lt_of_cell? w _ hx105_0)).trans hx105_0
          try replace hx105_1 := (HB.out.cell (World.block_lt_of_cell? w _ hx105_1)).trans hx105_1
          replace p105 := eq_true p105
          replace q105 := eq_true q105
          go_wp2_with (first | ((with_reducible refine gate_dst (N := 6) rfl ?_); refine box_event ?hg (N := 6) ?hd (cs := #[.int .i64 0, .int .i64 0]) (t := 62) ?hr ?_; (case hd => rfl); (case hg => rfl); (case hr => first | (go_simp; done) | (go_simp; rfl)); intro gb106 hg w15 hbox hb; have n0_ := Aside0.mk (Kd.R_below (by (with_reducible repeat (first | apply Kd.R_alloc | apply Kd.R_drewN | apply Kd.R_drew)); exact HO_4.out) hb); have n1_ := Aside0.mk (below_step (by repeat (first | (with_reducible first | exact HB.out | apply below_alloc | apply pw_below_drewN | apply below_drew1) | exact HB.out)) hb); have n2_ := Aside0.mk (hbox); have n3_ := Aside0.mk ((by rw [hg]; exact (below_size (by repeat (first | (with_reducible first | exact HB.out | apply below_alloc | apply pw_below_drewN | apply below_drew1) | exact HB.out))) : w.heap.size ≤ gb106)); have n4_ := Aside0.mk ((by rw [hg]; exact (below_size (by repeat (first | (with_reducible first | exact HB.out | apply below_alloc | apply pw_below_drewN | apply below_drew1) | exact HB.out))) : w.heap.size ≤ gb106)); clear HO_4; clear HB; have HO_4 := n0_; have HB := n1_; have BK106 := n2_; have GW106 := n3_; have GE106 := n4_; clear n0_ n1_ n2_ n3_ n4_; clear hb hbox hg; have hcz16_0 : w15.cell? ⟨gb106, 0, none⟩ = some (.int .i64 0) := (blk_cell BK106.out 0).trans rfl; have hcz16_1 : w15.cell? ⟨gb106, 1, none⟩ = some (.int .i64 0) := (blk_cell BK106.out 1).trans rfl; have hfz16_0 := blk_frozen BK106.out 0; have hfz16_1 := blk_frozen BK106.out 1) | ((with_reducible refine gate_dst (N := 26) rfl ?_); refine Kd.R_lit (Kd.int .i64) _ 3 ?hg (N := 26) ?hd (xs := ([(rd_T62 l0 x15_1).f0, (rd_T62 l0 x15_1).f1] : List Int)) (inner := [.int .i64 ((rd_T62 l0 x15_1).f0), .int .i64 ((rd_T62 l0 x15_1).f1)]) (ok := fun _ => True) (okp := fun _ => True) ?hr ?hp (fun _ hk => hk) trivial (Below.refl _ _) (Nat.le_refl _) (by simp) ?_; (case hd => rfl); (case hg => rfl); (case hr => first | (go_simp; done) | (go_simp; rfl)); (case hp => exact (Reps.one (show Kd.M (Kd.int .i64) _ _ _ ((rd_T62 l0 x15_1).f0) [.int .i64 ((rd_T62 l0 x15_1).f0)] from rfl) (Reps.one (show Kd.M (Kd.int .i64) _ _ _ ((rd_T62 l0 x15_1).f1) [.int .i64 ((rd_T62 l0 x15_1).f1)] from rfl) (Reps.none _ _)))); intro v108 w17 ho18 hb hg_ hnew_; clear hg_ hnew_; (first | rw [← Ny107.out] at ho18 | (simp only [Int.reduceToNat] at ho18; rw [← Ny107.out] at ho18)); have n0_ := Aside0.mk (Kd.R_below (by (with_reducible repeat (first | apply Kd.R_alloc | apply Kd.R_drewN | apply Kd.R_drew)); exact (Kd.R_mono (Kd.R_far (p := ⟨gb106, 1, none⟩) (Kd.R_far (p := ⟨gb106, 0, none⟩) (Kd.R_types HO_4.out BK106.out (by decide)) (fun _ hk => hk.2) (.int .i64 ((rd_T62 l0 x15_1).f0))) (fun _ hk => hk.2) (.int .i64 ((rd_T62 l0 x15_1).f1))) (fun _ h_ => h_.1))) hb); have n1_ := Aside0.mk (Kd.R_lower ho18 (below_size (by repeat (first | (with_reducible first | exact HB.out | apply below_alloc | apply pw_below_drewN | apply below_drew1 | refine below_set ?_ GE106.out) | exact HB.out)))); have n2_ := Aside0.mk (blk_below (g := gb106) (o := .cells #[.int .i64 ((rd_T62 l0 x15_1).f0), .int .i64 ((rd_T62 l0 x15_1).f1)] 62 (0, 0)) (by (with_reducible repeat (first | refine blk_drewN ?_ _ | refine blk_drew ?_ | refine blk_alloc ?_ _)); refine blk_put (cs := #[.int .i64 ((rd_T62 l0 x15_1).f0), .int .i64 0]) ?_ 1 _ rfl; (with_reducible repeat (first | refine blk_drewN ?_ _ | refine blk_drew ?_ | refine blk_alloc ?_ _)); refine blk_put (cs := #[.int .i64 0, .int .i64 0]) ?_ 0 _ rfl; (with_reducible repeat (first | refine blk_drewN ?_ _ | refine blk_drew ?_ | refine blk_alloc ?_ _)); exact BK106.out) hb); have n3_ := Aside0.mk (below_step (by repeat (first | (with_reducible first | exact HB.out | apply below_alloc | apply pw_below_drewN | apply below_drew1 | refine below_set ?_ GE106.out) | exact HB.out)) hb); clear HO_4; clear BK106; clear HB; have HO_4 := n0_; have HO109 := n1_; have BK106 := n2_; have HB := n3_; clear n0_ n1_ n2_ n3_; clear hb ho18; obtain ⟨Ao19, co19, eo19⟩ := Kd.R_slice HO109.out; subst eo19) | ((with_reducible refine gate_callee (f := 42) rfl ?_); refine goesL_ (some 27) rfl rfl Tryz.func42 (by kernel_rfl) rfl #[.slice Ao19 y107.length co19, .string (⟨#[42]⟩ : ByteArray)] rfl (by (try simp only [List.map_toArray, List.map_cons, List.map_nil]); first | done | rfl | (simp only [List.length_drop, List.length_take]; rfl)) ?_; (with_reducible refine (impl_joinNumbers.calls k1 _ _ y107 (⟨#[42]⟩ : ByteArray) t110 _ ?side1 ?side2 ?side3 A12.out).mono ?_); (case side1 => repeat (first | exact (Kd.R_reads' HO109.out).2.2 | (with_reducible refine Kd.C_alloc ?_ _) | (with_reducible refine Kd.C_drewN ?_ _) | (with_reducible refine Kd.C_drew ?_))); (case side2 => exact (Kd.R_reads' HO109.out).2.1); (case side3 => exact Tb.below HT0.out (by repeat (first | (with_reducible first | exact HB.out | apply below_alloc | apply pw_below_drewN | apply below_drew1 | refine below_set ?_ GE106.out) | exact HB.out))); rintro e w20 ⟨rfl, hb⟩; refine ⟨_, rfl, ?_⟩; have n0_ := Aside0.mk (Kd.R_below (by (with_reducible repeat (first | apply Kd.R_alloc | apply Kd.R_drewN | apply Kd.R_drew)); exact HO_4.out) hb); have n1_ := Aside0.mk (Kd.R_below (by (with_reducible repeat (first | apply Kd.R_alloc | apply Kd.R_drewN | apply Kd.R_drew)); exact HO109.out) hb); have n2_ := Aside0.mk (blk_below (g := gb106) (o := .cells #[.int .i64 ((rd_T62 l0 x15_1).f0), .int .i64 ((rd_T62 l0 x15_1).f1)] 62 (0, 0)) (by (with_reducible repeat (first | refine blk_drewN ?_ _ | refine blk_drew ?_ | refine blk_alloc ?_ _)); exact BK106.out) hb); have n3_ := Aside0.mk (below_step (by repeat (first | (with_reducible first | exact HB.out | apply below_alloc | apply pw_below_drewN | apply below_drew1 | refine below_set ?_ GE106.out) | exact HB.out)) hb); clear HO_4; clear HO109; clear BK106; clear HB; have HO_4 := n0_; have HO109 := n1_; have BK106 := n2_; have HB := n3_; clear n0_ n1_ n2_ n3_; (try clear hb); (try clear hb2); (try clear hk); (try clear hi); have p14 : 0 ≤ (x15_1 : Int) := of_decide_eq_true (by first | (with_reducible assumption) | assumption); have q14 : (x15_1 : Int) < ((x4_1.length : Int) : Int) := of_decide_eq_true (by first | (with_reducible assumption) | assumption); obtain ⟨go14, co14, eo14, gb14, gl14, cl14, HG14⟩ := Kd.R_form HO_4.out (by omega); (first | cases eo14 | (injection eo14 with ea_ en_ ec_; (first | subst ea_ | (injection ea_ with ea_; subst ea_)); subst ec_; clear en_)); have GB14 := Aside0.mk gb14; have GG14 := Aside0.mk HG14; clear gb14 gl14 HG14; obtain ⟨hx14_0, hf14_0⟩ := Kd.R_celln (⟨#[]⟩ : ByteArray) HO_4.out (x15_1 : Int) p14 q14; replace p14 := eq_true p14; replace q14 := eq_true q14; obtain ⟨hy21_, hz21_⟩ := Kd.R_celln (⟨#[]⟩ : ByteArray) HO_4.out (x15_1 : Int) (of_decide_eq_true (by first | (with_reducible assumption) | assumption)) (of_decide_eq_true (by first | (with_reducible assumption) | assumption)); have HP21 := Kd.R_putg HO_4.out (x15_1 : Int) t110) | ((with_reducible refine gate_store (t := 9) (p := 28) rfl ?_); refine store_event (t := 9) (p := 28) (v := ?vo_w22) (w1 := (w20.setCell ⟨go14, (x15_1 : Int).toNat, none⟩ (.string t110))) ?hg ?ho ?hn ?hr ?_; (case ho => rfl); (case hg => rfl); (case hn => rfl); (case hr => first | (go_simp; done) | (go_simp; rfl)); intro w22 hw; have hg : w20.grownBy w22 (some go14) := (by rw [hw]; exact HP21.2); have hp_ : Kd.R Kd.string 9 w22 w.heap.size (fun _ => True) (.slice (some ⟨go14, 0, none⟩) x4_1.length co14) y111 := (by rw [hw, Ny111.out]; exact HP21.1); clear HP21; have n0_ := Aside0.mk (hp_); have n1_ := Aside0.mk (blk_grown (g := gb106) (o := .cells #[.int .i64 ((rd_T62 l0 x15_1).f0), .int .i64 ((rd_T62 l0 x15_1).f1)] 62 (0, 0)) (by (with_reducible repeat (first | refine blk_drewN ?_ _ | refine blk_drew ?_ | refine blk_alloc ?_ _)); exact BK106.out) hg (Kd.R_ne HO_4.out BK106.out (by decide))); have n2_ := Aside0.mk (Kd.R_over' (v := (.slice (some ⟨go14, 0, none⟩) x4_1.length co14)) (by (with_reducible repeat (first | apply Kd.R_alloc | apply Kd.R_drewN | apply Kd.R_drew)); exact HO109.out) (Kd.R_typed HO_4.out) (by decide) hg); have n3_ := Aside0.mk ((by rw [hw]; exact below_set (HB.out) GB14.out : Below w.heap.size w w22)); clear HO_4; clear BK106; clear HO109; clear HB; have HO_4 := n0_; have BK106 := n1_; have HO109 := n2_; have HB := n3_; clear n0_ n1_ n2_ n3_; clear hg hw hp_))
          go_roundg k1
          case measure => have := HK1.out; omega
          case rel => exact ⟨(y111), (wrap64 (x15_1 + 1)), (by first | rfl | (simp; done) | (simp [*]; done)), H', ⟨by have := HK1.out; omega⟩, ⟨by (with_reducible repeat (first | apply Kd.R_alloc | apply Kd.R_drewN | apply Kd.R_drew)); exact HO_4.out⟩, ⟨by repeat (first | (with_reducible first | exact HB.out | apply below_alloc | apply pw_below_drewN | apply below_drew1 | refine below_set ?_ GE106.out) | exact HB.out)⟩⟩
         ·rw [if_neg c13] at H
          exact absurd H (by simp)
        ·rw [if_neg c11] at H
         exact absurd H (by simp)
       ·rw [if_neg c10] at H
        exact absurd H (by simp)
      ·rw [if_neg c9] at H
       have c9b0 : decide (x15_1 < (l0.length : Int)) = false := decide_eq_false c9
       clear c9
       replace H := Option.bind_eq_some_iff.mp H
       obtain ⟨t112, A230, H⟩ := H
       replace H : (some (t112, true)) = some (r1, r2) := H
       have A23 := Aside0.mk A230
       clear A230
       simp only [Option.some.injEq, Prod.mk.injEq] at H
       obtain ⟨rfl, rfl⟩ := H
       obtain ⟨Ao24, co24, eo24⟩ := Kd.R_slice HO_4.out
       subst eo24
       go_wp2_with (first | ((with_reducible refine gate_callee (f := 43) rfl ?_); refine goesL_ (some 31) rfl rfl Tryz.func43 (by kernel_rfl) rfl #[.slice Ao24 x4_1.length co24, .string (⟨#[44]⟩ : ByteArray)] rfl (by (try simp only [List.map_toArray, List.map_cons, List.map_nil]); first | done | rfl | (simp only [List.length_drop, List.length_take]; rfl)) ?_; (with_reducible refine (strings_Join.calls _ _ x4_1 (⟨#[44]⟩ : ByteArray) t112 _ ?side1 ?side2 A23.out).mono ?_); (case side1 => repeat (first | exact (Kd.R_reads' HO_4.out).2.2 | (with_reducible refine Kd.C_alloc ?_ _) | (with_reducible refine Kd.C_drewN ?_ _) | (with_reducible refine Kd.C_drew ?_))); (case side2 => exact (Kd.R_reads' HO_4.out).2.1); rintro e w25 ⟨rfl, hb⟩; refine ⟨_, rfl, ?_⟩; have n0_ := Aside0.mk (Kd.R_below (by (with_reducible repeat (first | apply Kd.R_alloc | apply Kd.R_drewN | apply Kd.R_drew)); exact HO_4.out) hb); have n1_ := Aside0.mk (below_step (by repeat (first | (with_reducible first | exact HB.out | apply below_alloc | apply pw_below_drewN | apply below_drew1) | exact HB.out)) hb); clear HO_4; clear HB; have HO_4 := n0_; have HB := n1_; clear n0_ n1_; (try clear hb); (try clear hb2); (try clear hk); (try clear hi)))
       go_ret2
       exact ⟨by first | rfl | (simp [errW_none, errW_some] <;> rfl) | (simp [*, errW_none, errW_some] <;> rfl), by repeat (first | (with_reducible first | exact HB.out | apply below_alloc | apply pw_below_drewN | apply below_drew1) | exact HB.out)⟩
   ·rw [if_neg c5] at H
    exact absurd H (by simp)
  ·rw [if_neg c4] at H
   exact absurd H (by simp)
 ·replace c3 := Bool.eq_false_iff.mpr c3
  subst c3
  have H1 : (some ((⟨#[]⟩ : ByteArray), false)) = some (r1, r2) := by rw [if_neg (show ¬ (false = true) by decide)] at H; exact H
  clear H
  have H := H1
  clear H1
  simp only [Option.some.injEq, Prod.mk.injEq] at H
  obtain ⟨rfl, rfl⟩ := H
  go_enter Tryz.func8, Tryz.ntmps8
  go_wp2_with (first | ((with_reducible refine gate_callee (f := 10) rfl ?_); refine goesL_ (some 8) rfl rfl Tryz.func10 (by kernel_rfl) rfl #[.slice A0 l0.length c0] rfl (by (try simp only [List.map_toArray, List.map_cons, List.map_nil]); first | done | rfl | (simp only [List.length_drop, List.length_take]; rfl)) ?_; (with_reducible refine (impl_AreParcels.calls _ _ l0 false _ ?side1 ?side2 A2.out).mono ?_); (case side1 => repeat (first | exact HR0.out | (with_reducible refine Kd.C_alloc ?_ _) | (with_reducible refine Kd.C_drewN ?_ _) | (with_reducible refine Kd.C_drew ?_))); (case side2 => exact HC0.out); rintro e w26 ⟨rfl, hb⟩; refine ⟨_, rfl, ?_⟩; have n0_ := Aside0.mk (below_step (by repeat (first | (with_reducible first | exact HB.out | apply below_alloc | apply pw_below_drewN | apply below_drew1) | exact HB.out)) hb); clear HB; have HB := n0_; clear n0_; (try clear hb); (try clear hb2); (try clear hk); (try clear hi)))
  go_ret2
  exact ⟨by first | rfl | (simp [errW_none, errW_some] <;> rfl) | (simp [*, errW_none, errW_some] <;> rfl), by repeat (first | (with_reducible first | exact HB.out | apply below_alloc | apply pw_below_drewN | apply below_drew1) | exact HB.out)⟩
def impl_FewestTrips.f (l0 : List (S62)) (a1 : Int) : Option (Int × Bool) := (impl_fitBag.f l0 a1).bind fun t => if t = true then (if l0.length ≤ 8 then (bpGo (fun p => impl_countTrips.f l0 p) l0 a1 l0.length [] [] ⟨0, 0, []⟩).bind fun s => some (s.least, true) else none) else some (0, false)
theorem impl_FewestTrips.calls (A0 : Option Addr) (c0 : Nat) (l0 : List (S62)) (a1 : Int) (r1 : Int) (r2 : Bool) (w : World) (hr0 : Kd.C k62 w A0 l0.length l0) (hc0 : l0.length ≤ c0) (h : impl_FewestTrips.f l0 a1 = some (r1, r2)) :
  Calls Tryz.prog 11 #[.slice A0 l0.length c0, .int .i64 a1] w fun e w' => e = .returned (.tuple #[.int .i64 r1, .bool r2]) ∧ Below w.heap.size w w' := by
 unfold impl_FewestTrips.f at h
 obtain ⟨t, ht, hh⟩ := Option.bind_eq_some_iff.1 h
 clear h
 have HR := Aside0.mk hr0
 have HC := Aside0.mk hc0
 have eg := enters_of Tryz.func32 (by kernel_rfl) rfl
 clear hr0 hc0
 have key := fun W hW => impl_fitBag.calls A0 c0 l0 a1 t W hW HC.out ht
 clear ht
 cases t with
 | false =>
  rw [if_neg (by decide)] at hh
  obtain ⟨rfl, rfl⟩ : r1 = 0 ∧ r2 = false := by simpa [eq_comm] using hh
  clear hh
  go_enter Tryz.func11, Tryz.ntmps11
  go_wp2_with fail
  refine (key _ HR.out).mono ?_
  rintro e w1 ⟨rfl, hb1⟩
  go_wp2
  go_ret2
  exact ⟨rfl, hb1⟩
 | true =>
  rw [if_pos rfl] at hh
  by_cases hl : l0.length ≤ 8
  ·rw [if_pos hl] at hh
   obtain ⟨s, hs, hh⟩ := Option.bind_eq_some_iff.1 hh
   obtain ⟨rfl, rfl⟩ : r1 = s.least ∧ r2 = true := by simpa [eq_comm] using hh
   clear hh
   have HS := Aside0.mk hs
   clear hs
   go_enter Tryz.func11, Tryz.ntmps11
   go_wp2_with fail
   refine (key _ HR.out).mono ?_
   rintro e w1 ⟨rfl, hb1⟩
   have HB := Aside0.mk hb1
   clear hb1 key
   go_wp2_with fail
   refine (bp_call (fun p => impl_countTrips.f l0 p) 32 #[] eg A0 c0 l0 a1 w1 (Kd.C_below HR.out HB.out) HC.out hl (fun W p A c x hW hC hc _ hx => (impl_countTrips.calls A0 c0 l0 A c p x W (Kd.C_below HR.out (HB.out.trans (hW.mono HB.out.size))) HC.out hC hc hx).mono fun e w' h => ⟨h.1, h.2.below⟩) s HS.out).mono ?_
   rintro e w2 ⟨v, rfl, ho, hb2⟩
   obtain ⟨Ab, cb, rfl⟩ := Kd.R_slice ho
   have HO := Aside0.mk ho
   have HB2 := Aside0.mk hb2
   clear ho hb2
   go_wp2
   go_ret2
   exact ⟨rfl, HB.out.trans (HB2.out.mono HB.out.size)⟩
  ·rw [if_neg hl] at hh
   cases hh
structure Held (p : World → Prop) (W : World) : Prop where mk :: (out : p W)
class Stay (p : World → Prop) : Prop where step : ∀ {W W' : World}, p W → Below W.heap.size W W' → p W'
instance stay_C {α : Type} {d : Kd α} {A : Option Addr} {n : Nat} {xs : List α} : Stay (fun W => Kd.C d W A n xs) := ⟨fun h hb => Kd.C_below h hb⟩
instance stay_box {g : Nat} {o : Obj} : Stay (fun W => W.heap[g]? = some o) := ⟨fun h hb => blk_below h hb⟩
instance stay_cell {a : Addr} {v : Value} : Stay (fun W => W.cell? a = some v) := ⟨fun h hb => (hb.cell (World.block_lt_of_cell? _ _ h)).trans h⟩
instance stay_held {p : World → Prop} [hp : Stay p] : Stay (fun W => Held p W) := ⟨fun h hb => ⟨hp.step h.out hb⟩⟩
instance stay_old {w : World} : Stay (fun W => Below w.heap.size w W) := ⟨fun h hb => below_step h hb⟩
instance stay_and {p q : World → Prop} [hp : Stay p] [hq : Stay q] : Stay (fun W => p W ∧ q W) := ⟨fun h hb => ⟨hp.step h.1 hb, hq.step h.2 hb⟩⟩
theorem Held.below {p : World → Prop} {W W' : World} (h : Held p W) [hp : Stay p] (hb : Below W.heap.size W W') : Held p W' := ⟨hp.step h.out hb⟩
theorem Held.push {p q : World → Prop} {W : World} (h : Held p W) (hq : q W) : Held (fun W => q W ∧ p W) W := ⟨hq, h.out⟩
theorem Held.row {α : Type} {d : Kd α} {A : Option Addr} {n : Nat} {xs : List α} {p : World → Prop} {W : World} (h : Held p W) (hh : Kd.C d W A n xs) : Held (fun W => Kd.C d W A n xs ∧ p W) W := ⟨hh, h.out⟩
theorem wr64 {x : Int} (h0 : -9223372036854775808 ≤ x) (h1 : x ≤ 9223372036854775807) : wrap64 x = x := by unfold wrap64; omega
theorem ba_beq (text : ByteArray) : (text == text) = true := by
 cases text
 show ByteArray.beq _ _ = true
 simp [ByteArray.beq]
theorem ba_bne (text : ByteArray) : (text != text) = false := by
 rw [bne, ba_beq]
 rfl
instance stay_tb : Stay (fun W => Tb W) := ⟨fun h hb => h.below hb⟩
structure RunA (k : Nat) (l0 : List Int) (pl : List S62) (tr bag : Int) (ok : Bool) (text : ByteArray) (one : Bool) : Prop where
 draw : spec_DrawLightestBag.f k l0 = some (pl, tr)
 impl : impl_LightestBag.f k pl tr = some (bag, ok)
 spec : spec_LightestBag.f k pl tr = some (bag, ok)
 ti : impl_ParcelsText.f k pl = some (text, one)
 ts : spec_ParcelsText.f k pl = some (text, one)
 are : impl_AreParcels.f pl = some one
 imp : ok = true → one = true
structure RunB (pl : List S62) (tr bag few more : Int) (four : Bool) : Prop where
 hfew : impl_FewestTrips.f pl bag = some (few, true)
 le : few ≤ tr
 pos : 1 ≤ bag
 hmore : 1 < bag → impl_FewestTrips.f pl (wrap64 (bag - 1)) = some (more, four)
 gt : 1 < bag → four = true → tr < more
structure RunC (k : Nat) (pl : List S62) (text : ByteArray) (rl : List S62) (three : Bool) : Prop where
 parse : impl_ParseParcels.f k text = some (rl, three)
 hthree : (text.size : Int) ≤ 80 → three = true
 same : (text.size : Int) ≤ 80 → laws_aParcels.f k rl pl = some true
structure RunD (k : Nat) (l1 : List Int) (ls : List Int) (wt : Int) (hs : List Int) (three : Bool) (len : Int) (pn nm : List Int) (seven : Bool) (s : ByteArray) (ql : List S62) (nine : Bool) : Prop where
 draw : spec_DrawLettersTrips.f k l1 = some (ls, wt)
 ti : impl_LettersTrips.f k ls wt = some (hs, three)
 ts : spec_LettersTrips.f k ls wt = some (hs, three)
 li : impl_LettersLength.f k ls wt = some (len, three)
 lx : spec_LettersLength.f k ls wt = some (len, three)
 draw2 : spec_DrawNamedPlan.f k l1 = some pn
 ni : impl_NamedPlan.f k pn = some (nm, seven)
 ns : spec_NamedPlan.f k pn = some (nm, seven)
 draw3 : spec_DrawParseParcels.f k l1 = some s
 pi : impl_ParseParcels.f k s = some (ql, nine)
 ps : spec_ParseParcels.f k s = some (ql, nine)
 same : laws_aSame.f k hs hs = some true
 same2 : laws_aSame.f k nm nm = some true
 same3 : laws_aParcels.f k ql ql = some true
 sev : (seven = false ∧ pn.length = 0) ∨ (seven = true ∧ 0 < pn.length ∧ pn.length ≤ 8) ∨ (seven = false ∧ 8 < pn.length)
structure LetH (k : Nat) (ls : List Int) (wt : Int) (hs : List Int) (i : Nat) (b x h : Int) : Prop where
 hh : rd hs (i : Int) = h
 lo : 1 ≤ h
 hi : h ≤ ls.length
 hx : rd ls (h - 1) = x
 ne : x ≠ 0
 prev : 0 < i → h ≤ rd hs ((i : Int) - 1)
 sum : laws_aSum.f k (ls.drop h.toNat) = some b
 le : b ≤ wrap64 ((i : Int) * wt)
 gt : wrap64 ((i : Int) * wt) < wrap64 (b + x)
 si : (i : Int) ≤ 1000000000
 sl : (ls.length : Int) ≤ 1000000000
structure RunE (k : Nat) (ls : List Int) (wt : Int) (hs : List Int) (len tot sh : Int) : Prop where
 wpos : 1 ≤ wt
 htot : laws_aSum.f k ls = some tot
 hsum : laws_aSum.f k hs = some sh
 cnt : (hs.length : Int) = wrap64 ((wrap64 (wrap64 (tot + wt) - 1)).tdiv wt)
 hlen : len = wrap64 (2 * sh)
 each : ∀ i, i < hs.length → ∃ b x h, LetH k ls wt hs i b x h
structure RunF (pn nm : List Int) (nx : Nat → Int) : Prop where
 len : nm.length = pn.length
 small : pn.length ≤ 8
 start : nx 0 = 0
 step : ∀ i, i < nm.length → nx (i + 1) = if rd nm (i : Int) = nx i then wrap64 (nx i + 1) else nx i
 each : ∀ i, i < nm.length → 0 ≤ rd nm (i : Int) ∧ rd nm (i : Int) ≤ nx i
 same : ∀ i j, i < nm.length → j < nm.length → (rd nm (i : Int) = rd nm (j : Int) ↔ rd pn (i : Int) = rd pn (j : Int))
def LtPure : Prop := ∀ (l0 l1 : List Int), l0.length ≤ maxLen → (∀ x ∈ l0, (Lit.int .u8 x).wf = true) → l1.length ≤ maxLen → (∀ x ∈ l1, (Lit.int .u8 x).wf = true) → laws_big.f l0 l1 = some true ∨ (laws_big.f l0 l1 = some false ∧ ∃ (k : Nat), ∃ (pl : List S62), ∃ (tr bag : Int), ∃ (ok : Bool), ∃ (text : ByteArray), ∃ (one : Bool), (RunA k l0 pl tr bag ok text one) ∧ (ok = true → ∃ few more four, RunB pl tr bag few more four) ∧ (one = true → ∃ rl three, RunC k pl text rl three) ∧ ∃ (ls : List Int), ∃ (wt : Int), ∃ (hs : List Int), ∃ (three : Bool), ∃ (len : Int), ∃ (pn nm : List Int), ∃ (seven : Bool), ∃ (s : ByteArray), ∃ (ql : List S62), ∃ (nine : Bool), (RunD k l1 ls wt hs three len pn nm seven s ql nine) ∧ (three = true → ∃ tot sh, RunE k ls wt hs len tot sh) ∧ (seven = true → ∃ nx, RunF pn nm nx) ∧ (nine = true → impl_ParcelsText.f k ql = some (s, true)))
def letters_1 : {Q : Prop // Aside0 Q → ∀ (A0 : Option Addr) (c0 : Nat) (l0 : List Int) (A1 : Option Addr) (c1 : Nat) (l1 : List Int) (w : World) (hr0 : Kd.C (Kd.int .u8) w A0 l0.length l0) (hc0 : l0.length ≤ c0) (hr1 : Kd.C (Kd.int .u8) w A1 l1.length l1) (hc1 : l1.length ≤ c1) (hT : Tb w) (k : Nat) (pl : List S62) (tr bag : Int) (ok : Bool) (text : ByteArray) (one : Bool) (big : laws_big.f l0 l1 = some false) (ra : RunA k l0 pl tr bag ok text one) (rb : ok = true → ∃ few more four, RunB pl tr bag few more four) (rc : one = true → ∃ rl three, RunC k pl text rl three) (ls : List Int) (wt : Int) (hs : List Int) (three : Bool) (len : Int) (pn nm : List Int) (seven : Bool) (s : ByteArray) (ql : List S62) (nine : Bool) (rd_ : RunD k l1 ls wt hs three len pn nm seven s ql nine) (re : three = true → ∃ tot sh, RunE k ls wt hs len tot sh) (rf : seven = true → ∃ nx, RunF pn nm nx) (rg : nine = true → impl_ParcelsText.f k ql = some (s, true)), Calls Tryz.prog 3 #[.slice A0 l0.length c0, .slice A1 l1.length c1] w fun e w' => e = .returned (.bool true) ∧ Below w.heap.size w w'} := ⟨_, fun q_ => by
 intro A0 c0 l0 A1 c1 l1 w hr0 hc0 hr1 hc1 hT k pl tr bag ok text one big ra rb rc ls wt hs three len pn nm seven s ql nine rd_ re rf rg
 have hu35 := Tryz.underlying35
 have hu24 := Tryz.underlying24
 have HC0 := Aside0.mk hc0
 have HC1 := Aside0.mk hc1
 have HBIG := Aside0.mk big
 have HA := Aside0.mk ra
 have HL := Aside0.mk ((((Held.mk (p := fun W => Below w.heap.size w W) (Below.refl _ w)).push (q := fun W => Tb W) hT).push (q := fun W => Kd.C (Kd.int .u8) W A0 l0.length l0) hr0).push (q := fun W => Kd.C (Kd.int .u8) W A1 l1.length l1) hr1)
 clear hr0 hc0 hr1 hc1 big ra hT
 have HRB := Aside0.mk rb
 have HRC := Aside0.mk rc
 have HD := Aside0.mk rd_
 have HRE := Aside0.mk re
 have HRF := Aside0.mk rf
 have HRG := Aside0.mk rg
 clear rb rc rd_ re rf rg
 go_enter Tryz.func3, Tryz.ntmps3
 go_wp2_with fail
 refine (laws_big.calls A0 c0 l0 A1 c1 l1 false _ HL.out.out.2.1 HC0.out HL.out.out.1 HC1.out HBIG.out).mono ?_
 rintro e w1 ⟨rfl, hd⟩
 have HL_ := Aside0.mk (HL.out.below hd.below)
 clear HL
 have HL := HL_
 clear HL_
 clear hd
 go_wp2_with fail
 refine (spec_DrawLightestBag.calls k A0 c0 l0 pl tr _ HL.out.out.2.1 HC0.out HA.out.draw).mono ?_
 rintro e w2 ⟨v, rfl, ho, hb⟩
 obtain ⟨Apl, cpl, rfl⟩ := Kd.R_slice ho
 have LEpl := Aside0.mk (Kd.R_reads' ho).2.1
 have HL_ := Aside0.mk ((HL.out.below hb).row (Kd.R_reads' ho).2.2)
 clear HL
 have HL := HL_
 clear HL_
 clear ho hb
 go_wp2_with fail
 refine (impl_LightestBag.calls k _ _ pl tr bag ok _ HL.out.out.1 LEpl.out HA.out.impl).mono ?_
 rintro e w3 ⟨rfl, hb⟩
 have HL_ := Aside0.mk (HL.out.below hb)
 clear HL
 have HL := HL_
 clear HL_
 clear hb
 go_wp2_with fail
 refine (spec_LightestBag.calls k _ _ pl tr bag ok _ HL.out.out.1 LEpl.out HA.out.spec).mono ?_
 rintro e w4 ⟨rfl, hb⟩
 have HL_ := Aside0.mk (HL.out.below hb)
 clear HL
 have HL := HL_
 clear HL_
 clear hb
 go_wp2_with fail
 refine (impl_ParcelsText.calls k _ _ pl text one _ HL.out.out.1 LEpl.out HL.out.out.2.2.2.1 HA.out.ti).mono ?_
 rintro e w5 ⟨rfl, hb⟩
 have HL_ := Aside0.mk (HL.out.below hb)
 clear HL
 have HL := HL_
 clear HL_
 clear hb
 go_wp2_with fail
 refine (spec_ParcelsText.calls k _ _ pl text one _ HL.out.out.1 LEpl.out HA.out.ts).mono ?_
 rintro e w6 ⟨rfl, hb⟩
 have HL_ := Aside0.mk (HL.out.below hb)
 clear HL
 have HL := HL_
 clear HL_
 clear hb
 go_upto_region 8 with fail
 go_cut [112] from 82 to 112 (fun s112 wx => s112 = .bool false ∧ Aside0 (Held (fun W => Kd.C k62 W Apl pl.length pl ∧ Kd.C (Kd.int .u8) W A1 l1.length l1 ∧ Kd.C (Kd.int .u8) W A0 l0.length l0 ∧ Tb W ∧ Below w.heap.size w W) wx))
 case first =>
  have n0 : (ok != ok) = false := bne_self_eq_false _
  have n1 : (bag != bag) = false := bne_self_eq_false _
  have n2 : (one != one) = false := bne_self_eq_false _
  have n3 : (text != text) = false := ba_bne text
  have him := HA.out.imp
  go_wp2_with fail
  refine (impl_AreParcels.calls _ _ pl one _ HL.out.out.1 LEpl.out HA.out.are).mono ?_
  rintro e w7 ⟨rfl, hb⟩
  have HL_ := Aside0.mk (HL.out.below hb)
  clear HL
  have HL := HL_
  clear HL_
  clear hb
  cases ok
  ·go_wp2_with fail
   go_meet
   exact ⟨rfl, ⟨⟨HL.out.out.1, HL.out.out.2.1, HL.out.out.2.2.1, HL.out.out.2.2.2.1, HL.out.out.2.2.2.2⟩⟩⟩
  ·cases one
   ·cases him rfl
   ·go_wp2_with fail
    go_meet
    exact ⟨rfl, ⟨⟨HL.out.out.1, HL.out.out.2.1, HL.out.out.2.2.1, HL.out.out.2.2.2.1, HL.out.out.2.2.2.2⟩⟩⟩
 obtain ⟨rfl, HL2⟩ := hcut
 clear HL
 have HL := HL2
 clear HL2
 rename_i u0_ u1_ u2_ u3_ u4_
 revert A0 c0 l0 A1 c1 l1 w k pl tr bag ok text one ls wt hs three len pn nm seven s ql nine hu35 hu24 HC0 HC1 HBIG HA HRB HRC HD HRE HRF HRG u0_ w1 w2 Apl cpl LEpl w3 w4 w5 w6 u1_ u2_ u3_ u4_ wc u82 u83 u84 u85 u86 u87 u88 u89 u90 u91 u92 u93 u94 u95 u96 u97 u98 u99 u100 u101 u102 u103 u104 u105 u106 u107 u108 u109 u110 u111 HL
 exact q_.out⟩
def letters_2 : {Q : Prop // Aside0 Q → letters_1.1} := ⟨_, fun q_ => by
 intro A0 c0 l0 A1 c1 l1 w k pl tr bag ok text one ls wt hs three len pn nm seven s ql nine hu35 hu24 HC0 HC1 HBIG HA HRB HRC HD HRE HRF HRG u0_ w1 w2 Apl cpl LEpl w3 w4 w5 w6 u1_ u2_ u3_ u4_ wc u82 u83 u84 u85 u86 u87 u88 u89 u90 u91 u92 u93 u94 u95 u96 u97 u98 u99 u100 u101 u102 u103 u104 u105 u106 u107 u108 u109 u110 u111 HL
 go_upto_if 113 with fail
 go_cut [15, 16, 17, 18] (fun s15 s16 s17 s18 wx => Aside0 (Held (fun W => Kd.C k62 W Apl pl.length pl ∧ Kd.C (Kd.int .u8) W A1 l1.length l1 ∧ Kd.C (Kd.int .u8) W A0 l0.length l0 ∧ Tb W ∧ Below w.heap.size w W) wx))
 case first =>
  cases ok
  ·go_wp2_with fail
   go_meet
   exact ⟨⟨HL.out.out.1, HL.out.out.2.1, HL.out.out.2.2.1, HL.out.out.2.2.2.1, HL.out.out.2.2.2.2⟩⟩
  ·
   obtain ⟨few, more, four, rb⟩ := HRB.out rfl
   have HB1 := Aside0.mk rb
   clear rb
   go_wp2_with fail
   refine (impl_FewestTrips.calls _ _ pl bag few true _ HL.out.out.1 LEpl.out HB1.out.hfew).mono ?_
   rintro e w8 ⟨rfl, hb⟩
   have HL_ := Aside0.mk (HL.out.below hb)
   clear HL
   have HL := HL_
   clear HL_
   clear hb
   have g1 : decide (few > tr) = false := decide_eq_false (by have := HB1.out.le; omega)
   have g2 : decide (bag < 1) = false := decide_eq_false (by have := HB1.out.pos; omega)
   by_cases hb1 : bag > 1
   ·have g3 : decide (bag > 1) = true := decide_eq_true hb1
    go_wp2_with fail
    refine (impl_FewestTrips.calls _ _ pl (wrap64 (bag - 1)) more four _ HL.out.out.1 LEpl.out (HB1.out.hmore (by omega))).mono ?_
    rintro e w9 ⟨rfl, hb⟩
    have HL_ := Aside0.mk (HL.out.below hb)
    clear HL
    have HL := HL_
    clear HL_
    clear hb
    cases four
    ·go_wp2_with fail
     go_meet
     exact ⟨⟨HL.out.out.1, HL.out.out.2.1, HL.out.out.2.2.1, HL.out.out.2.2.2.1, HL.out.out.2.2.2.2⟩⟩
    ·have g4 : decide (more ≤ tr) = false := decide_eq_false (by have := HB1.out.gt (by omega) rfl; omega)
     go_wp2_with fail
     go_meet
     exact ⟨⟨HL.out.out.1, HL.out.out.2.1, HL.out.out.2.2.1, HL.out.out.2.2.2.1, HL.out.out.2.2.2.2⟩⟩
   ·have g3 : decide (bag > 1) = false := decide_eq_false hb1
    go_wp2_with fail
    go_meet
    exact ⟨⟨HL.out.out.1, HL.out.out.2.1, HL.out.out.2.2.1, HL.out.out.2.2.2.1, HL.out.out.2.2.2.2⟩⟩
 clear HL
 have HL := hcut
 clear hcut
 rename_i u0_p1 u1_p1 u2_p1 u3_p1 u4_p1 u5_p1 u6_p1 u7_p1 u8_p1 u9_p1 u10_p1 u11_p1 u12_p1 u13_p1 u14_p1 u15_p1 u16_p1 u17_p1 u18_p1 u19_p1 u20_p1 u21_p1 u22_p1 u23_p1 u24_p1 u25_p1 u26_p1 u27_p1 u28_p1 u29_p1 u30_p1 u31_p1 u32_p1
 revert A0 c0 l0 A1 c1 l1 w k pl tr bag ok text one ls wt hs three len pn nm seven s ql nine hu35 hu24 HC0 HC1 HBIG HA HRB HRC HD HRE HRF HRG u0_ w1 w2 Apl cpl LEpl w3 w4 w5 w6 u0_p1 u1_p1 u2_p1 u3_p1 u4_p1 u5_p1 u6_p1 u7_p1 u8_p1 u9_p1 u10_p1 u11_p1 u12_p1 u13_p1 u14_p1 u15_p1 u16_p1 u17_p1 u18_p1 u19_p1 u20_p1 u21_p1 u22_p1 u23_p1 u24_p1 u25_p1 u26_p1 u27_p1 u28_p1 u29_p1 u30_p1 u31_p1 u32_p1 wc u4 u15 u16 u17 u18 u52 u53 u54 u55 u56 u57 u58 u59 u60 u61 u62 u63 u64 u65 u66 u67 u68 u69 u70 u71 u72 u73 u74 u75 u76 u77 u78 u79 u80 u81 u82 u83 u84 u85 u86 u87 u88 u89 u90 u91 u92 u93 u94 u95 u96 u97 u98 u99 u100 u101 u102 u103 u104 u105 u106 u107 u108 u109 u110 u111 u112 u113 u114 u115 u116 u117 u118 u119 u120 u121 u122 u123 u124 u125 u126 u127 u128 u129 u130 u131 u132 u133 u134 u135 u136 u137 u138 u139 u140 u141 u142 u143 u144 u145 u146 u147 u148 u149 u150 u151 u152 u153 u154 u155 u156 u157 u158 u159 u160 u161 u162 u163 u164 u165 u166 u167 u168 u169 u170 u171 u172 u173 u174 u175 u176 u177 u178 u179 u180 u181 u182 u183 u184 u185 u186 u187 u188 u189 u190 u191 u192 u193 u194 u195 u196 u197 u198 u199 u200 u201 u202 u203 u204 u205 u206 u207 u208 u209 u210 u211 u212 u213 u214 u215 u216 u217 u218 u219 u220 u221 u222 u223 u224 u225 u226 u227 u228 u229 u230 u231 u232 u233 u234 u235 u236 u237 u238 u239 u240 u241 u242 u243 u244 u245 u246 u247 u248 u249 u250 u251 u252 u253 u254 u255 u256 u257 u258 u259 u260 u261 u262 u263 u264 u265 u266 u267 u268 u269 u270 u271 u272 u273 u274 u275 u276 u277 u278 u279 u280 u281 u282 u283 u284 u285 u286 u287 u288 u289 u290 u291 u292 u293 u294 u298 u299 u300 u301 u302 u303 u304 u305 u306 u307 u308 u309 u310 u311 u312 u313 u314 u315 u316 u317 u318 u319 u320 u321 u322 u323 u324 u325 u326 u327 u328 u329 u330 u331 u332 u333 u334 u335 u336 u337 u338 u339 u340 u341 u342 u343 u344 u345 u346 u347 u348 u349 u350 u351 u352 u353 u354 u358 u359 u360 u361 u362 u363 u364 u365 u366 u367 u368 u369 u370 u371 u372 u373 u377 u378 u379 u380 u381 u382 u383 u384 u385 u386 u387 u388 u389 u390 u391 u392 u393 u394 u395 u396 u397 u398 u399 u400 u401 u402 u403 u404 u405 u406 u407 HL
 exact q_.out⟩
def letters_3 : {Q : Prop // Aside0 Q → letters_2.1} := ⟨_, fun q_ => by
 intro A0 c0 l0 A1 c1 l1 w k pl tr bag ok text one ls wt hs three len pn nm seven s ql nine hu35 hu24 HC0 HC1 HBIG HA HRB HRC HD HRE HRF HRG u0_ w1 w2 Apl cpl LEpl w3 w4 w5 w6 u0_p1 u1_p1 u2_p1 u3_p1 u4_p1 u5_p1 u6_p1 u7_p1 u8_p1 u9_p1 u10_p1 u11_p1 u12_p1 u13_p1 u14_p1 u15_p1 u16_p1 u17_p1 u18_p1 u19_p1 u20_p1 u21_p1 u22_p1 u23_p1 u24_p1 u25_p1 u26_p1 u27_p1 u28_p1 u29_p1 u30_p1 u31_p1 u32_p1 wc u4 u15 u16 u17 u18 u52 u53 u54 u55 u56 u57 u58 u59 u60 u61 u62 u63 u64 u65 u66 u67 u68 u69 u70 u71 u72 u73 u74 u75 u76 u77 u78 u79 u80 u81 u82 u83 u84 u85 u86 u87 u88 u89 u90 u91 u92 u93 u94 u95 u96 u97 u98 u99 u100 u101 u102 u103 u104 u105 u106 u107 u108 u109 u110 u111 u112 u113 u114 u115 u116 u117 u118 u119 u120 u121 u122 u123 u124 u125 u126 u127 u128 u129 u130 u131 u132 u133 u134 u135 u136 u137 u138 u139 u140 u141 u142 u143 u144 u145 u146 u147 u148 u149 u150 u151 u152 u153 u154 u155 u156 u157 u158 u159 u160 u161 u162 u163 u164 u165 u166 u167 u168 u169 u170 u171 u172 u173 u174 u175 u176 u177 u178 u179 u180 u181 u182 u183 u184 u185 u186 u187 u188 u189 u190 u191 u192 u193 u194 u195 u196 u197 u198 u199 u200 u201 u202 u203 u204 u205 u206 u207 u208 u209 u210 u211 u212 u213 u214 u215 u216 u217 u218 u219 u220 u221 u222 u223 u224 u225 u226 u227 u228 u229 u230 u231 u232 u233 u234 u235 u236 u237 u238 u239 u240 u241 u242 u243 u244 u245 u246 u247 u248 u249 u250 u251 u252 u253 u254 u255 u256 u257 u258 u259 u260 u261 u262 u263 u264 u265 u266 u267 u268 u269 u270 u271 u272 u273 u274 u275 u276 u277 u278 u279 u280 u281 u282 u283 u284 u285 u286 u287 u288 u289 u290 u291 u292 u293 u294 u298 u299 u300 u301 u302 u303 u304 u305 u306 u307 u308 u309 u310 u311 u312 u313 u314 u315 u316 u317 u318 u319 u320 u321 u322 u323 u324 u325 u326 u327 u328 u329 u330 u331 u332 u333 u334 u335 u336 u337 u338 u339 u340 u341 u342 u343 u344 u345 u346 u347 u348 u349 u350 u351 u352 u353 u354 u358 u359 u360 u361 u362 u363 u364 u365 u366 u367 u368 u369 u370 u371 u372 u373 u377 u378 u379 u380 u381 u382 u383 u384 u385 u386 u387 u388 u389 u390 u391 u392 u393 u394 u395 u396 u397 u398 u399 u400 u401 u402 u403 u404 u405 u406 u407 HL
 go_upto_if 146 with fail
 go_cut [19, 20] (fun s19 s20 wx => Aside0 (Held (fun W => Kd.C (Kd.int .u8) W A1 l1.length l1 ∧ Tb W ∧ Below w.heap.size w W) wx))
 case first =>
  cases one
  ·go_wp2_with fail
   go_meet
   exact ⟨⟨HL.out.out.2.1, HL.out.out.2.2.2.1, HL.out.out.2.2.2.2⟩⟩
  ·
   obtain ⟨rl, three, rc⟩ := HRC.out rfl
   have HC2 := Aside0.mk rc
   clear rc
   go_wp2_with fail
   refine (impl_ParseParcels.calls k text rl three _ HL.out.out.2.2.2.1 HC2.out.parse).mono ?_
   rintro e w10 ⟨v, rfl, ho, hb⟩
   obtain ⟨Arl, crl, rfl⟩ := Kd.R_slice ho
   have LErl := Aside0.mk (Kd.R_reads' ho).2.1
   have HL_ := Aside0.mk ((HL.out.below hb).row (Kd.R_reads' ho).2.2)
   clear HL
   have HL := HL_
   clear HL_
   clear ho hb
   by_cases h80 : (text.size : Int) ≤ 80
   ·have g1 : decide ((text.size : Int) ≤ 80) = true := decide_eq_true h80
    obtain rfl := HC2.out.hthree h80
    go_wp2_with fail
    refine (laws_aParcels.calls k _ _ rl _ _ pl true _ HL.out.out.1 LErl.out HL.out.out.2.1 LEpl.out (HC2.out.same h80)).mono ?_
    rintro e w11 ⟨rfl, hd⟩
    have HL_ := Aside0.mk (HL.out.below hd.below)
    clear HL
    have HL := HL_
    clear HL_
    clear hd
    go_wp2_with fail
    go_meet
    exact ⟨⟨HL.out.out.2.2.1, HL.out.out.2.2.2.2.1, HL.out.out.2.2.2.2.2⟩⟩
   ·have g1 : decide ((text.size : Int) ≤ 80) = false := decide_eq_false h80
    go_wp2_with fail
    go_meet
    exact ⟨⟨HL.out.out.2.2.1, HL.out.out.2.2.2.2.1, HL.out.out.2.2.2.2.2⟩⟩
 clear HL
 have HL := hcut
 clear hcut
 rename_i u0_p2 u1_p2 u2_p2 u3_p2 u4_p2 u5_p2 u6_p2 u7_p2 u8_p2 u9_p2 u10_p2 u11_p2 u12_p2 u13_p2 u14_p2 u15_p2 u16_p2 u17_p2 u18_p2 u19_p2 u20_p2 u21_p2 u22_p2 u23_p2 u24_p2 u25_p2 u26_p2 u27_p2 u28_p2 u29_p2 u30_p2 u31_p2 u32_p2 u33_p2 u34_p2 u35_p2 u36_p2 u37_p2 u38_p2 u39_p2 u40_p2 u41_p2 u42_p2 u43_p2 u44_p2 u45_p2 u46_p2 u47_p2 u48_p2 u49_p2 u50_p2 u51_p2 u52_p2 u53_p2 u54_p2 u55_p2 u56_p2 u57_p2 u58_p2 u59_p2 u60_p2 u61_p2 u62_p2 u63_p2 u64_p2 u65_p2 u66_p2 u67_p2 u68_p2 u69_p2 u70_p2 u71_p2 u72_p2 u73_p2 u74_p2 u75_p2 u76_p2 u77_p2 u78_p2 u79_p2 u80_p2 u81_p2 u82_p2 u83_p2 u84_p2 u85_p2 u86_p2 u87_p2 u88_p2 u89_p2 u90_p2 u91_p2 u92_p2 u93_p2 u94_p2 u95_p2 u96_p2 u97_p2 u98_p2 u99_p2 u100_p2 u101_p2 u102_p2 u103_p2 u104_p2 u105_p2 u106_p2 u107_p2 u108_p2 u109_p2 u110_p2 u111_p2 u112_p2 u113_p2 u114_p2 u115_p2 u116_p2 u117_p2 u118_p2 u119_p2 u120_p2 u121_p2 u122_p2 u123_p2 u124_p2 u125_p2 u126_p2 u127_p2 u128_p2 u129_p2 u130_p2 u131_p2 u132_p2 u133_p2 u134_p2 u135_p2 u136_p2 u137_p2 u138_p2 u139_p2 u140_p2 u141_p2 u142_p2 u143_p2 u144_p2 u145_p2 u146_p2 u147_p2 u148_p2 u149_p2 u150_p2 u151_p2 u152_p2 u153_p2 u154_p2 u155_p2 u156_p2 u157_p2 u158_p2 u159_p2 u160_p2 u161_p2 u162_p2 u163_p2 u164_p2 u165_p2 u166_p2 u167_p2 u168_p2 u169_p2 u170_p2 u171_p2 u172_p2 u173_p2 u174_p2 u175_p2 u176_p2 u177_p2 u178_p2 u179_p2 u180_p2 u181_p2 u182_p2 u183_p2 u184_p2 u185_p2 u186_p2 u187_p2 u188_p2 u189_p2 u190_p2 u191_p2 u192_p2 u193_p2 u194_p2 u195_p2 u196_p2 u197_p2 u198_p2 u199_p2 u200_p2 u201_p2 u202_p2 u203_p2 u204_p2 u205_p2 u206_p2 u207_p2 u208_p2 u209_p2 u210_p2 u211_p2 u212_p2 u213_p2 u214_p2 u215_p2 u216_p2 u217_p2 u218_p2 u219_p2 u220_p2 u221_p2 u222_p2 u223_p2 u224_p2 u225_p2 u226_p2 u227_p2 u228_p2 u229_p2 u230_p2 u231_p2 u232_p2 u233_p2 u234_p2 u235_p2 u236_p2 u237_p2 u238_p2 u239_p2 u240_p2 u241_p2 u242_p2 u243_p2 u244_p2 u245_p2 u246_p2 u247_p2 u248_p2 u249_p2 u250_p2 u251_p2 u252_p2 u253_p2 u254_p2 u255_p2 u256_p2 u257_p2 u258_p2 u259_p2 u260_p2 u261_p2 u262_p2 u263_p2 u264_p2 u265_p2 u266_p2 u267_p2 u268_p2 u269_p2 u270_p2 u271_p2 u272_p2 u273_p2 u274_p2 u275_p2 u276_p2 u277_p2 u278_p2 u279_p2 u280_p2 u281_p2 u282_p2 u283_p2 u284_p2 u285_p2 u286_p2 u287_p2 u288_p2 u289_p2 u290_p2 u291_p2 u292_p2 u293_p2 u294_p2 u295_p2 u296_p2 u297_p2 u298_p2 u299_p2 u300_p2 u301_p2 u302_p2 u303_p2 u304_p2 u305_p2 u306_p2 u307_p2 u308_p2 u309_p2 u310_p2 u311_p2 u312_p2 u313_p2 u314_p2 u315_p2 u316_p2 u317_p2 u318_p2 u319_p2 u320_p2 u321_p2 u322_p2 u323_p2 u324_p2 u325_p2 u326_p2 u327_p2 u328_p2 u329_p2 u330_p2 u331_p2 u332_p2 u333_p2 u334_p2 u335_p2 u336_p2 u337_p2 u338_p2 u339_p2 u340_p2 u341_p2 u342_p2 u343_p2 u344_p2 u345_p2 u346_p2 u347_p2 u348_p2 u349_p2 u350_p2
 revert A0 c0 l0 A1 c1 l1 w k pl tr bag ok text one ls wt hs three len pn nm seven s ql nine hu35 hu24 HC0 HC1 HBIG HA HRB HRC HD HRE HRF HRG u0_ w1 w2 Apl cpl LEpl w3 w4 w5 w6 u0_p1 u1_p1 u2_p1 u3_p1 u4_p1 u5_p1 u6_p1 u7_p1 u8_p1 u9_p1 u10_p1 u11_p1 u12_p1 u13_p1 u14_p1 u15_p1 u16_p1 u17_p1 u18_p1 u19_p1 u20_p1 u21_p1 u22_p1 u23_p1 u24_p1 u25_p1 u26_p1 u27_p1 u28_p1 u29_p1 u30_p1 u0_p2 u1_p2 u15 u16 u17 u18 u2_p2 u3_p2 u4_p2 u5_p2 u6_p2 u7_p2 u8_p2 u9_p2 u10_p2 u11_p2 u12_p2 u13_p2 u14_p2 u15_p2 u16_p2 u17_p2 u18_p2 u19_p2 u20_p2 u21_p2 u22_p2 u23_p2 u24_p2 u25_p2 u26_p2 u27_p2 u28_p2 u29_p2 u30_p2 u31_p2 u32_p2 u33_p2 u34_p2 u35_p2 u36_p2 u37_p2 u38_p2 u39_p2 u40_p2 u41_p2 u42_p2 u43_p2 u44_p2 u45_p2 u46_p2 u47_p2 u48_p2 u49_p2 u50_p2 u51_p2 u52_p2 u53_p2 u54_p2 u55_p2 u56_p2 u57_p2 u58_p2 u59_p2 u60_p2 u61_p2 u62_p2 u63_p2 u64_p2 u65_p2 u66_p2 u67_p2 u68_p2 u69_p2 u70_p2 u71_p2 u72_p2 u73_p2 u74_p2 u75_p2 u76_p2 u77_p2 u78_p2 u79_p2 u80_p2 u81_p2 u82_p2 u83_p2 u84_p2 u85_p2 u86_p2 u87_p2 u88_p2 u89_p2 u90_p2 u91_p2 u92_p2 u93_p2 u94_p2 u95_p2 u96_p2 u97_p2 u98_p2 u99_p2 u100_p2 u101_p2 u102_p2 u103_p2 u104_p2 u105_p2 u106_p2 u107_p2 u108_p2 u109_p2 u110_p2 u111_p2 u112_p2 u113_p2 u114_p2 u115_p2 u116_p2 u117_p2 u118_p2 u119_p2 u120_p2 u121_p2 u122_p2 u123_p2 u124_p2 u125_p2 u126_p2 u127_p2 u128_p2 u129_p2 u130_p2 u131_p2 u132_p2 u133_p2 u134_p2 u135_p2 u136_p2 u137_p2 u138_p2 u139_p2 u140_p2 u141_p2 u142_p2 u143_p2 u144_p2 u145_p2 u146_p2 u147_p2 u148_p2 u149_p2 u150_p2 u151_p2 u152_p2 u153_p2 u154_p2 u155_p2 u156_p2 u157_p2 u158_p2 u159_p2 u160_p2 u161_p2 u162_p2 u163_p2 u164_p2 u165_p2 u166_p2 u167_p2 u168_p2 u169_p2 u170_p2 u171_p2 u172_p2 u173_p2 u174_p2 u175_p2 u176_p2 u177_p2 u178_p2 u179_p2 u180_p2 u181_p2 u182_p2 u183_p2 u184_p2 u185_p2 u186_p2 u187_p2 u188_p2 u189_p2 u190_p2 u191_p2 u192_p2 u193_p2 u194_p2 u195_p2 u196_p2 u197_p2 u198_p2 u199_p2 u200_p2 u201_p2 u202_p2 u203_p2 u204_p2 u205_p2 u206_p2 u207_p2 u208_p2 u209_p2 u210_p2 u211_p2 u212_p2 u213_p2 u214_p2 u215_p2 u216_p2 u217_p2 u218_p2 u219_p2 u220_p2 u221_p2 u222_p2 u223_p2 u224_p2 u225_p2 u226_p2 u227_p2 u228_p2 u229_p2 u230_p2 u231_p2 u232_p2 u233_p2 u234_p2 u235_p2 u236_p2 u237_p2 u238_p2 u239_p2 u240_p2 u241_p2 u242_p2 u243_p2 u244_p2 u245_p2 u246_p2 u247_p2 u248_p2 u249_p2 u250_p2 u251_p2 u252_p2 u253_p2 u254_p2 u255_p2 u256_p2 u257_p2 u258_p2 u259_p2 u260_p2 u261_p2 u262_p2 u263_p2 u264_p2 u265_p2 u266_p2 u267_p2 u268_p2 u269_p2 u270_p2 u271_p2 u272_p2 u273_p2 u274_p2 u275_p2 u276_p2 u277_p2 u278_p2 u279_p2 u280_p2 u281_p2 u282_p2 u283_p2 u284_p2 u285_p2 u286_p2 u287_p2 u288_p2 u289_p2 u290_p2 u291_p2 u292_p2 u293_p2 u294_p2 u295_p2 u296_p2 u297_p2 u298_p2 u299_p2 u300_p2 u301_p2 u302_p2 u303_p2 u304_p2 u305_p2 u306_p2 u307_p2 u308_p2 u309_p2 u310_p2 u311_p2 u312_p2 u313_p2 u314_p2 u315_p2 u316_p2 u317_p2 u318_p2 u319_p2 u320_p2 u321_p2 u322_p2 u323_p2 u324_p2 u325_p2 u326_p2 u327_p2 u328_p2 u329_p2 u330_p2 u331_p2 u332_p2 u333_p2 u334_p2 u335_p2 u336_p2 u337_p2 u338_p2 u339_p2 u340_p2 u341_p2 u342_p2 u343_p2 u344_p2 u345_p2 u346_p2 u347_p2 u348_p2 u349_p2 u350_p2 wc u4 u19 u20 u52 u53 u54 u55 u56 u57 u58 u59 u60 u61 u62 u63 u64 u65 u66 u67 u68 u69 u70 u71 u72 u73 u74 u75 u76 u77 u78 u79 u80 u81 u82 u83 u84 u85 u86 u87 u88 u89 u90 u91 u92 u93 u94 u95 u96 u97 u98 u99 u100 u101 u102 u103 u104 u105 u106 u107 u108 u109 u110 u111 u112 u113 u114 u115 u116 u117 u118 u119 u120 u121 u122 u123 u124 u125 u126 u127 u128 u129 u130 u131 u132 u133 u134 u135 u136 u137 u138 u139 u140 u141 u142 u143 u144 u145 u146 u147 u148 u149 u150 u151 u152 u153 u154 u155 u156 u157 u158 u159 u160 u161 u162 u163 u164 u165 u166 u167 u168 u169 u170 u171 u172 u173 u174 u175 u176 u177 u178 u179 u180 u181 u182 u183 u184 u185 u186 u187 u188 u189 u190 u191 u192 u193 u194 u195 u196 u197 u198 u199 u200 u201 u202 u203 u204 u205 u206 u207 u208 u209 u210 u211 u212 u213 u214 u215 u216 u217 u218 u219 u220 u221 u222 u223 u224 u225 u226 u227 u228 u229 u230 u231 u232 u233 u234 u235 u236 u237 u238 u239 u240 u241 u242 u243 u244 u245 u246 u247 u248 u249 u250 u251 u252 u253 u254 u255 u256 u257 u258 u259 u260 u261 u262 u263 u264 u265 u266 u267 u268 u269 u270 u271 u272 u273 u274 u275 u276 u277 u278 u279 u280 u281 u282 u283 u284 u285 u286 u287 u288 u289 u290 u291 u292 u293 u294 u298 u299 u300 u301 u302 u303 u304 u305 u306 u307 u308 u309 u310 u311 u312 u313 u314 u315 u316 u317 u318 u319 u320 u321 u322 u323 u324 u325 u326 u327 u328 u329 u330 u331 u332 u333 u334 u335 u336 u337 u338 u339 u340 u341 u342 u343 u344 u345 u346 u347 u348 u349 u350 u351 u352 u353 u354 u358 u359 u360 u361 u362 u363 u364 u365 u366 u367 u368 u369 u370 u371 u372 u373 u377 u378 u379 u380 u381 u382 u383 u384 u385 u386 u387 u388 u389 u390 u391 u392 u393 u394 u395 u396 u397 u398 u399 u400 u401 u402 u403 u404 u405 u406 u407 HL
 exact q_.out⟩
def letters_4 : {Q : Prop // Aside0 Q → letters_3.1} := ⟨_, fun q_ => by
 intro A0 c0 l0 A1 c1 l1 w k pl tr bag ok text one ls wt hs three len pn nm seven s ql nine hu35 hu24 HC0 HC1 HBIG HA HRB HRC HD HRE HRF HRG u0_ w1 w2 Apl cpl LEpl w3 w4 w5 w6 u0_p1 u1_p1 u2_p1 u3_p1 u4_p1 u5_p1 u6_p1 u7_p1 u8_p1 u9_p1 u10_p1 u11_p1 u12_p1 u13_p1 u14_p1 u15_p1 u16_p1 u17_p1 u18_p1 u19_p1 u20_p1 u21_p1 u22_p1 u23_p1 u24_p1 u25_p1 u26_p1 u27_p1 u28_p1 u29_p1 u30_p1 u0_p2 u1_p2 u15 u16 u17 u18 u2_p2 u3_p2 u4_p2 u5_p2 u6_p2 u7_p2 u8_p2 u9_p2 u10_p2 u11_p2 u12_p2 u13_p2 u14_p2 u15_p2 u16_p2 u17_p2 u18_p2 u19_p2 u20_p2 u21_p2 u22_p2 u23_p2 u24_p2 u25_p2 u26_p2 u27_p2 u28_p2 u29_p2 u30_p2 u31_p2 u32_p2 u33_p2 u34_p2 u35_p2 u36_p2 u37_p2 u38_p2 u39_p2 u40_p2 u41_p2 u42_p2 u43_p2 u44_p2 u45_p2 u46_p2 u47_p2 u48_p2 u49_p2 u50_p2 u51_p2 u52_p2 u53_p2 u54_p2 u55_p2 u56_p2 u57_p2 u58_p2 u59_p2 u60_p2 u61_p2 u62_p2 u63_p2 u64_p2 u65_p2 u66_p2 u67_p2 u68_p2 u69_p2 u70_p2 u71_p2 u72_p2 u73_p2 u74_p2 u75_p2 u76_p2 u77_p2 u78_p2 u79_p2 u80_p2 u81_p2 u82_p2 u83_p2 u84_p2 u85_p2 u86_p2 u87_p2 u88_p2 u89_p2 u90_p2 u91_p2 u92_p2 u93_p2 u94_p2 u95_p2 u96_p2 u97_p2 u98_p2 u99_p2 u100_p2 u101_p2 u102_p2 u103_p2 u104_p2 u105_p2 u106_p2 u107_p2 u108_p2 u109_p2 u110_p2 u111_p2 u112_p2 u113_p2 u114_p2 u115_p2 u116_p2 u117_p2 u118_p2 u119_p2 u120_p2 u121_p2 u122_p2 u123_p2 u124_p2 u125_p2 u126_p2 u127_p2 u128_p2 u129_p2 u130_p2 u131_p2 u132_p2 u133_p2 u134_p2 u135_p2 u136_p2 u137_p2 u138_p2 u139_p2 u140_p2 u141_p2 u142_p2 u143_p2 u144_p2 u145_p2 u146_p2 u147_p2 u148_p2 u149_p2 u150_p2 u151_p2 u152_p2 u153_p2 u154_p2 u155_p2 u156_p2 u157_p2 u158_p2 u159_p2 u160_p2 u161_p2 u162_p2 u163_p2 u164_p2 u165_p2 u166_p2 u167_p2 u168_p2 u169_p2 u170_p2 u171_p2 u172_p2 u173_p2 u174_p2 u175_p2 u176_p2 u177_p2 u178_p2 u179_p2 u180_p2 u181_p2 u182_p2 u183_p2 u184_p2 u185_p2 u186_p2 u187_p2 u188_p2 u189_p2 u190_p2 u191_p2 u192_p2 u193_p2 u194_p2 u195_p2 u196_p2 u197_p2 u198_p2 u199_p2 u200_p2 u201_p2 u202_p2 u203_p2 u204_p2 u205_p2 u206_p2 u207_p2 u208_p2 u209_p2 u210_p2 u211_p2 u212_p2 u213_p2 u214_p2 u215_p2 u216_p2 u217_p2 u218_p2 u219_p2 u220_p2 u221_p2 u222_p2 u223_p2 u224_p2 u225_p2 u226_p2 u227_p2 u228_p2 u229_p2 u230_p2 u231_p2 u232_p2 u233_p2 u234_p2 u235_p2 u236_p2 u237_p2 u238_p2 u239_p2 u240_p2 u241_p2 u242_p2 u243_p2 u244_p2 u245_p2 u246_p2 u247_p2 u248_p2 u249_p2 u250_p2 u251_p2 u252_p2 u253_p2 u254_p2 u255_p2 u256_p2 u257_p2 u258_p2 u259_p2 u260_p2 u261_p2 u262_p2 u263_p2 u264_p2 u265_p2 u266_p2 u267_p2 u268_p2 u269_p2 u270_p2 u271_p2 u272_p2 u273_p2 u274_p2 u275_p2 u276_p2 u277_p2 u278_p2 u279_p2 u280_p2 u281_p2 u282_p2 u283_p2 u284_p2 u285_p2 u286_p2 u287_p2 u288_p2 u289_p2 u290_p2 u291_p2 u292_p2 u293_p2 u294_p2 u295_p2 u296_p2 u297_p2 u298_p2 u299_p2 u300_p2 u301_p2 u302_p2 u303_p2 u304_p2 u305_p2 u306_p2 u307_p2 u308_p2 u309_p2 u310_p2 u311_p2 u312_p2 u313_p2 u314_p2 u315_p2 u316_p2 u317_p2 u318_p2 u319_p2 u320_p2 u321_p2 u322_p2 u323_p2 u324_p2 u325_p2 u326_p2 u327_p2 u328_p2 u329_p2 u330_p2 u331_p2 u332_p2 u333_p2 u334_p2 u335_p2 u336_p2 u337_p2 u338_p2 u339_p2 u340_p2 u341_p2 u342_p2 u343_p2 u344_p2 u345_p2 u346_p2 u347_p2 u348_p2 u349_p2 u350_p2 wc u4 u19 u20 u52 u53 u54 u55 u56 u57 u58 u59 u60 u61 u62 u63 u64 u65 u66 u67 u68 u69 u70 u71 u72 u73 u74 u75 u76 u77 u78 u79 u80 u81 u82 u83 u84 u85 u86 u87 u88 u89 u90 u91 u92 u93 u94 u95 u96 u97 u98 u99 u100 u101 u102 u103 u104 u105 u106 u107 u108 u109 u110 u111 u112 u113 u114 u115 u116 u117 u118 u119 u120 u121 u122 u123 u124 u125 u126 u127 u128 u129 u130 u131 u132 u133 u134 u135 u136 u137 u138 u139 u140 u141 u142 u143 u144 u145 u146 u147 u148 u149 u150 u151 u152 u153 u154 u155 u156 u157 u158 u159 u160 u161 u162 u163 u164 u165 u166 u167 u168 u169 u170 u171 u172 u173 u174 u175 u176 u177 u178 u179 u180 u181 u182 u183 u184 u185 u186 u187 u188 u189 u190 u191 u192 u193 u194 u195 u196 u197 u198 u199 u200 u201 u202 u203 u204 u205 u206 u207 u208 u209 u210 u211 u212 u213 u214 u215 u216 u217 u218 u219 u220 u221 u222 u223 u224 u225 u226 u227 u228 u229 u230 u231 u232 u233 u234 u235 u236 u237 u238 u239 u240 u241 u242 u243 u244 u245 u246 u247 u248 u249 u250 u251 u252 u253 u254 u255 u256 u257 u258 u259 u260 u261 u262 u263 u264 u265 u266 u267 u268 u269 u270 u271 u272 u273 u274 u275 u276 u277 u278 u279 u280 u281 u282 u283 u284 u285 u286 u287 u288 u289 u290 u291 u292 u293 u294 u298 u299 u300 u301 u302 u303 u304 u305 u306 u307 u308 u309 u310 u311 u312 u313 u314 u315 u316 u317 u318 u319 u320 u321 u322 u323 u324 u325 u326 u327 u328 u329 u330 u331 u332 u333 u334 u335 u336 u337 u338 u339 u340 u341 u342 u343 u344 u345 u346 u347 u348 u349 u350 u351 u352 u353 u354 u358 u359 u360 u361 u362 u363 u364 u365 u366 u367 u368 u369 u370 u371 u372 u373 u377 u378 u379 u380 u381 u382 u383 u384 u385 u386 u387 u388 u389 u390 u391 u392 u393 u394 u395 u396 u397 u398 u399 u400 u401 u402 u403 u404 u405 u406 u407 HL
 clear HA HRB HRC
 go_wp2_with fail
 refine (spec_DrawLettersTrips.calls k A1 c1 l1 ls wt _ HL.out.out.1 HC1.out HD.out.draw).mono ?_
 rintro e w12 ⟨v, rfl, ho, hb⟩
 obtain ⟨Als, cls, rfl⟩ := Kd.R_slice ho
 have LEls := Aside0.mk (Kd.R_reads' ho).2.1
 have HL_ := Aside0.mk ((HL.out.below hb).row (Kd.R_reads' ho).2.2)
 clear HL
 have HL := HL_
 clear HL_
 clear ho hb
 go_wp2_with fail
 refine (impl_LettersTrips.calls k _ _ ls wt hs three _ HL.out.out.1 LEls.out HD.out.ti).mono ?_
 rintro e w13 ⟨v, rfl, ho, hb⟩
 obtain ⟨Ahs, chs, rfl⟩ := Kd.R_slice ho
 have LEhs := Aside0.mk (Kd.R_reads' ho).2.1
 have HL_ := Aside0.mk ((HL.out.below hb).row (Kd.R_reads' ho).2.2)
 clear HL
 have HL := HL_
 clear HL_
 clear ho hb
 go_wp2_with fail
 refine (spec_LettersTrips.calls k _ _ ls wt hs three _ HL.out.out.2.1 LEls.out HD.out.ts).mono ?_
 rintro e w14 ⟨v, rfl, ho, hb⟩
 obtain ⟨Ahx, chx, rfl⟩ := Kd.R_slice ho
 have LEhx := Aside0.mk (Kd.R_reads' ho).2.1
 have HL_ := Aside0.mk ((HL.out.below hb).row (Kd.R_reads' ho).2.2)
 clear HL
 have HL := HL_
 clear HL_
 clear ho hb
 go_wp2_with fail
 refine (impl_LettersLength.calls k _ _ ls wt len three _ HL.out.out.2.2.1 LEls.out HD.out.li).mono ?_
 rintro e w15 ⟨rfl, hb⟩
 have HL_ := Aside0.mk (HL.out.below hb)
 clear HL
 have HL := HL_
 clear HL_
 clear hb
 go_wp2_with fail
 refine (spec_LettersLength.calls k _ _ ls wt len three _ HL.out.out.2.2.1 LEls.out HD.out.lx).mono ?_
 rintro e w16 ⟨rfl, hb⟩
 have HL_ := Aside0.mk (HL.out.below hb)
 clear HL
 have HL := HL_
 clear HL_
 clear hb
 go_wp2_with fail
 refine (spec_DrawNamedPlan.calls k A1 c1 l1 pn _ HL.out.out.2.2.2.1 HC1.out HD.out.draw2).mono ?_
 rintro e w17 ⟨v, rfl, ho, hb⟩
 obtain ⟨Apn, cpn, rfl⟩ := Kd.R_slice ho
 have LEpn := Aside0.mk (Kd.R_reads' ho).2.1
 have HL_ := Aside0.mk ((HL.out.below hb).row (Kd.R_reads' ho).2.2)
 clear HL
 have HL := HL_
 clear HL_
 clear ho hb
 go_wp2_with fail
 refine (impl_NamedPlan.calls k _ _ pn nm seven _ HL.out.out.1 LEpn.out HD.out.ni).mono ?_
 rintro e w18 ⟨v, rfl, ho, hb⟩
 obtain ⟨Anm, cnm, rfl⟩ := Kd.R_slice ho
 have LEnm := Aside0.mk (Kd.R_reads' ho).2.1
 have HL_ := Aside0.mk ((HL.out.below hb).row (Kd.R_reads' ho).2.2)
 clear HL
 have HL := HL_
 clear HL_
 clear ho hb
 go_wp2_with fail
 refine (spec_NamedPlan.calls k _ _ pn nm seven _ HL.out.out.2.1 LEpn.out HD.out.ns).mono ?_
 rintro e w19 ⟨v, rfl, ho, hb⟩
 obtain ⟨Anx, cnx, rfl⟩ := Kd.R_slice ho
 have LEnx := Aside0.mk (Kd.R_reads' ho).2.1
 have HL_ := Aside0.mk ((HL.out.below hb).row (Kd.R_reads' ho).2.2)
 clear HL
 have HL := HL_
 clear HL_
 clear ho hb
 go_wp2_with fail
 refine (spec_DrawParseParcels.calls k A1 c1 l1 s _ HL.out.out.2.2.2.2.2.2.1 HC1.out HD.out.draw3).mono ?_
 rintro e w20 ⟨rfl, hb⟩
 have HL_ := Aside0.mk (HL.out.below hb)
 clear HL
 have HL := HL_
 clear HL_
 clear hb
 go_wp2_with fail
 refine (impl_ParseParcels.calls k s ql nine _ HL.out.out.2.2.2.2.2.2.2.1 HD.out.pi).mono ?_
 rintro e w21 ⟨v, rfl, ho, hb⟩
 obtain ⟨Aql, cql, rfl⟩ := Kd.R_slice ho
 have LEql := Aside0.mk (Kd.R_reads' ho).2.1
 have HL_ := Aside0.mk ((HL.out.below hb).row (Kd.R_reads' ho).2.2)
 clear HL
 have HL := HL_
 clear HL_
 clear ho hb
 go_wp2_with fail
 refine (spec_ParseParcels.calls k s ql nine _ HD.out.ps).mono ?_
 rintro e w22 ⟨v, rfl, ho, hb⟩
 obtain ⟨Ars, crs, rfl⟩ := Kd.R_slice ho
 have LErs := Aside0.mk (Kd.R_reads' ho).2.1
 have HL_ := Aside0.mk ((HL.out.below hb).row (Kd.R_reads' ho).2.2)
 clear HL
 have HL := HL_
 clear HL_
 clear ho hb
 go_upto_region 33 with fail
 go_cut [275] from 218 to 275 (fun s275 wx => s275 = .bool false ∧ Aside0 (Held (fun W => Kd.C k62 W Aql ql.length ql ∧ Kd.C (Kd.int .i64) W Anm nm.length nm ∧ Kd.C (Kd.int .i64) W Apn pn.length pn ∧ Kd.C (Kd.int .i64) W Ahs hs.length hs ∧ Kd.C (Kd.int .i64) W Als ls.length ls ∧ Tb W ∧ Below w.heap.size w W) wx))
 case first =>
  have n0 : (three != three) = false := bne_self_eq_false _
  have n1 : (len != len) = false := bne_self_eq_false _
  have n2 : (seven != seven) = false := bne_self_eq_false _
  have n3 : (nine != nine) = false := bne_self_eq_false _
  go_wp2_with fail
  refine (laws_aSame.calls k _ _ hs _ _ hs true _ HL.out.out.2.2.2.2.2.2.1 LEhs.out HL.out.out.2.2.2.2.2.1 LEhx.out HD.out.same).mono ?_
  rintro e w23 ⟨rfl, hd⟩
  have HL_ := Aside0.mk (HL.out.below hd.below)
  clear HL
  have HL := HL_
  clear HL_
  clear hd
  go_wp2_with fail
  refine (laws_aSame.calls k _ _ nm _ _ nm true _ HL.out.out.2.2.2.1 LEnm.out HL.out.out.2.2.1 LEnx.out HD.out.same2).mono ?_
  rintro e w24 ⟨rfl, hd⟩
  have HL_ := Aside0.mk (HL.out.below hd.below)
  clear HL
  have HL := HL_
  clear HL_
  clear hd
  go_wp2_with fail
  refine (laws_aParcels.calls k _ _ ql _ _ ql true _ HL.out.out.2.1 LEql.out HL.out.out.1 LErs.out HD.out.same3).mono ?_
  rintro e w25 ⟨rfl, hd⟩
  have HL_ := Aside0.mk (HL.out.below hd.below)
  clear HL
  have HL := HL_
  clear HL_
  clear hd
  rcases HD.out.sev with ⟨rfl, h0⟩ | ⟨rfl, h0, h8⟩ | ⟨rfl, h8⟩
  ·have d1 : decide ((pn.length : Int) > 0) = false := decide_eq_false (by omega)
   have d3 : decide (0 < pn.length) = false := decide_eq_false (by omega)
   have d4 : (0 < pn.length) = False := eq_false (by omega)
   clear h0
   go_wp2_with fail
   go_meet
   exact ⟨rfl, ⟨⟨HL.out.out.2.1, HL.out.out.2.2.2.1, HL.out.out.2.2.2.2.1, HL.out.out.2.2.2.2.2.2.1, HL.out.out.2.2.2.2.2.2.2.1, HL.out.out.2.2.2.2.2.2.2.2.2.1, HL.out.out.2.2.2.2.2.2.2.2.2.2⟩⟩⟩
  ·have d1 : decide ((pn.length : Int) > 0) = true := decide_eq_true (by omega)
   have d3 : decide (0 < pn.length) = true := decide_eq_true (by omega)
   have d4 : (0 < pn.length) = True := eq_true (by omega)
   have d2 : decide ((pn.length : Int) ≤ 8) = true := decide_eq_true (by omega)
   clear h0 h8
   go_wp2_with fail
   go_meet
   exact ⟨rfl, ⟨⟨HL.out.out.2.1, HL.out.out.2.2.2.1, HL.out.out.2.2.2.2.1, HL.out.out.2.2.2.2.2.2.1, HL.out.out.2.2.2.2.2.2.2.1, HL.out.out.2.2.2.2.2.2.2.2.2.1, HL.out.out.2.2.2.2.2.2.2.2.2.2⟩⟩⟩
  ·have d1 : decide ((pn.length : Int) > 0) = true := decide_eq_true (by omega)
   have d3 : decide (0 < pn.length) = true := decide_eq_true (by omega)
   have d4 : (0 < pn.length) = True := eq_true (by omega)
   have d2 : decide ((pn.length : Int) ≤ 8) = false := decide_eq_false (by omega)
   clear h8
   go_wp2_with fail
   go_meet
   exact ⟨rfl, ⟨⟨HL.out.out.2.1, HL.out.out.2.2.2.1, HL.out.out.2.2.2.2.1, HL.out.out.2.2.2.2.2.2.1, HL.out.out.2.2.2.2.2.2.2.1, HL.out.out.2.2.2.2.2.2.2.2.2.1, HL.out.out.2.2.2.2.2.2.2.2.2.2⟩⟩⟩
 obtain ⟨rfl, HL2⟩ := hcut
 clear HL
 have HL := HL2
 clear HL2
 rename_i u0_p3 u1_p3 u2_p3 u3_p3 u4_p3 u5_p3 u6_p3 u7_p3 u8_p3 u9_p3 u10_p3 u11_p3 u12_p3 u13_p3 u14_p3 u15_p3 u16_p3 u17_p3 u18_p3 u19_p3 u20_p3 u21_p3 u22_p3 u23_p3 u24_p3 u25_p3 u26_p3 u27_p3 u28_p3 u29_p3 u30_p3 u31_p3 u32_p3 u33_p3 u34_p3 u35_p3 u36_p3 u37_p3 u38_p3 u39_p3 u40_p3 u41_p3 u42_p3 u43_p3 u44_p3 u45_p3 u46_p3 u47_p3 u48_p3 u49_p3 u50_p3 u51_p3 u52_p3 u53_p3 u54_p3 u55_p3 u56_p3 u57_p3 u58_p3 u59_p3 u60_p3 u61_p3
 revert A0 c0 l0 A1 c1 l1 w k pl tr bag ok text one ls wt hs three len pn nm seven s ql nine hu35 hu24 HC0 HC1 HBIG HD HRE HRF HRG u0_ w1 w2 Apl cpl LEpl w3 w4 w5 w6 u0_p1 u1_p1 u2_p1 u3_p1 u4_p1 u5_p1 u6_p1 u7_p1 u8_p1 u9_p1 u10_p1 u11_p1 u12_p1 u13_p1 u14_p1 u15_p1 u16_p1 u17_p1 u18_p1 u19_p1 u20_p1 u21_p1 u22_p1 u23_p1 u24_p1 u25_p1 u26_p1 u27_p1 u28_p1 u29_p1 u30_p1 u0_p2 u1_p2 u15 u16 u17 u18 u2_p2 u3_p2 u4_p2 u5_p2 u6_p2 u7_p2 u8_p2 u9_p2 u10_p2 u11_p2 u12_p2 u13_p2 u14_p2 u15_p2 u16_p2 u17_p2 u18_p2 u19_p2 u20_p2 u21_p2 u22_p2 u23_p2 u24_p2 u25_p2 u26_p2 u27_p2 u28_p2 u29_p2 u30_p2 u31_p2 u32_p2 u33_p2 u34_p2 u35_p2 u36_p2 u37_p2 u38_p2 u39_p2 u40_p2 u41_p2 u42_p2 u43_p2 u44_p2 u45_p2 u46_p2 u47_p2 u48_p2 u49_p2 u50_p2 u51_p2 u52_p2 u53_p2 u54_p2 u55_p2 u56_p2 u57_p2 u58_p2 u59_p2 u60_p2 u61_p2 u62_p2 u63_p2 u64_p2 u65_p2 u66_p2 u67_p2 u68_p2 u69_p2 u70_p2 u71_p2 u72_p2 u73_p2 u74_p2 u75_p2 u76_p2 u77_p2 u78_p2 u79_p2 u80_p2 u81_p2 u82_p2 u83_p2 u84_p2 u85_p2 u86_p2 u87_p2 u88_p2 u89_p2 u90_p2 u91_p2 u92_p2 u93_p2 u94_p2 u95_p2 u96_p2 u97_p2 u98_p2 u99_p2 u100_p2 u101_p2 u102_p2 u103_p2 u104_p2 u105_p2 u106_p2 u107_p2 u108_p2 u109_p2 u110_p2 u111_p2 u112_p2 u113_p2 u114_p2 u115_p2 u116_p2 u117_p2 u118_p2 u119_p2 u120_p2 u121_p2 u122_p2 u123_p2 u124_p2 u125_p2 u126_p2 u127_p2 u128_p2 u129_p2 u130_p2 u131_p2 u132_p2 u133_p2 u134_p2 u135_p2 u136_p2 u137_p2 u138_p2 u139_p2 u140_p2 u141_p2 u142_p2 u143_p2 u144_p2 u145_p2 u146_p2 u147_p2 u148_p2 u149_p2 u150_p2 u151_p2 u152_p2 u153_p2 u154_p2 u155_p2 u156_p2 u157_p2 u158_p2 u159_p2 u160_p2 u161_p2 u162_p2 u163_p2 u164_p2 u165_p2 u166_p2 u167_p2 u168_p2 u169_p2 u170_p2 u171_p2 u172_p2 u173_p2 u174_p2 u175_p2 u176_p2 u177_p2 u178_p2 u179_p2 u180_p2 u181_p2 u182_p2 u183_p2 u184_p2 u185_p2 u186_p2 u187_p2 u188_p2 u189_p2 u190_p2 u191_p2 u192_p2 u193_p2 u194_p2 u195_p2 u196_p2 u197_p2 u198_p2 u199_p2 u200_p2 u201_p2 u202_p2 u203_p2 u204_p2 u205_p2 u206_p2 u207_p2 u208_p2 u209_p2 u210_p2 u211_p2 u212_p2 u213_p2 u214_p2 u215_p2 u216_p2 u217_p2 u218_p2 u219_p2 u220_p2 u221_p2 u222_p2 u223_p2 u224_p2 u225_p2 u226_p2 u227_p2 u228_p2 u229_p2 u230_p2 u231_p2 u232_p2 u233_p2 u234_p2 u235_p2 u236_p2 u237_p2 u238_p2 u239_p2 u240_p2 u241_p2 u242_p2 u243_p2 u244_p2 u245_p2 u246_p2 u247_p2 u248_p2 u249_p2 u250_p2 u251_p2 u252_p2 u253_p2 u254_p2 u255_p2 u256_p2 u257_p2 u258_p2 u259_p2 u260_p2 u261_p2 u262_p2 u263_p2 u264_p2 u265_p2 u266_p2 u267_p2 u268_p2 u269_p2 u270_p2 u271_p2 u272_p2 u273_p2 u274_p2 u275_p2 u276_p2 u277_p2 u278_p2 u279_p2 u280_p2 u281_p2 u282_p2 u283_p2 u284_p2 u285_p2 u286_p2 u287_p2 u288_p2 u289_p2 u290_p2 u291_p2 u292_p2 u293_p2 u294_p2 u295_p2 u296_p2 u297_p2 u298_p2 u299_p2 u300_p2 u301_p2 u302_p2 u303_p2 u304_p2 u305_p2 u306_p2 u307_p2 u308_p2 u309_p2 u310_p2 u311_p2 u312_p2 u313_p2 u314_p2 u315_p2 u316_p2 u317_p2 u318_p2 u319_p2 u320_p2 u321_p2 u322_p2 u323_p2 u324_p2 u325_p2 u326_p2 u327_p2 u328_p2 u329_p2 u330_p2 u331_p2 u332_p2 u333_p2 u334_p2 u335_p2 u336_p2 u337_p2 u338_p2 u339_p2 u340_p2 u341_p2 u342_p2 u343_p2 u344_p2 u345_p2 u346_p2 u347_p2 u348_p2 u0_p3 u4 u19 u20 u52 u53 u54 u55 u56 u57 u58 u59 u60 u61 u62 u63 u64 u65 u66 u67 u68 u69 u70 u71 u72 u73 u74 u75 u76 u77 u78 u79 u80 u81 u82 u83 u84 u85 u86 u87 u88 u89 u90 u91 u92 u93 u94 u95 u96 u97 u98 u99 u100 u101 u102 u103 u104 u105 u106 u107 u108 u109 u110 u111 u112 u113 u114 u115 u116 u117 u118 u119 u120 u121 u122 u123 u124 u125 u126 u127 u128 u129 u130 u131 u132 u133 u134 u135 u136 u137 u138 u139 u140 u141 u142 u143 u144 u145 u146 u147 u148 u149 u150 u151 u152 u153 u154 u155 u156 u157 u158 u159 u160 u161 u162 u163 u164 u165 u166 u167 u168 u169 u170 u171 u172 u173 u174 u175 u176 u177 u178 u179 u180 u181 u182 u183 u184 u185 u186 u187 u188 u189 u190 u191 u192 u193 u194 u195 u196 u197 u198 u199 u200 u201 u202 u203 u204 u205 u206 u207 u208 u209 u210 u211 u212 u213 u214 u215 u216 u217 u1_p3 u2_p3 u3_p3 u4_p3 u5_p3 u6_p3 u7_p3 u8_p3 u9_p3 u10_p3 u11_p3 u12_p3 u13_p3 u14_p3 u15_p3 u16_p3 u17_p3 u18_p3 u19_p3 u20_p3 u21_p3 u22_p3 u23_p3 u24_p3 u25_p3 u26_p3 u27_p3 u28_p3 u29_p3 u30_p3 u31_p3 u32_p3 u33_p3 u34_p3 u35_p3 u36_p3 u37_p3 u38_p3 u39_p3 u40_p3 u41_p3 u42_p3 u43_p3 u44_p3 u45_p3 u46_p3 u47_p3 u48_p3 u49_p3 u50_p3 u51_p3 u52_p3 u53_p3 u54_p3 u55_p3 u56_p3 u57_p3 u275 u276 u277 u278 u279 u280 u281 u282 u283 u284 u285 u286 u287 u288 u289 u290 u291 u292 u293 u294 u298 u299 u300 u301 u302 u303 u304 u305 u306 u307 u308 u309 u310 u311 u312 u313 u314 u315 u316 u317 u318 u319 u320 u321 u322 u323 u324 u325 u326 u327 u328 u329 u330 u331 u332 u333 u334 u335 u336 u337 u338 u339 u340 u341 u342 u343 u344 u345 u346 u347 u348 u349 u350 u351 u352 u353 u354 u358 u359 u360 u361 u362 u363 u364 u365 u366 u367 u368 u369 u370 u371 u372 u373 u377 u378 u379 u380 u381 u382 u383 u384 u385 u386 u387 u388 u389 u390 u391 u392 u393 u394 u395 u396 u397 u398 u399 u400 u401 u402 u403 u404 u405 u406 u407 w12 Als cls LEls w13 Ahs chs LEhs w14 Ahx chx LEhx w15 w16 w17 Apn cpn LEpn w18 Anm cnm LEnm w19 Anx cnx LEnx w20 w21 Aql cql LEql w22 Ars crs LErs u58_p3 u59_p3 u60_p3 u61_p3 wc u218 u219 u220 u221 u222 u223 u224 u225 u226 u227 u228 u229 u230 u231 u232 u233 u234 u235 u236 u237 u238 u239 u240 u241 u242 u243 u244 u245 u246 u247 u248 u249 u250 u251 u252 u253 u254 u255 u256 u257 u258 u259 u260 u261 u262 u263 u264 u265 u266 u267 u268 u269 u270 u271 u272 u273 u274 HL
 exact q_.out⟩
def letters_5 : {Q : Prop // Aside0 Q → letters_4.1} := ⟨_, fun q_ => by
 intro A0 c0 l0 A1 c1 l1 w k pl tr bag ok text one ls wt hs three len pn nm seven s ql nine hu35 hu24 HC0 HC1 HBIG HD HRE HRF HRG u0_ w1 w2 Apl cpl LEpl w3 w4 w5 w6 u0_p1 u1_p1 u2_p1 u3_p1 u4_p1 u5_p1 u6_p1 u7_p1 u8_p1 u9_p1 u10_p1 u11_p1 u12_p1 u13_p1 u14_p1 u15_p1 u16_p1 u17_p1 u18_p1 u19_p1 u20_p1 u21_p1 u22_p1 u23_p1 u24_p1 u25_p1 u26_p1 u27_p1 u28_p1 u29_p1 u30_p1 u0_p2 u1_p2 u15 u16 u17 u18 u2_p2 u3_p2 u4_p2 u5_p2 u6_p2 u7_p2 u8_p2 u9_p2 u10_p2 u11_p2 u12_p2 u13_p2 u14_p2 u15_p2 u16_p2 u17_p2 u18_p2 u19_p2 u20_p2 u21_p2 u22_p2 u23_p2 u24_p2 u25_p2 u26_p2 u27_p2 u28_p2 u29_p2 u30_p2 u31_p2 u32_p2 u33_p2 u34_p2 u35_p2 u36_p2 u37_p2 u38_p2 u39_p2 u40_p2 u41_p2 u42_p2 u43_p2 u44_p2 u45_p2 u46_p2 u47_p2 u48_p2 u49_p2 u50_p2 u51_p2 u52_p2 u53_p2 u54_p2 u55_p2 u56_p2 u57_p2 u58_p2 u59_p2 u60_p2 u61_p2 u62_p2 u63_p2 u64_p2 u65_p2 u66_p2 u67_p2 u68_p2 u69_p2 u70_p2 u71_p2 u72_p2 u73_p2 u74_p2 u75_p2 u76_p2 u77_p2 u78_p2 u79_p2 u80_p2 u81_p2 u82_p2 u83_p2 u84_p2 u85_p2 u86_p2 u87_p2 u88_p2 u89_p2 u90_p2 u91_p2 u92_p2 u93_p2 u94_p2 u95_p2 u96_p2 u97_p2 u98_p2 u99_p2 u100_p2 u101_p2 u102_p2 u103_p2 u104_p2 u105_p2 u106_p2 u107_p2 u108_p2 u109_p2 u110_p2 u111_p2 u112_p2 u113_p2 u114_p2 u115_p2 u116_p2 u117_p2 u118_p2 u119_p2 u120_p2 u121_p2 u122_p2 u123_p2 u124_p2 u125_p2 u126_p2 u127_p2 u128_p2 u129_p2 u130_p2 u131_p2 u132_p2 u133_p2 u134_p2 u135_p2 u136_p2 u137_p2 u138_p2 u139_p2 u140_p2 u141_p2 u142_p2 u143_p2 u144_p2 u145_p2 u146_p2 u147_p2 u148_p2 u149_p2 u150_p2 u151_p2 u152_p2 u153_p2 u154_p2 u155_p2 u156_p2 u157_p2 u158_p2 u159_p2 u160_p2 u161_p2 u162_p2 u163_p2 u164_p2 u165_p2 u166_p2 u167_p2 u168_p2 u169_p2 u170_p2 u171_p2 u172_p2 u173_p2 u174_p2 u175_p2 u176_p2 u177_p2 u178_p2 u179_p2 u180_p2 u181_p2 u182_p2 u183_p2 u184_p2 u185_p2 u186_p2 u187_p2 u188_p2 u189_p2 u190_p2 u191_p2 u192_p2 u193_p2 u194_p2 u195_p2 u196_p2 u197_p2 u198_p2 u199_p2 u200_p2 u201_p2 u202_p2 u203_p2 u204_p2 u205_p2 u206_p2 u207_p2 u208_p2 u209_p2 u210_p2 u211_p2 u212_p2 u213_p2 u214_p2 u215_p2 u216_p2 u217_p2 u218_p2 u219_p2 u220_p2 u221_p2 u222_p2 u223_p2 u224_p2 u225_p2 u226_p2 u227_p2 u228_p2 u229_p2 u230_p2 u231_p2 u232_p2 u233_p2 u234_p2 u235_p2 u236_p2 u237_p2 u238_p2 u239_p2 u240_p2 u241_p2 u242_p2 u243_p2 u244_p2 u245_p2 u246_p2 u247_p2 u248_p2 u249_p2 u250_p2 u251_p2 u252_p2 u253_p2 u254_p2 u255_p2 u256_p2 u257_p2 u258_p2 u259_p2 u260_p2 u261_p2 u262_p2 u263_p2 u264_p2 u265_p2 u266_p2 u267_p2 u268_p2 u269_p2 u270_p2 u271_p2 u272_p2 u273_p2 u274_p2 u275_p2 u276_p2 u277_p2 u278_p2 u279_p2 u280_p2 u281_p2 u282_p2 u283_p2 u284_p2 u285_p2 u286_p2 u287_p2 u288_p2 u289_p2 u290_p2 u291_p2 u292_p2 u293_p2 u294_p2 u295_p2 u296_p2 u297_p2 u298_p2 u299_p2 u300_p2 u301_p2 u302_p2 u303_p2 u304_p2 u305_p2 u306_p2 u307_p2 u308_p2 u309_p2 u310_p2 u311_p2 u312_p2 u313_p2 u314_p2 u315_p2 u316_p2 u317_p2 u318_p2 u319_p2 u320_p2 u321_p2 u322_p2 u323_p2 u324_p2 u325_p2 u326_p2 u327_p2 u328_p2 u329_p2 u330_p2 u331_p2 u332_p2 u333_p2 u334_p2 u335_p2 u336_p2 u337_p2 u338_p2 u339_p2 u340_p2 u341_p2 u342_p2 u343_p2 u344_p2 u345_p2 u346_p2 u347_p2 u348_p2 u0_p3 u4 u19 u20 u52 u53 u54 u55 u56 u57 u58 u59 u60 u61 u62 u63 u64 u65 u66 u67 u68 u69 u70 u71 u72 u73 u74 u75 u76 u77 u78 u79 u80 u81 u82 u83 u84 u85 u86 u87 u88 u89 u90 u91 u92 u93 u94 u95 u96 u97 u98 u99 u100 u101 u102 u103 u104 u105 u106 u107 u108 u109 u110 u111 u112 u113 u114 u115 u116 u117 u118 u119 u120 u121 u122 u123 u124 u125 u126 u127 u128 u129 u130 u131 u132 u133 u134 u135 u136 u137 u138 u139 u140 u141 u142 u143 u144 u145 u146 u147 u148 u149 u150 u151 u152 u153 u154 u155 u156 u157 u158 u159 u160 u161 u162 u163 u164 u165 u166 u167 u168 u169 u170 u171 u172 u173 u174 u175 u176 u177 u178 u179 u180 u181 u182 u183 u184 u185 u186 u187 u188 u189 u190 u191 u192 u193 u194 u195 u196 u197 u198 u199 u200 u201 u202 u203 u204 u205 u206 u207 u208 u209 u210 u211 u212 u213 u214 u215 u216 u217 u1_p3 u2_p3 u3_p3 u4_p3 u5_p3 u6_p3 u7_p3 u8_p3 u9_p3 u10_p3 u11_p3 u12_p3 u13_p3 u14_p3 u15_p3 u16_p3 u17_p3 u18_p3 u19_p3 u20_p3 u21_p3 u22_p3 u23_p3 u24_p3 u25_p3 u26_p3 u27_p3 u28_p3 u29_p3 u30_p3 u31_p3 u32_p3 u33_p3 u34_p3 u35_p3 u36_p3 u37_p3 u38_p3 u39_p3 u40_p3 u41_p3 u42_p3 u43_p3 u44_p3 u45_p3 u46_p3 u47_p3 u48_p3 u49_p3 u50_p3 u51_p3 u52_p3 u53_p3 u54_p3 u55_p3 u56_p3 u57_p3 u275 u276 u277 u278 u279 u280 u281 u282 u283 u284 u285 u286 u287 u288 u289 u290 u291 u292 u293 u294 u298 u299 u300 u301 u302 u303 u304 u305 u306 u307 u308 u309 u310 u311 u312 u313 u314 u315 u316 u317 u318 u319 u320 u321 u322 u323 u324 u325 u326 u327 u328 u329 u330 u331 u332 u333 u334 u335 u336 u337 u338 u339 u340 u341 u342 u343 u344 u345 u346 u347 u348 u349 u350 u351 u352 u353 u354 u358 u359 u360 u361 u362 u363 u364 u365 u366 u367 u368 u369 u370 u371 u372 u373 u377 u378 u379 u380 u381 u382 u383 u384 u385 u386 u387 u388 u389 u390 u391 u392 u393 u394 u395 u396 u397 u398 u399 u400 u401 u402 u403 u404 u405 u406 u407 w12 Als cls LEls w13 Ahs chs LEhs w14 Ahx chx LEhx w15 w16 w17 Apn cpn LEpn w18 Anm cnm LEnm w19 Anx cnx LEnx w20 w21 Aql cql LEql w22 Ars crs LErs u58_p3 u59_p3 u60_p3 u61_p3 wc u218 u219 u220 u221 u222 u223 u224 u225 u226 u227 u228 u229 u230 u231 u232 u233 u234 u235 u236 u237 u238 u239 u240 u241 u242 u243 u244 u245 u246 u247 u248 u249 u250 u251 u252 u253 u254 u255 u256 u257 u258 u259 u260 u261 u262 u263 u264 u265 u266 u267 u268 u269 u270 u271 u272 u273 u274 HL
 go_upto_if 276 with fail
 go_cut [41, 42, 43, 44] (fun s41 s42 s43 s44 wx => Aside0 (Held (fun W => Kd.C k62 W Aql ql.length ql ∧ Kd.C (Kd.int .i64) W Anm nm.length nm ∧ Kd.C (Kd.int .i64) W Apn pn.length pn ∧ Tb W ∧ Below w.heap.size w W) wx))
 case first =>
  cases three
  ·go_wp2_with fail
   go_meet
   exact ⟨⟨HL.out.out.1, HL.out.out.2.1, HL.out.out.2.2.1, HL.out.out.2.2.2.2.2.1, HL.out.out.2.2.2.2.2.2⟩⟩
  ·
   obtain ⟨tot, sh, re⟩ := HRE.out rfl
   have HE := Aside0.mk re
   clear re
   go_wp2_with fail
   refine (laws_aSum.calls k _ _ ls tot _ HL.out.out.2.2.2.2.1 LEls.out HE.out.htot).mono ?_
   rintro e w26 ⟨rfl, hd⟩
   have HL_ := Aside0.mk (HL.out.below hd.below)
   clear HL
   have HL := HL_
   clear HL_
   clear hd
   have z0 : (wt == 0) = false := beq_eq_false_iff_ne.mpr (by have := HE.out.wpos; omega)
   have z1 : (wt = 0) = False := eq_false (by have := HE.out.wpos; omega)
   have z2 : (((hs.length : Int)) != wrap64 ((wrap64 (wrap64 (tot + wt) - 1)).tdiv wt)) = false := by rw [HE.out.cnt]; exact bne_self_eq_false _
   have z3 : (len != wrap64 (2 * sh)) = false := by rw [HE.out.hlen]; exact bne_self_eq_false _
   go_wp2_with fail
   refine (laws_aSum.calls k _ _ hs sh _ HL.out.out.2.2.2.1 LEhs.out HE.out.hsum).mono ?_
   rintro e w27 ⟨rfl, hd⟩
   have HL_ := Aside0.mk (HL.out.below hd.below)
   clear HL
   have HL := HL_
   clear HL_
   clear hd
   go_wp2_with fail
   go_loopg [42, 43, 44, 297] hs.length (fun gg s42 s43 s44 s297 wr => ∃ i : Nat, s297 = .int .i64 (i : Int) ∧ i + gg = hs.length ∧ Aside0 (Held (fun W => Kd.C k62 W Aql ql.length ql ∧ Kd.C (Kd.int .i64) W Anm nm.length nm ∧ Kd.C (Kd.int .i64) W Apn pn.length pn ∧ Kd.C (Kd.int .i64) W Ahs hs.length hs ∧ Kd.C (Kd.int .i64) W Als ls.length ls ∧ Tb W ∧ Below w.heap.size w W) wr))
   case atStart => exact ⟨0, rfl, by omega, ⟨⟨HL.out.out.1, HL.out.out.2.1, HL.out.out.2.2.1, HL.out.out.2.2.2.1, HL.out.out.2.2.2.2.1, HL.out.out.2.2.2.2.2.1, HL.out.out.2.2.2.2.2.2⟩⟩⟩
   case round =>
    obtain ⟨i, rfl, hg, HL2⟩ := hrel
    clear HL
    have HL := HL2
    clear HL2
    by_cases hlt : i < hs.length
    ·
     obtain ⟨b, x, h, hh⟩ := HE.out.each i hlt
     have HX := Aside0.mk hh
     clear hh
     have hlo := HX.out.lo
     have hhi := HX.out.hi
     have hsi := HX.out.si
     have hsl := HX.out.sl
     obtain ⟨ad1, e1, hx1⟩ := Kd.at_int HL.out.out.2.2.2.1 (i : Int) (by omega) (by omega)
     cases e1
     rw [HX.out.hh] at hx1
     simp only [Int.toNat_natCast] at hx1
     obtain ⟨ad2, e2, hx2⟩ := Kd.at_int HL.out.out.2.2.2.2.1 (h - 1) (by omega) (by omega)
     cases e2
     rw [HX.out.hx] at hx2
     rw [Int.pred_toNat] at hx2
     have a0 : (0 ≤ (i : Int)) = True := eq_true (by omega)
     have a1 : ((i : Int) < (hs.length : Int)) = True := eq_true (by omega)
     have a2 : decide ((i : Int) < (hs.length : Int)) = true := decide_eq_true (by omega)
     have a3 : decide (h < 1) = false := decide_eq_false (by omega)
     have a4 : decide (h > (ls.length : Int)) = false := decide_eq_false (by omega)
     have a5 : wrap64 (h - 1) = h - 1 := wr64 (by omega) (by omega)
     have a6 : (0 ≤ h - 1) = True := eq_true (by omega)
     have a7 : (h - 1 < (ls.length : Int)) = True := eq_true (by omega)
     have c0 : (1 ≤ h) = True := eq_true (by omega)
     have c1 : (h ≤ (ls.length : Int)) = True := eq_true (by omega)
     have a8 : (x == 0) = false := beq_eq_false_iff_ne.mpr HX.out.ne
     have a9 : (x = 0) = False := eq_false HX.out.ne
     have b0 : decide (b > wrap64 ((i : Int) * wt)) = false := decide_eq_false (by have := HX.out.le; omega)
     have b1 : decide (wrap64 (b + x) ≤ wrap64 ((i : Int) * wt)) = false := decide_eq_false (by have := HX.out.gt; omega)
     obtain ⟨i0, hi0, _, hsz, _⟩ := info_parts info3
     have hcut := cut_from (P := Tryz.prog) 35 3 .i64 Tryz.underlying35 hi0 1 hsz (some ad2) ls.length cls h (by omega) (by omega)
     clear hi0 hsz
     obtain ⟨A2, hA2⟩ : ∃ A2 : Option Addr, (if cls = h.toNat then (some ad2 : Option Addr) else (some ad2).map (·.add (h.toNat * 1))) = A2 := ⟨_, rfl⟩
     rw [hA2] at hcut
     have hcall : ∀ W, Kd.C (Kd.int .i64) W (some ad2) ls.length ls → Calls Tryz.prog 25 #[.slice A2 (ls.length - h.toNat) (cls - h.toNat)] W fun e w' => e = .returned (.int .i64 b) ∧ Drawn0 W w' := fun W hW => by rw [← hA2, ← List.length_drop]; exact laws_aSum.calls k _ (cls - h.toNat) (ls.drop h.toNat) b W (Kd.C_drop (k := Kd.int .i64) (A := some ad2) (c := cls) (m := h.toNat) hW (by omega) LEls.out) (by rw [List.length_drop]; have := LEls.out; omega) HX.out.sum
     have HCALL := Aside0.mk hcall
     clear hcall hlo hhi hsl hA2
     by_cases hz : 0 < i
     ·
      have hpr := HX.out.prev hz
      obtain ⟨ad3, e3, hx3⟩ := Kd.at_int HL.out.out.2.2.2.1 ((i : Int) - 1) (by omega) (by omega)
      cases e3
      rw [Int.pred_toNat, Int.toNat_natCast] at hx3
      have d6 : (1 ≤ (i : Int)) = True := eq_true (by omega)
      have d7 : ((i : Int) ≤ (hs.length : Int)) = True := eq_true (by omega)
      have d8 : (1 ≤ i) = True := eq_true (by omega)
      have d9 : (i ≤ hs.length) = True := eq_true (by omega)
      have d0 : decide ((i : Int) > 0) = true := decide_eq_true (by omega)
      have d5 : (0 < i) = True := eq_true hz
      have d1 : wrap64 ((i : Int) - 1) = (i : Int) - 1 := wr64 (by omega) (by omega)
      have d2 : (0 ≤ (i : Int) - 1) = True := eq_true (by omega)
      have d3 : ((i : Int) - 1 < (hs.length : Int)) = True := eq_true (by omega)
      have d4 : decide (rd hs ((i : Int) - 1) < h) = false := decide_eq_false (by omega)
      clear hpr hz hsi
      go_wp2_with fail
      refine (HCALL.out _ HL.out.out.2.2.2.2.1).mono ?_
      rintro e w28 ⟨rfl, hd⟩
      have HL_ := Aside0.mk (HL.out.below hd.below)
      clear HL
      have HL := HL_
      clear HL_
      clear hd
      clear hx1 hx2 hx3
      obtain ⟨ad5, e5, hx5⟩ := Kd.at_int HL.out.out.2.2.2.2.1 (h - 1) (by have := HX.out.lo; omega) (by have := HX.out.hi; omega)
      cases e5
      rw [HX.out.hx, Int.pred_toNat] at hx5
      go_wp2_with fail
      go_roundg (hs.length - (i + 1))
      case measure => omega
      case rel => exact ⟨i + 1, by have hsi := HX.out.si; first | rfl | (rw [wr64 (by omega) (by omega)]; rfl), by omega, ⟨⟨HL.out.out.1, HL.out.out.2.1, HL.out.out.2.2.1, HL.out.out.2.2.2.1, HL.out.out.2.2.2.2.1, HL.out.out.2.2.2.2.2.1, HL.out.out.2.2.2.2.2.2⟩⟩⟩
     ·
      have d0 : decide ((i : Int) > 0) = false := decide_eq_false (by omega)
      have d5 : (0 < i) = False := eq_false hz
      clear hz hsi
      go_wp2_with fail
      refine (HCALL.out _ HL.out.out.2.2.2.2.1).mono ?_
      rintro e w29 ⟨rfl, hd⟩
      have HL_ := Aside0.mk (HL.out.below hd.below)
      clear HL
      have HL := HL_
      clear HL_
      clear hd
      clear hx1 hx2
      obtain ⟨ad5, e5, hx5⟩ := Kd.at_int HL.out.out.2.2.2.2.1 (h - 1) (by have := HX.out.lo; omega) (by have := HX.out.hi; omega)
      cases e5
      rw [HX.out.hx, Int.pred_toNat] at hx5
      go_wp2_with fail
      go_roundg (hs.length - (i + 1))
      case measure => omega
      case rel => exact ⟨i + 1, by have hsi := HX.out.si; first | rfl | (rw [wr64 (by omega) (by omega)]; rfl), by omega, ⟨⟨HL.out.out.1, HL.out.out.2.1, HL.out.out.2.2.1, HL.out.out.2.2.2.1, HL.out.out.2.2.2.2.1, HL.out.out.2.2.2.2.2.1, HL.out.out.2.2.2.2.2.2⟩⟩⟩
    ·have q2 : decide ((i : Int) < (hs.length : Int)) = false := decide_eq_false (by omega)
     have q1 : ((i : Int) < (hs.length : Int)) = False := eq_false (by omega)
     go_wp2_with fail
     go_meet
     exact ⟨⟨HL.out.out.1, HL.out.out.2.1, HL.out.out.2.2.1, HL.out.out.2.2.2.2.2.1, HL.out.out.2.2.2.2.2.2⟩⟩
 clear HL
 have HL := hcut
 clear hcut
 rename_i u0_p4 u1_p4 u2_p4 u3_p4 u4_p4 u5_p4 u6_p4 u7_p4 u8_p4 u9_p4 u10_p4 u11_p4 u12_p4 u13_p4 u14_p4 u15_p4 u16_p4 u17_p4 u18_p4 u19_p4 u20_p4 u21_p4 u22_p4 u23_p4 u24_p4 u25_p4 u26_p4 u27_p4 u28_p4 u29_p4 u30_p4 u31_p4 u32_p4 u33_p4 u34_p4 u35_p4 u36_p4 u37_p4 u38_p4 u39_p4 u40_p4 u41_p4 u42_p4 u43_p4 u44_p4 u45_p4 u46_p4 u47_p4 u48_p4 u49_p4 u50_p4 u51_p4 u52_p4 u53_p4 u54_p4 u55_p4 u56_p4 u57_p4 u58_p4 u59_p4 u60_p4 u61_p4 u62_p4 u63_p4 u64_p4 u65_p4 u66_p4 u67_p4 u68_p4 u69_p4 u70_p4 u71_p4 u72_p4 u73_p4 u74_p4 u75_p4 u76_p4 u77_p4 u78_p4 u79_p4 u80_p4 u81_p4 u82_p4 u83_p4 u84_p4 u85_p4 u86_p4 u87_p4 u88_p4 u89_p4 u90_p4 u91_p4 u92_p4 u93_p4 u94_p4 u95_p4 u96_p4 u97_p4 u98_p4 u99_p4 u100_p4 u101_p4 u102_p4 u103_p4 u104_p4 u105_p4 u106_p4 u107_p4 u108_p4 u109_p4 u110_p4 u111_p4 u112_p4 u113_p4 u114_p4 u115_p4 u116_p4 u117_p4 u118_p4 u119_p4 u120_p4 u121_p4 u122_p4 u123_p4 u124_p4 u125_p4 u126_p4 u127_p4 u128_p4 u129_p4 u130_p4 u131_p4 u132_p4 u133_p4 u134_p4 u135_p4 u136_p4 u137_p4 u138_p4 u139_p4 u140_p4 u141_p4 u142_p4 u143_p4 u144_p4 u145_p4 u146_p4 u147_p4 u148_p4 u149_p4 u150_p4 u151_p4 u152_p4 u153_p4 u154_p4 u155_p4 u156_p4 u157_p4 u158_p4 u159_p4 u160_p4 u161_p4 u162_p4 u163_p4 u164_p4 u165_p4 u166_p4 u167_p4 u168_p4 u169_p4 u170_p4 u171_p4 u172_p4 u173_p4 u174_p4 u175_p4 u176_p4 u177_p4 u178_p4 u179_p4 u180_p4 u181_p4 u182_p4 u183_p4 u184_p4 u185_p4 u186_p4 u187_p4 u188_p4 u189_p4 u190_p4 u191_p4 u192_p4 u193_p4 u194_p4 u195_p4 u196_p4 u197_p4 u198_p4 u199_p4 u200_p4 u201_p4 u202_p4 u203_p4 u204_p4 u205_p4 u206_p4 u207_p4 u208_p4 u209_p4 u210_p4 u211_p4 u212_p4 u213_p4 u214_p4 u215_p4 u216_p4 u217_p4 u218_p4 u219_p4 u220_p4 u221_p4 u222_p4 u223_p4 u224_p4 u225_p4 u226_p4 u227_p4 u228_p4 u229_p4 u230_p4 u231_p4 u232_p4 u233_p4 u234_p4 u235_p4 u236_p4 u237_p4 u238_p4 u239_p4 u240_p4 u241_p4 u242_p4 u243_p4 u244_p4 u245_p4 u246_p4 u247_p4 u248_p4 u249_p4 u250_p4 u251_p4 u252_p4 u253_p4 u254_p4 u255_p4 u256_p4 u257_p4 u258_p4 u259_p4 u260_p4 u261_p4 u262_p4 u263_p4 u264_p4 u265_p4 u266_p4 u267_p4 u268_p4 u269_p4 u270_p4 u271_p4 u272_p4 u273_p4 u274_p4 u275_p4 u276_p4 u277_p4 u278_p4 u279_p4 u280_p4 u281_p4 u282_p4 u283_p4 u284_p4 u285_p4 u286_p4 u287_p4 u288_p4 u289_p4 u290_p4 u291_p4 u292_p4 u293_p4 u294_p4 u295_p4 u296_p4 u297_p4 u298_p4 u299_p4 u300_p4 u301_p4 u302_p4 u303_p4 u304_p4 u305_p4 u306_p4 u307_p4 u308_p4 u309_p4 u310_p4 u311_p4 u312_p4 u313_p4 u314_p4 u315_p4 u316_p4 u317_p4 u318_p4 u319_p4 u320_p4 u321_p4 u322_p4 u323_p4 u324_p4 u325_p4 u326_p4 u327_p4 u328_p4 u329_p4 u330_p4 u331_p4 u332_p4 u333_p4 u334_p4 u335_p4 u336_p4 u337_p4 u338_p4 u339_p4 u340_p4 u341_p4 u342_p4 u343_p4 u344_p4 u345_p4 u346_p4 u347_p4 u348_p4 u349_p4 u350_p4
 revert A0 c0 l0 A1 c1 l1 w k pl tr bag ok text one ls wt hs three len pn nm seven s ql nine hu35 hu24 HC0 HC1 HBIG HD HRE HRF HRG u0_ w1 w2 Apl cpl LEpl w3 w4 w5 w6 u0_p1 u1_p1 u2_p1 u3_p1 u4_p1 u5_p1 u6_p1 u7_p1 u8_p1 u9_p1 u10_p1 u11_p1 u12_p1 u13_p1 u14_p1 u15_p1 u16_p1 u17_p1 u18_p1 u19_p1 u20_p1 u21_p1 u22_p1 u23_p1 u24_p1 u25_p1 u26_p1 u27_p1 u28_p1 u29_p1 u30_p1 u0_p2 u1_p2 u15 u16 u17 u18 u2_p2 u3_p2 u4_p2 u5_p2 u6_p2 u7_p2 u8_p2 u9_p2 u10_p2 u11_p2 u12_p2 u13_p2 u14_p2 u15_p2 u16_p2 u17_p2 u18_p2 u19_p2 u20_p2 u21_p2 u22_p2 u23_p2 u24_p2 u25_p2 u26_p2 u27_p2 u28_p2 u29_p2 u30_p2 u31_p2 u32_p2 u33_p2 u34_p2 u35_p2 u36_p2 u37_p2 u38_p2 u39_p2 u40_p2 u41_p2 u42_p2 u43_p2 u44_p2 u45_p2 u46_p2 u47_p2 u48_p2 u49_p2 u50_p2 u51_p2 u52_p2 u53_p2 u54_p2 u55_p2 u56_p2 u57_p2 u58_p2 u59_p2 u60_p2 u61_p2 u62_p2 u63_p2 u64_p2 u65_p2 u66_p2 u67_p2 u68_p2 u69_p2 u70_p2 u71_p2 u72_p2 u73_p2 u74_p2 u75_p2 u76_p2 u77_p2 u78_p2 u79_p2 u80_p2 u81_p2 u82_p2 u83_p2 u84_p2 u85_p2 u86_p2 u87_p2 u88_p2 u89_p2 u90_p2 u91_p2 u92_p2 u93_p2 u94_p2 u95_p2 u96_p2 u97_p2 u98_p2 u99_p2 u100_p2 u101_p2 u102_p2 u103_p2 u104_p2 u105_p2 u106_p2 u107_p2 u108_p2 u109_p2 u110_p2 u111_p2 u112_p2 u113_p2 u114_p2 u115_p2 u116_p2 u117_p2 u118_p2 u119_p2 u120_p2 u121_p2 u122_p2 u123_p2 u124_p2 u125_p2 u126_p2 u127_p2 u128_p2 u129_p2 u130_p2 u131_p2 u132_p2 u133_p2 u134_p2 u135_p2 u136_p2 u137_p2 u138_p2 u139_p2 u140_p2 u141_p2 u142_p2 u143_p2 u144_p2 u145_p2 u146_p2 u147_p2 u148_p2 u149_p2 u150_p2 u151_p2 u152_p2 u153_p2 u154_p2 u155_p2 u156_p2 u157_p2 u158_p2 u159_p2 u160_p2 u161_p2 u162_p2 u163_p2 u164_p2 u165_p2 u166_p2 u167_p2 u168_p2 u169_p2 u170_p2 u171_p2 u172_p2 u173_p2 u174_p2 u175_p2 u176_p2 u177_p2 u178_p2 u179_p2 u180_p2 u181_p2 u182_p2 u183_p2 u184_p2 u185_p2 u186_p2 u187_p2 u188_p2 u189_p2 u190_p2 u191_p2 u192_p2 u193_p2 u194_p2 u195_p2 u196_p2 u197_p2 u198_p2 u199_p2 u200_p2 u201_p2 u202_p2 u203_p2 u204_p2 u205_p2 u206_p2 u207_p2 u208_p2 u209_p2 u210_p2 u211_p2 u212_p2 u213_p2 u214_p2 u215_p2 u216_p2 u217_p2 u218_p2 u219_p2 u220_p2 u221_p2 u222_p2 u223_p2 u224_p2 u225_p2 u226_p2 u227_p2 u228_p2 u229_p2 u230_p2 u231_p2 u232_p2 u233_p2 u234_p2 u235_p2 u236_p2 u237_p2 u238_p2 u239_p2 u240_p2 u241_p2 u242_p2 u243_p2 u244_p2 u245_p2 u246_p2 u247_p2 u248_p2 u249_p2 u250_p2 u251_p2 u252_p2 u253_p2 u254_p2 u255_p2 u256_p2 u257_p2 u258_p2 u259_p2 u260_p2 u261_p2 u262_p2 u263_p2 u264_p2 u265_p2 u266_p2 u267_p2 u268_p2 u269_p2 u270_p2 u271_p2 u272_p2 u273_p2 u274_p2 u275_p2 u276_p2 u277_p2 u278_p2 u279_p2 u280_p2 u281_p2 u282_p2 u283_p2 u284_p2 u285_p2 u286_p2 u287_p2 u288_p2 u289_p2 u290_p2 u291_p2 u292_p2 u293_p2 u294_p2 u295_p2 u296_p2 u297_p2 u298_p2 u299_p2 u300_p2 u301_p2 u302_p2 u303_p2 u304_p2 u305_p2 u306_p2 u307_p2 u308_p2 u309_p2 u310_p2 u311_p2 u312_p2 u313_p2 u314_p2 u315_p2 u316_p2 u317_p2 u318_p2 u319_p2 u320_p2 u321_p2 u322_p2 u323_p2 u324_p2 u325_p2 u326_p2 u327_p2 u328_p2 u329_p2 u330_p2 u331_p2 u332_p2 u333_p2 u334_p2 u335_p2 u336_p2 u337_p2 u338_p2 u339_p2 u340_p2 u341_p2 u342_p2 u343_p2 u344_p2 u345_p2 u346_p2 u347_p2 u348_p2 u0_p3 u0_p4 u19 u20 u1_p4 u2_p4 u3_p4 u4_p4 u5_p4 u6_p4 u7_p4 u8_p4 u9_p4 u10_p4 u11_p4 u12_p4 u13_p4 u14_p4 u15_p4 u16_p4 u17_p4 u18_p4 u19_p4 u20_p4 u21_p4 u22_p4 u23_p4 u24_p4 u25_p4 u26_p4 u27_p4 u28_p4 u29_p4 u30_p4 u31_p4 u32_p4 u33_p4 u34_p4 u35_p4 u36_p4 u37_p4 u38_p4 u39_p4 u40_p4 u41_p4 u42_p4 u43_p4 u44_p4 u45_p4 u46_p4 u47_p4 u48_p4 u49_p4 u50_p4 u51_p4 u52_p4 u53_p4 u54_p4 u55_p4 u56_p4 u57_p4 u58_p4 u59_p4 u60_p4 u61_p4 u62_p4 u63_p4 u64_p4 u65_p4 u66_p4 u67_p4 u68_p4 u69_p4 u70_p4 u71_p4 u72_p4 u73_p4 u74_p4 u75_p4 u76_p4 u77_p4 u78_p4 u79_p4 u80_p4 u81_p4 u82_p4 u83_p4 u84_p4 u85_p4 u86_p4 u87_p4 u88_p4 u89_p4 u90_p4 u91_p4 u92_p4 u93_p4 u94_p4 u95_p4 u96_p4 u97_p4 u98_p4 u99_p4 u100_p4 u101_p4 u102_p4 u103_p4 u104_p4 u105_p4 u106_p4 u107_p4 u108_p4 u109_p4 u110_p4 u111_p4 u112_p4 u113_p4 u114_p4 u115_p4 u116_p4 u117_p4 u118_p4 u119_p4 u120_p4 u121_p4 u122_p4 u123_p4 u124_p4 u125_p4 u126_p4 u127_p4 u128_p4 u129_p4 u130_p4 u131_p4 u132_p4 u133_p4 u134_p4 u135_p4 u136_p4 u137_p4 u138_p4 u139_p4 u140_p4 u141_p4 u142_p4 u143_p4 u144_p4 u145_p4 u146_p4 u147_p4 u148_p4 u149_p4 u150_p4 u151_p4 u152_p4 u153_p4 u154_p4 u155_p4 u156_p4 u157_p4 u158_p4 u159_p4 u160_p4 u161_p4 u162_p4 u163_p4 u164_p4 u165_p4 u166_p4 u1_p3 u2_p3 u3_p3 u4_p3 u5_p3 u6_p3 u7_p3 u8_p3 u9_p3 u10_p3 u11_p3 u12_p3 u13_p3 u14_p3 u15_p3 u16_p3 u17_p3 u18_p3 u19_p3 u20_p3 u21_p3 u22_p3 u23_p3 u24_p3 u25_p3 u26_p3 u27_p3 u28_p3 u29_p3 u30_p3 u31_p3 u32_p3 u33_p3 u34_p3 u35_p3 u36_p3 u37_p3 u38_p3 u39_p3 u40_p3 u41_p3 u42_p3 u43_p3 u44_p3 u45_p3 u46_p3 u47_p3 u48_p3 u49_p3 u50_p3 u51_p3 u52_p3 u53_p3 u54_p3 u55_p3 u56_p3 u57_p3 u167_p4 u168_p4 u169_p4 u170_p4 u171_p4 u172_p4 u173_p4 u174_p4 u175_p4 u176_p4 u177_p4 u178_p4 u179_p4 u180_p4 u181_p4 u182_p4 u183_p4 u184_p4 u185_p4 u186_p4 u187_p4 u188_p4 u189_p4 u190_p4 u191_p4 u192_p4 u193_p4 u194_p4 u195_p4 u196_p4 u197_p4 u198_p4 u199_p4 u200_p4 u201_p4 u202_p4 u203_p4 u204_p4 u205_p4 u206_p4 u207_p4 u208_p4 u209_p4 u210_p4 u211_p4 u212_p4 u213_p4 u214_p4 u215_p4 u216_p4 u217_p4 u218_p4 u219_p4 u220_p4 u221_p4 u222_p4 u223_p4 u224_p4 u225_p4 u226_p4 u227_p4 u228_p4 u229_p4 u230_p4 u231_p4 u232_p4 u233_p4 u234_p4 u235_p4 u236_p4 u237_p4 u238_p4 u239_p4 u240_p4 u241_p4 u242_p4 u243_p4 u244_p4 u245_p4 u246_p4 u247_p4 u248_p4 u249_p4 u250_p4 u251_p4 u252_p4 u253_p4 u254_p4 u255_p4 u256_p4 u257_p4 u258_p4 u259_p4 u260_p4 u261_p4 u262_p4 u263_p4 u264_p4 u265_p4 u266_p4 u267_p4 u268_p4 u269_p4 u270_p4 u271_p4 u272_p4 u273_p4 u274_p4 u275_p4 u276_p4 u277_p4 u278_p4 u279_p4 u280_p4 u281_p4 u282_p4 u283_p4 u284_p4 u285_p4 u286_p4 u287_p4 u288_p4 u289_p4 u290_p4 w12 Als cls LEls w13 Ahs chs LEhs w14 Ahx chx LEhx w15 w16 w17 Apn cpn LEpn w18 Anm cnm LEnm w19 Anx cnx LEnx w20 w21 Aql cql LEql w22 Ars crs LErs u291_p4 u292_p4 u293_p4 u294_p4 u295_p4 u296_p4 u297_p4 u298_p4 u299_p4 u300_p4 u301_p4 u302_p4 u303_p4 u304_p4 u305_p4 u306_p4 u307_p4 u308_p4 u309_p4 u310_p4 u311_p4 u312_p4 u313_p4 u314_p4 u315_p4 u316_p4 u317_p4 u318_p4 u319_p4 u320_p4 u321_p4 u322_p4 u323_p4 u324_p4 u325_p4 u326_p4 u327_p4 u328_p4 u329_p4 u330_p4 u331_p4 u332_p4 u333_p4 u334_p4 u335_p4 u336_p4 u337_p4 u338_p4 u339_p4 u340_p4 u341_p4 u342_p4 u343_p4 u344_p4 u345_p4 u346_p4 u347_p4 u348_p4 u349_p4 u350_p4 wc u4 u41 u42 u43 u44 u52 u53 u54 u55 u56 u57 u58 u59 u60 u61 u62 u63 u64 u65 u66 u67 u68 u69 u70 u71 u72 u73 u74 u75 u76 u77 u78 u79 u80 u81 u82 u83 u84 u85 u86 u87 u88 u89 u90 u91 u92 u93 u94 u95 u96 u97 u98 u99 u100 u101 u102 u103 u104 u105 u106 u107 u108 u109 u110 u111 u112 u113 u114 u115 u116 u117 u118 u119 u120 u121 u122 u123 u124 u125 u126 u127 u128 u129 u130 u131 u132 u133 u134 u135 u136 u137 u138 u139 u140 u141 u142 u143 u144 u145 u146 u147 u148 u149 u150 u151 u152 u153 u154 u155 u156 u157 u158 u159 u160 u161 u162 u163 u164 u165 u166 u167 u168 u169 u170 u171 u172 u173 u174 u175 u176 u177 u178 u179 u180 u181 u182 u183 u184 u185 u186 u187 u188 u189 u190 u191 u192 u193 u194 u195 u196 u197 u198 u199 u200 u201 u202 u203 u204 u205 u206 u207 u208 u209 u210 u211 u212 u213 u214 u215 u216 u217 u218 u219 u220 u221 u222 u223 u224 u225 u226 u227 u228 u229 u230 u231 u232 u233 u234 u235 u236 u237 u238 u239 u240 u241 u242 u243 u244 u245 u246 u247 u248 u249 u250 u251 u252 u253 u254 u255 u256 u257 u258 u259 u260 u261 u262 u263 u264 u265 u266 u267 u268 u269 u270 u271 u272 u273 u274 u275 u276 u277 u278 u279 u280 u281 u282 u283 u284 u285 u286 u287 u288 u289 u290 u291 u292 u293 u294 u295 u296 u297 u298 u299 u300 u301 u302 u303 u304 u305 u306 u307 u308 u309 u310 u311 u312 u313 u314 u315 u316 u317 u318 u319 u320 u321 u322 u323 u324 u325 u326 u327 u328 u329 u330 u331 u332 u333 u334 u335 u336 u337 u338 u339 u340 u341 u342 u343 u344 u345 u346 u347 u348 u349 u350 u351 u352 u353 u354 u358 u359 u360 u361 u362 u363 u364 u365 u366 u367 u368 u369 u370 u371 u372 u373 u377 u378 u379 u380 u381 u382 u383 u384 u385 u386 u387 u388 u389 u390 u391 u392 u393 u394 u395 u396 u397 u398 u399 u400 u401 u402 u403 u404 u405 u406 u407 HL
 exact q_.out⟩
def letters_6 : {Q : Prop // Aside0 Q → letters_5.1} := ⟨_, fun q_ => by
 intro A0 c0 l0 A1 c1 l1 w k pl tr bag ok text one ls wt hs three len pn nm seven s ql nine hu35 hu24 HC0 HC1 HBIG HD HRE HRF HRG u0_ w1 w2 Apl cpl LEpl w3 w4 w5 w6 u0_p1 u1_p1 u2_p1 u3_p1 u4_p1 u5_p1 u6_p1 u7_p1 u8_p1 u9_p1 u10_p1 u11_p1 u12_p1 u13_p1 u14_p1 u15_p1 u16_p1 u17_p1 u18_p1 u19_p1 u20_p1 u21_p1 u22_p1 u23_p1 u24_p1 u25_p1 u26_p1 u27_p1 u28_p1 u29_p1 u30_p1 u0_p2 u1_p2 u15 u16 u17 u18 u2_p2 u3_p2 u4_p2 u5_p2 u6_p2 u7_p2 u8_p2 u9_p2 u10_p2 u11_p2 u12_p2 u13_p2 u14_p2 u15_p2 u16_p2 u17_p2 u18_p2 u19_p2 u20_p2 u21_p2 u22_p2 u23_p2 u24_p2 u25_p2 u26_p2 u27_p2 u28_p2 u29_p2 u30_p2 u31_p2 u32_p2 u33_p2 u34_p2 u35_p2 u36_p2 u37_p2 u38_p2 u39_p2 u40_p2 u41_p2 u42_p2 u43_p2 u44_p2 u45_p2 u46_p2 u47_p2 u48_p2 u49_p2 u50_p2 u51_p2 u52_p2 u53_p2 u54_p2 u55_p2 u56_p2 u57_p2 u58_p2 u59_p2 u60_p2 u61_p2 u62_p2 u63_p2 u64_p2 u65_p2 u66_p2 u67_p2 u68_p2 u69_p2 u70_p2 u71_p2 u72_p2 u73_p2 u74_p2 u75_p2 u76_p2 u77_p2 u78_p2 u79_p2 u80_p2 u81_p2 u82_p2 u83_p2 u84_p2 u85_p2 u86_p2 u87_p2 u88_p2 u89_p2 u90_p2 u91_p2 u92_p2 u93_p2 u94_p2 u95_p2 u96_p2 u97_p2 u98_p2 u99_p2 u100_p2 u101_p2 u102_p2 u103_p2 u104_p2 u105_p2 u106_p2 u107_p2 u108_p2 u109_p2 u110_p2 u111_p2 u112_p2 u113_p2 u114_p2 u115_p2 u116_p2 u117_p2 u118_p2 u119_p2 u120_p2 u121_p2 u122_p2 u123_p2 u124_p2 u125_p2 u126_p2 u127_p2 u128_p2 u129_p2 u130_p2 u131_p2 u132_p2 u133_p2 u134_p2 u135_p2 u136_p2 u137_p2 u138_p2 u139_p2 u140_p2 u141_p2 u142_p2 u143_p2 u144_p2 u145_p2 u146_p2 u147_p2 u148_p2 u149_p2 u150_p2 u151_p2 u152_p2 u153_p2 u154_p2 u155_p2 u156_p2 u157_p2 u158_p2 u159_p2 u160_p2 u161_p2 u162_p2 u163_p2 u164_p2 u165_p2 u166_p2 u167_p2 u168_p2 u169_p2 u170_p2 u171_p2 u172_p2 u173_p2 u174_p2 u175_p2 u176_p2 u177_p2 u178_p2 u179_p2 u180_p2 u181_p2 u182_p2 u183_p2 u184_p2 u185_p2 u186_p2 u187_p2 u188_p2 u189_p2 u190_p2 u191_p2 u192_p2 u193_p2 u194_p2 u195_p2 u196_p2 u197_p2 u198_p2 u199_p2 u200_p2 u201_p2 u202_p2 u203_p2 u204_p2 u205_p2 u206_p2 u207_p2 u208_p2 u209_p2 u210_p2 u211_p2 u212_p2 u213_p2 u214_p2 u215_p2 u216_p2 u217_p2 u218_p2 u219_p2 u220_p2 u221_p2 u222_p2 u223_p2 u224_p2 u225_p2 u226_p2 u227_p2 u228_p2 u229_p2 u230_p2 u231_p2 u232_p2 u233_p2 u234_p2 u235_p2 u236_p2 u237_p2 u238_p2 u239_p2 u240_p2 u241_p2 u242_p2 u243_p2 u244_p2 u245_p2 u246_p2 u247_p2 u248_p2 u249_p2 u250_p2 u251_p2 u252_p2 u253_p2 u254_p2 u255_p2 u256_p2 u257_p2 u258_p2 u259_p2 u260_p2 u261_p2 u262_p2 u263_p2 u264_p2 u265_p2 u266_p2 u267_p2 u268_p2 u269_p2 u270_p2 u271_p2 u272_p2 u273_p2 u274_p2 u275_p2 u276_p2 u277_p2 u278_p2 u279_p2 u280_p2 u281_p2 u282_p2 u283_p2 u284_p2 u285_p2 u286_p2 u287_p2 u288_p2 u289_p2 u290_p2 u291_p2 u292_p2 u293_p2 u294_p2 u295_p2 u296_p2 u297_p2 u298_p2 u299_p2 u300_p2 u301_p2 u302_p2 u303_p2 u304_p2 u305_p2 u306_p2 u307_p2 u308_p2 u309_p2 u310_p2 u311_p2 u312_p2 u313_p2 u314_p2 u315_p2 u316_p2 u317_p2 u318_p2 u319_p2 u320_p2 u321_p2 u322_p2 u323_p2 u324_p2 u325_p2 u326_p2 u327_p2 u328_p2 u329_p2 u330_p2 u331_p2 u332_p2 u333_p2 u334_p2 u335_p2 u336_p2 u337_p2 u338_p2 u339_p2 u340_p2 u341_p2 u342_p2 u343_p2 u344_p2 u345_p2 u346_p2 u347_p2 u348_p2 u0_p3 u0_p4 u19 u20 u1_p4 u2_p4 u3_p4 u4_p4 u5_p4 u6_p4 u7_p4 u8_p4 u9_p4 u10_p4 u11_p4 u12_p4 u13_p4 u14_p4 u15_p4 u16_p4 u17_p4 u18_p4 u19_p4 u20_p4 u21_p4 u22_p4 u23_p4 u24_p4 u25_p4 u26_p4 u27_p4 u28_p4 u29_p4 u30_p4 u31_p4 u32_p4 u33_p4 u34_p4 u35_p4 u36_p4 u37_p4 u38_p4 u39_p4 u40_p4 u41_p4 u42_p4 u43_p4 u44_p4 u45_p4 u46_p4 u47_p4 u48_p4 u49_p4 u50_p4 u51_p4 u52_p4 u53_p4 u54_p4 u55_p4 u56_p4 u57_p4 u58_p4 u59_p4 u60_p4 u61_p4 u62_p4 u63_p4 u64_p4 u65_p4 u66_p4 u67_p4 u68_p4 u69_p4 u70_p4 u71_p4 u72_p4 u73_p4 u74_p4 u75_p4 u76_p4 u77_p4 u78_p4 u79_p4 u80_p4 u81_p4 u82_p4 u83_p4 u84_p4 u85_p4 u86_p4 u87_p4 u88_p4 u89_p4 u90_p4 u91_p4 u92_p4 u93_p4 u94_p4 u95_p4 u96_p4 u97_p4 u98_p4 u99_p4 u100_p4 u101_p4 u102_p4 u103_p4 u104_p4 u105_p4 u106_p4 u107_p4 u108_p4 u109_p4 u110_p4 u111_p4 u112_p4 u113_p4 u114_p4 u115_p4 u116_p4 u117_p4 u118_p4 u119_p4 u120_p4 u121_p4 u122_p4 u123_p4 u124_p4 u125_p4 u126_p4 u127_p4 u128_p4 u129_p4 u130_p4 u131_p4 u132_p4 u133_p4 u134_p4 u135_p4 u136_p4 u137_p4 u138_p4 u139_p4 u140_p4 u141_p4 u142_p4 u143_p4 u144_p4 u145_p4 u146_p4 u147_p4 u148_p4 u149_p4 u150_p4 u151_p4 u152_p4 u153_p4 u154_p4 u155_p4 u156_p4 u157_p4 u158_p4 u159_p4 u160_p4 u161_p4 u162_p4 u163_p4 u164_p4 u165_p4 u166_p4 u1_p3 u2_p3 u3_p3 u4_p3 u5_p3 u6_p3 u7_p3 u8_p3 u9_p3 u10_p3 u11_p3 u12_p3 u13_p3 u14_p3 u15_p3 u16_p3 u17_p3 u18_p3 u19_p3 u20_p3 u21_p3 u22_p3 u23_p3 u24_p3 u25_p3 u26_p3 u27_p3 u28_p3 u29_p3 u30_p3 u31_p3 u32_p3 u33_p3 u34_p3 u35_p3 u36_p3 u37_p3 u38_p3 u39_p3 u40_p3 u41_p3 u42_p3 u43_p3 u44_p3 u45_p3 u46_p3 u47_p3 u48_p3 u49_p3 u50_p3 u51_p3 u52_p3 u53_p3 u54_p3 u55_p3 u56_p3 u57_p3 u167_p4 u168_p4 u169_p4 u170_p4 u171_p4 u172_p4 u173_p4 u174_p4 u175_p4 u176_p4 u177_p4 u178_p4 u179_p4 u180_p4 u181_p4 u182_p4 u183_p4 u184_p4 u185_p4 u186_p4 u187_p4 u188_p4 u189_p4 u190_p4 u191_p4 u192_p4 u193_p4 u194_p4 u195_p4 u196_p4 u197_p4 u198_p4 u199_p4 u200_p4 u201_p4 u202_p4 u203_p4 u204_p4 u205_p4 u206_p4 u207_p4 u208_p4 u209_p4 u210_p4 u211_p4 u212_p4 u213_p4 u214_p4 u215_p4 u216_p4 u217_p4 u218_p4 u219_p4 u220_p4 u221_p4 u222_p4 u223_p4 u224_p4 u225_p4 u226_p4 u227_p4 u228_p4 u229_p4 u230_p4 u231_p4 u232_p4 u233_p4 u234_p4 u235_p4 u236_p4 u237_p4 u238_p4 u239_p4 u240_p4 u241_p4 u242_p4 u243_p4 u244_p4 u245_p4 u246_p4 u247_p4 u248_p4 u249_p4 u250_p4 u251_p4 u252_p4 u253_p4 u254_p4 u255_p4 u256_p4 u257_p4 u258_p4 u259_p4 u260_p4 u261_p4 u262_p4 u263_p4 u264_p4 u265_p4 u266_p4 u267_p4 u268_p4 u269_p4 u270_p4 u271_p4 u272_p4 u273_p4 u274_p4 u275_p4 u276_p4 u277_p4 u278_p4 u279_p4 u280_p4 u281_p4 u282_p4 u283_p4 u284_p4 u285_p4 u286_p4 u287_p4 u288_p4 u289_p4 u290_p4 w12 Als cls LEls w13 Ahs chs LEhs w14 Ahx chx LEhx w15 w16 w17 Apn cpn LEpn w18 Anm cnm LEnm w19 Anx cnx LEnx w20 w21 Aql cql LEql w22 Ars crs LErs u291_p4 u292_p4 u293_p4 u294_p4 u295_p4 u296_p4 u297_p4 u298_p4 u299_p4 u300_p4 u301_p4 u302_p4 u303_p4 u304_p4 u305_p4 u306_p4 u307_p4 u308_p4 u309_p4 u310_p4 u311_p4 u312_p4 u313_p4 u314_p4 u315_p4 u316_p4 u317_p4 u318_p4 u319_p4 u320_p4 u321_p4 u322_p4 u323_p4 u324_p4 u325_p4 u326_p4 u327_p4 u328_p4 u329_p4 u330_p4 u331_p4 u332_p4 u333_p4 u334_p4 u335_p4 u336_p4 u337_p4 u338_p4 u339_p4 u340_p4 u341_p4 u342_p4 u343_p4 u344_p4 u345_p4 u346_p4 u347_p4 u348_p4 u349_p4 u350_p4 wc u4 u41 u42 u43 u44 u52 u53 u54 u55 u56 u57 u58 u59 u60 u61 u62 u63 u64 u65 u66 u67 u68 u69 u70 u71 u72 u73 u74 u75 u76 u77 u78 u79 u80 u81 u82 u83 u84 u85 u86 u87 u88 u89 u90 u91 u92 u93 u94 u95 u96 u97 u98 u99 u100 u101 u102 u103 u104 u105 u106 u107 u108 u109 u110 u111 u112 u113 u114 u115 u116 u117 u118 u119 u120 u121 u122 u123 u124 u125 u126 u127 u128 u129 u130 u131 u132 u133 u134 u135 u136 u137 u138 u139 u140 u141 u142 u143 u144 u145 u146 u147 u148 u149 u150 u151 u152 u153 u154 u155 u156 u157 u158 u159 u160 u161 u162 u163 u164 u165 u166 u167 u168 u169 u170 u171 u172 u173 u174 u175 u176 u177 u178 u179 u180 u181 u182 u183 u184 u185 u186 u187 u188 u189 u190 u191 u192 u193 u194 u195 u196 u197 u198 u199 u200 u201 u202 u203 u204 u205 u206 u207 u208 u209 u210 u211 u212 u213 u214 u215 u216 u217 u218 u219 u220 u221 u222 u223 u224 u225 u226 u227 u228 u229 u230 u231 u232 u233 u234 u235 u236 u237 u238 u239 u240 u241 u242 u243 u244 u245 u246 u247 u248 u249 u250 u251 u252 u253 u254 u255 u256 u257 u258 u259 u260 u261 u262 u263 u264 u265 u266 u267 u268 u269 u270 u271 u272 u273 u274 u275 u276 u277 u278 u279 u280 u281 u282 u283 u284 u285 u286 u287 u288 u289 u290 u291 u292 u293 u294 u295 u296 u297 u298 u299 u300 u301 u302 u303 u304 u305 u306 u307 u308 u309 u310 u311 u312 u313 u314 u315 u316 u317 u318 u319 u320 u321 u322 u323 u324 u325 u326 u327 u328 u329 u330 u331 u332 u333 u334 u335 u336 u337 u338 u339 u340 u341 u342 u343 u344 u345 u346 u347 u348 u349 u350 u351 u352 u353 u354 u358 u359 u360 u361 u362 u363 u364 u365 u366 u367 u368 u369 u370 u371 u372 u373 u377 u378 u379 u380 u381 u382 u383 u384 u385 u386 u387 u388 u389 u390 u391 u392 u393 u394 u395 u396 u397 u398 u399 u400 u401 u402 u403 u404 u405 u406 u407 HL
 go_upto_if 354 with fail
 go_cut [45, 46, 47, 48, 49] (fun s45 s46 s47 s48 s49 wx => Aside0 (Held (fun W => Kd.C k62 W Aql ql.length ql ∧ Tb W ∧ Below w.heap.size w W) wx))
 case first =>
  cases seven
  ·go_wp2_with fail
   go_meet
   exact ⟨⟨HL.out.out.1, HL.out.out.2.2.2.1, HL.out.out.2.2.2.2⟩⟩
  ·
   obtain ⟨nx, rf⟩ := HRF.out rfl
   have HF := Aside0.mk rf
   clear rf
   have hst := HF.out.start
   have hsm : nm.length ≤ 8 := by have h1 := HF.out.len; have h2 := HF.out.small; omega
   go_wp2_with fail
   go_loopg [45, 46, 47, 48, 49, 357] nm.length (fun gg s45 s46 s47 s48 s49 s357 wr => ∃ i : Nat, s45 = .int .i64 (nx i) ∧ s357 = .int .i64 (i : Int) ∧ i + gg = nm.length ∧ Aside0 (Held (fun W => Kd.C k62 W Aql ql.length ql ∧ Kd.C (Kd.int .i64) W Anm nm.length nm ∧ Kd.C (Kd.int .i64) W Apn pn.length pn ∧ Tb W ∧ Below w.heap.size w W) wr))
   case atStart => exact ⟨0, by rw [hst], rfl, by omega, ⟨⟨HL.out.out.1, HL.out.out.2.1, HL.out.out.2.2.1, HL.out.out.2.2.2.1, HL.out.out.2.2.2.2⟩⟩⟩
   case round =>
    obtain ⟨i, rfl, rfl, hg, HL2⟩ := hrel
    clear HL hst
    have HL := HL2
    clear HL2
    by_cases hlt : i < nm.length
    ·
     obtain ⟨ad1, e1, hx1⟩ := Kd.at_int HL.out.out.2.1 (i : Int) (by omega) (by omega)
     cases e1
     simp only [Int.toNat_natCast] at hx1
     have heach := HF.out.each i hlt
     have hstep := HF.out.step i hlt
     have a0 : (0 ≤ (i : Int)) = True := eq_true (by omega)
     have a1 : ((i : Int) < (nm.length : Int)) = True := eq_true (by omega)
     have a2 : decide ((i : Int) < (nm.length : Int)) = true := decide_eq_true (by omega)
     have a3 : decide (rd nm (i : Int) < 0) = false := decide_eq_false (by omega)
     have a4 : decide (rd nm (i : Int) > nx i) = false := decide_eq_false (by omega)
     clear heach
     by_cases hz : rd nm (i : Int) = nx i
     ·
      rw [if_pos hz] at hstep
      have d0 : (rd nm (i : Int) == nx i) = true := beq_iff_eq.mpr hz
      have d1 : decide (rd nm (i : Int) = nx i) = true := decide_eq_true hz
      have HZ := Aside0.mk hstep
      clear hstep hz
      go_wp2_with fail
      go_loopg [48, 49, 376] nm.length (fun gg2 s48 s49 s376 wr => ∃ j : Nat, s376 = .int .i64 (j : Int) ∧ j + gg2 = nm.length ∧ Aside0 (Held (fun W => Kd.C k62 W Aql ql.length ql ∧ Kd.C (Kd.int .i64) W (some ad1) nm.length nm ∧ Kd.C (Kd.int .i64) W Apn pn.length pn ∧ Tb W ∧ Below w.heap.size w W) wr))
      case atStart => exact ⟨0, rfl, by omega, ⟨⟨HL.out.out.1, HL.out.out.2.1, HL.out.out.2.2.1, HL.out.out.2.2.2.1, HL.out.out.2.2.2.2⟩⟩⟩
      case round =>
       obtain ⟨j, rfl, hg2, HL2⟩ := hrel
       clear HL hx1
       have HL := HL2
       clear HL2
       by_cases hlt2 : j < nm.length
       ·
        obtain ⟨ad2, e2, hx2⟩ := Kd.at_int HL.out.out.2.1 (j : Int) (by omega) (by omega)
        cases e2
        obtain ⟨ad3, e3, hx3⟩ := Kd.at_int HL.out.out.2.2.1 (i : Int) (by omega) (by have := HF.out.len; omega)
        cases e3
        obtain ⟨ad4, e4, hx4⟩ := Kd.at_int HL.out.out.2.2.1 (j : Int) (by omega) (by have := HF.out.len; omega)
        cases e4
        simp only [Int.toNat_natCast] at hx2 hx3 hx4
        have hsame := HF.out.same i j hlt hlt2
        have f0 : (0 ≤ (j : Int)) = True := eq_true (by omega)
        have f1 : ((j : Int) < (nm.length : Int)) = True := eq_true (by omega)
        have f2 : decide ((j : Int) < (nm.length : Int)) = true := decide_eq_true (by omega)
        have f3 : ((i : Int) < (pn.length : Int)) = True := eq_true (by have := HF.out.len; omega)
        have f4 : ((j : Int) < (pn.length : Int)) = True := eq_true (by have := HF.out.len; omega)
        have hab : (rd nm (i : Int) == rd nm (j : Int)) = (rd pn (i : Int) == rd pn (j : Int)) := by rw [Bool.eq_iff_iff, beq_iff_eq, beq_iff_eq]; exact hsame
        have f5 : ((rd nm (i : Int) == rd nm (j : Int)) != (rd pn (i : Int) == rd pn (j : Int))) = false := by rw [hab]; exact bne_self_eq_false _
        have f6 : ((rd nm (i : Int) == rd nm (j : Int)) == (rd pn (i : Int) == rd pn (j : Int))) = true := by rw [hab]; exact beq_self_eq_true _
        clear hab hsame
        go_wp2_with fail
        go_quiet (fail)
        go_wp2_with fail
        go_roundg (nm.length - (j + 1))
        case measure => omega
        case rel => exact ⟨j + 1, by first | rfl | (rw [wr64 (by omega) (by omega)]; rfl), by omega, ⟨HL.out.below (pw_below_drewN (Below.refl _ _) _)⟩⟩
       ·have q2 : decide ((j : Int) < (nm.length : Int)) = false := decide_eq_false (by omega)
        have q1 : ((j : Int) < (nm.length : Int)) = False := eq_false (by omega)
        go_wp2_with fail
        go_roundg (nm.length - (i + 1))
        case measure => omega
        case rel => exact ⟨i + 1, by rw [HZ.out], by first | rfl | (rw [wr64 (by omega) (by omega)]; rfl), by omega, ⟨⟨HL.out.out.1, HL.out.out.2.1, HL.out.out.2.2.1, HL.out.out.2.2.2.1, HL.out.out.2.2.2.2⟩⟩⟩
     ·
      rw [if_neg hz] at hstep
      have d0 : (rd nm (i : Int) == nx i) = false := beq_eq_false_iff_ne.mpr hz
      have d1 : decide (rd nm (i : Int) = nx i) = false := decide_eq_false hz
      have HZ := Aside0.mk hstep
      clear hstep hz
      go_wp2_with fail
      go_loopg [48, 49, 376] nm.length (fun gg2 s48 s49 s376 wr => ∃ j : Nat, s376 = .int .i64 (j : Int) ∧ j + gg2 = nm.length ∧ Aside0 (Held (fun W => Kd.C k62 W Aql ql.length ql ∧ Kd.C (Kd.int .i64) W (some ad1) nm.length nm ∧ Kd.C (Kd.int .i64) W Apn pn.length pn ∧ Tb W ∧ Below w.heap.size w W) wr))
      case atStart => exact ⟨0, rfl, by omega, ⟨⟨HL.out.out.1, HL.out.out.2.1, HL.out.out.2.2.1, HL.out.out.2.2.2.1, HL.out.out.2.2.2.2⟩⟩⟩
      case round =>
       obtain ⟨j, rfl, hg2, HL2⟩ := hrel
       clear HL hx1
       have HL := HL2
       clear HL2
       by_cases hlt2 : j < nm.length
       ·
        obtain ⟨ad2, e2, hx2⟩ := Kd.at_int HL.out.out.2.1 (j : Int) (by omega) (by omega)
        cases e2
        obtain ⟨ad3, e3, hx3⟩ := Kd.at_int HL.out.out.2.2.1 (i : Int) (by omega) (by have := HF.out.len; omega)
        cases e3
        obtain ⟨ad4, e4, hx4⟩ := Kd.at_int HL.out.out.2.2.1 (j : Int) (by omega) (by have := HF.out.len; omega)
        cases e4
        simp only [Int.toNat_natCast] at hx2 hx3 hx4
        have hsame := HF.out.same i j hlt hlt2
        have f0 : (0 ≤ (j : Int)) = True := eq_true (by omega)
        have f1 : ((j : Int) < (nm.length : Int)) = True := eq_true (by omega)
        have f2 : decide ((j : Int) < (nm.length : Int)) = true := decide_eq_true (by omega)
        have f3 : ((i : Int) < (pn.length : Int)) = True := eq_true (by have := HF.out.len; omega)
        have f4 : ((j : Int) < (pn.length : Int)) = True := eq_true (by have := HF.out.len; omega)
        have hab : (rd nm (i : Int) == rd nm (j : Int)) = (rd pn (i : Int) == rd pn (j : Int)) := by rw [Bool.eq_iff_iff, beq_iff_eq, beq_iff_eq]; exact hsame
        have f5 : ((rd nm (i : Int) == rd nm (j : Int)) != (rd pn (i : Int) == rd pn (j : Int))) = false := by rw [hab]; exact bne_self_eq_false _
        have f6 : ((rd nm (i : Int) == rd nm (j : Int)) == (rd pn (i : Int) == rd pn (j : Int))) = true := by rw [hab]; exact beq_self_eq_true _
        clear hab hsame
        go_wp2_with fail
        go_quiet (fail)
        go_wp2_with fail
        go_roundg (nm.length - (j + 1))
        case measure => omega
        case rel => exact ⟨j + 1, by first | rfl | (rw [wr64 (by omega) (by omega)]; rfl), by omega, ⟨HL.out.below (pw_below_drewN (Below.refl _ _) _)⟩⟩
       ·have q2 : decide ((j : Int) < (nm.length : Int)) = false := decide_eq_false (by omega)
        have q1 : ((j : Int) < (nm.length : Int)) = False := eq_false (by omega)
        go_wp2_with fail
        go_roundg (nm.length - (i + 1))
        case measure => omega
        case rel => exact ⟨i + 1, by rw [HZ.out], by first | rfl | (rw [wr64 (by omega) (by omega)]; rfl), by omega, ⟨⟨HL.out.out.1, HL.out.out.2.1, HL.out.out.2.2.1, HL.out.out.2.2.2.1, HL.out.out.2.2.2.2⟩⟩⟩
    ·have q2 : decide ((i : Int) < (nm.length : Int)) = false := decide_eq_false (by omega)
     have q1 : ((i : Int) < (nm.length : Int)) = False := eq_false (by omega)
     go_wp2_with fail
     go_meet
     exact ⟨⟨HL.out.out.1, HL.out.out.2.2.2.1, HL.out.out.2.2.2.2⟩⟩
 clear HL
 have HL := hcut
 clear hcut
 rename_i u0_p5 u1_p5 u2_p5 u3_p5 u4_p5 u5_p5 u6_p5 u7_p5 u8_p5 u9_p5 u10_p5 u11_p5 u12_p5 u13_p5 u14_p5 u15_p5 u16_p5 u17_p5 u18_p5 u19_p5 u20_p5 u21_p5 u22_p5 u23_p5 u24_p5 u25_p5 u26_p5 u27_p5 u28_p5 u29_p5 u30_p5 u31_p5 u32_p5 u33_p5 u34_p5 u35_p5 u36_p5 u37_p5 u38_p5 u39_p5 u40_p5 u41_p5 u42_p5 u43_p5 u44_p5 u45_p5 u46_p5 u47_p5 u48_p5 u49_p5 u50_p5 u51_p5 u52_p5 u53_p5 u54_p5 u55_p5 u56_p5 u57_p5 u58_p5 u59_p5 u60_p5 u61_p5 u62_p5 u63_p5 u64_p5 u65_p5 u66_p5 u67_p5 u68_p5 u69_p5 u70_p5 u71_p5 u72_p5 u73_p5 u74_p5 u75_p5 u76_p5 u77_p5 u78_p5 u79_p5 u80_p5 u81_p5 u82_p5 u83_p5 u84_p5 u85_p5 u86_p5 u87_p5 u88_p5 u89_p5 u90_p5 u91_p5 u92_p5 u93_p5 u94_p5 u95_p5 u96_p5 u97_p5 u98_p5 u99_p5 u100_p5 u101_p5 u102_p5 u103_p5 u104_p5 u105_p5 u106_p5 u107_p5 u108_p5 u109_p5 u110_p5 u111_p5 u112_p5 u113_p5 u114_p5 u115_p5 u116_p5 u117_p5 u118_p5 u119_p5 u120_p5 u121_p5 u122_p5 u123_p5 u124_p5 u125_p5 u126_p5 u127_p5 u128_p5 u129_p5 u130_p5 u131_p5 u132_p5 u133_p5 u134_p5 u135_p5 u136_p5 u137_p5 u138_p5 u139_p5 u140_p5 u141_p5 u142_p5 u143_p5 u144_p5 u145_p5 u146_p5 u147_p5 u148_p5 u149_p5 u150_p5 u151_p5 u152_p5 u153_p5 u154_p5 u155_p5 u156_p5 u157_p5 u158_p5 u159_p5 u160_p5 u161_p5 u162_p5 u163_p5 u164_p5 u165_p5 u166_p5 u167_p5 u168_p5 u169_p5 u170_p5 u171_p5 u172_p5 u173_p5 u174_p5 u175_p5 u176_p5 u177_p5 u178_p5 u179_p5 u180_p5 u181_p5 u182_p5 u183_p5 u184_p5 u185_p5 u186_p5 u187_p5 u188_p5 u189_p5 u190_p5 u191_p5 u192_p5 u193_p5 u194_p5 u195_p5 u196_p5 u197_p5 u198_p5 u199_p5 u200_p5 u201_p5 u202_p5 u203_p5 u204_p5 u205_p5 u206_p5 u207_p5 u208_p5 u209_p5 u210_p5 u211_p5 u212_p5 u213_p5 u214_p5 u215_p5 u216_p5 u217_p5 u218_p5 u219_p5 u220_p5 u221_p5 u222_p5 u223_p5 u224_p5 u225_p5 u226_p5 u227_p5 u228_p5 u229_p5 u230_p5 u231_p5 u232_p5 u233_p5 u234_p5 u235_p5 u236_p5 u237_p5 u238_p5 u239_p5 u240_p5 u241_p5 u242_p5 u243_p5 u244_p5 u245_p5 u246_p5 u247_p5 u248_p5 u249_p5 u250_p5 u251_p5 u252_p5 u253_p5 u254_p5 u255_p5 u256_p5 u257_p5 u258_p5 u259_p5 u260_p5 u261_p5 u262_p5 u263_p5 u264_p5 u265_p5 u266_p5 u267_p5 u268_p5 u269_p5 u270_p5 u271_p5 u272_p5 u273_p5 u274_p5 u275_p5 u276_p5 u277_p5 u278_p5 u279_p5 u280_p5 u281_p5 u282_p5 u283_p5 u284_p5 u285_p5 u286_p5 u287_p5 u288_p5 u289_p5 u290_p5 u291_p5 u292_p5 u293_p5 u294_p5 u295_p5 u296_p5 u297_p5 u298_p5 u299_p5 u300_p5 u301_p5 u302_p5 u303_p5 u304_p5 u305_p5 u306_p5 u307_p5 u308_p5 u309_p5 u310_p5 u311_p5 u312_p5 u313_p5 u314_p5 u315_p5 u316_p5 u317_p5 u318_p5 u319_p5 u320_p5 u321_p5 u322_p5 u323_p5 u324_p5 u325_p5 u326_p5 u327_p5 u328_p5 u329_p5 u330_p5 u331_p5 u332_p5 u333_p5 u334_p5 u335_p5 u336_p5 u337_p5 u338_p5 u339_p5 u340_p5 u341_p5 u342_p5 u343_p5 u344_p5 u345_p5 u346_p5 u347_p5 u348_p5 u349_p5 u350_p5
 revert A0 c0 l0 A1 c1 l1 w k pl tr bag ok text one ls wt hs three len pn nm seven s ql nine hu35 hu24 HC0 HC1 HBIG HD HRE HRF HRG u0_ w1 w2 Apl cpl LEpl w3 w4 w5 w6 u0_p1 u1_p1 u2_p1 u3_p1 u4_p1 u5_p1 u6_p1 u7_p1 u8_p1 u9_p1 u10_p1 u11_p1 u12_p1 u13_p1 u14_p1 u15_p1 u16_p1 u17_p1 u18_p1 u19_p1 u20_p1 u21_p1 u22_p1 u23_p1 u24_p1 u25_p1 u26_p1 u27_p1 u28_p1 u29_p1 u30_p1 u0_p2 u1_p2 u15 u16 u17 u18 u2_p2 u3_p2 u4_p2 u5_p2 u6_p2 u7_p2 u8_p2 u9_p2 u10_p2 u11_p2 u12_p2 u13_p2 u14_p2 u15_p2 u16_p2 u17_p2 u18_p2 u19_p2 u20_p2 u21_p2 u22_p2 u23_p2 u24_p2 u25_p2 u26_p2 u27_p2 u28_p2 u29_p2 u30_p2 u31_p2 u32_p2 u33_p2 u34_p2 u35_p2 u36_p2 u37_p2 u38_p2 u39_p2 u40_p2 u41_p2 u42_p2 u43_p2 u44_p2 u45_p2 u46_p2 u47_p2 u48_p2 u49_p2 u50_p2 u51_p2 u52_p2 u53_p2 u54_p2 u55_p2 u56_p2 u57_p2 u58_p2 u59_p2 u60_p2 u61_p2 u62_p2 u63_p2 u64_p2 u65_p2 u66_p2 u67_p2 u68_p2 u69_p2 u70_p2 u71_p2 u72_p2 u73_p2 u74_p2 u75_p2 u76_p2 u77_p2 u78_p2 u79_p2 u80_p2 u81_p2 u82_p2 u83_p2 u84_p2 u85_p2 u86_p2 u87_p2 u88_p2 u89_p2 u90_p2 u91_p2 u92_p2 u93_p2 u94_p2 u95_p2 u96_p2 u97_p2 u98_p2 u99_p2 u100_p2 u101_p2 u102_p2 u103_p2 u104_p2 u105_p2 u106_p2 u107_p2 u108_p2 u109_p2 u110_p2 u111_p2 u112_p2 u113_p2 u114_p2 u115_p2 u116_p2 u117_p2 u118_p2 u119_p2 u120_p2 u121_p2 u122_p2 u123_p2 u124_p2 u125_p2 u126_p2 u127_p2 u128_p2 u129_p2 u130_p2 u131_p2 u132_p2 u133_p2 u134_p2 u135_p2 u136_p2 u137_p2 u138_p2 u139_p2 u140_p2 u141_p2 u142_p2 u143_p2 u144_p2 u145_p2 u146_p2 u147_p2 u148_p2 u149_p2 u150_p2 u151_p2 u152_p2 u153_p2 u154_p2 u155_p2 u156_p2 u157_p2 u158_p2 u159_p2 u160_p2 u161_p2 u162_p2 u163_p2 u164_p2 u165_p2 u166_p2 u167_p2 u168_p2 u169_p2 u170_p2 u171_p2 u172_p2 u173_p2 u174_p2 u175_p2 u176_p2 u177_p2 u178_p2 u179_p2 u180_p2 u181_p2 u182_p2 u183_p2 u184_p2 u185_p2 u186_p2 u187_p2 u188_p2 u189_p2 u190_p2 u191_p2 u192_p2 u193_p2 u194_p2 u195_p2 u196_p2 u197_p2 u198_p2 u199_p2 u200_p2 u201_p2 u202_p2 u203_p2 u204_p2 u205_p2 u206_p2 u207_p2 u208_p2 u209_p2 u210_p2 u211_p2 u212_p2 u213_p2 u214_p2 u215_p2 u216_p2 u217_p2 u218_p2 u219_p2 u220_p2 u221_p2 u222_p2 u223_p2 u224_p2 u225_p2 u226_p2 u227_p2 u228_p2 u229_p2 u230_p2 u231_p2 u232_p2 u233_p2 u234_p2 u235_p2 u236_p2 u237_p2 u238_p2 u239_p2 u240_p2 u241_p2 u242_p2 u243_p2 u244_p2 u245_p2 u246_p2 u247_p2 u248_p2 u249_p2 u250_p2 u251_p2 u252_p2 u253_p2 u254_p2 u255_p2 u256_p2 u257_p2 u258_p2 u259_p2 u260_p2 u261_p2 u262_p2 u263_p2 u264_p2 u265_p2 u266_p2 u267_p2 u268_p2 u269_p2 u270_p2 u271_p2 u272_p2 u273_p2 u274_p2 u275_p2 u276_p2 u277_p2 u278_p2 u279_p2 u280_p2 u281_p2 u282_p2 u283_p2 u284_p2 u285_p2 u286_p2 u287_p2 u288_p2 u289_p2 u290_p2 u291_p2 u292_p2 u293_p2 u294_p2 u295_p2 u296_p2 u297_p2 u298_p2 u299_p2 u300_p2 u301_p2 u302_p2 u303_p2 u304_p2 u305_p2 u306_p2 u307_p2 u308_p2 u309_p2 u310_p2 u311_p2 u312_p2 u313_p2 u314_p2 u315_p2 u316_p2 u317_p2 u318_p2 u319_p2 u320_p2 u321_p2 u322_p2 u323_p2 u324_p2 u325_p2 u326_p2 u327_p2 u328_p2 u329_p2 u330_p2 u331_p2 u332_p2 u333_p2 u334_p2 u335_p2 u336_p2 u337_p2 u338_p2 u339_p2 u340_p2 u341_p2 u342_p2 u343_p2 u344_p2 u345_p2 u346_p2 u347_p2 u348_p2 u0_p3 u0_p4 u19 u20 u1_p4 u2_p4 u3_p4 u4_p4 u5_p4 u6_p4 u7_p4 u8_p4 u9_p4 u10_p4 u11_p4 u12_p4 u13_p4 u14_p4 u15_p4 u16_p4 u17_p4 u18_p4 u19_p4 u20_p4 u21_p4 u22_p4 u23_p4 u24_p4 u25_p4 u26_p4 u27_p4 u28_p4 u29_p4 u30_p4 u31_p4 u32_p4 u33_p4 u34_p4 u35_p4 u36_p4 u37_p4 u38_p4 u39_p4 u40_p4 u41_p4 u42_p4 u43_p4 u44_p4 u45_p4 u46_p4 u47_p4 u48_p4 u49_p4 u50_p4 u51_p4 u52_p4 u53_p4 u54_p4 u55_p4 u56_p4 u57_p4 u58_p4 u59_p4 u60_p4 u61_p4 u62_p4 u63_p4 u64_p4 u65_p4 u66_p4 u67_p4 u68_p4 u69_p4 u70_p4 u71_p4 u72_p4 u73_p4 u74_p4 u75_p4 u76_p4 u77_p4 u78_p4 u79_p4 u80_p4 u81_p4 u82_p4 u83_p4 u84_p4 u85_p4 u86_p4 u87_p4 u88_p4 u89_p4 u90_p4 u91_p4 u92_p4 u93_p4 u94_p4 u95_p4 u96_p4 u97_p4 u98_p4 u99_p4 u100_p4 u101_p4 u102_p4 u103_p4 u104_p4 u105_p4 u106_p4 u107_p4 u108_p4 u109_p4 u110_p4 u111_p4 u112_p4 u113_p4 u114_p4 u115_p4 u116_p4 u117_p4 u118_p4 u119_p4 u120_p4 u121_p4 u122_p4 u123_p4 u124_p4 u125_p4 u126_p4 u127_p4 u128_p4 u129_p4 u130_p4 u131_p4 u132_p4 u133_p4 u134_p4 u135_p4 u136_p4 u137_p4 u138_p4 u139_p4 u140_p4 u141_p4 u142_p4 u143_p4 u144_p4 u145_p4 u146_p4 u147_p4 u148_p4 u149_p4 u150_p4 u151_p4 u152_p4 u153_p4 u154_p4 u155_p4 u156_p4 u157_p4 u158_p4 u159_p4 u160_p4 u161_p4 u162_p4 u163_p4 u164_p4 u165_p4 u166_p4 u1_p3 u2_p3 u3_p3 u4_p3 u5_p3 u6_p3 u7_p3 u8_p3 u9_p3 u10_p3 u11_p3 u12_p3 u13_p3 u14_p3 u15_p3 u16_p3 u17_p3 u18_p3 u19_p3 u20_p3 u21_p3 u22_p3 u23_p3 u24_p3 u25_p3 u26_p3 u27_p3 u28_p3 u29_p3 u30_p3 u31_p3 u32_p3 u33_p3 u34_p3 u35_p3 u36_p3 u37_p3 u38_p3 u39_p3 u40_p3 u41_p3 u42_p3 u43_p3 u44_p3 u45_p3 u46_p3 u47_p3 u48_p3 u49_p3 u50_p3 u51_p3 u52_p3 u53_p3 u54_p3 u55_p3 u56_p3 u57_p3 u167_p4 u168_p4 u169_p4 u170_p4 u171_p4 u172_p4 u173_p4 u174_p4 u175_p4 u176_p4 u177_p4 u178_p4 u179_p4 u180_p4 u181_p4 u182_p4 u183_p4 u184_p4 u185_p4 u186_p4 u187_p4 u188_p4 u189_p4 u190_p4 u191_p4 u192_p4 u193_p4 u194_p4 u195_p4 u196_p4 u197_p4 u198_p4 u199_p4 u200_p4 u201_p4 u202_p4 u203_p4 u204_p4 u205_p4 u206_p4 u207_p4 u208_p4 u209_p4 u210_p4 u211_p4 u212_p4 u213_p4 u214_p4 u215_p4 u216_p4 u217_p4 u218_p4 u219_p4 u220_p4 u221_p4 u222_p4 u223_p4 u224_p4 u225_p4 u226_p4 u227_p4 u228_p4 u229_p4 u230_p4 u231_p4 u232_p4 u233_p4 u234_p4 u235_p4 u236_p4 u237_p4 u238_p4 u239_p4 u240_p4 u241_p4 u242_p4 u243_p4 u244_p4 u245_p4 u246_p4 u247_p4 u248_p4 u249_p4 u250_p4 u251_p4 u252_p4 u253_p4 u254_p4 u255_p4 u256_p4 u257_p4 u258_p4 u259_p4 u260_p4 u261_p4 u262_p4 u263_p4 u264_p4 u265_p4 u266_p4 u267_p4 u268_p4 u269_p4 u270_p4 u271_p4 u272_p4 u273_p4 u274_p4 u275_p4 u276_p4 u277_p4 u278_p4 u279_p4 u280_p4 u281_p4 u282_p4 u283_p4 u284_p4 u285_p4 u286_p4 u287_p4 u288_p4 u289_p4 u290_p4 w12 Als cls LEls w13 Ahs chs LEhs w14 Ahx chx LEhx w15 w16 w17 Apn cpn LEpn w18 Anm cnm LEnm w19 Anx cnx LEnx w20 w21 Aql cql LEql w22 Ars crs LErs u291_p4 u292_p4 u293_p4 u294_p4 u295_p4 u296_p4 u297_p4 u298_p4 u299_p4 u300_p4 u301_p4 u302_p4 u303_p4 u304_p4 u305_p4 u306_p4 u307_p4 u308_p4 u309_p4 u310_p4 u311_p4 u312_p4 u313_p4 u314_p4 u315_p4 u316_p4 u317_p4 u318_p4 u319_p4 u320_p4 u321_p4 u322_p4 u323_p4 u324_p4 u325_p4 u326_p4 u327_p4 u328_p4 u329_p4 u330_p4 u331_p4 u332_p4 u333_p4 u334_p4 u335_p4 u336_p4 u337_p4 u338_p4 u339_p4 u340_p4 u341_p4 u342_p4 u343_p4 u344_p4 u345_p4 u346_p4 u347_p4 u348_p4 u0_p5 u1_p5 u41 u42 u43 u44 u2_p5 u3_p5 u4_p5 u5_p5 u6_p5 u7_p5 u8_p5 u9_p5 u10_p5 u11_p5 u12_p5 u13_p5 u14_p5 u15_p5 u16_p5 u17_p5 u18_p5 u19_p5 u20_p5 u21_p5 u22_p5 u23_p5 u24_p5 u25_p5 u26_p5 u27_p5 u28_p5 u29_p5 u30_p5 u31_p5 u32_p5 u33_p5 u34_p5 u35_p5 u36_p5 u37_p5 u38_p5 u39_p5 u40_p5 u41_p5 u42_p5 u43_p5 u44_p5 u45_p5 u46_p5 u47_p5 u48_p5 u49_p5 u50_p5 u51_p5 u52_p5 u53_p5 u54_p5 u55_p5 u56_p5 u57_p5 u58_p5 u59_p5 u60_p5 u61_p5 u62_p5 u63_p5 u64_p5 u65_p5 u66_p5 u67_p5 u68_p5 u69_p5 u70_p5 u71_p5 u72_p5 u73_p5 u74_p5 u75_p5 u76_p5 u77_p5 u78_p5 u79_p5 u80_p5 u81_p5 u82_p5 u83_p5 u84_p5 u85_p5 u86_p5 u87_p5 u88_p5 u89_p5 u90_p5 u91_p5 u92_p5 u93_p5 u94_p5 u95_p5 u96_p5 u97_p5 u98_p5 u99_p5 u100_p5 u101_p5 u102_p5 u103_p5 u104_p5 u105_p5 u106_p5 u107_p5 u108_p5 u109_p5 u110_p5 u111_p5 u112_p5 u113_p5 u114_p5 u115_p5 u116_p5 u117_p5 u118_p5 u119_p5 u120_p5 u121_p5 u122_p5 u123_p5 u124_p5 u125_p5 u126_p5 u127_p5 u128_p5 u129_p5 u130_p5 u131_p5 u132_p5 u133_p5 u134_p5 u135_p5 u136_p5 u137_p5 u138_p5 u139_p5 u140_p5 u141_p5 u142_p5 u143_p5 u144_p5 u145_p5 u146_p5 u147_p5 u148_p5 u149_p5 u150_p5 u151_p5 u152_p5 u153_p5 u154_p5 u155_p5 u156_p5 u157_p5 u158_p5 u159_p5 u160_p5 u161_p5 u162_p5 u163_p5 u164_p5 u165_p5 u166_p5 u167_p5 u168_p5 u169_p5 u170_p5 u171_p5 u172_p5 u173_p5 u174_p5 u175_p5 u176_p5 u177_p5 u178_p5 u179_p5 u180_p5 u181_p5 u182_p5 u183_p5 u184_p5 u185_p5 u186_p5 u187_p5 u188_p5 u189_p5 u190_p5 u191_p5 u192_p5 u193_p5 u194_p5 u195_p5 u196_p5 u197_p5 u198_p5 u199_p5 u200_p5 u201_p5 u202_p5 u203_p5 u204_p5 u205_p5 u206_p5 u207_p5 u208_p5 u209_p5 u210_p5 u211_p5 u212_p5 u213_p5 u214_p5 u215_p5 u216_p5 u217_p5 u218_p5 u219_p5 u220_p5 u221_p5 u222_p5 u223_p5 u224_p5 u225_p5 u226_p5 u227_p5 u228_p5 u229_p5 u230_p5 u231_p5 u232_p5 u233_p5 u234_p5 u235_p5 u236_p5 u237_p5 u238_p5 u239_p5 u240_p5 u241_p5 u242_p5 u243_p5 u244_p5 u295 u296 u297 u245_p5 u246_p5 u247_p5 u248_p5 u249_p5 u250_p5 u251_p5 u252_p5 u253_p5 u254_p5 u255_p5 u256_p5 u257_p5 u258_p5 u259_p5 u260_p5 u261_p5 u262_p5 u263_p5 u264_p5 u265_p5 u266_p5 u267_p5 u268_p5 u269_p5 u270_p5 u271_p5 u272_p5 u273_p5 u274_p5 u275_p5 u276_p5 u277_p5 u278_p5 u279_p5 u280_p5 u281_p5 u282_p5 u283_p5 u284_p5 u285_p5 u286_p5 u287_p5 u288_p5 u289_p5 u290_p5 u291_p5 u292_p5 u293_p5 u294_p5 u295_p5 u296_p5 u297_p5 u298_p5 u299_p5 u300_p5 u301_p5 u302_p5 u303_p5 u304_p5 u305_p5 u306_p5 u307_p5 u308_p5 u309_p5 u310_p5 u311_p5 u312_p5 u313_p5 u314_p5 u315_p5 u316_p5 u317_p5 u318_p5 u319_p5 u320_p5 u321_p5 u322_p5 u323_p5 u324_p5 u325_p5 u326_p5 u327_p5 u328_p5 u329_p5 u330_p5 u331_p5 u332_p5 u333_p5 u334_p5 u335_p5 u336_p5 u337_p5 u338_p5 u339_p5 u340_p5 u341_p5 u342_p5 u343_p5 u344_p5 u345_p5 u346_p5 u347_p5 u348_p5 u349_p5 u350_p5 wc u4 u45 u46 u47 u48 u49 u52 u53 u54 u55 u56 u57 u58 u59 u60 u61 u62 u63 u64 u65 u66 u67 u68 u69 u70 u71 u72 u73 u74 u75 u76 u77 u78 u79 u80 u81 u82 u83 u84 u85 u86 u87 u88 u89 u90 u91 u92 u93 u94 u95 u96 u97 u98 u99 u100 u101 u102 u103 u104 u105 u106 u107 u108 u109 u110 u111 u112 u113 u114 u115 u116 u117 u118 u119 u120 u121 u122 u123 u124 u125 u126 u127 u128 u129 u130 u131 u132 u133 u134 u135 u136 u137 u138 u139 u140 u141 u142 u143 u144 u145 u146 u147 u148 u149 u150 u151 u152 u153 u154 u155 u156 u157 u158 u159 u160 u161 u162 u163 u164 u165 u166 u167 u168 u169 u170 u171 u172 u173 u174 u175 u176 u177 u178 u179 u180 u181 u182 u183 u184 u185 u186 u187 u188 u189 u190 u191 u192 u193 u194 u195 u196 u197 u198 u199 u200 u201 u202 u203 u204 u205 u206 u207 u208 u209 u210 u211 u212 u213 u214 u215 u216 u217 u218 u219 u220 u221 u222 u223 u224 u225 u226 u227 u228 u229 u230 u231 u232 u233 u234 u235 u236 u237 u238 u239 u240 u241 u242 u243 u244 u245 u246 u247 u248 u249 u250 u251 u252 u253 u254 u255 u256 u257 u258 u259 u260 u261 u262 u263 u264 u265 u266 u267 u268 u269 u270 u271 u272 u273 u274 u275 u276 u277 u278 u279 u280 u281 u282 u283 u284 u285 u286 u287 u288 u289 u290 u291 u292 u293 u294 u298 u299 u300 u301 u302 u303 u304 u305 u306 u307 u308 u309 u310 u311 u312 u313 u314 u315 u316 u317 u318 u319 u320 u321 u322 u323 u324 u325 u326 u327 u328 u329 u330 u331 u332 u333 u334 u335 u336 u337 u338 u339 u340 u341 u342 u343 u344 u345 u346 u347 u348 u349 u350 u351 u352 u353 u354 u355 u356 u357 u358 u359 u360 u361 u362 u363 u364 u365 u366 u367 u368 u369 u370 u371 u372 u373 u374 u375 u376 u377 u378 u379 u380 u381 u382 u383 u384 u385 u386 u387 u388 u389 u390 u391 u392 u393 u394 u395 u396 u397 u398 u399 u400 u401 u402 u403 u404 u405 u406 u407 HL
 exact q_.out⟩
theorem letters_7 : letters_6.1 := by
 intro A0 c0 l0 A1 c1 l1 w k pl tr bag ok text one ls wt hs three len pn nm seven s ql nine hu35 hu24 HC0 HC1 HBIG HD HRE HRF HRG u0_ w1 w2 Apl cpl LEpl w3 w4 w5 w6 u0_p1 u1_p1 u2_p1 u3_p1 u4_p1 u5_p1 u6_p1 u7_p1 u8_p1 u9_p1 u10_p1 u11_p1 u12_p1 u13_p1 u14_p1 u15_p1 u16_p1 u17_p1 u18_p1 u19_p1 u20_p1 u21_p1 u22_p1 u23_p1 u24_p1 u25_p1 u26_p1 u27_p1 u28_p1 u29_p1 u30_p1 u0_p2 u1_p2 u15 u16 u17 u18 u2_p2 u3_p2 u4_p2 u5_p2 u6_p2 u7_p2 u8_p2 u9_p2 u10_p2 u11_p2 u12_p2 u13_p2 u14_p2 u15_p2 u16_p2 u17_p2 u18_p2 u19_p2 u20_p2 u21_p2 u22_p2 u23_p2 u24_p2 u25_p2 u26_p2 u27_p2 u28_p2 u29_p2 u30_p2 u31_p2 u32_p2 u33_p2 u34_p2 u35_p2 u36_p2 u37_p2 u38_p2 u39_p2 u40_p2 u41_p2 u42_p2 u43_p2 u44_p2 u45_p2 u46_p2 u47_p2 u48_p2 u49_p2 u50_p2 u51_p2 u52_p2 u53_p2 u54_p2 u55_p2 u56_p2 u57_p2 u58_p2 u59_p2 u60_p2 u61_p2 u62_p2 u63_p2 u64_p2 u65_p2 u66_p2 u67_p2 u68_p2 u69_p2 u70_p2 u71_p2 u72_p2 u73_p2 u74_p2 u75_p2 u76_p2 u77_p2 u78_p2 u79_p2 u80_p2 u81_p2 u82_p2 u83_p2 u84_p2 u85_p2 u86_p2 u87_p2 u88_p2 u89_p2 u90_p2 u91_p2 u92_p2 u93_p2 u94_p2 u95_p2 u96_p2 u97_p2 u98_p2 u99_p2 u100_p2 u101_p2 u102_p2 u103_p2 u104_p2 u105_p2 u106_p2 u107_p2 u108_p2 u109_p2 u110_p2 u111_p2 u112_p2 u113_p2 u114_p2 u115_p2 u116_p2 u117_p2 u118_p2 u119_p2 u120_p2 u121_p2 u122_p2 u123_p2 u124_p2 u125_p2 u126_p2 u127_p2 u128_p2 u129_p2 u130_p2 u131_p2 u132_p2 u133_p2 u134_p2 u135_p2 u136_p2 u137_p2 u138_p2 u139_p2 u140_p2 u141_p2 u142_p2 u143_p2 u144_p2 u145_p2 u146_p2 u147_p2 u148_p2 u149_p2 u150_p2 u151_p2 u152_p2 u153_p2 u154_p2 u155_p2 u156_p2 u157_p2 u158_p2 u159_p2 u160_p2 u161_p2 u162_p2 u163_p2 u164_p2 u165_p2 u166_p2 u167_p2 u168_p2 u169_p2 u170_p2 u171_p2 u172_p2 u173_p2 u174_p2 u175_p2 u176_p2 u177_p2 u178_p2 u179_p2 u180_p2 u181_p2 u182_p2 u183_p2 u184_p2 u185_p2 u186_p2 u187_p2 u188_p2 u189_p2 u190_p2 u191_p2 u192_p2 u193_p2 u194_p2 u195_p2 u196_p2 u197_p2 u198_p2 u199_p2 u200_p2 u201_p2 u202_p2 u203_p2 u204_p2 u205_p2 u206_p2 u207_p2 u208_p2 u209_p2 u210_p2 u211_p2 u212_p2 u213_p2 u214_p2 u215_p2 u216_p2 u217_p2 u218_p2 u219_p2 u220_p2 u221_p2 u222_p2 u223_p2 u224_p2 u225_p2 u226_p2 u227_p2 u228_p2 u229_p2 u230_p2 u231_p2 u232_p2 u233_p2 u234_p2 u235_p2 u236_p2 u237_p2 u238_p2 u239_p2 u240_p2 u241_p2 u242_p2 u243_p2 u244_p2 u245_p2 u246_p2 u247_p2 u248_p2 u249_p2 u250_p2 u251_p2 u252_p2 u253_p2 u254_p2 u255_p2 u256_p2 u257_p2 u258_p2 u259_p2 u260_p2 u261_p2 u262_p2 u263_p2 u264_p2 u265_p2 u266_p2 u267_p2 u268_p2 u269_p2 u270_p2 u271_p2 u272_p2 u273_p2 u274_p2 u275_p2 u276_p2 u277_p2 u278_p2 u279_p2 u280_p2 u281_p2 u282_p2 u283_p2 u284_p2 u285_p2 u286_p2 u287_p2 u288_p2 u289_p2 u290_p2 u291_p2 u292_p2 u293_p2 u294_p2 u295_p2 u296_p2 u297_p2 u298_p2 u299_p2 u300_p2 u301_p2 u302_p2 u303_p2 u304_p2 u305_p2 u306_p2 u307_p2 u308_p2 u309_p2 u310_p2 u311_p2 u312_p2 u313_p2 u314_p2 u315_p2 u316_p2 u317_p2 u318_p2 u319_p2 u320_p2 u321_p2 u322_p2 u323_p2 u324_p2 u325_p2 u326_p2 u327_p2 u328_p2 u329_p2 u330_p2 u331_p2 u332_p2 u333_p2 u334_p2 u335_p2 u336_p2 u337_p2 u338_p2 u339_p2 u340_p2 u341_p2 u342_p2 u343_p2 u344_p2 u345_p2 u346_p2 u347_p2 u348_p2 u0_p3 u0_p4 u19 u20 u1_p4 u2_p4 u3_p4 u4_p4 u5_p4 u6_p4 u7_p4 u8_p4 u9_p4 u10_p4 u11_p4 u12_p4 u13_p4 u14_p4 u15_p4 u16_p4 u17_p4 u18_p4 u19_p4 u20_p4 u21_p4 u22_p4 u23_p4 u24_p4 u25_p4 u26_p4 u27_p4 u28_p4 u29_p4 u30_p4 u31_p4 u32_p4 u33_p4 u34_p4 u35_p4 u36_p4 u37_p4 u38_p4 u39_p4 u40_p4 u41_p4 u42_p4 u43_p4 u44_p4 u45_p4 u46_p4 u47_p4 u48_p4 u49_p4 u50_p4 u51_p4 u52_p4 u53_p4 u54_p4 u55_p4 u56_p4 u57_p4 u58_p4 u59_p4 u60_p4 u61_p4 u62_p4 u63_p4 u64_p4 u65_p4 u66_p4 u67_p4 u68_p4 u69_p4 u70_p4 u71_p4 u72_p4 u73_p4 u74_p4 u75_p4 u76_p4 u77_p4 u78_p4 u79_p4 u80_p4 u81_p4 u82_p4 u83_p4 u84_p4 u85_p4 u86_p4 u87_p4 u88_p4 u89_p4 u90_p4 u91_p4 u92_p4 u93_p4 u94_p4 u95_p4 u96_p4 u97_p4 u98_p4 u99_p4 u100_p4 u101_p4 u102_p4 u103_p4 u104_p4 u105_p4 u106_p4 u107_p4 u108_p4 u109_p4 u110_p4 u111_p4 u112_p4 u113_p4 u114_p4 u115_p4 u116_p4 u117_p4 u118_p4 u119_p4 u120_p4 u121_p4 u122_p4 u123_p4 u124_p4 u125_p4 u126_p4 u127_p4 u128_p4 u129_p4 u130_p4 u131_p4 u132_p4 u133_p4 u134_p4 u135_p4 u136_p4 u137_p4 u138_p4 u139_p4 u140_p4 u141_p4 u142_p4 u143_p4 u144_p4 u145_p4 u146_p4 u147_p4 u148_p4 u149_p4 u150_p4 u151_p4 u152_p4 u153_p4 u154_p4 u155_p4 u156_p4 u157_p4 u158_p4 u159_p4 u160_p4 u161_p4 u162_p4 u163_p4 u164_p4 u165_p4 u166_p4 u1_p3 u2_p3 u3_p3 u4_p3 u5_p3 u6_p3 u7_p3 u8_p3 u9_p3 u10_p3 u11_p3 u12_p3 u13_p3 u14_p3 u15_p3 u16_p3 u17_p3 u18_p3 u19_p3 u20_p3 u21_p3 u22_p3 u23_p3 u24_p3 u25_p3 u26_p3 u27_p3 u28_p3 u29_p3 u30_p3 u31_p3 u32_p3 u33_p3 u34_p3 u35_p3 u36_p3 u37_p3 u38_p3 u39_p3 u40_p3 u41_p3 u42_p3 u43_p3 u44_p3 u45_p3 u46_p3 u47_p3 u48_p3 u49_p3 u50_p3 u51_p3 u52_p3 u53_p3 u54_p3 u55_p3 u56_p3 u57_p3 u167_p4 u168_p4 u169_p4 u170_p4 u171_p4 u172_p4 u173_p4 u174_p4 u175_p4 u176_p4 u177_p4 u178_p4 u179_p4 u180_p4 u181_p4 u182_p4 u183_p4 u184_p4 u185_p4 u186_p4 u187_p4 u188_p4 u189_p4 u190_p4 u191_p4 u192_p4 u193_p4 u194_p4 u195_p4 u196_p4 u197_p4 u198_p4 u199_p4 u200_p4 u201_p4 u202_p4 u203_p4 u204_p4 u205_p4 u206_p4 u207_p4 u208_p4 u209_p4 u210_p4 u211_p4 u212_p4 u213_p4 u214_p4 u215_p4 u216_p4 u217_p4 u218_p4 u219_p4 u220_p4 u221_p4 u222_p4 u223_p4 u224_p4 u225_p4 u226_p4 u227_p4 u228_p4 u229_p4 u230_p4 u231_p4 u232_p4 u233_p4 u234_p4 u235_p4 u236_p4 u237_p4 u238_p4 u239_p4 u240_p4 u241_p4 u242_p4 u243_p4 u244_p4 u245_p4 u246_p4 u247_p4 u248_p4 u249_p4 u250_p4 u251_p4 u252_p4 u253_p4 u254_p4 u255_p4 u256_p4 u257_p4 u258_p4 u259_p4 u260_p4 u261_p4 u262_p4 u263_p4 u264_p4 u265_p4 u266_p4 u267_p4 u268_p4 u269_p4 u270_p4 u271_p4 u272_p4 u273_p4 u274_p4 u275_p4 u276_p4 u277_p4 u278_p4 u279_p4 u280_p4 u281_p4 u282_p4 u283_p4 u284_p4 u285_p4 u286_p4 u287_p4 u288_p4 u289_p4 u290_p4 w12 Als cls LEls w13 Ahs chs LEhs w14 Ahx chx LEhx w15 w16 w17 Apn cpn LEpn w18 Anm cnm LEnm w19 Anx cnx LEnx w20 w21 Aql cql LEql w22 Ars crs LErs u291_p4 u292_p4 u293_p4 u294_p4 u295_p4 u296_p4 u297_p4 u298_p4 u299_p4 u300_p4 u301_p4 u302_p4 u303_p4 u304_p4 u305_p4 u306_p4 u307_p4 u308_p4 u309_p4 u310_p4 u311_p4 u312_p4 u313_p4 u314_p4 u315_p4 u316_p4 u317_p4 u318_p4 u319_p4 u320_p4 u321_p4 u322_p4 u323_p4 u324_p4 u325_p4 u326_p4 u327_p4 u328_p4 u329_p4 u330_p4 u331_p4 u332_p4 u333_p4 u334_p4 u335_p4 u336_p4 u337_p4 u338_p4 u339_p4 u340_p4 u341_p4 u342_p4 u343_p4 u344_p4 u345_p4 u346_p4 u347_p4 u348_p4 u0_p5 u1_p5 u41 u42 u43 u44 u2_p5 u3_p5 u4_p5 u5_p5 u6_p5 u7_p5 u8_p5 u9_p5 u10_p5 u11_p5 u12_p5 u13_p5 u14_p5 u15_p5 u16_p5 u17_p5 u18_p5 u19_p5 u20_p5 u21_p5 u22_p5 u23_p5 u24_p5 u25_p5 u26_p5 u27_p5 u28_p5 u29_p5 u30_p5 u31_p5 u32_p5 u33_p5 u34_p5 u35_p5 u36_p5 u37_p5 u38_p5 u39_p5 u40_p5 u41_p5 u42_p5 u43_p5 u44_p5 u45_p5 u46_p5 u47_p5 u48_p5 u49_p5 u50_p5 u51_p5 u52_p5 u53_p5 u54_p5 u55_p5 u56_p5 u57_p5 u58_p5 u59_p5 u60_p5 u61_p5 u62_p5 u63_p5 u64_p5 u65_p5 u66_p5 u67_p5 u68_p5 u69_p5 u70_p5 u71_p5 u72_p5 u73_p5 u74_p5 u75_p5 u76_p5 u77_p5 u78_p5 u79_p5 u80_p5 u81_p5 u82_p5 u83_p5 u84_p5 u85_p5 u86_p5 u87_p5 u88_p5 u89_p5 u90_p5 u91_p5 u92_p5 u93_p5 u94_p5 u95_p5 u96_p5 u97_p5 u98_p5 u99_p5 u100_p5 u101_p5 u102_p5 u103_p5 u104_p5 u105_p5 u106_p5 u107_p5 u108_p5 u109_p5 u110_p5 u111_p5 u112_p5 u113_p5 u114_p5 u115_p5 u116_p5 u117_p5 u118_p5 u119_p5 u120_p5 u121_p5 u122_p5 u123_p5 u124_p5 u125_p5 u126_p5 u127_p5 u128_p5 u129_p5 u130_p5 u131_p5 u132_p5 u133_p5 u134_p5 u135_p5 u136_p5 u137_p5 u138_p5 u139_p5 u140_p5 u141_p5 u142_p5 u143_p5 u144_p5 u145_p5 u146_p5 u147_p5 u148_p5 u149_p5 u150_p5 u151_p5 u152_p5 u153_p5 u154_p5 u155_p5 u156_p5 u157_p5 u158_p5 u159_p5 u160_p5 u161_p5 u162_p5 u163_p5 u164_p5 u165_p5 u166_p5 u167_p5 u168_p5 u169_p5 u170_p5 u171_p5 u172_p5 u173_p5 u174_p5 u175_p5 u176_p5 u177_p5 u178_p5 u179_p5 u180_p5 u181_p5 u182_p5 u183_p5 u184_p5 u185_p5 u186_p5 u187_p5 u188_p5 u189_p5 u190_p5 u191_p5 u192_p5 u193_p5 u194_p5 u195_p5 u196_p5 u197_p5 u198_p5 u199_p5 u200_p5 u201_p5 u202_p5 u203_p5 u204_p5 u205_p5 u206_p5 u207_p5 u208_p5 u209_p5 u210_p5 u211_p5 u212_p5 u213_p5 u214_p5 u215_p5 u216_p5 u217_p5 u218_p5 u219_p5 u220_p5 u221_p5 u222_p5 u223_p5 u224_p5 u225_p5 u226_p5 u227_p5 u228_p5 u229_p5 u230_p5 u231_p5 u232_p5 u233_p5 u234_p5 u235_p5 u236_p5 u237_p5 u238_p5 u239_p5 u240_p5 u241_p5 u242_p5 u243_p5 u244_p5 u295 u296 u297 u245_p5 u246_p5 u247_p5 u248_p5 u249_p5 u250_p5 u251_p5 u252_p5 u253_p5 u254_p5 u255_p5 u256_p5 u257_p5 u258_p5 u259_p5 u260_p5 u261_p5 u262_p5 u263_p5 u264_p5 u265_p5 u266_p5 u267_p5 u268_p5 u269_p5 u270_p5 u271_p5 u272_p5 u273_p5 u274_p5 u275_p5 u276_p5 u277_p5 u278_p5 u279_p5 u280_p5 u281_p5 u282_p5 u283_p5 u284_p5 u285_p5 u286_p5 u287_p5 u288_p5 u289_p5 u290_p5 u291_p5 u292_p5 u293_p5 u294_p5 u295_p5 u296_p5 u297_p5 u298_p5 u299_p5 u300_p5 u301_p5 u302_p5 u303_p5 u304_p5 u305_p5 u306_p5 u307_p5 u308_p5 u309_p5 u310_p5 u311_p5 u312_p5 u313_p5 u314_p5 u315_p5 u316_p5 u317_p5 u318_p5 u319_p5 u320_p5 u321_p5 u322_p5 u323_p5 u324_p5 u325_p5 u326_p5 u327_p5 u328_p5 u329_p5 u330_p5 u331_p5 u332_p5 u333_p5 u334_p5 u335_p5 u336_p5 u337_p5 u338_p5 u339_p5 u340_p5 u341_p5 u342_p5 u343_p5 u344_p5 u345_p5 u346_p5 u347_p5 u348_p5 u349_p5 u350_p5 wc u4 u45 u46 u47 u48 u49 u52 u53 u54 u55 u56 u57 u58 u59 u60 u61 u62 u63 u64 u65 u66 u67 u68 u69 u70 u71 u72 u73 u74 u75 u76 u77 u78 u79 u80 u81 u82 u83 u84 u85 u86 u87 u88 u89 u90 u91 u92 u93 u94 u95 u96 u97 u98 u99 u100 u101 u102 u103 u104 u105 u106 u107 u108 u109 u110 u111 u112 u113 u114 u115 u116 u117 u118 u119 u120 u121 u122 u123 u124 u125 u126 u127 u128 u129 u130 u131 u132 u133 u134 u135 u136 u137 u138 u139 u140 u141 u142 u143 u144 u145 u146 u147 u148 u149 u150 u151 u152 u153 u154 u155 u156 u157 u158 u159 u160 u161 u162 u163 u164 u165 u166 u167 u168 u169 u170 u171 u172 u173 u174 u175 u176 u177 u178 u179 u180 u181 u182 u183 u184 u185 u186 u187 u188 u189 u190 u191 u192 u193 u194 u195 u196 u197 u198 u199 u200 u201 u202 u203 u204 u205 u206 u207 u208 u209 u210 u211 u212 u213 u214 u215 u216 u217 u218 u219 u220 u221 u222 u223 u224 u225 u226 u227 u228 u229 u230 u231 u232 u233 u234 u235 u236 u237 u238 u239 u240 u241 u242 u243 u244 u245 u246 u247 u248 u249 u250 u251 u252 u253 u254 u255 u256 u257 u258 u259 u260 u261 u262 u263 u264 u265 u266 u267 u268 u269 u270 u271 u272 u273 u274 u275 u276 u277 u278 u279 u280 u281 u282 u283 u284 u285 u286 u287 u288 u289 u290 u291 u292 u293 u294 u298 u299 u300 u301 u302 u303 u304 u305 u306 u307 u308 u309 u310 u311 u312 u313 u314 u315 u316 u317 u318 u319 u320 u321 u322 u323 u324 u325 u326 u327 u328 u329 u330 u331 u332 u333 u334 u335 u336 u337 u338 u339 u340 u341 u342 u343 u344 u345 u346 u347 u348 u349 u350 u351 u352 u353 u354 u355 u356 u357 u358 u359 u360 u361 u362 u363 u364 u365 u366 u367 u368 u369 u370 u371 u372 u373 u374 u375 u376 u377 u378 u379 u380 u381 u382 u383 u384 u385 u386 u387 u388 u389 u390 u391 u392 u393 u394 u395 u396 u397 u398 u399 u400 u401 u402 u403 u404 u405 u406 u407 HL
 cases nine
 ·go_wp2_with fail
  go_ret
  exact ⟨rfl, HL.out.out.2.2⟩
 ·
  go_wp2_with fail
  refine (impl_ParcelsText.calls k _ _ ql s true _ HL.out.out.1 LEql.out HL.out.out.2.1 (HRG.out (by trivial))).mono ?_
  rintro e w30 ⟨rfl, hb⟩
  have HL_ := Aside0.mk (HL.out.below hb)
  clear HL
  have HL := HL_
  clear HL_
  clear hb
  have n0 : (s == s) = true := ba_beq s
  go_wp2_with fail
  go_ret
  exact ⟨rfl, HL.out.out.2.2⟩
theorem lt_walk (Q : LtPure) (A0 : Option Addr) (c0 : Nat) (l0 : List Int) (A1 : Option Addr) (c1 : Nat) (l1 : List Int) (w : World) (hr0 : Kd.C (Kd.int .u8) w A0 l0.length l0) (hc0 : l0.length ≤ c0) (hr1 : Kd.C (Kd.int .u8) w A1 l1.length l1) (hc1 : l1.length ≤ c1)
  (hw0 : l0.length ≤ maxLen) (hw1 : ∀ x ∈ l0, (Lit.int .u8 x).wf = true) (hw2 : l1.length ≤ maxLen) (hw3 : ∀ x ∈ l1, (Lit.int .u8 x).wf = true) (hT : Tb w) : Calls Tryz.prog 3 #[.slice A0 l0.length c0, .slice A1 l1.length c1] w fun e w' => e = .returned (.bool true) ∧ Below w.heap.size w w' := by
 rcases Q l0 l1 hw0 hw1 hw2 hw3 with hbig | ⟨big, k, pl, tr, bag, ok, text, one, ra, rb, rc, ls, wt, hs, three, len, pn, nm, seven, s, ql, nine, rd_, re, rf, rg⟩
 ·have HC0 := Aside0.mk hc0
  have HC1 := Aside0.mk hc1
  have HR0 := Aside0.mk hr0
  have HR1 := Aside0.mk hr1
  have HBIG := Aside0.mk hbig
  clear hc0 hc1 hr0 hr1 hbig hw0 hw1 hw2 hw3 Q hT
  go_enter Tryz.func3, Tryz.ntmps3
  go_wp2_with fail
  refine (laws_big.calls A0 c0 l0 A1 c1 l1 true _ HR0.out HC0.out HR1.out HC1.out HBIG.out).mono ?_
  rintro e w1 ⟨rfl, hd⟩
  have HB := Aside0.mk hd.below
  clear hd
  go_wp2
  go_ret
  exact ⟨rfl, HB.out⟩
 ·exact (letters_1.2 ⟨letters_2.2 ⟨letters_3.2 ⟨letters_4.2 ⟨letters_5.2 ⟨letters_6.2 ⟨letters_7⟩⟩⟩⟩⟩⟩) A0 c0 l0 A1 c1 l1 w hr0 hc0 hr1 hc1 hT k pl tr bag ok text one big ra rb rc ls wt hs three len pn nm seven s ql nine rd_ re rf rg
def laws_FnBagsLetters.Pure : Prop := LtPure
theorem laws_FnBagsLetters.walk (Q : laws_FnBagsLetters.Pure) (A0 : Option Addr) (c0 : Nat) (l0 : List Int) (A1 : Option Addr) (c1 : Nat) (l1 : List Int) (w : World) (hr0 : Kd.C (Kd.int .u8) w A0 l0.length l0) (hc0 : l0.length ≤ c0) (hr1 : Kd.C (Kd.int .u8) w A1 l1.length l1) (hc1 : l1.length ≤ c1)
  (hw0 : l0.length ≤ maxLen) (hw1 : ∀ x ∈ l0, (Lit.int .u8 x).wf = true) (hw2 : l1.length ≤ maxLen) (hw3 : ∀ x ∈ l1, (Lit.int .u8 x).wf = true) (hT : Tb w) :
  Calls Tryz.prog 3 #[.slice A0 l0.length c0, .slice A1 l1.length c1] w fun e w' => e = .returned (.bool true) ∧ Below w.heap.size w w' :=
 lt_walk Q A0 c0 l0 A1 c1 l1 w hr0 hc0 hr1 hc1 hw0 hw1 hw2 hw3 hT
end Go.Proofs.YtgdhbkoggfaioaaGreatDoor.G
end
section
namespace Go.Proofs.YtgdhbkoggfaioaaGreatDoor.Bg
open Go.RowKit Go.Proofs.YtgdhbkoggfaioaaGreatDoor.G Go.Proofs.YtgdhbkoggfaioaaGreatDoorW.PrintWords Go.Proofs.YtgdhbkoggfaioaaGreatDoorW.PrintLast Go.Proofs.YtgdhbkoggfaioaaGreatDoorW.PrintMore
theorem w64 {x : Int} (h0 : -9223372036854775808 ≤ x) (h1 : x ≤ 9223372036854775807) : wrap64 x = x := by unfold wrap64; omega
theorem within_is' (a b c : Int) : impl_within.f a b c = some (decide (a ≥ b) && decide (a ≤ c)) := by
 unfold impl_within.f
 by_cases h : a ≥ b
 ·rw [if_pos h, decide_eq_true h, Bool.true_and]
 ·rw [if_neg h, decide_eq_false h, Bool.false_and]
end Go.Proofs.YtgdhbkoggfaioaaGreatDoor.Bg
end
section
namespace Go.Proofs.YtgdhbkoggfaioaaGreatDoor.Bg
open Go.RowKit Go.Proofs.YtgdhbkoggfaioaaGreatDoor.G Go.Proofs.YtgdhbkoggfaioaaGreatDoorW.PrintWords Go.Proofs.YtgdhbkoggfaioaaGreatDoorW.PrintLast Go.Proofs.YtgdhbkoggfaioaaGreatDoorW.PrintMore
def okP (l : List S62) : Bool := (decide ((l.length : Int) ≥ 1) && decide ((l.length : Int) ≤ 8)) && l.all parcOk
theorem areParcels_val (l : List S62) : impl_AreParcels.f l = some (okP l) := by
 unfold impl_AreParcels.f okP
 rw [List.not_any_eq_all_not]
 cases (decide ((l.length : Int) ≥ 1) && decide ((l.length : Int) ≤ 8)) with
 | true => simp
 | false => simp
theorem l1In_is (a b c : Int) : spec_l1In.f a b c = some (decide (a ≥ b) && decide (a ≤ c)) := within_is a b c
theorem bgGood_l0 (l : List S62) (hn : l.length ≤ 1000) : ∀ (d i k : Nat), i + d = l.length → d < k → spec_bgGood.l0 k l (l.length : Int) (i : Int) = some ((l.drop i).all parcOk) := by
 intro d
 induction d with
 | zero =>
  intro i k hi hk
  obtain ⟨k, rfl⟩ : ∃ m, k = m + 1 := ⟨k - 1, by omega⟩
  obtain rfl : i = l.length := by omega
  simp only [spec_bgGood.l0]
  rw [if_neg (by omega)]
  simp
 | succ d ih =>
  intro i k hi hk
  obtain ⟨k, rfl⟩ : ∃ m, k = m + 1 := ⟨k - 1, by omega⟩
  simp only [spec_bgGood.l0]
  have hx : l[i]? = some l[i] := List.getElem?_eq_getElem (by omega)
  have hrd : rd_T62 l (i : Int) = l[i] := by simp [rd_T62, List.getD, hx]
  rw [if_pos (by omega), if_pos (by omega), if_pos (by omega), hrd, l1In_is, l1In_is, w64 (by omega) (by omega), show ((i : Int) + 1) = ((i + 1 : Nat) : Int) by omega, List.drop_eq_getElem_cons (by omega), List.all_cons, Option.bind_some, Option.bind_some]
  have e : parcOk l[i] = ((decide (l[i].f0 ≥ 1) && decide (l[i].f0 ≤ 100)) && (decide (l[i].f1 ≥ 1) && decide (l[i].f1 ≤ 1000))) := rfl
  rw [e]
  cases (decide (l[i].f0 ≥ 1) && decide (l[i].f0 ≤ 100)) with
  | false => rw [if_neg (by decide)]; simp
  | true =>
   rw [if_pos rfl]
   cases (decide (l[i].f1 ≥ 1) && decide (l[i].f1 ≤ 1000)) with
   | false => rw [if_neg (by decide)]; simp
   | true => rw [if_pos rfl, ih (i + 1) k (by omega) (by omega)]; simp
theorem okP_len {l : List S62} (h : okP l = true) : 1 ≤ l.length ∧ l.length ≤ 8 := by
 unfold okP at h
 simp at h
 omega
theorem bgGood_ev (l : List S62) : Ev (fun k => spec_bgGood.f k l) (okP l) := by
 refine Ev.of (k := 1002) (fun k => spec_bgGood.mono l k) ?_
 unfold spec_bgGood.f okP
 rw [l1In_is, Option.bind_some]
 by_cases h : (decide ((l.length : Int) ≥ 1) && decide ((l.length : Int) ≤ 8)) = true
 ·rw [if_pos h, h, Bool.true_and]
  have h2 : l.length ≤ 8 := by simp at h; omega
  have := bgGood_l0 l (by omega) l.length 0 1002 (by omega) (by omega)
  simpa using this
 ·rw [if_neg h, (by simpa using h : (decide ((l.length : Int) ≥ 1) && decide ((l.length : Int) ≤ 8)) = false), Bool.false_and]
def bagOk (b : Int) : Bool := decide (b ≥ 1) && decide (b ≤ 10000)
def fits (l : List S62) (b : Int) : Bool := okP l && (bagOk b && l.all fun x => !decide (x.f1 > b))
theorem fitBag_val (l : List S62) (b : Int) : impl_fitBag.f l b = some (fits l b) := by
 unfold impl_fitBag.f fits impl_isBag.f
 rw [areParcels_val, Option.bind_some, within_is, List.not_any_eq_all_not]
 have e : (decide (b ≥ 1) && decide (b ≤ 10000)) = bagOk b := rfl
 rw [e]
 cases okP l <;> cases bagOk b <;> simp
end Go.Proofs.YtgdhbkoggfaioaaGreatDoor.Bg
end
section
namespace Go.Proofs.YtgdhbkoggfaioaaGreatDoor.Bg
open Go.RowKit Go.Proofs.YtgdhbkoggfaioaaGreatDoor.G Go.Proofs.YtgdhbkoggfaioaaGreatDoorW.PrintWords Go.Proofs.YtgdhbkoggfaioaaGreatDoorW.PrintLast Go.Proofs.YtgdhbkoggfaioaaGreatDoorW.PrintMore
theorem fits_facts {l : List S62} {b : Int} (h : fits l b = true) : 1 ≤ l.length ∧ l.length ≤ 8 ∧ 1 ≤ b ∧ b ≤ 10000 ∧ l.all parcOk = true := by
 unfold fits bagOk at h
 simp only [Bool.and_eq_true, decide_eq_true_eq] at h
 have := okP_len h.1
 have h2 := h.1
 unfold okP at h2
 exact ⟨this.1, this.2, h.2.1.1, h.2.1.2, (Bool.and_eq_true_iff.1 h2).2⟩
end Go.Proofs.YtgdhbkoggfaioaaGreatDoor.Bg
end
section
namespace Go.Proofs.YtgdhbkoggfaioaaGreatDoor.Bg
open Go.RowKit Go.Proofs.YtgdhbkoggfaioaaGreatDoor.G Go.Proofs.YtgdhbkoggfaioaaGreatDoorW.PrintWords Go.Proofs.YtgdhbkoggfaioaaGreatDoorW.PrintLast Go.Proofs.YtgdhbkoggfaioaaGreatDoorW.PrintMore
def ix (l : List Int) (n : Int) : Nat := l.findIdx fun y => decide (n = y)
theorem ix_hit {l : List Int} {n : Int} {j : Nat} (hj : j < l.length) (h : n = l[j]) (hm : ∀ (m : Nat) (h : m < l.length), m < j → n ≠ l[m]) : ix l n = j := by
 unfold ix
 rw [List.findIdx_eq hj]
 refine ⟨by simpa using h, fun m hmj => ?_⟩
 simpa using hm m (by omega) hmj
theorem ix_miss {l : List Int} {n : Int} (hm : ∀ (m : Nat) (h : m < l.length), n ≠ l[m]) : ix l n = l.length := by
 unfold ix
 rw [List.findIdx_eq_length]
 intro x hx
 obtain ⟨m, h, rfl⟩ := List.getElem_of_mem hx
 simpa using hm m h
theorem ix_le (l : List Int) (n : Int) : ix l n ≤ l.length := List.findIdx_le_length
theorem index_l0 (l : List Int) (n : Int) (hn : l.length ≤ 1000000) : ∀ (d i k : Nat), i + d = l.length → d < k → (∀ (m : Nat) (h : m < l.length), m < i → n ≠ l[m]) → slices_Index_int_int.l0 k l n (l.length : Int) (i : Int) = some (if ix l n = l.length then -1 else (ix l n : Int)) := by
 intro d
 induction d with
 | zero =>
  intro i k hi hk hm
  obtain ⟨k, rfl⟩ : ∃ m, k = m + 1 := ⟨k - 1, by omega⟩
  simp only [slices_Index_int_int.l0]
  rw [if_neg (by omega), if_pos (ix_miss fun m h => hm m h (by omega))]
 | succ d ih =>
  intro i k hi hk hm
  obtain ⟨k, rfl⟩ : ∃ m, k = m + 1 := ⟨k - 1, by omega⟩
  simp only [slices_Index_int_int.l0]
  have hx : l[i]? = some l[i] := List.getElem?_eq_getElem (by omega)
  have hrd : rd l (i : Int) = l[i] := by simp [rd, List.getD, hx]
  rw [if_pos (by omega), if_pos (by omega), if_pos (by omega), hrd, w64 (by omega) (by omega), show ((i : Int) + 1) = ((i + 1 : Nat) : Int) by omega]
  by_cases h : n = l[i]
  ·have := ix_hit (by omega) h hm
   rw [if_pos h, this, if_neg (by omega)]
  ·rw [if_neg h]
   refine ih (i + 1) k (by omega) (by omega) fun m hl hmi => ?_
   by_cases e : m = i
   ·subst e
    exact h
   ·exact hm m hl (by omega)
theorem index_k (l : List Int) (n : Int) (hn : l.length ≤ 1000000) (k : Nat) (hk : l.length < k) : slices_Index_int_int.f k l n = some (if ix l n = l.length then -1 else (ix l n : Int)) := by
 unfold slices_Index_int_int.f
 exact index_l0 l n hn l.length 0 k (by omega) hk (fun m h hm => by omega)
def nmGo (seen acc : List Int) : List Int → List Int
 | [] => acc
 | n :: t => if ix seen n = seen.length then nmGo (seen ++ [n]) (acc ++ [(ix seen n : Int)]) t else nmGo seen (acc ++ [(ix seen n : Int)]) t
theorem nmGo_len : ∀ (t seen acc : List Int), (nmGo seen acc t).length = acc.length + t.length
 | [], _, _ => rfl
 | n :: t, seen, acc => by
  unfold nmGo
  split
  ·rw [nmGo_len t]
   simp
   omega
  ·rw [nmGo_len t]
   simp
   omega
def nm (p : List Int) : List Int := nmGo [] [] p
theorem nm_len (p : List Int) : (nm p).length = p.length := by simp [nm, nmGo_len]
theorem set_at (acc : List Int) (i d : Nat) (v : Int) (h : acc.length = i) : (acc ++ List.replicate (d + 1) 0).set i v = acc ++ [v] ++ List.replicate d 0 := by
 subst h
 rw [List.set_append_right _ _ (Nat.le_refl _), Nat.sub_self, List.append_assoc]
 rfl
theorem named_l0 (p : List Int) (hp : p.length ≤ 100000) : ∀ (d i k : Nat) (seen acc : List Int), i + d = p.length → acc.length = i → seen.length ≤ i → d + p.length < k → impl_named.l0 k seen (acc ++ List.replicate d 0) p (p.length : Int) (i : Int) = some (nmGo seen acc (p.drop i)) := by
 intro d
 induction d with
 | zero =>
  intro i k seen acc hi ha hs hk
  obtain ⟨k, rfl⟩ : ∃ m, k = m + 1 := ⟨k - 1, by omega⟩
  simp only [impl_named.l0]
  rw [if_neg (by omega), List.drop_eq_nil_of_le (by omega)]
  simp [nmGo]
 | succ d ih =>
  intro i k seen acc hi ha hs hk
  obtain ⟨k, rfl⟩ : ∃ m, k = m + 1 := ⟨k - 1, by omega⟩
  simp only [impl_named.l0]
  have hx : p[i]? = some p[i] := List.getElem?_eq_getElem (by omega)
  have hrd : rd p (i : Int) = p[i] := by simp [rd, List.getD, hx]
  rw [if_pos (by omega), if_pos (by omega), if_pos (by omega), hrd, index_k seen p[i] (by omega) k (by omega), Option.bind_some, w64 (by omega) (by omega), show ((i : Int) + 1) = ((i + 1 : Nat) : Int) by omega, List.drop_eq_getElem_cons (by omega)]
  have hl : (i : Int) < ((acc ++ List.replicate (d + 1) (0 : Int)).length : Int) := by simp; omega
  by_cases h : ix seen p[i] = seen.length
  ·rw [if_pos h, if_pos (by omega), if_pos (by omega), if_pos hl, Int.toNat_natCast, set_at acc i d _ ha]
   have := ih (i + 1) k (seen ++ [p[i]]) (acc ++ [(seen.length : Int)]) (by omega) (by simp [ha]) (by simp; omega) (by omega)
   rw [this]
   simp only [nmGo]
   rw [if_pos h, h]
  ·rw [if_neg h, if_neg (by omega), if_pos hl, Int.toNat_natCast, set_at acc i d _ ha]
   have := ih (i + 1) k seen (acc ++ [(ix seen p[i] : Int)]) (by omega) (by simp [ha]) (by omega) (by omega)
   rw [this]
   simp only [nmGo]
   rw [if_neg h]
theorem named_ev (p : List Int) (hp : p.length ≤ 100000) : Ev (fun k => impl_named.f k p) (nm p) := by
 refine Ev.of (k := 2 * p.length + 1) (fun k => impl_named.mono p k) ?_
 unfold impl_named.f
 rw [if_pos (by omega), if_pos (by omega)]
 have := named_l0 p hp p.length 0 (2 * p.length + 1) [] [] (by omega) rfl (Nat.le_refl _) (by omega)
 simpa [nm] using this
theorem bgNamed_l0 (p : List Int) (hp : p.length ≤ 100000) : ∀ (d i k : Nat) (seen acc : List Int), i + d = p.length → acc.length = i → seen.length ≤ i → d * (p.length + 2) < k → spec_bgNamed.l0 k seen acc p (p.length : Int) (i : Int) = some (nmGo seen acc (p.drop i)) := by
 intro d
 induction d with
 | zero =>
  intro i k seen acc hi ha hs hk
  obtain ⟨k, rfl⟩ : ∃ m, k = m + 1 := ⟨k - 1, by omega⟩
  rw [spec_bgNamed.l0]
  rw [if_neg (by omega), List.drop_eq_nil_of_le (by omega)]
  simp [nmGo]
 | succ d ih =>
  intro i k seen acc hi ha hs hk
  rw [Nat.succ_mul] at hk
  obtain ⟨k, rfl⟩ : ∃ m, k = m + 1 := ⟨k - 1, by omega⟩
  rw [spec_bgNamed.l0]
  have hx : p[i]? = some p[i] := List.getElem?_eq_getElem (by omega)
  have hrd : rd p (i : Int) = p[i] := by simp [rd, List.getD, hx]
  rw [if_pos (by omega), if_pos (by omega), if_pos (by omega), hrd, List.drop_eq_getElem_cons (by omega)]
  have inner : ∀ (e j k : Nat), j + e = seen.length → (∀ (m : Nat) (h : m < seen.length), m < j → p[i] ≠ seen[m]) → e + 1 + d * (p.length + 2) < k → spec_bgNamed.l1 k seen acc p[i] (j : Int) p (p.length : Int) (i : Int) = some (nmGo seen acc (p[i] :: p.drop (i + 1))) := by
   intro e
   induction e with
   | zero =>
    intro j k hj hm hk
    obtain ⟨k, rfl⟩ : ∃ m, k = m + 1 := ⟨k - 1, by omega⟩
    rw [spec_bgNamed.l1]
    have h := ix_miss (l := seen) (n := p[i]) fun m h => hm m h (by omega)
    rw [if_neg (by omega), if_pos (by omega), if_pos (by omega), if_pos (by omega), w64 (by omega) (by omega), show ((i : Int) + 1) = ((i + 1 : Nat) : Int) by omega, ih (i + 1) k (seen ++ [p[i]]) (acc ++ [(j : Int)]) (by omega) (by simp [ha]) (by simp; omega) (by omega)]
    simp only [nmGo]
    rw [if_pos h, h, show j = seen.length by omega]
   | succ e ihe =>
    intro j k hj hm hk
    obtain ⟨k, rfl⟩ : ∃ m, k = m + 1 := ⟨k - 1, by omega⟩
    rw [spec_bgNamed.l1]
    have hy : seen[j]? = some seen[j] := List.getElem?_eq_getElem (by omega)
    have hrj : rd seen (j : Int) = seen[j] := by simp [rd, List.getD, hy]
    rw [if_pos (by omega), if_pos (by omega), hrj]
    by_cases h : seen[j] = p[i]
    ·have hix := ix_hit (by omega) h.symm hm
     rw [if_pos h, if_neg (by omega), if_pos (by omega), w64 (by omega) (by omega), show ((i : Int) + 1) = ((i + 1 : Nat) : Int) by omega, ih (i + 1) k seen (acc ++ [(j : Int)]) (by omega) (by simp [ha]) (by omega) (by omega)]
     simp only [nmGo]
     rw [hix, if_neg (by omega)]
    ·rw [if_neg h, w64 (by omega) (by omega), show ((j : Int) + 1) = ((j + 1 : Nat) : Int) by omega]
     refine ihe (j + 1) k (by omega) (fun m hl hmi => ?_) (by omega)
     by_cases e : m = j
     ·subst e
      exact fun h' => h h'.symm
     ·exact hm m hl (by omega)
  exact inner seen.length 0 k (by omega) (fun m h hm => by omega) (by omega)
theorem bgNamed_ev (p : List Int) (hp : p.length ≤ 100000) : Ev (fun k => spec_bgNamed.f k p) (nm p) := by
 refine Ev.of (k := p.length * (p.length + 2) + 1) (fun k => spec_bgNamed.mono p k) ?_
 unfold spec_bgNamed.f
 have := bgNamed_l0 p hp p.length 0 (p.length * (p.length + 2) + 1) [] [] (by omega) rfl (Nat.le_refl _) (by omega)
 simpa [nm] using this
end Go.Proofs.YtgdhbkoggfaioaaGreatDoor.Bg
end
section
namespace Go.Proofs.YtgdhbkoggfaioaaGreatDoor.Bg
open Go.RowKit Go.Proofs.YtgdhbkoggfaioaaGreatDoor.G Go.Proofs.YtgdhbkoggfaioaaGreatDoorW.PrintWords Go.Proofs.YtgdhbkoggfaioaaGreatDoorW.PrintLast Go.Proofs.YtgdhbkoggfaioaaGreatDoorW.PrintMore
theorem allWithin_l0 (l : List Int) (b c : Int) (hn : l.length ≤ 1000) : ∀ (d i k : Nat), i + d = l.length → d < k → impl_allWithin.l0 k b c l (l.length : Int) (i : Int) = some ((l.drop i).all fun x => decide (x ≥ b) && decide (x ≤ c)) ∧ spec_l1All.l0 k b c l (l.length : Int) (i : Int) = some ((l.drop i).all fun x => decide (x ≥ b) && decide (x ≤ c)) := by
 intro d
 induction d with
 | zero =>
  intro i k hi hk
  obtain ⟨k, rfl⟩ : ∃ m, k = m + 1 := ⟨k - 1, by omega⟩
  obtain rfl : i = l.length := by omega
  simp only [impl_allWithin.l0, spec_l1All.l0]
  rw [if_neg (by omega), if_neg (by omega)]
  simp
 | succ d ih =>
  intro i k hi hk
  obtain ⟨k, rfl⟩ : ∃ m, k = m + 1 := ⟨k - 1, by omega⟩
  simp only [impl_allWithin.l0, spec_l1All.l0]
  have hx : l[i]? = some l[i] := List.getElem?_eq_getElem (by omega)
  have hrd : rd l (i : Int) = l[i] := by simp [rd, List.getD, hx]
  have e1 : impl_within.f l[i] b c = some (decide (l[i] ≥ b) && decide (l[i] ≤ c)) := within_is' _ _ _
  have e2 : spec_l1In.f l[i] b c = some (decide (l[i] ≥ b) && decide (l[i] ≤ c)) := within_is' _ _ _
  have hd := List.drop_eq_getElem_cons (l := l) (i := i) (by omega)
  have hi1 := ih (i + 1) k (by omega) (by omega)
  rw [hrd, e1, e2, Option.bind_some, Option.bind_some, w64 (by omega) (by omega), show ((i : Int) + 1) = ((i + 1 : Nat) : Int) by omega, hi1.1, hi1.2, hd, List.all_cons]
  have c1 : (i : Int) < (l.length : Int) := by omega
  have c2 : 0 ≤ (i : Int) := by omega
  cases (decide (l[i] ≥ b) && decide (l[i] ≤ c)) <;> simp [c1, c2]
def okL (l : List Int) (b : Int) : Bool := (decide ((l.length : Int) ≥ 1) && decide ((l.length : Int) ≤ 100)) && ((l.all fun x => decide (x ≥ 0) && decide (x ≤ 1000)) && (decide (b ≥ 1) && decide (b ≤ 10000)))
theorem okL_len {l : List Int} {b : Int} (h : okL l b = true) : l.length ≤ 100 ∧ (∀ x ∈ l, 0 ≤ x ∧ x ≤ 1000) ∧ 1 ≤ b ∧ b ≤ 10000 := by
 unfold okL at h
 simp at h
 obtain ⟨⟨_, h2⟩, h3, h4, h5⟩ := h
 exact ⟨by omega, h3, h4, h5⟩
theorem bgPost_val (l : List Int) (b : Int) (k : Nat) (hk : 1001 < k) : spec_bgPost.f k l b = some (okL l b) := by
 unfold spec_bgPost.f okL
 have e2 : spec_l1In.f (l.length : Int) 1 100 = some (decide ((l.length : Int) ≥ 1) && decide ((l.length : Int) ≤ 100)) := within_is' _ _ _
 have e3 : spec_l1In.f b 1 10000 = some (decide (b ≥ 1) && decide (b ≤ 10000)) := within_is' _ _ _
 rw [e2, Option.bind_some]
 cases h : (decide ((l.length : Int) ≥ 1) && decide ((l.length : Int) ≤ 100)) with
 | false => simp
 | true =>
  have hl : l.length ≤ 100 := by simp at h; omega
  have := (allWithin_l0 l 0 1000 (by omega) l.length 0 k (by omega) (by omega)).2
  have h4 : spec_l1All.f k l 0 1000 = some (l.all fun x => decide (x ≥ 0) && decide (x ≤ 1000)) := by
   unfold spec_l1All.f
   simpa using this
  rw [if_pos rfl, h4, Option.bind_some, e3, Bool.true_and]
  cases (l.all fun x => decide (x ≥ 0) && decide (x ≤ 1000)) <;> simp
theorem areLetters_val (l : List Int) (k : Nat) (hk : 1001 < k) : impl_areLetters.f k l = some ((decide ((l.length : Int) ≥ 1) && decide ((l.length : Int) ≤ 100)) && (l.all fun x => decide (x ≥ 0) && decide (x ≤ 1000))) := by
 unfold impl_areLetters.f
 have e2 : impl_within.f (l.length : Int) 1 100 = some (decide ((l.length : Int) ≥ 1) && decide ((l.length : Int) ≤ 100)) := within_is' _ _ _
 rw [e2, Option.bind_some]
 cases h : (decide ((l.length : Int) ≥ 1) && decide ((l.length : Int) ≤ 100)) with
 | false => simp
 | true =>
  have hl : l.length ≤ 100 := by simp at h; omega
  have := (allWithin_l0 l 0 1000 (by omega) l.length 0 k (by omega) (by omega)).1
  have h4 : impl_allWithin.f k l 0 1000 = some (l.all fun x => decide (x ≥ 0) && decide (x ≤ 1000)) := by
   unfold impl_allWithin.f
   simpa using this
  rw [if_pos rfl, h4, Option.bind_some, Bool.true_and]
theorem letters_both (l : List Int) (b : Int) (hn : l.length ≤ 100) (hb : 1 ≤ b ∧ b ≤ 10000) (hl : ∀ x ∈ l, 0 ≤ x ∧ x ≤ 1000) : ∀ (h : Nat) (acc : List Int) (room : Int), h ≤ l.length → acc.length ≤ (l.length - h) * 1001 → 0 ≤ room → room ≤ 10000 → ∃ v : List Int, v.length ≤ l.length * 1001 ∧ (∀ k, h * 1003 < k → impl_lettersTrips.l0 k l b acc room (h : Int) = some v) ∧ ∀ k, h * 1003 < k → spec_bgLetters.l0 k l b acc room ((h : Int) - 1) = some v := by
 intro h
 induction h with
 | zero =>
  intro acc room _ ha _ _
  refine ⟨acc, by omega, fun k hk => ?_, fun k hk => ?_⟩
  ·obtain ⟨k, rfl⟩ : ∃ m, k = m + 1 := ⟨k - 1, by omega⟩
   rw [impl_lettersTrips.l0, if_neg (by omega)]
  ·obtain ⟨k, rfl⟩ : ∃ m, k = m + 1 := ⟨k - 1, by omega⟩
   rw [spec_bgLetters.l0, if_neg (by omega)]
 | succ h ih =>
  intro acc room hh ha hr0 hr1
  have hx : l[h]? = some l[h] := List.getElem?_eq_getElem (by omega)
  have hrd : rd l (h : Int) = l[h] := by simp [rd, List.getD, hx]
  have hxl := hl l[h] (List.getElem_mem (by omega))
  have inner : ∀ (m : Nat) (acc : List Int) (room left : Int), left.toNat ≤ m → 0 ≤ left → left ≤ 1000 → 0 ≤ room → room ≤ 10000 → (room ≥ 1 ∨ left.toNat + 1 ≤ m) → acc.length + m ≤ (l.length - h) * 1001 → ∃ v : List Int, v.length ≤ l.length * 1001 ∧ (∀ k, m + 1 + h * 1003 < k → impl_lettersTrips.l1 k l b acc room ((h + 1 : Nat) : Int) left = some v) ∧ ∀ k, m + 1 + h * 1003 < k → spec_bgLetters.l1 k l b acc room (h : Int) left = some v := by
   intro m
   induction m with
   | zero =>
    intro acc room left hm h0 h1 r0 r1 hor hlen
    obtain ⟨v, hv, e1, e2⟩ := ih acc (room - left) (by omega) (by omega) (by omega) (by omega)
    refine ⟨v, hv, fun k hk => ?_, fun k hk => ?_⟩
    ·obtain ⟨k, rfl⟩ : ∃ m, k = m + 1 := ⟨k - 1, by omega⟩
     rw [impl_lettersTrips.l1, if_neg (by omega), w64 (by omega) (by omega), w64 (by omega) (by omega), show ((h + 1 : Nat) : Int) - 1 = (h : Int) by omega]
     exact e1 k (by omega)
    ·obtain ⟨k, rfl⟩ : ∃ m, k = m + 1 := ⟨k - 1, by omega⟩
     rw [spec_bgLetters.l1, if_neg (by omega), w64 (by omega) (by omega), w64 (by omega) (by omega)]
     exact e2 k (by omega)
   | succ m ihm =>
    intro acc room left hm h0 h1 r0 r1 hor hlen
    by_cases hgt : left > room
    ·obtain ⟨v, hv, e1, e2⟩ := ihm (acc ++ [((h + 1 : Nat) : Int)]) b (left - room) (by omega) (by omega) (by omega) (by omega) (by omega) (by omega) (by simp; omega)
     refine ⟨v, hv, fun k hk => ?_, fun k hk => ?_⟩
     ·obtain ⟨k, rfl⟩ : ∃ m, k = m + 1 := ⟨k - 1, by omega⟩
      rw [impl_lettersTrips.l1, if_pos hgt, if_pos (by have : (l.length - h) * 1001 ≤ 100 * 1001 := Nat.mul_le_mul_right _ (by omega); omega), w64 (by omega) (by omega)]
      exact e1 k (by omega)
     ·obtain ⟨k, rfl⟩ : ∃ m, k = m + 1 := ⟨k - 1, by omega⟩
      rw [spec_bgLetters.l1, if_pos hgt, if_pos (by have : (l.length - h) * 1001 ≤ 100 * 1001 := Nat.mul_le_mul_right _ (by omega); omega), w64 (by omega) (by omega), w64 (by omega) (by omega), show ((h : Int) + 1) = ((h + 1 : Nat) : Int) by omega]
      exact e2 k (by omega)
    ·obtain ⟨v, hv, e1, e2⟩ := ih acc (room - left) (by omega) (by omega) (by omega) (by omega)
     refine ⟨v, hv, fun k hk => ?_, fun k hk => ?_⟩
     ·obtain ⟨k, rfl⟩ : ∃ m, k = m + 1 := ⟨k - 1, by omega⟩
      rw [impl_lettersTrips.l1, if_neg hgt, w64 (by omega) (by omega), w64 (by omega) (by omega), show ((h + 1 : Nat) : Int) - 1 = (h : Int) by omega]
      exact e1 k (by omega)
     ·obtain ⟨k, rfl⟩ : ∃ m, k = m + 1 := ⟨k - 1, by omega⟩
      rw [spec_bgLetters.l1, if_neg hgt, w64 (by omega) (by omega), w64 (by omega) (by omega)]
      exact e2 k (by omega)
  have e3 : (l.length - h) * 1001 = (l.length - (h + 1)) * 1001 + 1001 := by
   rw [← Nat.succ_mul]
   congr 1
   omega
  obtain ⟨v, hv, e1, e2⟩ := inner 1001 acc room l[h] (by omega) hxl.1 hxl.2 hr0 hr1 (by omega) (by omega)
  refine ⟨v, hv, fun k hk => ?_, fun k hk => ?_⟩
  ·obtain ⟨k, rfl⟩ : ∃ m, k = m + 1 := ⟨k - 1, by omega⟩
   rw [impl_lettersTrips.l0, w64 (by omega) (by omega), show ((h + 1 : Nat) : Int) - 1 = (h : Int) by omega, hrd, if_pos (by omega), if_pos (by omega), if_pos (by omega)]
   exact e1 k (by omega)
  ·obtain ⟨k, rfl⟩ : ∃ m, k = m + 1 := ⟨k - 1, by omega⟩
   rw [spec_bgLetters.l0, show ((h + 1 : Nat) : Int) - 1 = (h : Int) by omega, hrd, if_pos (by omega), if_pos (by omega), if_pos (by omega)]
   exact e2 k (by omega)
theorem lettersTrips_both (l : List Int) (b : Int) (h : okL l b = true) : ∃ v : List Int, v.length ≤ 200000 ∧ Ev (fun k => impl_lettersTrips.f k l b) v ∧ Ev (fun k => spec_bgLetters.f k l b) v := by
 obtain ⟨hn, hl, hb⟩ := okL_len h
 obtain ⟨v, hv, e1, e2⟩ := letters_both l b hn hb hl l.length [] 0 (Nat.le_refl _) (by simp) (by omega) (by omega)
 refine ⟨v, by have : l.length * 1001 ≤ 100 * 1001 := Nat.mul_le_mul_right _ hn; omega, ⟨l.length * 1003 + 1, fun k hk => ?_⟩, ⟨l.length * 1003 + 1, fun k hk => ?_⟩⟩
 ·exact e1 k (by omega)
 ·show spec_bgLetters.f k l b = some v
  unfold spec_bgLetters.f
  rw [w64 (by omega) (by omega)]
  exact e2 k (by omega)
theorem sums_l0 (l : List Int) (hn : l.length ≤ 1000000) : ∀ (d i : Nat) (s u : Int), i + d = l.length → wrap64 (2 * s) = u → ∃ t, (∀ k, d < k → impl_sumOf.l0 k s l (l.length : Int) (i : Int) = some t) ∧ ∀ k, d < k → spec_LettersLength.l0 k u l (l.length : Int) (i : Int) = some (wrap64 (2 * t), true) := by
 intro d
 induction d with
 | zero =>
  intro i s u hi hu
  refine ⟨s, fun k hk => ?_, fun k hk => ?_⟩
  ·obtain ⟨k, rfl⟩ : ∃ m, k = m + 1 := ⟨k - 1, by omega⟩
   simp only [impl_sumOf.l0]
   rw [if_neg (by omega)]
  ·obtain ⟨k, rfl⟩ : ∃ m, k = m + 1 := ⟨k - 1, by omega⟩
   simp only [spec_LettersLength.l0]
   rw [if_neg (by omega), hu]
 | succ d ih =>
  intro i s u hi hu
  obtain ⟨t, h1, h2⟩ := ih (i + 1) (wrap64 (s + rd l (i : Int))) (wrap64 (u + wrap64 (2 * rd l (i : Int)))) (by omega) (by rw [← hu]; unfold wrap64; omega)
  refine ⟨t, fun k hk => ?_, fun k hk => ?_⟩
  ·obtain ⟨k, rfl⟩ : ∃ m, k = m + 1 := ⟨k - 1, by omega⟩
   simp only [impl_sumOf.l0]
   rw [if_pos (by omega), if_pos (by omega), if_pos (by omega), w64 (x := (i : Int) + 1) (by omega) (by omega), show ((i : Int) + 1) = ((i + 1 : Nat) : Int) by omega]
   exact h1 k (by omega)
  ·obtain ⟨k, rfl⟩ : ∃ m, k = m + 1 := ⟨k - 1, by omega⟩
   simp only [spec_LettersLength.l0]
   rw [if_pos (by omega), if_pos (by omega), if_pos (by omega), w64 (x := (i : Int) + 1) (by omega) (by omega), show ((i : Int) + 1) = ((i + 1 : Nat) : Int) by omega]
   exact h2 k (by omega)
end Go.Proofs.YtgdhbkoggfaioaaGreatDoor.Bg
end
