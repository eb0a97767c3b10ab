/- Texts of this seat's proofs: contracts of its functions and plain laws about them, with no condition beyond those that each theorem states. -/
import Derived.Test.YtmninaoedoonbaaQ5865e9cb
import Derived.Test.YtmninaoedoonbaaQ4ea981c7
set_option maxHeartbeats 8000000
set_option maxRecDepth 100000
section
namespace Go.Proofs.Ytmninaoedoonbaa.G
open Go.RowKit Go.Proofs.YtmninaoedoonbaaW.PrintWords Go.Proofs.YtmninaoedoonbaaW.PrintLast Go.Proofs.YtmninaoedoonbaaW.PrintMore
attribute [local go_sem] max2_int min2_int max_two min_two max_three min_three max_four min_four
set_option linter.unusedVariables false
set_option linter.unusedSimpArgs false
mutual
def spec_bgOrder.l0 : Nat → List (S45) → Bool → List Int → List (S45) → Int → Int → Option (List Int)
 | 0, _, _, _, _, _, _ => none
 | k + 1, x0, x1, x5, x10, x11, x12 => if x12 < x11 then (if 0 ≤ x12 then (if x12 < (x10.length : Int) then (spec_bgOrder.l1 k x0 x1 x5 x12 (x5.length : Int) x10 x11 x12 ((rd_T45 x10 x12).f0) ((rd_T45 x10 x12).f1)) else (none)) else (none)) else (some x5)
def spec_bgOrder.l1 : Nat → List (S45) → Bool → List Int → Int → Int → List (S45) → Int → Int → Int → Int → Option (List Int)
 | 0, _, _, _, _, _, _, _, _, _, _ => none
 | k + 1, x0, x1, x5, x6, x8, x10, x11, x12, x103000, x103001 => if x1 = true then (if x8 > 0 then (if 0 ≤ (wrap64 (x8 - 1)) then (if (wrap64 (x8 - 1)) < (x5.length : Int) then (if 0 ≤ (rd x5 (wrap64 (x8 - 1))) then (if (rd x5 (wrap64 (x8 - 1))) < (x0.length : Int) then (if ((rd_T45 x0 (rd x5 (wrap64 (x8 - 1)))).f0) < x103000 then (spec_bgOrder.l1 k x0 x1 x5 x6 (wrap64 (x8 - 1)) x10 x11 x12 x103000 x103001) else (if 0 ≤ x8 then (if x8 ≤ (x5.length : Int) then ((spec_l1Own.f (x5.take (x8 : Int).toNat)).bind fun t109 => (if t109.length < 17592186044416 then ((some (t109 ++ [x6] : List Int)).bind fun y112 => ((some (x5.drop (x8 : Int).toNat : List Int)).bind fun y115 => (if y112.length + y115.length < 17592186044416 then (spec_bgOrder.l0 k x0 x1 (y112 ++ y115) x10 x11 (wrap64 (x12 + 1))) else (none)))) else (none))) else (none)) else (none))) else (none)) else (none)) else (none)) else (none)) else (if 0 ≤ x8 then (if x8 ≤ (x5.length : Int) then ((spec_l1Own.f (x5.take (x8 : Int).toNat)).bind fun t126 => (if t126.length < 17592186044416 then ((some (t126 ++ [x6] : List Int)).bind fun y129 => ((some (x5.drop (x8 : Int).toNat : List Int)).bind fun y132 => (if y129.length + y132.length < 17592186044416 then (spec_bgOrder.l0 k x0 x1 (y129 ++ y132) x10 x11 (wrap64 (x12 + 1))) else (none)))) else (none))) else (none)) else (none))) else (if 0 ≤ x8 then (if x8 ≤ (x5.length : Int) then ((spec_l1Own.f (x5.take (x8 : Int).toNat)).bind fun t143 => (if t143.length < 17592186044416 then ((some (t143 ++ [x6] : List Int)).bind fun y146 => ((some (x5.drop (x8 : Int).toNat : List Int)).bind fun y149 => (if y146.length + y149.length < 17592186044416 then (spec_bgOrder.l0 k x0 x1 (y146 ++ y149) x10 x11 (wrap64 (x12 + 1))) else (none)))) else (none))) else (none)) else (none))
end
def spec_bgOrder.f (k : Nat) (l0 : List (S45)) (a1 : Bool) : Option (List Int) := spec_bgOrder.l0 k l0 a1 ([] : List Int) l0 (l0.length : Int) 0
theorem spec_bgOrder.calls (k : Nat) (A0 : Option Addr) (c0 : Nat) (l0 : List (S45)) (a1 : Bool) (r : List Int) (w : World) (hr0 : Kd.C k45 w A0 l0.length l0) (hc0 : l0.length ≤ c0) (h : spec_bgOrder.f k l0 a1 = some r) :
  Calls Try.prog 50 #[.slice A0 l0.length c0, .bool a1] w fun e w' => ∃ v0_ : Value, e = .returned (v0_) ∧ Kd.R (Kd.int .i64) 3 w' w.heap.size (fun _ => True) v0_ r ∧ Below w.heap.size w w' := by
 have hu45 := Try.underlying45
 have HR0 := am hr0
 have HC0 := am hc0
 clear hr0 hc0
 have HB := am (Below.refl w.heap.size w)
 have H : (spec_bgOrder.l0 k l0 a1 ([] : List Int) l0 (l0.length : Int) 0) = some r := h
 clear h
 have H' := am H
 clear H
 go_enter Try.func50, Try.ntmps50
 go_wp2
 repeat (go_quiet (fail); try go_wp2)
 go_loopg [5, 12] k (fun kq v5 v12 w' => ∃ (x5_1 : List Int) (x12_1 : Int), v12 = .int .i64 x12_1 ∧ Aside0 (spec_bgOrder.l0 kq l0 a1 x5_1 l0 (l0.length : Int) x12_1 = some r) ∧ Aside0 (kq ≤ k) ∧ Aside0 (Kd.R (Kd.int .i64) 3 w' w.heap.size (fun _ => True) v5 x5_1) ∧ Aside0 (Below w.heap.size w w'))
 case atStart => exact ⟨(([] : List Int)), (0), (by first | rfl | (simp; done) | (simp [*]; done)), H', ⟨Nat.le_refl _⟩, ⟨uN⟩, ⟨by exact uW⟩⟩
 case round =>
  clear H'
  try clear p2
  obtain ⟨x5_1, x12_1, rfl, HA, HK1, HO_5, HB⟩ := hrel
  cases gk with
  | zero => exact absurd HA.out (by simp [spec_bgOrder.l0])
  | succ k1 =>
   have H := HA.out
   clear HA
   simp only [spec_bgOrder.l0] at H
   by_cases c3 : x12_1 < (l0.length : Int)
   ·rw [if_pos c3] at H
    have c3b0 : decide (x12_1 < (l0.length : Int)) = true := decide_eq_true c3
    clear c3
    by_cases c4 : 0 ≤ x12_1
    ·rw [if_pos c4] at H
     have c4b0 : decide (0 ≤ x12_1) = true := decide_eq_true c4
     clear c4
     by_cases c5 : x12_1 < (l0.length : Int)
     ·rw [if_pos c5] at H
      have c5b0 : decide (x12_1 < (l0.length : Int)) = true := decide_eq_true c5
      clear c5
      have H' := am H
      clear H
      have p101 : 0 ≤ (x12_1 : Int) := of_decide_eq_true (by first | (with_reducible assumption) | assumption)
      have q101 : x12_1 < (l0.length : Int) := of_decide_eq_true (by first | (with_reducible assumption) | assumption)
      obtain ⟨ad101, e101, hx101_0, hx101_1⟩ := at_T45 HR0.out x12_1 p101 q101
      cases e101
      try replace hx101_0 := (HB.out.cell (World.block_lt_of_cell? w _ hx101_0)).trans hx101_0
      try replace hx101_1 := (HB.out.cell (World.block_lt_of_cell? w _ hx101_1)).trans hx101_1
      replace p101 := eq_true p101
      replace q101 := eq_true q101
      go_wp2_with (first | ((with_reducible refine gate_dst (N := 7) rfl ?_); refine uX (N := 7) (cs := #[.int .i64 0, .int .i64 0]) (t := 45) ?_; intro gb102 hg w6 hbox hb; have BK102 := am (hbox); have GW102 := uE hg; have GE102 := GW102; replace HO_5 := am (Kd.R_below (uR HO_5) hb); replace HB := uS hb; clear hb hbox hg; obtain ⟨hcz7_0, hcz7_1, hfz7_0, hfz7_1⟩ := uZ2 BK102; obtain ⟨Ao8, co8, eo8⟩ := Kd.R_slice HO_5.out; subst eo8))
      repeat (go_quiet (first | ((with_reducible refine gate_dst (N := 7) rfl ?_); refine uX (N := 7) (cs := #[.int .i64 0, .int .i64 0]) (t := 45) ?_; intro gb102 hg w6 hbox hb; have BK102 := am (hbox); have GW102 := uE hg; have GE102 := GW102; replace HO_5 := am (Kd.R_below (uR HO_5) hb); replace HB := uS hb; clear hb hbox hg; obtain ⟨hcz7_0, hcz7_1, hfz7_0, hfz7_1⟩ := uZ2 BK102; obtain ⟨Ao8, co8, eo8⟩ := Kd.R_slice HO_5.out; subst eo8)); try go_wp2_with (first | ((with_reducible refine gate_dst (N := 7) rfl ?_); refine uX (N := 7) (cs := #[.int .i64 0, .int .i64 0]) (t := 45) ?_; intro gb102 hg w6 hbox hb; have BK102 := am (hbox); have GW102 := uE hg; have GE102 := GW102; replace HO_5 := am (Kd.R_below (uR HO_5) hb); replace HB := uS hb; clear hb hbox hg; obtain ⟨hcz7_0, hcz7_1, hfz7_0, hfz7_1⟩ := uZ2 BK102; obtain ⟨Ao8, co8, eo8⟩ := Kd.R_slice HO_5.out; subst eo8)))
      go_loopg [8] k1 (fun kq v8 w' => ∃ (x8_2 : Int), v8 = .int .i64 x8_2 ∧ Aside0 (spec_bgOrder.l1 kq l0 a1 x5_1 x12_1 x8_2 l0 (l0.length : Int) x12_1 ((rd_T45 l0 x12_1).f0) ((rd_T45 l0 x12_1).f1) = some r) ∧ Aside0 (kq ≤ k1) ∧ Aside0 (Kd.R (Kd.int .i64) 3 w' w.heap.size (fun _ => True) (.slice Ao8 x5_1.length co8) x5_1) ∧ Aside0 (w'.heap[gb102]? = some (.cells #[.int .i64 ((rd_T45 l0 x12_1).f0), .int .i64 ((rd_T45 l0 x12_1).f1)] 45 (0, 0))) ∧ Aside0 (Below w.heap.size w w'))
      case atStart => exact ⟨((x5_1.length : Int)), (by first | rfl | (simp; done) | (simp [*]; done)), H', ⟨Nat.le_refl _⟩, ⟨by (with_reducible repeat (first | apply rA | apply rN | apply rD)); exact Kd.R_mono (Kd.R_far (p := ⟨gb102, 1, none⟩) (Kd.R_far (p := ⟨gb102, 0, none⟩) (Kd.R_types HO_5.out BK102.out (by decide)) (fun _ hk => hk.2) (.int .i64 ((rd_T45 l0 x12_1).f0))) (fun _ hk => hk.2) (.int .i64 ((rd_T45 l0 x12_1).f1))) (fun _ hk => trivial)⟩, ⟨by refine blk_put (cs := #[.int .i64 ((rd_T45 l0 x12_1).f0), .int .i64 0]) ?_ 1 _ rfl; refine blk_put (cs := #[.int .i64 0, .int .i64 0]) ?_ 0 _ rfl; exact (uP BK102)⟩, ⟨by exact uW⟩⟩
      case round =>
       clear H'
       try clear p1
       try clear q1
       try clear hx1
       try clear p2
       try clear c3
       try clear c3b0
       try clear c4
       try clear c4b0
       try clear c5
       try clear c5b0
       try clear hcz7_0
       try clear hcz7_1
       try clear hfz7_0
       try clear hfz7_1
       try clear hx101_0
       try clear hx101_1
       try clear p101
       try clear p2
       try clear q101
       obtain ⟨x8_2, rfl, HA, HK2, HO_5, BK102, HB⟩ := hrel
       cases gk with
       | zero => exact absurd HA.out (by simp [spec_bgOrder.l1])
       | succ k2 =>
        have H := HA.out
        clear HA
        simp only [spec_bgOrder.l1] at H
        by_cases c9 : a1 = true
        ·subst c9
         have H1 : (if x8_2 > 0 then (if 0 ≤ (wrap64 (x8_2 - 1)) then (if (wrap64 (x8_2 - 1)) < (x5_1.length : Int) then (if 0 ≤ (rd x5_1 (wrap64 (x8_2 - 1))) then (if (rd x5_1 (wrap64 (x8_2 - 1))) < (l0.length : Int) then (if ((rd_T45 l0 (rd x5_1 (wrap64 (x8_2 - 1)))).f0) < ((rd_T45 l0 x12_1).f0) then (spec_bgOrder.l1 k2 l0 true x5_1 x12_1 (wrap64 (x8_2 - 1)) l0 (l0.length : Int) x12_1 ((rd_T45 l0 x12_1).f0) ((rd_T45 l0 x12_1).f1)) else (if 0 ≤ x8_2 then (if x8_2 ≤ (x5_1.length : Int) then ((spec_l1Own.f (x5_1.take (x8_2 : Int).toNat)).bind fun t109 => (if t109.length < 17592186044416 then ((some (t109 ++ [x12_1] : List Int)).bind fun y112 => ((some (x5_1.drop (x8_2 : Int).toNat : List Int)).bind fun y115 => (if y112.length + y115.length < 17592186044416 then (spec_bgOrder.l0 k2 l0 true (y112 ++ y115) l0 (l0.length : Int) (wrap64 (x12_1 + 1))) else (none)))) else (none))) else (none)) else (none))) else (none)) else (none)) else (none)) else (none)) else (if 0 ≤ x8_2 then (if x8_2 ≤ (x5_1.length : Int) then ((spec_l1Own.f (x5_1.take (x8_2 : Int).toNat)).bind fun t126 => (if t126.length < 17592186044416 then ((some (t126 ++ [x12_1] : List Int)).bind fun y129 => ((some (x5_1.drop (x8_2 : Int).toNat : List Int)).bind fun y132 => (if y129.length + y132.length < 17592186044416 then (spec_bgOrder.l0 k2 l0 true (y129 ++ y132) l0 (l0.length : Int) (wrap64 (x12_1 + 1))) else (none)))) else (none))) else (none)) else (none))) = some r := by rw [if_pos rfl] at H; exact H
         clear H
         have H := H1
         clear H1
         by_cases c10 : x8_2 > 0
         ·rw [if_pos c10] at H
          have c10b0 : decide (0 < x8_2) = true := decide_eq_true c10
          clear c10
          obtain ⟨ji11, hji11⟩ : ∃ j_ : Int, (wrap64 (x8_2 - 1)) = j_ := ⟨_, rfl⟩
          replace H : (if 0 ≤ (ji11) then (if (ji11) < (x5_1.length : Int) then (if 0 ≤ (rd x5_1 (ji11)) then (if (rd x5_1 (ji11)) < (l0.length : Int) then (if ((rd_T45 l0 (rd x5_1 (ji11))).f0) < ((rd_T45 l0 x12_1).f0) then (spec_bgOrder.l1 k2 l0 true x5_1 x12_1 ji11 l0 (l0.length : Int) x12_1 ((rd_T45 l0 x12_1).f0) ((rd_T45 l0 x12_1).f1)) else (if 0 ≤ x8_2 then (if x8_2 ≤ (x5_1.length : Int) then ((spec_l1Own.f (x5_1.take (x8_2 : Int).toNat)).bind fun t109 => (if t109.length < 17592186044416 then ((some (t109 ++ [x12_1] : List Int)).bind fun y112 => ((some (x5_1.drop (x8_2 : Int).toNat : List Int)).bind fun y115 => (if y112.length + y115.length < 17592186044416 then (spec_bgOrder.l0 k2 l0 true (y112 ++ y115) l0 (l0.length : Int) (wrap64 (x12_1 + 1))) else (none)))) else (none))) else (none)) else (none))) else (none)) else (none)) else (none)) else (none)) = some r := by first | (rw [hji11] at H; exact H) | (simp only [hji11] at H ⊢; exact H)
          have hji11w : (IntKind.i64.wrap (x8_2 - 1)) = ji11 := (i64_w _).trans hji11
          by_cases c12 : 0 ≤ (ji11)
          ·rw [if_pos c12] at H
           have c12b0 : decide (0 ≤ (ji11)) = true := decide_eq_true c12
           clear c12
           by_cases c13 : (ji11) < (x5_1.length : Int)
           ·rw [if_pos c13] at H
            have c13b0 : decide ((ji11) < (x5_1.length : Int)) = true := decide_eq_true c13
            clear c13
            by_cases c14 : 0 ≤ (rd x5_1 (ji11))
            ·rw [if_pos c14] at H
             have c14b0 : decide (0 ≤ (rd x5_1 (ji11))) = true := decide_eq_true c14
             clear c14
             by_cases c15 : (rd x5_1 (ji11)) < (l0.length : Int)
             ·rw [if_pos c15] at H
              have c15b0 : decide ((rd x5_1 (ji11)) < (l0.length : Int)) = true := decide_eq_true c15
              clear c15
              by_cases c16 : ((rd_T45 l0 (rd x5_1 (ji11))).f0) < ((rd_T45 l0 x12_1).f0)
              ·rw [if_pos c16] at H
               have c16b0 : decide (((rd_T45 l0 (rd x5_1 (ji11))).f0) < ((rd_T45 l0 x12_1).f0)) = true := decide_eq_true c16
               clear c16
               have H' := am H
               clear H
               have p103 : 0 ≤ ((ji11) : Int) := of_decide_eq_true (by first | (with_reducible assumption) | assumption)
               have q103 : (ji11) < (x5_1.length : Int) := of_decide_eq_true (by first | (with_reducible assumption) | assumption)
               obtain ⟨ad103, e103, hx103_0⟩ := Kd.at_int (Kd.R_reads' HO_5.out).2.2 (ji11) p103 q103
               cases e103
               replace p103 := eq_true p103
               replace q103 := eq_true q103
               have p104 : 0 ≤ ((rd x5_1 (ji11)) : Int) := of_decide_eq_true (by first | (with_reducible assumption) | assumption)
               have q104 : (rd x5_1 (ji11)) < (l0.length : Int) := of_decide_eq_true (by first | (with_reducible assumption) | assumption)
               obtain ⟨ad104, e104, hx104_0, hx104_1⟩ := at_T45 HR0.out (rd x5_1 (ji11)) p104 q104
               obtain rfl : ad101 = ad104 := (by injection e104)
               try replace hx104_0 := (HB.out.cell (World.block_lt_of_cell? w _ hx104_0)).trans hx104_0
               try replace hx104_1 := (HB.out.cell (World.block_lt_of_cell? w _ hx104_1)).trans hx104_1
               replace p104 := eq_true p104
               replace q104 := eq_true q104
               obtain ⟨hcz17_0, hcz17_1, hfz17_0, hfz17_1⟩ := uZ2 BK102
               go_wp2
               repeat (go_quiet (fail); try go_wp2)
               go_roundg k2
               case measure => have := HK1.out; have := HK2.out; omega
               case rel => exact ⟨(ji11), (by first | rfl | (simp; done) | (simp only [← hji11] <;> (first | rfl | simp)) | (simp [*]; done)), H', ⟨by have := HK1.out; have := HK2.out; omega⟩, ⟨by (with_reducible repeat (first | apply rA | apply rN | apply rD)); exact HO_5.out⟩, ⟨by (with_reducible repeat (first | refine bN ?_ _ | refine bD ?_ | refine bA ?_ _)); exact BK102.out⟩, ⟨by exact uW⟩⟩
              ·rw [if_neg c16] at H
               have c16b0 : decide (((rd_T45 l0 (rd x5_1 (ji11))).f0) < ((rd_T45 l0 x12_1).f0)) = false := decide_eq_false c16
               clear c16
               by_cases c18 : 0 ≤ x8_2
               ·rw [if_pos c18] at H
                have c18b0 := eq_true c18
                have c18b1 : decide (0 ≤ x8_2) = true := decide_eq_true c18
                clear c18
                by_cases c19 : x8_2 ≤ (x5_1.length : Int)
                ·rw [if_pos c19] at H
                 have c19b0 := eq_true c19
                 have c19b1 : decide (x8_2 ≤ (x5_1.length : Int)) = true := decide_eq_true c19
                 clear c19
                 obtain ⟨y105, hy105⟩ : ∃ y_ : List Int, y_ = (x5_1.take (x8_2 : Int).toNat) := ⟨_, rfl⟩
                 replace H : ((spec_l1Own.f y105).bind fun t109 => (if t109.length < 17592186044416 then ((some (t109 ++ [x12_1] : List Int)).bind fun y112 => ((some (x5_1.drop (x8_2 : Int).toNat : List Int)).bind fun y115 => (if y112.length + y115.length < 17592186044416 then (spec_bgOrder.l0 k2 l0 true (y112 ++ y115) l0 (l0.length : Int) (wrap64 (x12_1 + 1))) else (none)))) else (none))) = some r := by first | (rw [hy105]; with_reducible exact H) | (have H2_ := (Option.bind_some _ _).symm.trans H; rw [hy105]; with_reducible exact H2_) | (have H2_ := (Option.bind_some _ _).symm.trans H; with_reducible exact H2_) | with_reducible exact H | (rw [hy105]; exact H) | exact H
                 have Ny105 := am hy105
                 clear hy105
                 replace H := bH H
                 obtain ⟨t109, A200, H⟩ := H
                 replace H : (if t109.length < 17592186044416 then ((some (t109 ++ [x12_1] : List Int)).bind fun y112 => ((some (x5_1.drop (x8_2 : Int).toNat : List Int)).bind fun y115 => (if y112.length + y115.length < 17592186044416 then (spec_bgOrder.l0 k2 l0 true (y112 ++ y115) l0 (l0.length : Int) (wrap64 (x12_1 + 1))) else (none)))) else (none)) = some r := H
                 have A20 := am A200
                 clear A200
                 by_cases c21 : t109.length < 17592186044416
                 ·rw [if_pos c21] at H
                  have LMc21 := am c21
                  clear c21
                  obtain ⟨y112, hy112⟩ : ∃ y_ : List Int, y_ = (t109 ++ [x12_1]) := ⟨_, rfl⟩
                  replace H : ((some (x5_1.drop (x8_2 : Int).toNat : List Int)).bind fun y115 => (if y112.length + y115.length < 17592186044416 then (spec_bgOrder.l0 k2 l0 true (y112 ++ y115) l0 (l0.length : Int) (wrap64 (x12_1 + 1))) else (none))) = some r := by first | (rw [hy112]; with_reducible exact H) | (have H2_ := (Option.bind_some _ _).symm.trans H; rw [hy112]; with_reducible exact H2_) | (have H2_ := (Option.bind_some _ _).symm.trans H; with_reducible exact H2_) | with_reducible exact H | (rw [hy112]; exact H) | exact H
                  have Ny112 := am hy112
                  clear hy112
                  have c22b0 := eq_true (of_decide_eq_true (by first | (with_reducible assumption) | assumption) : 0 ≤ x8_2)
                  have c23b0 := eq_true (of_decide_eq_true (by first | (with_reducible assumption) | assumption) : x8_2 ≤ (x5_1.length : Int))
                  obtain ⟨y115, hy115⟩ : ∃ y_ : List Int, y_ = (x5_1.drop (x8_2 : Int).toNat) := ⟨_, rfl⟩
                  replace H : (if y112.length + y115.length < 17592186044416 then (spec_bgOrder.l0 k2 l0 true (y112 ++ y115) l0 (l0.length : Int) (wrap64 (x12_1 + 1))) else (none)) = some r := by first | (rw [hy115]; with_reducible exact H) | (have H2_ := (Option.bind_some _ _).symm.trans H; rw [hy115]; with_reducible exact H2_) | (have H2_ := (Option.bind_some _ _).symm.trans H; with_reducible exact H2_) | with_reducible exact H | (rw [hy115]; exact H) | exact H
                  have Ny115 := am hy115
                  clear hy115
                  by_cases c24 : y112.length + y115.length < 17592186044416
                  ·rw [if_pos c24] at H
                   have LMc24 := am c24
                   clear c24
                   obtain ⟨y119, hy119⟩ : ∃ y_ : List Int, y_ = (y112 ++ y115) := ⟨_, rfl⟩
                   replace H : (spec_bgOrder.l0 k2 l0 true y119 l0 (l0.length : Int) (wrap64 (x12_1 + 1))) = some r := by first | (rw [hy119]; with_reducible exact H) | (have H2_ := (Option.bind_some _ _).symm.trans H; rw [hy119]; with_reducible exact H2_) | (have H2_ := (Option.bind_some _ _).symm.trans H; with_reducible exact H2_) | with_reducible exact H | (rw [hy119]; exact H) | exact H
                   have Ny119 := am hy119
                   clear hy119
                   have H' := am H
                   clear H
                   have p103 : 0 ≤ ((ji11) : Int) := of_decide_eq_true (by first | (with_reducible assumption) | assumption)
                   have q103 : (ji11) < (x5_1.length : Int) := of_decide_eq_true (by first | (with_reducible assumption) | assumption)
                   obtain ⟨ad103, e103, hx103_0⟩ := Kd.at_int (Kd.R_reads' HO_5.out).2.2 (ji11) p103 q103
                   cases e103
                   replace p103 := eq_true p103
                   replace q103 := eq_true q103
                   have p104 : 0 ≤ ((rd x5_1 (ji11)) : Int) := of_decide_eq_true (by first | (with_reducible assumption) | assumption)
                   have q104 : (rd x5_1 (ji11)) < (l0.length : Int) := of_decide_eq_true (by first | (with_reducible assumption) | assumption)
                   obtain ⟨ad104, e104, hx104_0, hx104_1⟩ := at_T45 HR0.out (rd x5_1 (ji11)) p104 q104
                   obtain rfl : ad101 = ad104 := (by injection e104)
                   try replace hx104_0 := (HB.out.cell (World.block_lt_of_cell? w _ hx104_0)).trans hx104_0
                   try replace hx104_1 := (HB.out.cell (World.block_lt_of_cell? w _ hx104_1)).trans hx104_1
                   replace p104 := eq_true p104
                   replace q104 := eq_true q104
                   obtain ⟨hcz25_0, hcz25_1, hfz25_0, hfz25_1⟩ := uZ2 BK102
                   have q26 : (x8_2 : Int) ≤ ((x5_1.length : Int) : Int) := of_decide_eq_true (by first | (with_reducible assumption) | assumption)
                   obtain ⟨i026, hi026, _, hsz26, _⟩ := info_parts info3
                   have hroom26 : x5_1.length ≤ co8 := (Kd.R_reads' HO_5.out).2.1
                   have hC26 : Kd.C (Kd.int .i64) _ (some ad103) x5_1.length x5_1 := (Kd.R_reads' HO_5.out).2.2
                   have hcut26 := cut_to (P := Try.prog) 27 3 .i64 Try.underlying27 hi026 (some ad103) x5_1.length co8 x8_2 (of_decide_eq_true (by first | (with_reducible assumption) | assumption)) q26 hroom26
                   have hr26 := Kd.C_take (m := (x8_2 : Int).toNat) hC26 (by omega)
                   have hy26 : y105.length = (x8_2 : Int).toNat := (by rw [Ny105.out, List.length_take]; omega)
                   rw [← Ny105.out] at hr26
                   rw [← hy26] at hcut26
                   have HR108 := am hr26
                   have HC108 := am (show y105.length ≤ co8 from by omega)
                   clear hr26 hC26 hroom26 hi026 hsz26
                   have KY26 := am hy26
                   clear hy26
                   have KL26 := am (show (x8_2 : Int).toNat ≤ x5_1.length from by omega)
                   replace q26 := eq_true q26
                   go_wp2_with (first | (go_at_call 82; (with_reducible refine (spec_l1Own.calls _ _ y105 t109 _ ?side1 ?side2 A20.out).mono ?_); (case side1 => repeat (first | exact (by repeat (first | (with_reducible exact HR108.out) | (with_reducible refine cA ?_ _) | (with_reducible refine cN ?_ _) | (with_reducible refine cD ?_) | exact HR108.out)) | (with_reducible refine cA ?_ _) | (with_reducible refine cN ?_ _) | (with_reducible refine cD ?_))); (case side2 => exact HC108.out); rintro e w27 ⟨v110, rfl, ho0, hb⟩; have HO111 := am (Kd.R_lower (Kd.R_new' ho0 (Kd.R_lt (uR HO_5))) (below_size uW)); replace HO_5 := am (Kd.R_elder' (uR HO_5) (Kd.R_base ho0) hb); replace BK102 := uB BK102 hb; replace HR108 := am (Kd.C_below (by repeat (first | (with_reducible exact HR108.out) | (with_reducible refine cA ?_ _) | (with_reducible refine cN ?_ _) | (with_reducible refine cD ?_) | exact HR108.out)) hb); replace HB := uS hb; (try clear hb); (try clear hb2); (try clear hk); (try clear hi); (try clear ho0)) | ((with_reducible refine gate_builtin (b := .append) (xs := #[.tmp 43, .tmp 45]) rfl ?_); at_builtin; refine Kd.R_append (Kd.int .i64) (w0 := w) w.heap.size rfl (.tmp 43) (.tmp 45) 27 3 (.int .i64 0) 8 rfl Try.underlying27 info3 rfl (by decide) (by omega) v110 t109 x12_1 [.int .i64 x12_1] (fun k_ => some k_ ≠ (.slice (some ad103) x5_1.length co8 : Value).ownBlock) (fun _ => False) rfl rfl ?aP (fun _ hk => hk.elim) ?aF ?aO ?aB ?aS ?aL ?_; (case aP => exact rfl); (case aB => exact uW); (case aF => exact (fun k_ hk => Kd.fresh' (Kd.R_lt (uR HO_5)) k_ hk)); (case aO => exact (by (with_reducible repeat (first | apply rA | apply rN | apply rD)); exact Kd.R_mono HO111.out (fun _ hk => hk.2))); (case aS => exact (below_size uW)); (case aL => have := LMc21.out; omega); intro v113 w28 ho hb hg hat; rw [← Ny112.out] at ho; have HO114 := am (ho); replace BK102 := am (blk_grown (uP BK102) hg (Kd.R_ne HO111.out BK102.out (by decide))); replace HB := am (hb); replace HR108 := am ((show Kd.C (Kd.int .i64) w28 (some ad103) y105.length y105 from by rw [Ny105.out]; exact Kd.C_take (m := (x8_2 : Int).toNat) ((Kd.R_reads' (Kd.R_after (ok := (fun _ => True)) (uR HO_5) hg hat)).2.2) KL26.out)); replace HO_5 := am (Kd.R_after (ok := (fun _ => True)) (uR HO_5) hg hat); clear HO111; clear ho hb hg hat; have q29 : (x8_2 : Int) ≤ ((x5_1.length : Int) : Int) := of_decide_eq_true (by first | (with_reducible assumption) | assumption); obtain ⟨i029, hi029, _, hsz29, _⟩ := info_parts info3; have hroom29 : x5_1.length ≤ co8 := (Kd.R_reads' HO_5.out).2.1; have hC29 : Kd.C (Kd.int .i64) _ (some ad103) x5_1.length x5_1 := (Kd.R_reads' HO_5.out).2.2; have q029 : (0 : Int) ≤ (x8_2 : Int) := of_decide_eq_true (by first | (with_reducible assumption) | assumption); have hcut29 := cut_from (P := Try.prog) 27 3 .i64 Try.underlying27 hi029 1 hsz29 (some ad103) x5_1.length co8 x8_2 q029 q29; have hr29 := Kd.C_drop (m := (x8_2 : Int).toNat) (c := co8) hC29 (by omega) hroom29; obtain ⟨A29, hA29⟩ : ∃ A1, A1 = (if co8 = (x8_2 : Int).toNat then (some ad103) else ((some ad103) : Option Addr).map (·.add ((x8_2 : Int).toNat * 1))) := ⟨_, rfl⟩; obtain ⟨c29, hc29⟩ : ∃ c1, c1 = co8 - (x8_2 : Int).toNat := ⟨_, rfl⟩; have hy29 : y115.length = x5_1.length - (x8_2 : Int).toNat := (by rw [Ny115.out, List.length_drop] <;> omega); rw [show (x5_1).drop (x8_2 : Int).toNat = y115 from Ny115.out.symm] at hr29; replace hr29 : Kd.C (Kd.int .i64) _ A29 y115.length y115 := (by rw [hA29]; exact hr29); rw [← hy29, ← hA29, ← hc29] at hcut29; have HR118 := am hr29; have HC118 := am (show y115.length ≤ c29 from by rw [hy29, hc29]; exact Nat.sub_le_sub_right hroom29 _); clear hr29 hC29 hroom29 hi029 hsz29 hc29; have KY29 := am hy29; have KA29 := am hA29; clear hy29 hA29; have KL29 := am (show (x8_2 : Int).toNat ≤ x5_1.length from by omega); replace q29 := eq_true q29) | ((with_reducible refine gate_builtin (b := .append) (xs := #[.tmp 47, .tmp 50]) rfl ?_); at_builtin; refine Kd.R_append_rows (Kd.int .i64) (w0 := w) w.heap.size rfl (.tmp 47) (.tmp 50) 27 3 (.int .i64 0) 8 rfl Try.underlying27 info3 rfl (by decide) (by omega) v113 y112 y115 _ _ _ (fun k_ => some k_ ≠ (.slice (some ad103) x5_1.length co8 : Value).ownBlock) (fun _ => False) rfl rfl ?aO ?aR (fun _ _ h => h) (fun _ h => h.elim) ?aF ?aB ?aS ?aL ?_; (case aR => repeat (first | exact (by repeat (first | (with_reducible exact HR118.out) | (with_reducible refine cA ?_ _) | (with_reducible refine cN ?_ _) | (with_reducible refine cD ?_) | exact HR118.out)) | (with_reducible refine cA ?_ _) | (with_reducible refine cN ?_ _) | (with_reducible refine cD ?_))); (case aB => exact uW); (case aF => exact (fun k_ hk => Kd.fresh' (Kd.R_lt (uR HO_5)) k_ hk)); (case aO => exact (uR HO114)); (case aS => exact (below_size uW)); (case aL => have := LMc24.out; omega); intro v120 w30 ho hb hg hat; rw [← Ny119.out] at ho; have HO121 := am (ho); replace BK102 := am (blk_grown (uP BK102) hg (Kd.R_ne HO114.out BK102.out (by decide))); replace HB := am (hb); replace HR108 := am ((show Kd.C (Kd.int .i64) w30 (some ad103) y105.length y105 from by rw [Ny105.out]; exact Kd.C_take (m := (x8_2 : Int).toNat) ((Kd.R_reads' (Kd.R_after (ok := (fun _ => True)) (uR HO_5) hg hat)).2.2) KL26.out)); replace HR118 := am ((show Kd.C (Kd.int .i64) w30 A29 y115.length y115 from by rw [Ny115.out, KA29.out]; exact Kd.C_drop (m := (x8_2 : Int).toNat) (c := co8) ((Kd.R_reads' (Kd.R_after (ok := (fun _ => True)) (uR HO_5) hg hat)).2.2) KL29.out ((Kd.R_reads' (Kd.R_after (ok := (fun _ => True)) (uR HO_5) hg hat)).2.1))); replace HO_5 := am (Kd.R_after (ok := (fun _ => True)) (uR HO_5) hg hat); clear HO114; clear ho hb hg hat))
                   repeat (go_quiet (first | (go_at_call 82; (with_reducible refine (spec_l1Own.calls _ _ y105 t109 _ ?side1 ?side2 A20.out).mono ?_); (case side1 => repeat (first | exact (by repeat (first | (with_reducible exact HR108.out) | (with_reducible refine cA ?_ _) | (with_reducible refine cN ?_ _) | (with_reducible refine cD ?_) | exact HR108.out)) | (with_reducible refine cA ?_ _) | (with_reducible refine cN ?_ _) | (with_reducible refine cD ?_))); (case side2 => exact HC108.out); rintro e w27 ⟨v110, rfl, ho0, hb⟩; have HO111 := am (Kd.R_lower (Kd.R_new' ho0 (Kd.R_lt (uR HO_5))) (below_size uW)); replace HO_5 := am (Kd.R_elder' (uR HO_5) (Kd.R_base ho0) hb); replace BK102 := uB BK102 hb; replace HR108 := am (Kd.C_below (by repeat (first | (with_reducible exact HR108.out) | (with_reducible refine cA ?_ _) | (with_reducible refine cN ?_ _) | (with_reducible refine cD ?_) | exact HR108.out)) hb); replace HB := uS hb; (try clear hb); (try clear hb2); (try clear hk); (try clear hi); (try clear ho0)) | ((with_reducible refine gate_builtin (b := .append) (xs := #[.tmp 43, .tmp 45]) rfl ?_); at_builtin; refine Kd.R_append (Kd.int .i64) (w0 := w) w.heap.size rfl (.tmp 43) (.tmp 45) 27 3 (.int .i64 0) 8 rfl Try.underlying27 info3 rfl (by decide) (by omega) v110 t109 x12_1 [.int .i64 x12_1] (fun k_ => some k_ ≠ (.slice (some ad103) x5_1.length co8 : Value).ownBlock) (fun _ => False) rfl rfl ?aP (fun _ hk => hk.elim) ?aF ?aO ?aB ?aS ?aL ?_; (case aP => exact rfl); (case aB => exact uW); (case aF => exact (fun k_ hk => Kd.fresh' (Kd.R_lt (uR HO_5)) k_ hk)); (case aO => exact (by (with_reducible repeat (first | apply rA | apply rN | apply rD)); exact Kd.R_mono HO111.out (fun _ hk => hk.2))); (case aS => exact (below_size uW)); (case aL => have := LMc21.out; omega); intro v113 w28 ho hb hg hat; rw [← Ny112.out] at ho; have HO114 := am (ho); replace BK102 := am (blk_grown (uP BK102) hg (Kd.R_ne HO111.out BK102.out (by decide))); replace HB := am (hb); replace HR108 := am ((show Kd.C (Kd.int .i64) w28 (some ad103) y105.length y105 from by rw [Ny105.out]; exact Kd.C_take (m := (x8_2 : Int).toNat) ((Kd.R_reads' (Kd.R_after (ok := (fun _ => True)) (uR HO_5) hg hat)).2.2) KL26.out)); replace HO_5 := am (Kd.R_after (ok := (fun _ => True)) (uR HO_5) hg hat); clear HO111; clear ho hb hg hat; have q29 : (x8_2 : Int) ≤ ((x5_1.length : Int) : Int) := of_decide_eq_true (by first | (with_reducible assumption) | assumption); obtain ⟨i029, hi029, _, hsz29, _⟩ := info_parts info3; have hroom29 : x5_1.length ≤ co8 := (Kd.R_reads' HO_5.out).2.1; have hC29 : Kd.C (Kd.int .i64) _ (some ad103) x5_1.length x5_1 := (Kd.R_reads' HO_5.out).2.2; have q029 : (0 : Int) ≤ (x8_2 : Int) := of_decide_eq_true (by first | (with_reducible assumption) | assumption); have hcut29 := cut_from (P := Try.prog) 27 3 .i64 Try.underlying27 hi029 1 hsz29 (some ad103) x5_1.length co8 x8_2 q029 q29; have hr29 := Kd.C_drop (m := (x8_2 : Int).toNat) (c := co8) hC29 (by omega) hroom29; obtain ⟨A29, hA29⟩ : ∃ A1, A1 = (if co8 = (x8_2 : Int).toNat then (some ad103) else ((some ad103) : Option Addr).map (·.add ((x8_2 : Int).toNat * 1))) := ⟨_, rfl⟩; obtain ⟨c29, hc29⟩ : ∃ c1, c1 = co8 - (x8_2 : Int).toNat := ⟨_, rfl⟩; have hy29 : y115.length = x5_1.length - (x8_2 : Int).toNat := (by rw [Ny115.out, List.length_drop] <;> omega); rw [show (x5_1).drop (x8_2 : Int).toNat = y115 from Ny115.out.symm] at hr29; replace hr29 : Kd.C (Kd.int .i64) _ A29 y115.length y115 := (by rw [hA29]; exact hr29); rw [← hy29, ← hA29, ← hc29] at hcut29; have HR118 := am hr29; have HC118 := am (show y115.length ≤ c29 from by rw [hy29, hc29]; exact Nat.sub_le_sub_right hroom29 _); clear hr29 hC29 hroom29 hi029 hsz29 hc29; have KY29 := am hy29; have KA29 := am hA29; clear hy29 hA29; have KL29 := am (show (x8_2 : Int).toNat ≤ x5_1.length from by omega); replace q29 := eq_true q29) | ((with_reducible refine gate_builtin (b := .append) (xs := #[.tmp 47, .tmp 50]) rfl ?_); at_builtin; refine Kd.R_append_rows (Kd.int .i64) (w0 := w) w.heap.size rfl (.tmp 47) (.tmp 50) 27 3 (.int .i64 0) 8 rfl Try.underlying27 info3 rfl (by decide) (by omega) v113 y112 y115 _ _ _ (fun k_ => some k_ ≠ (.slice (some ad103) x5_1.length co8 : Value).ownBlock) (fun _ => False) rfl rfl ?aO ?aR (fun _ _ h => h) (fun _ h => h.elim) ?aF ?aB ?aS ?aL ?_; (case aR => repeat (first | exact (by repeat (first | (with_reducible exact HR118.out) | (with_reducible refine cA ?_ _) | (with_reducible refine cN ?_ _) | (with_reducible refine cD ?_) | exact HR118.out)) | (with_reducible refine cA ?_ _) | (with_reducible refine cN ?_ _) | (with_reducible refine cD ?_))); (case aB => exact uW); (case aF => exact (fun k_ hk => Kd.fresh' (Kd.R_lt (uR HO_5)) k_ hk)); (case aO => exact (uR HO114)); (case aS => exact (below_size uW)); (case aL => have := LMc24.out; omega); intro v120 w30 ho hb hg hat; rw [← Ny119.out] at ho; have HO121 := am (ho); replace BK102 := am (blk_grown (uP BK102) hg (Kd.R_ne HO114.out BK102.out (by decide))); replace HB := am (hb); replace HR108 := am ((show Kd.C (Kd.int .i64) w30 (some ad103) y105.length y105 from by rw [Ny105.out]; exact Kd.C_take (m := (x8_2 : Int).toNat) ((Kd.R_reads' (Kd.R_after (ok := (fun _ => True)) (uR HO_5) hg hat)).2.2) KL26.out)); replace HR118 := am ((show Kd.C (Kd.int .i64) w30 A29 y115.length y115 from by rw [Ny115.out, KA29.out]; exact Kd.C_drop (m := (x8_2 : Int).toNat) (c := co8) ((Kd.R_reads' (Kd.R_after (ok := (fun _ => True)) (uR HO_5) hg hat)).2.2) KL29.out ((Kd.R_reads' (Kd.R_after (ok := (fun _ => True)) (uR HO_5) hg hat)).2.1))); replace HO_5 := am (Kd.R_after (ok := (fun _ => True)) (uR HO_5) hg hat); clear HO114; clear ho hb hg hat)); try go_wp2_with (first | (go_at_call 82; (with_reducible refine (spec_l1Own.calls _ _ y105 t109 _ ?side1 ?side2 A20.out).mono ?_); (case side1 => repeat (first | exact (by repeat (first | (with_reducible exact HR108.out) | (with_reducible refine cA ?_ _) | (with_reducible refine cN ?_ _) | (with_reducible refine cD ?_) | exact HR108.out)) | (with_reducible refine cA ?_ _) | (with_reducible refine cN ?_ _) | (with_reducible refine cD ?_))); (case side2 => exact HC108.out); rintro e w27 ⟨v110, rfl, ho0, hb⟩; have HO111 := am (Kd.R_lower (Kd.R_new' ho0 (Kd.R_lt (uR HO_5))) (below_size uW)); replace HO_5 := am (Kd.R_elder' (uR HO_5) (Kd.R_base ho0) hb); replace BK102 := uB BK102 hb; replace HR108 := am (Kd.C_below (by repeat (first | (with_reducible exact HR108.out) | (with_reducible refine cA ?_ _) | (with_reducible refine cN ?_ _) | (with_reducible refine cD ?_) | exact HR108.out)) hb); replace HB := uS hb; (try clear hb); (try clear hb2); (try clear hk); (try clear hi); (try clear ho0)) | ((with_reducible refine gate_builtin (b := .append) (xs := #[.tmp 43, .tmp 45]) rfl ?_); at_builtin; refine Kd.R_append (Kd.int .i64) (w0 := w) w.heap.size rfl (.tmp 43) (.tmp 45) 27 3 (.int .i64 0) 8 rfl Try.underlying27 info3 rfl (by decide) (by omega) v110 t109 x12_1 [.int .i64 x12_1] (fun k_ => some k_ ≠ (.slice (some ad103) x5_1.length co8 : Value).ownBlock) (fun _ => False) rfl rfl ?aP (fun _ hk => hk.elim) ?aF ?aO ?aB ?aS ?aL ?_; (case aP => exact rfl); (case aB => exact uW); (case aF => exact (fun k_ hk => Kd.fresh' (Kd.R_lt (uR HO_5)) k_ hk)); (case aO => exact (by (with_reducible repeat (first | apply rA | apply rN | apply rD)); exact Kd.R_mono HO111.out (fun _ hk => hk.2))); (case aS => exact (below_size uW)); (case aL => have := LMc21.out; omega); intro v113 w28 ho hb hg hat; rw [← Ny112.out] at ho; have HO114 := am (ho); replace BK102 := am (blk_grown (uP BK102) hg (Kd.R_ne HO111.out BK102.out (by decide))); replace HB := am (hb); replace HR108 := am ((show Kd.C (Kd.int .i64) w28 (some ad103) y105.length y105 from by rw [Ny105.out]; exact Kd.C_take (m := (x8_2 : Int).toNat) ((Kd.R_reads' (Kd.R_after (ok := (fun _ => True)) (uR HO_5) hg hat)).2.2) KL26.out)); replace HO_5 := am (Kd.R_after (ok := (fun _ => True)) (uR HO_5) hg hat); clear HO111; clear ho hb hg hat; have q29 : (x8_2 : Int) ≤ ((x5_1.length : Int) : Int) := of_decide_eq_true (by first | (with_reducible assumption) | assumption); obtain ⟨i029, hi029, _, hsz29, _⟩ := info_parts info3; have hroom29 : x5_1.length ≤ co8 := (Kd.R_reads' HO_5.out).2.1; have hC29 : Kd.C (Kd.int .i64) _ (some ad103) x5_1.length x5_1 := (Kd.R_reads' HO_5.out).2.2; have q029 : (0 : Int) ≤ (x8_2 : Int) := of_decide_eq_true (by first | (with_reducible assumption) | assumption); have hcut29 := cut_from (P := Try.prog) 27 3 .i64 Try.underlying27 hi029 1 hsz29 (some ad103) x5_1.length co8 x8_2 q029 q29; have hr29 := Kd.C_drop (m := (x8_2 : Int).toNat) (c := co8) hC29 (by omega) hroom29; obtain ⟨A29, hA29⟩ : ∃ A1, A1 = (if co8 = (x8_2 : Int).toNat then (some ad103) else ((some ad103) : Option Addr).map (·.add ((x8_2 : Int).toNat * 1))) := ⟨_, rfl⟩; obtain ⟨c29, hc29⟩ : ∃ c1, c1 = co8 - (x8_2 : Int).toNat := ⟨_, rfl⟩; have hy29 : y115.length = x5_1.length - (x8_2 : Int).toNat := (by rw [Ny115.out, List.length_drop] <;> omega); rw [show (x5_1).drop (x8_2 : Int).toNat = y115 from Ny115.out.symm] at hr29; replace hr29 : Kd.C (Kd.int .i64) _ A29 y115.length y115 := (by rw [hA29]; exact hr29); rw [← hy29, ← hA29, ← hc29] at hcut29; have HR118 := am hr29; have HC118 := am (show y115.length ≤ c29 from by rw [hy29, hc29]; exact Nat.sub_le_sub_right hroom29 _); clear hr29 hC29 hroom29 hi029 hsz29 hc29; have KY29 := am hy29; have KA29 := am hA29; clear hy29 hA29; have KL29 := am (show (x8_2 : Int).toNat ≤ x5_1.length from by omega); replace q29 := eq_true q29) | ((with_reducible refine gate_builtin (b := .append) (xs := #[.tmp 47, .tmp 50]) rfl ?_); at_builtin; refine Kd.R_append_rows (Kd.int .i64) (w0 := w) w.heap.size rfl (.tmp 47) (.tmp 50) 27 3 (.int .i64 0) 8 rfl Try.underlying27 info3 rfl (by decide) (by omega) v113 y112 y115 _ _ _ (fun k_ => some k_ ≠ (.slice (some ad103) x5_1.length co8 : Value).ownBlock) (fun _ => False) rfl rfl ?aO ?aR (fun _ _ h => h) (fun _ h => h.elim) ?aF ?aB ?aS ?aL ?_; (case aR => repeat (first | exact (by repeat (first | (with_reducible exact HR118.out) | (with_reducible refine cA ?_ _) | (with_reducible refine cN ?_ _) | (with_reducible refine cD ?_) | exact HR118.out)) | (with_reducible refine cA ?_ _) | (with_reducible refine cN ?_ _) | (with_reducible refine cD ?_))); (case aB => exact uW); (case aF => exact (fun k_ hk => Kd.fresh' (Kd.R_lt (uR HO_5)) k_ hk)); (case aO => exact (uR HO114)); (case aS => exact (below_size uW)); (case aL => have := LMc24.out; omega); intro v120 w30 ho hb hg hat; rw [← Ny119.out] at ho; have HO121 := am (ho); replace BK102 := am (blk_grown (uP BK102) hg (Kd.R_ne HO114.out BK102.out (by decide))); replace HB := am (hb); replace HR108 := am ((show Kd.C (Kd.int .i64) w30 (some ad103) y105.length y105 from by rw [Ny105.out]; exact Kd.C_take (m := (x8_2 : Int).toNat) ((Kd.R_reads' (Kd.R_after (ok := (fun _ => True)) (uR HO_5) hg hat)).2.2) KL26.out)); replace HR118 := am ((show Kd.C (Kd.int .i64) w30 A29 y115.length y115 from by rw [Ny115.out, KA29.out]; exact Kd.C_drop (m := (x8_2 : Int).toNat) (c := co8) ((Kd.R_reads' (Kd.R_after (ok := (fun _ => True)) (uR HO_5) hg hat)).2.2) KL29.out ((Kd.R_reads' (Kd.R_after (ok := (fun _ => True)) (uR HO_5) hg hat)).2.1))); replace HO_5 := am (Kd.R_after (ok := (fun _ => True)) (uR HO_5) hg hat); clear HO114; clear ho hb hg hat)))
                   go_roundg k2
                   case measure => have := HK1.out; have := HK2.out; omega
                   case rel => exact ⟨(y119), (wrap64 (x12_1 + 1)), (by first | rfl | (simp; done) | (simp [*]; done)), H', ⟨by have := HK1.out; have := HK2.out; omega⟩, ⟨by (with_reducible repeat (first | apply rA | apply rN | apply rD)); exact Kd.R_mono HO121.out (fun _ hk => trivial)⟩, ⟨by exact uW⟩⟩
                  ·rw [if_neg c24] at H
                   exact absurd H (by simp)
                 ·rw [if_neg c21] at H
                  exact absurd H (by simp)
                ·rw [if_neg c19] at H
                 exact absurd H (by simp)
               ·rw [if_neg c18] at H
                exact absurd H (by simp)
             ·rw [if_neg c15] at H
              exact absurd H (by simp)
            ·rw [if_neg c14] at H
             exact absurd H (by simp)
           ·rw [if_neg c13] at H
            exact absurd H (by simp)
          ·rw [if_neg c12] at H
           exact absurd H (by simp)
         ·rw [if_neg c10] at H
          have c10b0 : decide (0 < x8_2) = false := decide_eq_false c10
          clear c10
          by_cases c31 : 0 ≤ x8_2
          ·rw [if_pos c31] at H
           have c31b0 := eq_true c31
           have c31b1 : decide (0 ≤ x8_2) = true := decide_eq_true c31
           clear c31
           by_cases c32 : x8_2 ≤ (x5_1.length : Int)
           ·rw [if_pos c32] at H
            have c32b0 := eq_true c32
            have c32b1 : decide (x8_2 ≤ (x5_1.length : Int)) = true := decide_eq_true c32
            clear c32
            obtain ⟨y122, hy122⟩ : ∃ y_ : List Int, y_ = (x5_1.take (x8_2 : Int).toNat) := ⟨_, rfl⟩
            replace H : ((spec_l1Own.f y122).bind fun t126 => (if t126.length < 17592186044416 then ((some (t126 ++ [x12_1] : List Int)).bind fun y129 => ((some (x5_1.drop (x8_2 : Int).toNat : List Int)).bind fun y132 => (if y129.length + y132.length < 17592186044416 then (spec_bgOrder.l0 k2 l0 true (y129 ++ y132) l0 (l0.length : Int) (wrap64 (x12_1 + 1))) else (none)))) else (none))) = some r := by first | (rw [hy122]; with_reducible exact H) | (have H2_ := (Option.bind_some _ _).symm.trans H; rw [hy122]; with_reducible exact H2_) | (have H2_ := (Option.bind_some _ _).symm.trans H; with_reducible exact H2_) | with_reducible exact H | (rw [hy122]; exact H) | exact H
            have Ny122 := am hy122
            clear hy122
            replace H := bH H
            obtain ⟨t126, A330, H⟩ := H
            replace H : (if t126.length < 17592186044416 then ((some (t126 ++ [x12_1] : List Int)).bind fun y129 => ((some (x5_1.drop (x8_2 : Int).toNat : List Int)).bind fun y132 => (if y129.length + y132.length < 17592186044416 then (spec_bgOrder.l0 k2 l0 true (y129 ++ y132) l0 (l0.length : Int) (wrap64 (x12_1 + 1))) else (none)))) else (none)) = some r := H
            have A33 := am A330
            clear A330
            by_cases c34 : t126.length < 17592186044416
            ·rw [if_pos c34] at H
             have LMc34 := am c34
             clear c34
             obtain ⟨y129, hy129⟩ : ∃ y_ : List Int, y_ = (t126 ++ [x12_1]) := ⟨_, rfl⟩
             replace H : ((some (x5_1.drop (x8_2 : Int).toNat : List Int)).bind fun y132 => (if y129.length + y132.length < 17592186044416 then (spec_bgOrder.l0 k2 l0 true (y129 ++ y132) l0 (l0.length : Int) (wrap64 (x12_1 + 1))) else (none))) = some r := by first | (rw [hy129]; with_reducible exact H) | (have H2_ := (Option.bind_some _ _).symm.trans H; rw [hy129]; with_reducible exact H2_) | (have H2_ := (Option.bind_some _ _).symm.trans H; with_reducible exact H2_) | with_reducible exact H | (rw [hy129]; exact H) | exact H
             have Ny129 := am hy129
             clear hy129
             have c35b0 := eq_true (of_decide_eq_true (by first | (with_reducible assumption) | assumption) : 0 ≤ x8_2)
             have c36b0 := eq_true (of_decide_eq_true (by first | (with_reducible assumption) | assumption) : x8_2 ≤ (x5_1.length : Int))
             obtain ⟨y132, hy132⟩ : ∃ y_ : List Int, y_ = (x5_1.drop (x8_2 : Int).toNat) := ⟨_, rfl⟩
             replace H : (if y129.length + y132.length < 17592186044416 then (spec_bgOrder.l0 k2 l0 true (y129 ++ y132) l0 (l0.length : Int) (wrap64 (x12_1 + 1))) else (none)) = some r := by first | (rw [hy132]; with_reducible exact H) | (have H2_ := (Option.bind_some _ _).symm.trans H; rw [hy132]; with_reducible exact H2_) | (have H2_ := (Option.bind_some _ _).symm.trans H; with_reducible exact H2_) | with_reducible exact H | (rw [hy132]; exact H) | exact H
             have Ny132 := am hy132
             clear hy132
             by_cases c37 : y129.length + y132.length < 17592186044416
             ·rw [if_pos c37] at H
              have LMc37 := am c37
              clear c37
              obtain ⟨y136, hy136⟩ : ∃ y_ : List Int, y_ = (y129 ++ y132) := ⟨_, rfl⟩
              replace H : (spec_bgOrder.l0 k2 l0 true y136 l0 (l0.length : Int) (wrap64 (x12_1 + 1))) = some r := by first | (rw [hy136]; with_reducible exact H) | (have H2_ := (Option.bind_some _ _).symm.trans H; rw [hy136]; with_reducible exact H2_) | (have H2_ := (Option.bind_some _ _).symm.trans H; with_reducible exact H2_) | with_reducible exact H | (rw [hy136]; exact H) | exact H
              have Ny136 := am hy136
              clear hy136
              have H' := am H
              clear H
              have q38 : (x8_2 : Int) ≤ ((x5_1.length : Int) : Int) := of_decide_eq_true (by first | (with_reducible assumption) | assumption)
              obtain ⟨i038, hi038, _, hsz38, _⟩ := info_parts info3
              have hroom38 : x5_1.length ≤ co8 := (Kd.R_reads' HO_5.out).2.1
              have hC38 : Kd.C (Kd.int .i64) _ Ao8 x5_1.length x5_1 := (Kd.R_reads' HO_5.out).2.2
              have hcut38 := cut_to (P := Try.prog) 27 3 .i64 Try.underlying27 hi038 Ao8 x5_1.length co8 x8_2 (of_decide_eq_true (by first | (with_reducible assumption) | assumption)) q38 hroom38
              have hr38 := Kd.C_take (m := (x8_2 : Int).toNat) hC38 (by omega)
              have hy38 : y122.length = (x8_2 : Int).toNat := (by rw [Ny122.out, List.length_take]; omega)
              rw [← Ny122.out] at hr38
              rw [← hy38] at hcut38
              have HR125 := am hr38
              have HC125 := am (show y122.length ≤ co8 from by omega)
              clear hr38 hC38 hroom38 hi038 hsz38
              have KY38 := am hy38
              clear hy38
              have KL38 := am (show (x8_2 : Int).toNat ≤ x5_1.length from by omega)
              replace q38 := eq_true q38
              go_wp2_with (first | (go_at_call 82; (with_reducible refine (spec_l1Own.calls _ _ y122 t126 _ ?side1 ?side2 A33.out).mono ?_); (case side1 => repeat (first | exact (by repeat (first | (with_reducible exact HR125.out) | (with_reducible refine cA ?_ _) | (with_reducible refine cN ?_ _) | (with_reducible refine cD ?_) | exact HR125.out)) | (with_reducible refine cA ?_ _) | (with_reducible refine cN ?_ _) | (with_reducible refine cD ?_))); (case side2 => exact HC125.out); rintro e w39 ⟨v127, rfl, ho0, hb⟩; have HO128 := am (Kd.R_lower (Kd.R_new' ho0 (Kd.R_lt (uR HO_5))) (below_size uW)); replace HO_5 := am (Kd.R_elder' (uR HO_5) (Kd.R_base ho0) hb); replace BK102 := uB BK102 hb; replace HR125 := am (Kd.C_below (by repeat (first | (with_reducible exact HR125.out) | (with_reducible refine cA ?_ _) | (with_reducible refine cN ?_ _) | (with_reducible refine cD ?_) | exact HR125.out)) hb); replace HB := uS hb; (try clear hb); (try clear hb2); (try clear hk); (try clear hi); (try clear ho0)) | ((with_reducible refine gate_builtin (b := .append) (xs := #[.tmp 43, .tmp 45]) rfl ?_); at_builtin; refine Kd.R_append (Kd.int .i64) (w0 := w) w.heap.size rfl (.tmp 43) (.tmp 45) 27 3 (.int .i64 0) 8 rfl Try.underlying27 info3 rfl (by decide) (by omega) v127 t126 x12_1 [.int .i64 x12_1] (fun k_ => some k_ ≠ (.slice Ao8 x5_1.length co8 : Value).ownBlock) (fun _ => False) rfl rfl ?aP (fun _ hk => hk.elim) ?aF ?aO ?aB ?aS ?aL ?_; (case aP => exact rfl); (case aB => exact uW); (case aF => exact (fun k_ hk => Kd.fresh' (Kd.R_lt (uR HO_5)) k_ hk)); (case aO => exact (by (with_reducible repeat (first | apply rA | apply rN | apply rD)); exact Kd.R_mono HO128.out (fun _ hk => hk.2))); (case aS => exact (below_size uW)); (case aL => have := LMc34.out; omega); intro v130 w40 ho hb hg hat; rw [← Ny129.out] at ho; have HO131 := am (ho); replace BK102 := am (blk_grown (uP BK102) hg (Kd.R_ne HO128.out BK102.out (by decide))); replace HB := am (hb); replace HR125 := am ((show Kd.C (Kd.int .i64) w40 Ao8 y122.length y122 from by rw [Ny122.out]; exact Kd.C_take (m := (x8_2 : Int).toNat) ((Kd.R_reads' (Kd.R_after (ok := (fun _ => True)) (uR HO_5) hg hat)).2.2) KL38.out)); replace HO_5 := am (Kd.R_after (ok := (fun _ => True)) (uR HO_5) hg hat); clear HO128; clear ho hb hg hat; have q41 : (x8_2 : Int) ≤ ((x5_1.length : Int) : Int) := of_decide_eq_true (by first | (with_reducible assumption) | assumption); obtain ⟨i041, hi041, _, hsz41, _⟩ := info_parts info3; have hroom41 : x5_1.length ≤ co8 := (Kd.R_reads' HO_5.out).2.1; have hC41 : Kd.C (Kd.int .i64) _ Ao8 x5_1.length x5_1 := (Kd.R_reads' HO_5.out).2.2; have q041 : (0 : Int) ≤ (x8_2 : Int) := of_decide_eq_true (by first | (with_reducible assumption) | assumption); have hcut41 := cut_from (P := Try.prog) 27 3 .i64 Try.underlying27 hi041 1 hsz41 Ao8 x5_1.length co8 x8_2 q041 q41; have hr41 := Kd.C_drop (m := (x8_2 : Int).toNat) (c := co8) hC41 (by omega) hroom41; obtain ⟨A41, hA41⟩ : ∃ A1, A1 = (if co8 = (x8_2 : Int).toNat then Ao8 else (Ao8 : Option Addr).map (·.add ((x8_2 : Int).toNat * 1))) := ⟨_, rfl⟩; obtain ⟨c41, hc41⟩ : ∃ c1, c1 = co8 - (x8_2 : Int).toNat := ⟨_, rfl⟩; have hy41 : y132.length = x5_1.length - (x8_2 : Int).toNat := (by rw [Ny132.out, List.length_drop] <;> omega); rw [show (x5_1).drop (x8_2 : Int).toNat = y132 from Ny132.out.symm] at hr41; replace hr41 : Kd.C (Kd.int .i64) _ A41 y132.length y132 := (by rw [hA41]; exact hr41); rw [← hy41, ← hA41, ← hc41] at hcut41; have HR135 := am hr41; have HC135 := am (show y132.length ≤ c41 from by rw [hy41, hc41]; exact Nat.sub_le_sub_right hroom41 _); clear hr41 hC41 hroom41 hi041 hsz41 hc41; have KY41 := am hy41; have KA41 := am hA41; clear hy41 hA41; have KL41 := am (show (x8_2 : Int).toNat ≤ x5_1.length from by omega); replace q41 := eq_true q41) | ((with_reducible refine gate_builtin (b := .append) (xs := #[.tmp 47, .tmp 50]) rfl ?_); at_builtin; refine Kd.R_append_rows (Kd.int .i64) (w0 := w) w.heap.size rfl (.tmp 47) (.tmp 50) 27 3 (.int .i64 0) 8 rfl Try.underlying27 info3 rfl (by decide) (by omega) v130 y129 y132 _ _ _ (fun k_ => some k_ ≠ (.slice Ao8 x5_1.length co8 : Value).ownBlock) (fun _ => False) rfl rfl ?aO ?aR (fun _ _ h => h) (fun _ h => h.elim) ?aF ?aB ?aS ?aL ?_; (case aR => repeat (first | exact (by repeat (first | (with_reducible exact HR135.out) | (with_reducible refine cA ?_ _) | (with_reducible refine cN ?_ _) | (with_reducible refine cD ?_) | exact HR135.out)) | (with_reducible refine cA ?_ _) | (with_reducible refine cN ?_ _) | (with_reducible refine cD ?_))); (case aB => exact uW); (case aF => exact (fun k_ hk => Kd.fresh' (Kd.R_lt (uR HO_5)) k_ hk)); (case aO => exact (uR HO131)); (case aS => exact (below_size uW)); (case aL => have := LMc37.out; omega); intro v137 w42 ho hb hg hat; rw [← Ny136.out] at ho; have HO138 := am (ho); replace BK102 := am (blk_grown (uP BK102) hg (Kd.R_ne HO131.out BK102.out (by decide))); replace HB := am (hb); replace HR125 := am ((show Kd.C (Kd.int .i64) w42 Ao8 y122.length y122 from by rw [Ny122.out]; exact Kd.C_take (m := (x8_2 : Int).toNat) ((Kd.R_reads' (Kd.R_after (ok := (fun _ => True)) (uR HO_5) hg hat)).2.2) KL38.out)); replace HR135 := am ((show Kd.C (Kd.int .i64) w42 A41 y132.length y132 from by rw [Ny132.out, KA41.out]; exact Kd.C_drop (m := (x8_2 : Int).toNat) (c := co8) ((Kd.R_reads' (Kd.R_after (ok := (fun _ => True)) (uR HO_5) hg hat)).2.2) KL41.out ((Kd.R_reads' (Kd.R_after (ok := (fun _ => True)) (uR HO_5) hg hat)).2.1))); replace HO_5 := am (Kd.R_after (ok := (fun _ => True)) (uR HO_5) hg hat); clear HO131; clear ho hb hg hat))
              repeat (go_quiet (first | (go_at_call 82; (with_reducible refine (spec_l1Own.calls _ _ y122 t126 _ ?side1 ?side2 A33.out).mono ?_); (case side1 => repeat (first | exact (by repeat (first | (with_reducible exact HR125.out) | (with_reducible refine cA ?_ _) | (with_reducible refine cN ?_ _) | (with_reducible refine cD ?_) | exact HR125.out)) | (with_reducible refine cA ?_ _) | (with_reducible refine cN ?_ _) | (with_reducible refine cD ?_))); (case side2 => exact HC125.out); rintro e w39 ⟨v127, rfl, ho0, hb⟩; have HO128 := am (Kd.R_lower (Kd.R_new' ho0 (Kd.R_lt (uR HO_5))) (below_size uW)); replace HO_5 := am (Kd.R_elder' (uR HO_5) (Kd.R_base ho0) hb); replace BK102 := uB BK102 hb; replace HR125 := am (Kd.C_below (by repeat (first | (with_reducible exact HR125.out) | (with_reducible refine cA ?_ _) | (with_reducible refine cN ?_ _) | (with_reducible refine cD ?_) | exact HR125.out)) hb); replace HB := uS hb; (try clear hb); (try clear hb2); (try clear hk); (try clear hi); (try clear ho0)) | ((with_reducible refine gate_builtin (b := .append) (xs := #[.tmp 43, .tmp 45]) rfl ?_); at_builtin; refine Kd.R_append (Kd.int .i64) (w0 := w) w.heap.size rfl (.tmp 43) (.tmp 45) 27 3 (.int .i64 0) 8 rfl Try.underlying27 info3 rfl (by decide) (by omega) v127 t126 x12_1 [.int .i64 x12_1] (fun k_ => some k_ ≠ (.slice Ao8 x5_1.length co8 : Value).ownBlock) (fun _ => False) rfl rfl ?aP (fun _ hk => hk.elim) ?aF ?aO ?aB ?aS ?aL ?_; (case aP => exact rfl); (case aB => exact uW); (case aF => exact (fun k_ hk => Kd.fresh' (Kd.R_lt (uR HO_5)) k_ hk)); (case aO => exact (by (with_reducible repeat (first | apply rA | apply rN | apply rD)); exact Kd.R_mono HO128.out (fun _ hk => hk.2))); (case aS => exact (below_size uW)); (case aL => have := LMc34.out; omega); intro v130 w40 ho hb hg hat; rw [← Ny129.out] at ho; have HO131 := am (ho); replace BK102 := am (blk_grown (uP BK102) hg (Kd.R_ne HO128.out BK102.out (by decide))); replace HB := am (hb); replace HR125 := am ((show Kd.C (Kd.int .i64) w40 Ao8 y122.length y122 from by rw [Ny122.out]; exact Kd.C_take (m := (x8_2 : Int).toNat) ((Kd.R_reads' (Kd.R_after (ok := (fun _ => True)) (uR HO_5) hg hat)).2.2) KL38.out)); replace HO_5 := am (Kd.R_after (ok := (fun _ => True)) (uR HO_5) hg hat); clear HO128; clear ho hb hg hat; have q41 : (x8_2 : Int) ≤ ((x5_1.length : Int) : Int) := of_decide_eq_true (by first | (with_reducible assumption) | assumption); obtain ⟨i041, hi041, _, hsz41, _⟩ := info_parts info3; have hroom41 : x5_1.length ≤ co8 := (Kd.R_reads' HO_5.out).2.1; have hC41 : Kd.C (Kd.int .i64) _ Ao8 x5_1.length x5_1 := (Kd.R_reads' HO_5.out).2.2; have q041 : (0 : Int) ≤ (x8_2 : Int) := of_decide_eq_true (by first | (with_reducible assumption) | assumption); have hcut41 := cut_from (P := Try.prog) 27 3 .i64 Try.underlying27 hi041 1 hsz41 Ao8 x5_1.length co8 x8_2 q041 q41; have hr41 := Kd.C_drop (m := (x8_2 : Int).toNat) (c := co8) hC41 (by omega) hroom41; obtain ⟨A41, hA41⟩ : ∃ A1, A1 = (if co8 = (x8_2 : Int).toNat then Ao8 else (Ao8 : Option Addr).map (·.add ((x8_2 : Int).toNat * 1))) := ⟨_, rfl⟩; obtain ⟨c41, hc41⟩ : ∃ c1, c1 = co8 - (x8_2 : Int).toNat := ⟨_, rfl⟩; have hy41 : y132.length = x5_1.length - (x8_2 : Int).toNat := (by rw [Ny132.out, List.length_drop] <;> omega); rw [show (x5_1).drop (x8_2 : Int).toNat = y132 from Ny132.out.symm] at hr41; replace hr41 : Kd.C (Kd.int .i64) _ A41 y132.length y132 := (by rw [hA41]; exact hr41); rw [← hy41, ← hA41, ← hc41] at hcut41; have HR135 := am hr41; have HC135 := am (show y132.length ≤ c41 from by rw [hy41, hc41]; exact Nat.sub_le_sub_right hroom41 _); clear hr41 hC41 hroom41 hi041 hsz41 hc41; have KY41 := am hy41; have KA41 := am hA41; clear hy41 hA41; have KL41 := am (show (x8_2 : Int).toNat ≤ x5_1.length from by omega); replace q41 := eq_true q41) | ((with_reducible refine gate_builtin (b := .append) (xs := #[.tmp 47, .tmp 50]) rfl ?_); at_builtin; refine Kd.R_append_rows (Kd.int .i64) (w0 := w) w.heap.size rfl (.tmp 47) (.tmp 50) 27 3 (.int .i64 0) 8 rfl Try.underlying27 info3 rfl (by decide) (by omega) v130 y129 y132 _ _ _ (fun k_ => some k_ ≠ (.slice Ao8 x5_1.length co8 : Value).ownBlock) (fun _ => False) rfl rfl ?aO ?aR (fun _ _ h => h) (fun _ h => h.elim) ?aF ?aB ?aS ?aL ?_; (case aR => repeat (first | exact (by repeat (first | (with_reducible exact HR135.out) | (with_reducible refine cA ?_ _) | (with_reducible refine cN ?_ _) | (with_reducible refine cD ?_) | exact HR135.out)) | (with_reducible refine cA ?_ _) | (with_reducible refine cN ?_ _) | (with_reducible refine cD ?_))); (case aB => exact uW); (case aF => exact (fun k_ hk => Kd.fresh' (Kd.R_lt (uR HO_5)) k_ hk)); (case aO => exact (uR HO131)); (case aS => exact (below_size uW)); (case aL => have := LMc37.out; omega); intro v137 w42 ho hb hg hat; rw [← Ny136.out] at ho; have HO138 := am (ho); replace BK102 := am (blk_grown (uP BK102) hg (Kd.R_ne HO131.out BK102.out (by decide))); replace HB := am (hb); replace HR125 := am ((show Kd.C (Kd.int .i64) w42 Ao8 y122.length y122 from by rw [Ny122.out]; exact Kd.C_take (m := (x8_2 : Int).toNat) ((Kd.R_reads' (Kd.R_after (ok := (fun _ => True)) (uR HO_5) hg hat)).2.2) KL38.out)); replace HR135 := am ((show Kd.C (Kd.int .i64) w42 A41 y132.length y132 from by rw [Ny132.out, KA41.out]; exact Kd.C_drop (m := (x8_2 : Int).toNat) (c := co8) ((Kd.R_reads' (Kd.R_after (ok := (fun _ => True)) (uR HO_5) hg hat)).2.2) KL41.out ((Kd.R_reads' (Kd.R_after (ok := (fun _ => True)) (uR HO_5) hg hat)).2.1))); replace HO_5 := am (Kd.R_after (ok := (fun _ => True)) (uR HO_5) hg hat); clear HO131; clear ho hb hg hat)); try go_wp2_with (first | (go_at_call 82; (with_reducible refine (spec_l1Own.calls _ _ y122 t126 _ ?side1 ?side2 A33.out).mono ?_); (case side1 => repeat (first | exact (by repeat (first | (with_reducible exact HR125.out) | (with_reducible refine cA ?_ _) | (with_reducible refine cN ?_ _) | (with_reducible refine cD ?_) | exact HR125.out)) | (with_reducible refine cA ?_ _) | (with_reducible refine cN ?_ _) | (with_reducible refine cD ?_))); (case side2 => exact HC125.out); rintro e w39 ⟨v127, rfl, ho0, hb⟩; have HO128 := am (Kd.R_lower (Kd.R_new' ho0 (Kd.R_lt (uR HO_5))) (below_size uW)); replace HO_5 := am (Kd.R_elder' (uR HO_5) (Kd.R_base ho0) hb); replace BK102 := uB BK102 hb; replace HR125 := am (Kd.C_below (by repeat (first | (with_reducible exact HR125.out) | (with_reducible refine cA ?_ _) | (with_reducible refine cN ?_ _) | (with_reducible refine cD ?_) | exact HR125.out)) hb); replace HB := uS hb; (try clear hb); (try clear hb2); (try clear hk); (try clear hi); (try clear ho0)) | ((with_reducible refine gate_builtin (b := .append) (xs := #[.tmp 43, .tmp 45]) rfl ?_); at_builtin; refine Kd.R_append (Kd.int .i64) (w0 := w) w.heap.size rfl (.tmp 43) (.tmp 45) 27 3 (.int .i64 0) 8 rfl Try.underlying27 info3 rfl (by decide) (by omega) v127 t126 x12_1 [.int .i64 x12_1] (fun k_ => some k_ ≠ (.slice Ao8 x5_1.length co8 : Value).ownBlock) (fun _ => False) rfl rfl ?aP (fun _ hk => hk.elim) ?aF ?aO ?aB ?aS ?aL ?_; (case aP => exact rfl); (case aB => exact uW); (case aF => exact (fun k_ hk => Kd.fresh' (Kd.R_lt (uR HO_5)) k_ hk)); (case aO => exact (by (with_reducible repeat (first | apply rA | apply rN | apply rD)); exact Kd.R_mono HO128.out (fun _ hk => hk.2))); (case aS => exact (below_size uW)); (case aL => have := LMc34.out; omega); intro v130 w40 ho hb hg hat; rw [← Ny129.out] at ho; have HO131 := am (ho); replace BK102 := am (blk_grown (uP BK102) hg (Kd.R_ne HO128.out BK102.out (by decide))); replace HB := am (hb); replace HR125 := am ((show Kd.C (Kd.int .i64) w40 Ao8 y122.length y122 from by rw [Ny122.out]; exact Kd.C_take (m := (x8_2 : Int).toNat) ((Kd.R_reads' (Kd.R_after (ok := (fun _ => True)) (uR HO_5) hg hat)).2.2) KL38.out)); replace HO_5 := am (Kd.R_after (ok := (fun _ => True)) (uR HO_5) hg hat); clear HO128; clear ho hb hg hat; have q41 : (x8_2 : Int) ≤ ((x5_1.length : Int) : Int) := of_decide_eq_true (by first | (with_reducible assumption) | assumption); obtain ⟨i041, hi041, _, hsz41, _⟩ := info_parts info3; have hroom41 : x5_1.length ≤ co8 := (Kd.R_reads' HO_5.out).2.1; have hC41 : Kd.C (Kd.int .i64) _ Ao8 x5_1.length x5_1 := (Kd.R_reads' HO_5.out).2.2; have q041 : (0 : Int) ≤ (x8_2 : Int) := of_decide_eq_true (by first | (with_reducible assumption) | assumption); have hcut41 := cut_from (P := Try.prog) 27 3 .i64 Try.underlying27 hi041 1 hsz41 Ao8 x5_1.length co8 x8_2 q041 q41; have hr41 := Kd.C_drop (m := (x8_2 : Int).toNat) (c := co8) hC41 (by omega) hroom41; obtain ⟨A41, hA41⟩ : ∃ A1, A1 = (if co8 = (x8_2 : Int).toNat then Ao8 else (Ao8 : Option Addr).map (·.add ((x8_2 : Int).toNat * 1))) := ⟨_, rfl⟩; obtain ⟨c41, hc41⟩ : ∃ c1, c1 = co8 - (x8_2 : Int).toNat := ⟨_, rfl⟩; have hy41 : y132.length = x5_1.length - (x8_2 : Int).toNat := (by rw [Ny132.out, List.length_drop] <;> omega); rw [show (x5_1).drop (x8_2 : Int).toNat = y132 from Ny132.out.symm] at hr41; replace hr41 : Kd.C (Kd.int .i64) _ A41 y132.length y132 := (by rw [hA41]; exact hr41); rw [← hy41, ← hA41, ← hc41] at hcut41; have HR135 := am hr41; have HC135 := am (show y132.length ≤ c41 from by rw [hy41, hc41]; exact Nat.sub_le_sub_right hroom41 _); clear hr41 hC41 hroom41 hi041 hsz41 hc41; have KY41 := am hy41; have KA41 := am hA41; clear hy41 hA41; have KL41 := am (show (x8_2 : Int).toNat ≤ x5_1.length from by omega); replace q41 := eq_true q41) | ((with_reducible refine gate_builtin (b := .append) (xs := #[.tmp 47, .tmp 50]) rfl ?_); at_builtin; refine Kd.R_append_rows (Kd.int .i64) (w0 := w) w.heap.size rfl (.tmp 47) (.tmp 50) 27 3 (.int .i64 0) 8 rfl Try.underlying27 info3 rfl (by decide) (by omega) v130 y129 y132 _ _ _ (fun k_ => some k_ ≠ (.slice Ao8 x5_1.length co8 : Value).ownBlock) (fun _ => False) rfl rfl ?aO ?aR (fun _ _ h => h) (fun _ h => h.elim) ?aF ?aB ?aS ?aL ?_; (case aR => repeat (first | exact (by repeat (first | (with_reducible exact HR135.out) | (with_reducible refine cA ?_ _) | (with_reducible refine cN ?_ _) | (with_reducible refine cD ?_) | exact HR135.out)) | (with_reducible refine cA ?_ _) | (with_reducible refine cN ?_ _) | (with_reducible refine cD ?_))); (case aB => exact uW); (case aF => exact (fun k_ hk => Kd.fresh' (Kd.R_lt (uR HO_5)) k_ hk)); (case aO => exact (uR HO131)); (case aS => exact (below_size uW)); (case aL => have := LMc37.out; omega); intro v137 w42 ho hb hg hat; rw [← Ny136.out] at ho; have HO138 := am (ho); replace BK102 := am (blk_grown (uP BK102) hg (Kd.R_ne HO131.out BK102.out (by decide))); replace HB := am (hb); replace HR125 := am ((show Kd.C (Kd.int .i64) w42 Ao8 y122.length y122 from by rw [Ny122.out]; exact Kd.C_take (m := (x8_2 : Int).toNat) ((Kd.R_reads' (Kd.R_after (ok := (fun _ => True)) (uR HO_5) hg hat)).2.2) KL38.out)); replace HR135 := am ((show Kd.C (Kd.int .i64) w42 A41 y132.length y132 from by rw [Ny132.out, KA41.out]; exact Kd.C_drop (m := (x8_2 : Int).toNat) (c := co8) ((Kd.R_reads' (Kd.R_after (ok := (fun _ => True)) (uR HO_5) hg hat)).2.2) KL41.out ((Kd.R_reads' (Kd.R_after (ok := (fun _ => True)) (uR HO_5) hg hat)).2.1))); replace HO_5 := am (Kd.R_after (ok := (fun _ => True)) (uR HO_5) hg hat); clear HO131; clear ho hb hg hat)))
              go_roundg k2
              case measure => have := HK1.out; have := HK2.out; omega
              case rel => exact ⟨(y136), (wrap64 (x12_1 + 1)), (by first | rfl | (simp; done) | (simp [*]; done)), H', ⟨by have := HK1.out; have := HK2.out; omega⟩, ⟨by (with_reducible repeat (first | apply rA | apply rN | apply rD)); exact Kd.R_mono HO138.out (fun _ hk => trivial)⟩, ⟨by exact uW⟩⟩
             ·rw [if_neg c37] at H
              exact absurd H (by simp)
            ·rw [if_neg c34] at H
             exact absurd H (by simp)
           ·rw [if_neg c32] at H
            exact absurd H (by simp)
          ·rw [if_neg c31] at H
           exact absurd H (by simp)
        ·replace c9 := Bool.eq_false_iff.mpr c9
         subst c9
         have H1 : (if 0 ≤ x8_2 then (if x8_2 ≤ (x5_1.length : Int) then ((spec_l1Own.f (x5_1.take (x8_2 : Int).toNat)).bind fun t143 => (if t143.length < 17592186044416 then ((some (t143 ++ [x12_1] : List Int)).bind fun y146 => ((some (x5_1.drop (x8_2 : Int).toNat : List Int)).bind fun y149 => (if y146.length + y149.length < 17592186044416 then (spec_bgOrder.l0 k2 l0 false (y146 ++ y149) l0 (l0.length : Int) (wrap64 (x12_1 + 1))) else (none)))) else (none))) else (none)) else (none)) = some r := by rw [if_neg (show ¬ (false = true) by decide)] at H; exact H
         clear H
         have H := H1
         clear H1
         by_cases c43 : 0 ≤ x8_2
         ·rw [if_pos c43] at H
          have c43b0 := eq_true c43
          have c43b1 : decide (0 ≤ x8_2) = true := decide_eq_true c43
          clear c43
          by_cases c44 : x8_2 ≤ (x5_1.length : Int)
          ·rw [if_pos c44] at H
           have c44b0 := eq_true c44
           have c44b1 : decide (x8_2 ≤ (x5_1.length : Int)) = true := decide_eq_true c44
           clear c44
           obtain ⟨y139, hy139⟩ : ∃ y_ : List Int, y_ = (x5_1.take (x8_2 : Int).toNat) := ⟨_, rfl⟩
           replace H : ((spec_l1Own.f y139).bind fun t143 => (if t143.length < 17592186044416 then ((some (t143 ++ [x12_1] : List Int)).bind fun y146 => ((some (x5_1.drop (x8_2 : Int).toNat : List Int)).bind fun y149 => (if y146.length + y149.length < 17592186044416 then (spec_bgOrder.l0 k2 l0 false (y146 ++ y149) l0 (l0.length : Int) (wrap64 (x12_1 + 1))) else (none)))) else (none))) = some r := by first | (rw [hy139]; with_reducible exact H) | (have H2_ := (Option.bind_some _ _).symm.trans H; rw [hy139]; with_reducible exact H2_) | (have H2_ := (Option.bind_some _ _).symm.trans H; with_reducible exact H2_) | with_reducible exact H | (rw [hy139]; exact H) | exact H
           have Ny139 := am hy139
           clear hy139
           replace H := bH H
           obtain ⟨t143, A450, H⟩ := H
           replace H : (if t143.length < 17592186044416 then ((some (t143 ++ [x12_1] : List Int)).bind fun y146 => ((some (x5_1.drop (x8_2 : Int).toNat : List Int)).bind fun y149 => (if y146.length + y149.length < 17592186044416 then (spec_bgOrder.l0 k2 l0 false (y146 ++ y149) l0 (l0.length : Int) (wrap64 (x12_1 + 1))) else (none)))) else (none)) = some r := H
           have A45 := am A450
           clear A450
           by_cases c46 : t143.length < 17592186044416
           ·rw [if_pos c46] at H
            have LMc46 := am c46
            clear c46
            obtain ⟨y146, hy146⟩ : ∃ y_ : List Int, y_ = (t143 ++ [x12_1]) := ⟨_, rfl⟩
            replace H : ((some (x5_1.drop (x8_2 : Int).toNat : List Int)).bind fun y149 => (if y146.length + y149.length < 17592186044416 then (spec_bgOrder.l0 k2 l0 false (y146 ++ y149) l0 (l0.length : Int) (wrap64 (x12_1 + 1))) else (none))) = some r := by first | (rw [hy146]; with_reducible exact H) | (have H2_ := (Option.bind_some _ _).symm.trans H; rw [hy146]; with_reducible exact H2_) | (have H2_ := (Option.bind_some _ _).symm.trans H; with_reducible exact H2_) | with_reducible exact H | (rw [hy146]; exact H) | exact H
            have Ny146 := am hy146
            clear hy146
            have c47b0 := eq_true (of_decide_eq_true (by first | (with_reducible assumption) | assumption) : 0 ≤ x8_2)
            have c48b0 := eq_true (of_decide_eq_true (by first | (with_reducible assumption) | assumption) : x8_2 ≤ (x5_1.length : Int))
            obtain ⟨y149, hy149⟩ : ∃ y_ : List Int, y_ = (x5_1.drop (x8_2 : Int).toNat) := ⟨_, rfl⟩
            replace H : (if y146.length + y149.length < 17592186044416 then (spec_bgOrder.l0 k2 l0 false (y146 ++ y149) l0 (l0.length : Int) (wrap64 (x12_1 + 1))) else (none)) = some r := by first | (rw [hy149]; with_reducible exact H) | (have H2_ := (Option.bind_some _ _).symm.trans H; rw [hy149]; with_reducible exact H2_) | (have H2_ := (Option.bind_some _ _).symm.trans H; with_reducible exact H2_) | with_reducible exact H | (rw [hy149]; exact H) | exact H
            have Ny149 := am hy149
            clear hy149
            by_cases c49 : y146.length + y149.length < 17592186044416
            ·rw [if_pos c49] at H
             have LMc49 := am c49
             clear c49
             obtain ⟨y153, hy153⟩ : ∃ y_ : List Int, y_ = (y146 ++ y149) := ⟨_, rfl⟩
             replace H : (spec_bgOrder.l0 k2 l0 false y153 l0 (l0.length : Int) (wrap64 (x12_1 + 1))) = some r := by first | (rw [hy153]; with_reducible exact H) | (have H2_ := (Option.bind_some _ _).symm.trans H; rw [hy153]; with_reducible exact H2_) | (have H2_ := (Option.bind_some _ _).symm.trans H; with_reducible exact H2_) | with_reducible exact H | (rw [hy153]; exact H) | exact H
             have Ny153 := am hy153
             clear hy153
             have H' := am H
             clear H
             have q50 : (x8_2 : Int) ≤ ((x5_1.length : Int) : Int) := of_decide_eq_true (by first | (with_reducible assumption) | assumption)
             obtain ⟨i050, hi050, _, hsz50, _⟩ := info_parts info3
             have hroom50 : x5_1.length ≤ co8 := (Kd.R_reads' HO_5.out).2.1
             have hC50 : Kd.C (Kd.int .i64) _ Ao8 x5_1.length x5_1 := (Kd.R_reads' HO_5.out).2.2
             have hcut50 := cut_to (P := Try.prog) 27 3 .i64 Try.underlying27 hi050 Ao8 x5_1.length co8 x8_2 (of_decide_eq_true (by first | (with_reducible assumption) | assumption)) q50 hroom50
             have hr50 := Kd.C_take (m := (x8_2 : Int).toNat) hC50 (by omega)
             have hy50 : y139.length = (x8_2 : Int).toNat := (by rw [Ny139.out, List.length_take]; omega)
             rw [← Ny139.out] at hr50
             rw [← hy50] at hcut50
             have HR142 := am hr50
             have HC142 := am (show y139.length ≤ co8 from by omega)
             clear hr50 hC50 hroom50 hi050 hsz50
             have KY50 := am hy50
             clear hy50
             have KL50 := am (show (x8_2 : Int).toNat ≤ x5_1.length from by omega)
             replace q50 := eq_true q50
             go_wp2_with (first | (go_at_call 82; (with_reducible refine (spec_l1Own.calls _ _ y139 t143 _ ?side1 ?side2 A45.out).mono ?_); (case side1 => repeat (first | exact (by repeat (first | (with_reducible exact HR142.out) | (with_reducible refine cA ?_ _) | (with_reducible refine cN ?_ _) | (with_reducible refine cD ?_) | exact HR142.out)) | (with_reducible refine cA ?_ _) | (with_reducible refine cN ?_ _) | (with_reducible refine cD ?_))); (case side2 => exact HC142.out); rintro e w51 ⟨v144, rfl, ho0, hb⟩; have HO145 := am (Kd.R_lower (Kd.R_new' ho0 (Kd.R_lt (uR HO_5))) (below_size uW)); replace HO_5 := am (Kd.R_elder' (uR HO_5) (Kd.R_base ho0) hb); replace BK102 := uB BK102 hb; replace HR142 := am (Kd.C_below (by repeat (first | (with_reducible exact HR142.out) | (with_reducible refine cA ?_ _) | (with_reducible refine cN ?_ _) | (with_reducible refine cD ?_) | exact HR142.out)) hb); replace HB := uS hb; (try clear hb); (try clear hb2); (try clear hk); (try clear hi); (try clear ho0)) | ((with_reducible refine gate_builtin (b := .append) (xs := #[.tmp 43, .tmp 45]) rfl ?_); at_builtin; refine Kd.R_append (Kd.int .i64) (w0 := w) w.heap.size rfl (.tmp 43) (.tmp 45) 27 3 (.int .i64 0) 8 rfl Try.underlying27 info3 rfl (by decide) (by omega) v144 t143 x12_1 [.int .i64 x12_1] (fun k_ => some k_ ≠ (.slice Ao8 x5_1.length co8 : Value).ownBlock) (fun _ => False) rfl rfl ?aP (fun _ hk => hk.elim) ?aF ?aO ?aB ?aS ?aL ?_; (case aP => exact rfl); (case aB => exact uW); (case aF => exact (fun k_ hk => Kd.fresh' (Kd.R_lt (uR HO_5)) k_ hk)); (case aO => exact (by (with_reducible repeat (first | apply rA | apply rN | apply rD)); exact Kd.R_mono HO145.out (fun _ hk => hk.2))); (case aS => exact (below_size uW)); (case aL => have := LMc46.out; omega); intro v147 w52 ho hb hg hat; rw [← Ny146.out] at ho; have HO148 := am (ho); replace BK102 := am (blk_grown (uP BK102) hg (Kd.R_ne HO145.out BK102.out (by decide))); replace HB := am (hb); replace HR142 := am ((show Kd.C (Kd.int .i64) w52 Ao8 y139.length y139 from by rw [Ny139.out]; exact Kd.C_take (m := (x8_2 : Int).toNat) ((Kd.R_reads' (Kd.R_after (ok := (fun _ => True)) (uR HO_5) hg hat)).2.2) KL50.out)); replace HO_5 := am (Kd.R_after (ok := (fun _ => True)) (uR HO_5) hg hat); clear HO145; clear ho hb hg hat; have q53 : (x8_2 : Int) ≤ ((x5_1.length : Int) : Int) := of_decide_eq_true (by first | (with_reducible assumption) | assumption); obtain ⟨i053, hi053, _, hsz53, _⟩ := info_parts info3; have hroom53 : x5_1.length ≤ co8 := (Kd.R_reads' HO_5.out).2.1; have hC53 : Kd.C (Kd.int .i64) _ Ao8 x5_1.length x5_1 := (Kd.R_reads' HO_5.out).2.2; have q053 : (0 : Int) ≤ (x8_2 : Int) := of_decide_eq_true (by first | (with_reducible assumption) | assumption); have hcut53 := cut_from (P := Try.prog) 27 3 .i64 Try.underlying27 hi053 1 hsz53 Ao8 x5_1.length co8 x8_2 q053 q53; have hr53 := Kd.C_drop (m := (x8_2 : Int).toNat) (c := co8) hC53 (by omega) hroom53; obtain ⟨A53, hA53⟩ : ∃ A1, A1 = (if co8 = (x8_2 : Int).toNat then Ao8 else (Ao8 : Option Addr).map (·.add ((x8_2 : Int).toNat * 1))) := ⟨_, rfl⟩; obtain ⟨c53, hc53⟩ : ∃ c1, c1 = co8 - (x8_2 : Int).toNat := ⟨_, rfl⟩; have hy53 : y149.length = x5_1.length - (x8_2 : Int).toNat := (by rw [Ny149.out, List.length_drop] <;> omega); rw [show (x5_1).drop (x8_2 : Int).toNat = y149 from Ny149.out.symm] at hr53; replace hr53 : Kd.C (Kd.int .i64) _ A53 y149.length y149 := (by rw [hA53]; exact hr53); rw [← hy53, ← hA53, ← hc53] at hcut53; have HR152 := am hr53; have HC152 := am (show y149.length ≤ c53 from by rw [hy53, hc53]; exact Nat.sub_le_sub_right hroom53 _); clear hr53 hC53 hroom53 hi053 hsz53 hc53; have KY53 := am hy53; have KA53 := am hA53; clear hy53 hA53; have KL53 := am (show (x8_2 : Int).toNat ≤ x5_1.length from by omega); replace q53 := eq_true q53) | ((with_reducible refine gate_builtin (b := .append) (xs := #[.tmp 47, .tmp 50]) rfl ?_); at_builtin; refine Kd.R_append_rows (Kd.int .i64) (w0 := w) w.heap.size rfl (.tmp 47) (.tmp 50) 27 3 (.int .i64 0) 8 rfl Try.underlying27 info3 rfl (by decide) (by omega) v147 y146 y149 _ _ _ (fun k_ => some k_ ≠ (.slice Ao8 x5_1.length co8 : Value).ownBlock) (fun _ => False) rfl rfl ?aO ?aR (fun _ _ h => h) (fun _ h => h.elim) ?aF ?aB ?aS ?aL ?_; (case aR => repeat (first | exact (by repeat (first | (with_reducible exact HR152.out) | (with_reducible refine cA ?_ _) | (with_reducible refine cN ?_ _) | (with_reducible refine cD ?_) | exact HR152.out)) | (with_reducible refine cA ?_ _) | (with_reducible refine cN ?_ _) | (with_reducible refine cD ?_))); (case aB => exact uW); (case aF => exact (fun k_ hk => Kd.fresh' (Kd.R_lt (uR HO_5)) k_ hk)); (case aO => exact (uR HO148)); (case aS => exact (below_size uW)); (case aL => have := LMc49.out; omega); intro v154 w54 ho hb hg hat; rw [← Ny153.out] at ho; have HO155 := am (ho); replace BK102 := am (blk_grown (uP BK102) hg (Kd.R_ne HO148.out BK102.out (by decide))); replace HB := am (hb); replace HR142 := am ((show Kd.C (Kd.int .i64) w54 Ao8 y139.length y139 from by rw [Ny139.out]; exact Kd.C_take (m := (x8_2 : Int).toNat) ((Kd.R_reads' (Kd.R_after (ok := (fun _ => True)) (uR HO_5) hg hat)).2.2) KL50.out)); replace HR152 := am ((show Kd.C (Kd.int .i64) w54 A53 y149.length y149 from by rw [Ny149.out, KA53.out]; exact Kd.C_drop (m := (x8_2 : Int).toNat) (c := co8) ((Kd.R_reads' (Kd.R_after (ok := (fun _ => True)) (uR HO_5) hg hat)).2.2) KL53.out ((Kd.R_reads' (Kd.R_after (ok := (fun _ => True)) (uR HO_5) hg hat)).2.1))); replace HO_5 := am (Kd.R_after (ok := (fun _ => True)) (uR HO_5) hg hat); clear HO148; clear ho hb hg hat))
             repeat (go_quiet (first | (go_at_call 82; (with_reducible refine (spec_l1Own.calls _ _ y139 t143 _ ?side1 ?side2 A45.out).mono ?_); (case side1 => repeat (first | exact (by repeat (first | (with_reducible exact HR142.out) | (with_reducible refine cA ?_ _) | (with_reducible refine cN ?_ _) | (with_reducible refine cD ?_) | exact HR142.out)) | (with_reducible refine cA ?_ _) | (with_reducible refine cN ?_ _) | (with_reducible refine cD ?_))); (case side2 => exact HC142.out); rintro e w51 ⟨v144, rfl, ho0, hb⟩; have HO145 := am (Kd.R_lower (Kd.R_new' ho0 (Kd.R_lt (uR HO_5))) (below_size uW)); replace HO_5 := am (Kd.R_elder' (uR HO_5) (Kd.R_base ho0) hb); replace BK102 := uB BK102 hb; replace HR142 := am (Kd.C_below (by repeat (first | (with_reducible exact HR142.out) | (with_reducible refine cA ?_ _) | (with_reducible refine cN ?_ _) | (with_reducible refine cD ?_) | exact HR142.out)) hb); replace HB := uS hb; (try clear hb); (try clear hb2); (try clear hk); (try clear hi); (try clear ho0)) | ((with_reducible refine gate_builtin (b := .append) (xs := #[.tmp 43, .tmp 45]) rfl ?_); at_builtin; refine Kd.R_append (Kd.int .i64) (w0 := w) w.heap.size rfl (.tmp 43) (.tmp 45) 27 3 (.int .i64 0) 8 rfl Try.underlying27 info3 rfl (by decide) (by omega) v144 t143 x12_1 [.int .i64 x12_1] (fun k_ => some k_ ≠ (.slice Ao8 x5_1.length co8 : Value).ownBlock) (fun _ => False) rfl rfl ?aP (fun _ hk => hk.elim) ?aF ?aO ?aB ?aS ?aL ?_; (case aP => exact rfl); (case aB => exact uW); (case aF => exact (fun k_ hk => Kd.fresh' (Kd.R_lt (uR HO_5)) k_ hk)); (case aO => exact (by (with_reducible repeat (first | apply rA | apply rN | apply rD)); exact Kd.R_mono HO145.out (fun _ hk => hk.2))); (case aS => exact (below_size uW)); (case aL => have := LMc46.out; omega); intro v147 w52 ho hb hg hat; rw [← Ny146.out] at ho; have HO148 := am (ho); replace BK102 := am (blk_grown (uP BK102) hg (Kd.R_ne HO145.out BK102.out (by decide))); replace HB := am (hb); replace HR142 := am ((show Kd.C (Kd.int .i64) w52 Ao8 y139.length y139 from by rw [Ny139.out]; exact Kd.C_take (m := (x8_2 : Int).toNat) ((Kd.R_reads' (Kd.R_after (ok := (fun _ => True)) (uR HO_5) hg hat)).2.2) KL50.out)); replace HO_5 := am (Kd.R_after (ok := (fun _ => True)) (uR HO_5) hg hat); clear HO145; clear ho hb hg hat; have q53 : (x8_2 : Int) ≤ ((x5_1.length : Int) : Int) := of_decide_eq_true (by first | (with_reducible assumption) | assumption); obtain ⟨i053, hi053, _, hsz53, _⟩ := info_parts info3; have hroom53 : x5_1.length ≤ co8 := (Kd.R_reads' HO_5.out).2.1; have hC53 : Kd.C (Kd.int .i64) _ Ao8 x5_1.length x5_1 := (Kd.R_reads' HO_5.out).2.2; have q053 : (0 : Int) ≤ (x8_2 : Int) := of_decide_eq_true (by first | (with_reducible assumption) | assumption); have hcut53 := cut_from (P := Try.prog) 27 3 .i64 Try.underlying27 hi053 1 hsz53 Ao8 x5_1.length co8 x8_2 q053 q53; have hr53 := Kd.C_drop (m := (x8_2 : Int).toNat) (c := co8) hC53 (by omega) hroom53; obtain ⟨A53, hA53⟩ : ∃ A1, A1 = (if co8 = (x8_2 : Int).toNat then Ao8 else (Ao8 : Option Addr).map (·.add ((x8_2 : Int).toNat * 1))) := ⟨_, rfl⟩; obtain ⟨c53, hc53⟩ : ∃ c1, c1 = co8 - (x8_2 : Int).toNat := ⟨_, rfl⟩; have hy53 : y149.length = x5_1.length - (x8_2 : Int).toNat := (by rw [Ny149.out, List.length_drop] <;> omega); rw [show (x5_1).drop (x8_2 : Int).toNat = y149 from Ny149.out.symm] at hr53; replace hr53 : Kd.C (Kd.int .i64) _ A53 y149.length y149 := (by rw [hA53]; exact hr53); rw [← hy53, ← hA53, ← hc53] at hcut53; have HR152 := am hr53; have HC152 := am (show y149.length ≤ c53 from by rw [hy53, hc53]; exact Nat.sub_le_sub_right hroom53 _); clear hr53 hC53 hroom53 hi053 hsz53 hc53; have KY53 := am hy53; have KA53 := am hA53; clear hy53 hA53; have KL53 := am (show (x8_2 : Int).toNat ≤ x5_1.length from by omega); replace q53 := eq_true q53) | ((with_reducible refine gate_builtin (b := .append) (xs := #[.tmp 47, .tmp 50]) rfl ?_); at_builtin; refine Kd.R_append_rows (Kd.int .i64) (w0 := w) w.heap.size rfl (.tmp 47) (.tmp 50) 27 3 (.int .i64 0) 8 rfl Try.underlying27 info3 rfl (by decide) (by omega) v147 y146 y149 _ _ _ (fun k_ => some k_ ≠ (.slice Ao8 x5_1.length co8 : Value).ownBlock) (fun _ => False) rfl rfl ?aO ?aR (fun _ _ h => h) (fun _ h => h.elim) ?aF ?aB ?aS ?aL ?_; (case aR => repeat (first | exact (by repeat (first | (with_reducible exact HR152.out) | (with_reducible refine cA ?_ _) | (with_reducible refine cN ?_ _) | (with_reducible refine cD ?_) | exact HR152.out)) | (with_reducible refine cA ?_ _) | (with_reducible refine cN ?_ _) | (with_reducible refine cD ?_))); (case aB => exact uW); (case aF => exact (fun k_ hk => Kd.fresh' (Kd.R_lt (uR HO_5)) k_ hk)); (case aO => exact (uR HO148)); (case aS => exact (below_size uW)); (case aL => have := LMc49.out; omega); intro v154 w54 ho hb hg hat; rw [← Ny153.out] at ho; have HO155 := am (ho); replace BK102 := am (blk_grown (uP BK102) hg (Kd.R_ne HO148.out BK102.out (by decide))); replace HB := am (hb); replace HR142 := am ((show Kd.C (Kd.int .i64) w54 Ao8 y139.length y139 from by rw [Ny139.out]; exact Kd.C_take (m := (x8_2 : Int).toNat) ((Kd.R_reads' (Kd.R_after (ok := (fun _ => True)) (uR HO_5) hg hat)).2.2) KL50.out)); replace HR152 := am ((show Kd.C (Kd.int .i64) w54 A53 y149.length y149 from by rw [Ny149.out, KA53.out]; exact Kd.C_drop (m := (x8_2 : Int).toNat) (c := co8) ((Kd.R_reads' (Kd.R_after (ok := (fun _ => True)) (uR HO_5) hg hat)).2.2) KL53.out ((Kd.R_reads' (Kd.R_after (ok := (fun _ => True)) (uR HO_5) hg hat)).2.1))); replace HO_5 := am (Kd.R_after (ok := (fun _ => True)) (uR HO_5) hg hat); clear HO148; clear ho hb hg hat)); try go_wp2_with (first | (go_at_call 82; (with_reducible refine (spec_l1Own.calls _ _ y139 t143 _ ?side1 ?side2 A45.out).mono ?_); (case side1 => repeat (first | exact (by repeat (first | (with_reducible exact HR142.out) | (with_reducible refine cA ?_ _) | (with_reducible refine cN ?_ _) | (with_reducible refine cD ?_) | exact HR142.out)) | (with_reducible refine cA ?_ _) | (with_reducible refine cN ?_ _) | (with_reducible refine cD ?_))); (case side2 => exact HC142.out); rintro e w51 ⟨v144, rfl, ho0, hb⟩; have HO145 := am (Kd.R_lower (Kd.R_new' ho0 (Kd.R_lt (uR HO_5))) (below_size uW)); replace HO_5 := am (Kd.R_elder' (uR HO_5) (Kd.R_base ho0) hb); replace BK102 := uB BK102 hb; replace HR142 := am (Kd.C_below (by repeat (first | (with_reducible exact HR142.out) | (with_reducible refine cA ?_ _) | (with_reducible refine cN ?_ _) | (with_reducible refine cD ?_) | exact HR142.out)) hb); replace HB := uS hb; (try clear hb); (try clear hb2); (try clear hk); (try clear hi); (try clear ho0)) | ((with_reducible refine gate_builtin (b := .append) (xs := #[.tmp 43, .tmp 45]) rfl ?_); at_builtin; refine Kd.R_append (Kd.int .i64) (w0 := w) w.heap.size rfl (.tmp 43) (.tmp 45) 27 3 (.int .i64 0) 8 rfl Try.underlying27 info3 rfl (by decide) (by omega) v144 t143 x12_1 [.int .i64 x12_1] (fun k_ => some k_ ≠ (.slice Ao8 x5_1.length co8 : Value).ownBlock) (fun _ => False) rfl rfl ?aP (fun _ hk => hk.elim) ?aF ?aO ?aB ?aS ?aL ?_; (case aP => exact rfl); (case aB => exact uW); (case aF => exact (fun k_ hk => Kd.fresh' (Kd.R_lt (uR HO_5)) k_ hk)); (case aO => exact (by (with_reducible repeat (first | apply rA | apply rN | apply rD)); exact Kd.R_mono HO145.out (fun _ hk => hk.2))); (case aS => exact (below_size uW)); (case aL => have := LMc46.out; omega); intro v147 w52 ho hb hg hat; rw [← Ny146.out] at ho; have HO148 := am (ho); replace BK102 := am (blk_grown (uP BK102) hg (Kd.R_ne HO145.out BK102.out (by decide))); replace HB := am (hb); replace HR142 := am ((show Kd.C (Kd.int .i64) w52 Ao8 y139.length y139 from by rw [Ny139.out]; exact Kd.C_take (m := (x8_2 : Int).toNat) ((Kd.R_reads' (Kd.R_after (ok := (fun _ => True)) (uR HO_5) hg hat)).2.2) KL50.out)); replace HO_5 := am (Kd.R_after (ok := (fun _ => True)) (uR HO_5) hg hat); clear HO145; clear ho hb hg hat; have q53 : (x8_2 : Int) ≤ ((x5_1.length : Int) : Int) := of_decide_eq_true (by first | (with_reducible assumption) | assumption); obtain ⟨i053, hi053, _, hsz53, _⟩ := info_parts info3; have hroom53 : x5_1.length ≤ co8 := (Kd.R_reads' HO_5.out).2.1; have hC53 : Kd.C (Kd.int .i64) _ Ao8 x5_1.length x5_1 := (Kd.R_reads' HO_5.out).2.2; have q053 : (0 : Int) ≤ (x8_2 : Int) := of_decide_eq_true (by first | (with_reducible assumption) | assumption); have hcut53 := cut_from (P := Try.prog) 27 3 .i64 Try.underlying27 hi053 1 hsz53 Ao8 x5_1.length co8 x8_2 q053 q53; have hr53 := Kd.C_drop (m := (x8_2 : Int).toNat) (c := co8) hC53 (by omega) hroom53; obtain ⟨A53, hA53⟩ : ∃ A1, A1 = (if co8 = (x8_2 : Int).toNat then Ao8 else (Ao8 : Option Addr).map (·.add ((x8_2 : Int).toNat * 1))) := ⟨_, rfl⟩; obtain ⟨c53, hc53⟩ : ∃ c1, c1 = co8 - (x8_2 : Int).toNat := ⟨_, rfl⟩; have hy53 : y149.length = x5_1.length - (x8_2 : Int).toNat := (by rw [Ny149.out, List.length_drop] <;> omega); rw [show (x5_1).drop (x8_2 : Int).toNat = y149 from Ny149.out.symm] at hr53; replace hr53 : Kd.C (Kd.int .i64) _ A53 y149.length y149 := (by rw [hA53]; exact hr53); rw [← hy53, ← hA53, ← hc53] at hcut53; have HR152 := am hr53; have HC152 := am (show y149.length ≤ c53 from by rw [hy53, hc53]; exact Nat.sub_le_sub_right hroom53 _); clear hr53 hC53 hroom53 hi053 hsz53 hc53; have KY53 := am hy53; have KA53 := am hA53; clear hy53 hA53; have KL53 := am (show (x8_2 : Int).toNat ≤ x5_1.length from by omega); replace q53 := eq_true q53) | ((with_reducible refine gate_builtin (b := .append) (xs := #[.tmp 47, .tmp 50]) rfl ?_); at_builtin; refine Kd.R_append_rows (Kd.int .i64) (w0 := w) w.heap.size rfl (.tmp 47) (.tmp 50) 27 3 (.int .i64 0) 8 rfl Try.underlying27 info3 rfl (by decide) (by omega) v147 y146 y149 _ _ _ (fun k_ => some k_ ≠ (.slice Ao8 x5_1.length co8 : Value).ownBlock) (fun _ => False) rfl rfl ?aO ?aR (fun _ _ h => h) (fun _ h => h.elim) ?aF ?aB ?aS ?aL ?_; (case aR => repeat (first | exact (by repeat (first | (with_reducible exact HR152.out) | (with_reducible refine cA ?_ _) | (with_reducible refine cN ?_ _) | (with_reducible refine cD ?_) | exact HR152.out)) | (with_reducible refine cA ?_ _) | (with_reducible refine cN ?_ _) | (with_reducible refine cD ?_))); (case aB => exact uW); (case aF => exact (fun k_ hk => Kd.fresh' (Kd.R_lt (uR HO_5)) k_ hk)); (case aO => exact (uR HO148)); (case aS => exact (below_size uW)); (case aL => have := LMc49.out; omega); intro v154 w54 ho hb hg hat; rw [← Ny153.out] at ho; have HO155 := am (ho); replace BK102 := am (blk_grown (uP BK102) hg (Kd.R_ne HO148.out BK102.out (by decide))); replace HB := am (hb); replace HR142 := am ((show Kd.C (Kd.int .i64) w54 Ao8 y139.length y139 from by rw [Ny139.out]; exact Kd.C_take (m := (x8_2 : Int).toNat) ((Kd.R_reads' (Kd.R_after (ok := (fun _ => True)) (uR HO_5) hg hat)).2.2) KL50.out)); replace HR152 := am ((show Kd.C (Kd.int .i64) w54 A53 y149.length y149 from by rw [Ny149.out, KA53.out]; exact Kd.C_drop (m := (x8_2 : Int).toNat) (c := co8) ((Kd.R_reads' (Kd.R_after (ok := (fun _ => True)) (uR HO_5) hg hat)).2.2) KL53.out ((Kd.R_reads' (Kd.R_after (ok := (fun _ => True)) (uR HO_5) hg hat)).2.1))); replace HO_5 := am (Kd.R_after (ok := (fun _ => True)) (uR HO_5) hg hat); clear HO148; clear ho hb hg hat)))
             go_roundg k2
             case measure => have := HK1.out; have := HK2.out; omega
             case rel => exact ⟨(y153), (wrap64 (x12_1 + 1)), (by first | rfl | (simp; done) | (simp [*]; done)), H', ⟨by have := HK1.out; have := HK2.out; omega⟩, ⟨by (with_reducible repeat (first | apply rA | apply rN | apply rD)); exact Kd.R_mono HO155.out (fun _ hk => trivial)⟩, ⟨by exact uW⟩⟩
            ·rw [if_neg c49] at H
             exact absurd H (by simp)
           ·rw [if_neg c46] at H
            exact absurd H (by simp)
          ·rw [if_neg c44] at H
           exact absurd H (by simp)
         ·rw [if_neg c43] at H
          exact absurd H (by simp)
     ·rw [if_neg c5] at H
      exact absurd H (by simp)
    ·rw [if_neg c4] at H
     exact absurd H (by simp)
   ·rw [if_neg c3] at H
    have c3b0 : decide (x12_1 < (l0.length : Int)) = false := decide_eq_false c3
    clear c3
    obtain rfl := Option.some.inj H
    go_wp2
    repeat (go_quiet (fail); try go_wp2)
    go_ret
    exact ⟨_, uA, by (with_reducible repeat (first | apply rA | apply rN | apply rD)); exact HO_5.out, by exact uW⟩
def spec_l1Cur_one.f (s0_0 : List Int) (s0_1 : Int) (s0_2 : Int) (a1 : Int) : Option (Bool × Int × Int) := (spec_l1Cur_pick.f s0_0 s0_1 s0_2 a1).bind fun bt101 => (some ((bt101.1 == 0), bt101.2.1, bt101.2.2))
theorem spec_l1Cur_one.calls (g : Nat) (s0_0 : List Int) (s0_1 : Int) (s0_2 : Int) (a1 : Int) (r1 : Bool) (r2 : Int) (r3 : Int) (w0 w : World) (hI : IsS73 w0 w g s0_0 s0_1 s0_2) (hB : Below w0.heap.size w0 w) (h : spec_l1Cur_one.f s0_0 s0_1 s0_2 a1 = some (r1, r2, r3)) :
  Calls Try.prog 99 #[.pointer (some ⟨g, 0, none⟩), .int .i64 a1] w fun e w' => e = .returned (.bool r1) ∧ IsS73 w0 w' g s0_0 r2 r3 ∧ Below w0.heap.size w0 w' ∧ KeepBut w w' g none := by
 have HI0 := am hI
 have HK := am (KeepBut.refl w g none)
 have HL := am hB.size
 clear hI
 have HW0 := am hB.size
 have HB := am hB
 clear hB
 have H : ((spec_l1Cur_pick.f s0_0 s0_1 s0_2 a1).bind fun bt101 => (some ((bt101.1 == 0), bt101.2.1, bt101.2.2))) = some (r1, r2, r3) := h
 clear h
 replace H := bH H
 obtain ⟨⟨t101, t102, t103⟩, A30, H⟩ := H
 replace H : (some ((t101 == 0), t102, t103)) = some (r1, r2, r3) := H
 have A3 := am A30
 clear A30
 simp only [Option.some.injEq, Prod.mk.injEq] at H
 obtain ⟨rfl, rfl, rfl⟩ := H
 go_enter Try.func99, Try.ntmps99
 go_wp2_with (first | ((with_reducible refine gate_callee (f := 94) rfl ?_); refine uGo (some 7) Try.func94 #[.pointer (some ⟨g, 0, none⟩), .int .i64 a1] ?_; (with_reducible refine (spec_l1Cur_pick.calls g s0_0 s0_1 s0_2 a1 t101 t102 t103 w0 _ ?side1 ?side2 A3.out).mono ?_); (case side1 => exact uI); (case side2 => exact uW); rintro e w4 ⟨rfl, hi, hb, hk⟩; refine ⟨_, rfl, ?_⟩; replace HK := am (KeepBut.trans uV hk (.inl rfl)); replace HB := am (hb); replace HI0 := am (hi); (try clear hb); (try clear hb2); (try clear hk); (try clear hi)))
 go_ret
 exact ⟨uA, by exact uI, by exact uW, by exact uV⟩
mutual
def spec_l1Cur_packed.j0 : Nat → List (S45) → Int → Bool → List Int → Int → Int → Option ((List (S45)) × Int × List Int × Int × Int)
 | 0, _, _, _, _, _, _ => none
 | k + 1, x5, x6, x20, x1000, x1001, x1002 => if x20 = true then (spec_l1Cur_packed.l0 k x5 x6 ([] : List Int) (x5.length : Int) 0 x1000 x1001 x1002) else (if (x5.length : Int) < 6 then ((spec_bgAll.f k x5 x6).bind fun t122 => ((spec_l1Cur_pick.f x1000 x1001 x1002 250).bind fun bt125 => (if (t122.length : Int) = 0 then (none) else (if 0 ≤ (Int.tmod bt125.1 (t122.length : Int)) then (if (Int.tmod bt125.1 (t122.length : Int)) < (t122.length : Int) then (some (x5, x6, rd_L3 t122 (Int.tmod bt125.1 (t122.length : Int)), bt125.2.1, bt125.2.2)) else (none)) else (none))))) else ((spec_l1Cur_one.f x1000 x1001 x1002 2).bind fun bt129 => ((spec_bgOrder.f k x5 bt129.1).bind fun t132 => ((spec_bgPack.f k x5 x6 t132).bind fun t135 => (some (x5, x6, t135, bt129.2.1, bt129.2.2))))))
def spec_l1Cur_packed.l0 : Nat → List (S45) → Int → List Int → Int → Int → List Int → Int → Int → Option ((List (S45)) × Int × List Int × Int × Int)
 | 0, _, _, _, _, _, _, _, _ => none
 | k + 1, x5, x6, x7, x22, x23, x1000, x1001, x1002 => if x23 < x22 then ((spec_l1Cur_pick.f x1000 x1001 x1002 3).bind fun bt113 => ((spec_l1Cur_pick.f x1000 bt113.2.1 bt113.2.2 20).bind fun bt116 => (if x7.length < 17592186044416 then (spec_l1Cur_packed.l0 k x5 x6 (x7 ++ [wrap64 (bt113.1 - (wrap64 (Int.tdiv bt116.1 19)))]) x22 (wrap64 (x23 + 1)) x1000 bt116.2.1 bt116.2.2) else (none)))) else (some (x5, x6, x7, x1001, x1002))
end
def spec_l1Cur_packed.f (k : Nat) (s0_0 : List Int) (s0_1 : Int) (s0_2 : Int) : Option ((List (S45)) × Int × List Int × Int × Int) := (spec_l1Cur_parcels.f k s0_0 s0_1 s0_2).bind fun bt101 => ((spec_l1Cur_bag.f s0_0 bt101.2.1 bt101.2.2).bind fun bt106 => ((spec_bgAsked.f k bt101.1 bt106.1).bind fun t109 => (if t109 = true then ((spec_l1Cur_one.f s0_0 bt106.2.1 bt106.2.2 4).bind fun bt110 => (spec_l1Cur_packed.j0 k bt101.1 bt106.1 bt110.1 s0_0 bt110.2.1 bt110.2.2)) else (spec_l1Cur_packed.j0 k bt101.1 bt106.1 true s0_0 bt106.2.1 bt106.2.2))))
def spec_l1Cur_packed.T11 : Bool × List (List Nat × List Nat) := (true, [([], []), ([], []), ([], []), ([], []), ([3], [3]), ([], []), ([5], [5]), ([4, 6], [4, 6]), ([2, 7], [2, 7]), ([8], [8]), ([0, 4, 0], [0]), ([1, 10, 0, 1, 10], [1]), ([9, 11, 0, 1, 2, 3, 4, 5, 6, 7, 8, 9, 10, 11], [9])])
def spec_l1Cur_packed.B11 : List Nat := [0, 0, 0, 0, 8, 0, 32, 120, 252, 508, 25, 1051, 4095]
theorem spec_l1Cur_packed.tab11 : rtab .any (opsOf Try.f88 11) = spec_l1Cur_packed.T11 := by kernel_rfl
theorem spec_l1Cur_packed.bits11 : waitsOk spec_l1Cur_packed.T11.2 spec_l1Cur_packed.B11 = true := by kernel_rfl
theorem spec_l1Cur_packed.calls (k : Nat) (g : Nat) (s0_0 : List Int) (s0_1 : Int) (s0_2 : Int) (r1 : List (S45)) (r2 : Int) (r3 : List Int) (r4 : Int) (r5 : Int) (w0 w : World) (hI : IsS73 w0 w g s0_0 s0_1 s0_2) (hB : Below w0.heap.size w0 w) (h : spec_l1Cur_packed.f k s0_0 s0_1 s0_2 = some (r1, r2, r3, r4, r5)) :
  Calls Try.prog 88 #[.pointer (some ⟨g, 0, none⟩)] w fun e w' => ∃ v0_ v2_ : Value, e = .returned (.tuple #[v0_, .int .i64 r2, v2_]) ∧ Kd.R k45 45 w' w.heap.size (fun _ => True) v0_ r1 ∧ Kd.R (Kd.int .i64) 3 w' w.heap.size (fun _ => True) v2_ r3 ∧ IsS73 w0 w' g s0_0 r4 r5 ∧ Below w0.heap.size w0 w' ∧ KeepBut w w' g none := by
 have HI0 := am hI
 have HK := am (KeepBut.refl w g none)
 have HL := am hB.size
 clear hI
 have HW0 := am hB.size
 have HB := am hB
 clear hB
 have H : ((spec_l1Cur_parcels.f k s0_0 s0_1 s0_2).bind fun bt101 => ((spec_l1Cur_bag.f s0_0 bt101.2.1 bt101.2.2).bind fun bt106 => ((spec_bgAsked.f k bt101.1 bt106.1).bind fun t109 => (if t109 = true then ((spec_l1Cur_one.f s0_0 bt106.2.1 bt106.2.2 4).bind fun bt110 => (spec_l1Cur_packed.j0 k bt101.1 bt106.1 bt110.1 s0_0 bt110.2.1 bt110.2.2)) else (spec_l1Cur_packed.j0 k bt101.1 bt106.1 true s0_0 bt106.2.1 bt106.2.2))))) = some (r1, r2, r3, r4, r5) := h
 clear h
 replace H := bH H
 obtain ⟨⟨t101, t104, t105⟩, A20, H⟩ := H
 replace H : ((spec_l1Cur_bag.f s0_0 t104 t105).bind fun bt106 => ((spec_bgAsked.f k t101 bt106.1).bind fun t109 => (if t109 = true then ((spec_l1Cur_one.f s0_0 bt106.2.1 bt106.2.2 4).bind fun bt110 => (spec_l1Cur_packed.j0 k t101 bt106.1 bt110.1 s0_0 bt110.2.1 bt110.2.2)) else (spec_l1Cur_packed.j0 k t101 bt106.1 true s0_0 bt106.2.1 bt106.2.2)))) = some (r1, r2, r3, r4, r5) := H
 have A2 := am A20
 clear A20
 replace H := bH H
 obtain ⟨⟨t106, t107, t108⟩, A30, H⟩ := H
 replace H : ((spec_bgAsked.f k t101 t106).bind fun t109 => (if t109 = true then ((spec_l1Cur_one.f s0_0 t107 t108 4).bind fun bt110 => (spec_l1Cur_packed.j0 k t101 t106 bt110.1 s0_0 bt110.2.1 bt110.2.2)) else (spec_l1Cur_packed.j0 k t101 t106 true s0_0 t107 t108))) = some (r1, r2, r3, r4, r5) := H
 have A3 := am A30
 clear A30
 have HC4 := am H
 clear H
 go_enter Try.func88, Try.ntmps88
 go_upto_region 2 with (first | ((with_reducible refine gate_callee (f := 71) rfl ?_); refine uGo (some 10) Try.func71 #[.pointer (some ⟨g, 0, none⟩)] ?_; (with_reducible refine (spec_l1Cur_parcels.calls k g s0_0 s0_1 s0_2 t101 t104 t105 w0 _ ?side1 ?side2 A2.out).mono ?_); (case side1 => exact uI); (case side2 => exact uW); rintro e w5 ⟨v102, rfl, ho0, hi, hb, hk⟩; refine ⟨_, rfl, ?_⟩; have HO103 := am (Kd.R_lower ho0 (keep_size (w := w) (g := g) (row := none) uV)); replace HK := am (KeepBut.trans uV hk (.inl rfl)); replace HB := am (hb); replace HI0 := am (hi); (try clear hb); (try clear hb2); (try clear hk); (try clear hi); (try clear ho0)) | ((with_reducible refine gate_callee (f := 72) rfl ?_); refine uGo (some 12) Try.func72 #[.pointer (some ⟨g, 0, none⟩)] ?_; (with_reducible refine (spec_l1Cur_bag.calls g s0_0 t104 t105 t106 t107 t108 w0 _ ?side1 ?side2 A3.out).mono ?_); (case side1 => exact uI); (case side2 => exact uW); rintro e w6 ⟨rfl, hi, hb, hk⟩; refine ⟨_, rfl, ?_⟩; replace HO103 := am (Kd.R_mono (Kd.R_keep (IsS73.apart (show IsS73 w0 _ g s0_0 t104 t105 from by exact uI) (uR HO103) (by decide)) hk (fun _ h => h.2)) (fun _ h => h.1)); replace HK := am (KeepBut.trans uV hk (.inl rfl)); replace HB := am (hb); replace HI0 := am (hi); (try clear hb); (try clear hb2); (try clear hk); (try clear hi)))
 (try simp only [Act.put, List.setIfInBounds_toArray, List.set_cons_zero, List.set_cons_succ])
 go_cut [20] (fun v20 wc => ∃ (kq : Nat) (x20_3 : Bool) (x1001_3 : Int) (x1002_3 : Int), v20 = .bool x20_3 ∧ Aside0 (spec_l1Cur_packed.j0 kq t101 t106 x20_3 s0_0 x1001_3 x1002_3 = some (r1, r2, r3, r4, r5)) ∧ Aside0 (kq ≤ k) ∧ Aside0 (Kd.R k45 45 wc w.heap.size (fun _ => True) v102 t101) ∧ Aside0 (IsS73 w0 wc g s0_0 x1001_3 x1002_3) ∧ Aside0 (KeepBut w wc g none) ∧ Aside0 (Below w0.heap.size w0 wc))
 case first =>
  have H := HC4.out
  clear HC4
  replace H := bH H
  obtain ⟨t109, A70, H⟩ := H
  replace H : (if t109 = true then ((spec_l1Cur_one.f s0_0 t107 t108 4).bind fun bt110 => (spec_l1Cur_packed.j0 k t101 t106 bt110.1 s0_0 bt110.2.1 bt110.2.2)) else (spec_l1Cur_packed.j0 k t101 t106 true s0_0 t107 t108)) = some (r1, r2, r3, r4, r5) := H
  have A7 := am A70
  clear A70
  by_cases c8 : t109 = true
  ·subst c8
   have H1 : ((spec_l1Cur_one.f s0_0 t107 t108 4).bind fun bt110 => (spec_l1Cur_packed.j0 k t101 t106 bt110.1 s0_0 bt110.2.1 bt110.2.2)) = some (r1, r2, r3, r4, r5) := by rw [if_pos rfl] at H; exact H
   clear H
   have H := H1
   clear H1
   replace H := bH H
   obtain ⟨⟨t110, t111, t112⟩, A90, H⟩ := H
   replace H : (spec_l1Cur_packed.j0 k t101 t106 t110 s0_0 t111 t112) = some (r1, r2, r3, r4, r5) := H
   have A9 := am A90
   clear A90
   have H' := am H
   clear H
   obtain ⟨Ao10, co10, eo10⟩ := Kd.R_slice HO103.out
   subst eo10
   go_wp2_with (first | ((with_reducible refine gate_callee (f := 44) rfl ?_); refine uGo (some 15) Try.func44 #[.slice Ao10 t101.length co10, .int .i64 t106] ?_; (with_reducible refine (spec_bgAsked.calls k _ _ t101 t106 true _ ?side1 ?side2 A7.out).mono ?_); (case side1 => repeat (first | exact (Kd.R_reads' HO103.out).2.2 | (with_reducible refine cA ?_ _) | (with_reducible refine cN ?_ _) | (with_reducible refine cD ?_))); (case side2 => exact (Kd.R_reads' HO103.out).2.1); rintro e w11 ⟨rfl, hb⟩; refine ⟨_, rfl, ?_⟩; replace HO103 := am (Kd.R_below (uR HO103) hb); replace HI0 := am (IsS73.below uI hb); replace HK := am (KeepBut.trans uV (KeepBut.of_below hb g none) (.inl rfl)); replace HB := uS hb; (try clear hb); (try clear hb2); (try clear hk); (try clear hi)) | (go_at_call 99; (with_reducible refine (spec_l1Cur_one.calls g s0_0 t107 t108 4 t110 t111 t112 w0 _ ?side1 ?side2 A9.out).mono ?_); (case side1 => exact uI); (case side2 => exact uW); rintro e w12 ⟨rfl, hi, hb, hk⟩; replace HO103 := am (Kd.R_mono (Kd.R_keep (IsS73.apart (show IsS73 w0 _ g s0_0 t107 t108 from by exact uI) (uR HO103) (by decide)) hk (fun _ h => h.2)) (fun _ h => h.1)); replace HK := am (KeepBut.trans uV hk (.inl rfl)); replace HB := am (hb); replace HI0 := am (hi); (try clear hb); (try clear hb2); (try clear hk); (try clear hi)))
   go_meet
   case rel => exact ⟨_, (t110), (t111), (t112), (by first | rfl | (simp; done) | (simp [*]; done)), H', ⟨by first | omega | exact Nat.le_refl _⟩, ⟨by (with_reducible repeat (first | apply rA | apply rN | apply rD)); exact HO103.out⟩, ⟨by exact uI⟩, ⟨by exact uV⟩, ⟨by exact uW⟩⟩
  ·replace c8 := Bool.eq_false_iff.mpr c8
   subst c8
   have H1 : (spec_l1Cur_packed.j0 k t101 t106 true s0_0 t107 t108) = some (r1, r2, r3, r4, r5) := by rw [if_neg (show ¬ (false = true) by decide)] at H; exact H
   clear H
   have H := H1
   clear H1
   have H' := am H
   clear H
   obtain ⟨Ao13, co13, eo13⟩ := Kd.R_slice HO103.out
   subst eo13
   go_wp2_with (first | ((with_reducible refine gate_callee (f := 44) rfl ?_); refine uGo (some 15) Try.func44 #[.slice Ao13 t101.length co13, .int .i64 t106] ?_; (with_reducible refine (spec_bgAsked.calls k _ _ t101 t106 false _ ?side1 ?side2 A7.out).mono ?_); (case side1 => repeat (first | exact (Kd.R_reads' HO103.out).2.2 | (with_reducible refine cA ?_ _) | (with_reducible refine cN ?_ _) | (with_reducible refine cD ?_))); (case side2 => exact (Kd.R_reads' HO103.out).2.1); rintro e w14 ⟨rfl, hb⟩; refine ⟨_, rfl, ?_⟩; replace HO103 := am (Kd.R_below (uR HO103) hb); replace HI0 := am (IsS73.below uI hb); replace HK := am (KeepBut.trans uV (KeepBut.of_below hb g none) (.inl rfl)); replace HB := uS hb; (try clear hb); (try clear hb2); (try clear hk); (try clear hi)))
   go_meet
   case rel => exact ⟨_, (true), (t107), (t108), (by first | rfl | (simp; done) | (simp [*]; done)), H', ⟨by first | omega | exact Nat.le_refl _⟩, ⟨by (with_reducible repeat (first | apply rA | apply rN | apply rD)); exact HO103.out⟩, ⟨by exact uI⟩, ⟨by exact uV⟩, ⟨by exact uW⟩⟩
 case rest =>
  clear HC4
  try clear p2
  try clear c4
  try clear c7
  try clear c8
  obtain ⟨kq, x20_3, x1001_3, x1002_3, rfl, HA, HJ3, HO_5, HI0, HK, HB⟩ := hcut
  cases kq with
  | zero => exact absurd HA.out (by simp [spec_l1Cur_packed.j0])
  | succ kj3 =>
   have H := HA.out
   clear HA
   simp only [spec_l1Cur_packed.j0] at H
   by_cases c15 : x20_3 = true
   ·subst c15
    have H1 : (spec_l1Cur_packed.l0 kj3 t101 t106 ([] : List Int) (t101.length : Int) 0 s0_0 x1001_3 x1002_3) = some (r1, r2, r3, r4, r5) := by rw [if_pos rfl] at H; exact H
    clear H
    have H := H1
    clear H1
    have H' := am H
    clear H
    obtain ⟨Ao16, co16, eo16⟩ := Kd.R_slice HO_5.out
    subst eo16
    go_wp2
    go_loopg [7, 23] kj3 (fun kq v7 v23 w' => ∃ (x7_2 : List Int) (x23_2 : Int) (x1001_2 : Int) (x1002_2 : Int), v23 = .int .i64 x23_2 ∧ Aside0 (spec_l1Cur_packed.l0 kq t101 t106 x7_2 (t101.length : Int) x23_2 s0_0 x1001_2 x1002_2 = some (r1, r2, r3, r4, r5)) ∧ Aside0 (kq ≤ kj3) ∧ Aside0 (Kd.R k45 45 w' w.heap.size (fun _ => True) (.slice Ao16 t101.length co16) t101) ∧ Aside0 (Kd.R (Kd.int .i64) 3 w' w.heap.size (fun _ => True) v7 x7_2) ∧ Aside0 (IsS73 w0 w' g s0_0 x1001_2 x1002_2) ∧ Aside0 (KeepBut w w' g none) ∧ Aside0 (Below w0.heap.size w0 w'))
    case atStart => exact ⟨(([] : List Int)), (0), (x1001_3), (x1002_3), (by first | rfl | (simp; done) | (simp [*]; done)), H', ⟨Nat.le_refl _⟩, ⟨by (with_reducible repeat (first | apply rA | apply rN | apply rD)); exact HO_5.out⟩, ⟨uN⟩, ⟨by exact uI⟩, ⟨by exact uV⟩, ⟨by exact uW⟩⟩
    case round =>
     clear H'
     try clear c1
     try clear p2
     try clear c4
     try clear c7
     try clear c8
     try clear c15
     try clear p2
     obtain ⟨x7_2, x23_2, x1001_2, x1002_2, rfl, HA, HK2, HO_5, HO_7, HI0, HK, HB⟩ := hrel
     cases gk with
     | zero => exact absurd HA.out (by simp [spec_l1Cur_packed.l0])
     | succ k2 =>
      have H := HA.out
      clear HA
      simp only [spec_l1Cur_packed.l0] at H
      by_cases c17 : x23_2 < (t101.length : Int)
      ·rw [if_pos c17] at H
       have c17b0 : decide (x23_2 < (t101.length : Int)) = true := decide_eq_true c17
       clear c17
       replace H := bH H
       obtain ⟨⟨t113, t114, t115⟩, A180, H⟩ := H
       replace H : ((spec_l1Cur_pick.f s0_0 t114 t115 20).bind fun bt116 => (if x7_2.length < 17592186044416 then (spec_l1Cur_packed.l0 k2 t101 t106 (x7_2 ++ [wrap64 (t113 - (wrap64 (Int.tdiv bt116.1 19)))]) (t101.length : Int) (wrap64 (x23_2 + 1)) s0_0 bt116.2.1 bt116.2.2) else (none))) = some (r1, r2, r3, r4, r5) := H
       have A18 := am A180
       clear A180
       replace H := bH H
       obtain ⟨⟨t116, t117, t118⟩, A190, H⟩ := H
       replace H : (if x7_2.length < 17592186044416 then (spec_l1Cur_packed.l0 k2 t101 t106 (x7_2 ++ [wrap64 (t113 - (wrap64 (Int.tdiv t116 19)))]) (t101.length : Int) (wrap64 (x23_2 + 1)) s0_0 t117 t118) else (none)) = some (r1, r2, r3, r4, r5) := H
       have A19 := am A190
       clear A190
       by_cases c20 : x7_2.length < 17592186044416
       ·rw [if_pos c20] at H
        have LMc20 := am c20
        clear c20
        obtain ⟨y119, hy119⟩ : ∃ y_ : List Int, y_ = (x7_2 ++ [wrap64 (t113 - (wrap64 (Int.tdiv t116 19)))]) := ⟨_, rfl⟩
        replace H : (spec_l1Cur_packed.l0 k2 t101 t106 y119 (t101.length : Int) (wrap64 (x23_2 + 1)) s0_0 t117 t118) = some (r1, r2, r3, r4, r5) := by first | (rw [hy119]; with_reducible exact H) | (have H2_ := (Option.bind_some _ _).symm.trans H; rw [hy119]; with_reducible exact H2_) | (have H2_ := (Option.bind_some _ _).symm.trans H; with_reducible exact H2_) | with_reducible exact H | (rw [hy119]; exact H) | exact H
        have Ny119 := am hy119
        clear hy119
        have H' := am H
        clear H
        go_wp2_with (first | ((with_reducible refine gate_callee (f := 94) rfl ?_); refine uGo (some 27) Try.func94 #[.pointer (some ⟨g, 0, none⟩), .int .i64 3] ?_; (with_reducible refine (spec_l1Cur_pick.calls g s0_0 x1001_2 x1002_2 3 t113 t114 t115 w0 _ ?side1 ?side2 A18.out).mono ?_); (case side1 => exact uI); (case side2 => exact uW); rintro e w21 ⟨rfl, hi, hb, hk⟩; refine ⟨_, rfl, ?_⟩; replace HO_5 := am (Kd.R_mono (Kd.R_keep (IsS73.apart (show IsS73 w0 _ g s0_0 x1001_2 x1002_2 from by exact uI) (uR HO_5) (by decide)) hk (fun _ h => h.2)) (fun _ h => h.1)); replace HO_7 := am (Kd.R_mono (Kd.R_keep (IsS73.apart (show IsS73 w0 _ g s0_0 x1001_2 x1002_2 from by exact uI) (uR HO_7) (by decide)) hk (fun _ h => h.2)) (fun _ h => h.1)); replace HK := am (KeepBut.trans uV hk (.inl rfl)); replace HB := am (hb); replace HI0 := am (hi); (try clear hb); (try clear hb2); (try clear hk); (try clear hi)) | ((with_reducible refine gate_callee (f := 94) rfl ?_); refine uGo (some 29) Try.func94 #[.pointer (some ⟨g, 0, none⟩), .int .i64 20] ?_; (with_reducible refine (spec_l1Cur_pick.calls g s0_0 t114 t115 20 t116 t117 t118 w0 _ ?side1 ?side2 A19.out).mono ?_); (case side1 => exact uI); (case side2 => exact uW); rintro e w22 ⟨rfl, hi, hb, hk⟩; refine ⟨_, rfl, ?_⟩; replace HO_5 := am (Kd.R_mono (Kd.R_keep (IsS73.apart (show IsS73 w0 _ g s0_0 t114 t115 from by exact uI) (uR HO_5) (by decide)) hk (fun _ h => h.2)) (fun _ h => h.1)); replace HO_7 := am (Kd.R_mono (Kd.R_keep (IsS73.apart (show IsS73 w0 _ g s0_0 t114 t115 from by exact uI) (uR HO_7) (by decide)) hk (fun _ h => h.2)) (fun _ h => h.1)); replace HK := am (KeepBut.trans uV hk (.inl rfl)); replace HB := am (hb); replace HI0 := am (hi); (try clear hb); (try clear hb2); (try clear hk); (try clear hi)) | ((with_reducible refine gate_builtin (b := .append) (xs := #[.tmp 25, .tmp 32]) rfl ?_); at_builtin; refine Kd.R_append (Kd.int .i64) w.heap.size rfl (.tmp 25) (.tmp 32) 27 3 (.int .i64 0) 8 rfl Try.underlying27 info3 rfl (by decide) (by omega) u7 x7_2 (wrap64 (t113 - (wrap64 (Int.tdiv t116 19)))) [.int .i64 (wrap64 (t113 - (wrap64 (Int.tdiv t116 19))))] (fun _ => True) (fun _ => False) rfl rfl ?aP (fun _ hk => hk.elim) ?aF ?aO (Below.refl _ _) ?aS ?aL ?_; (case aP => exact rfl); (case aF => exact (fun _ _ => trivial)); (case aO => exact (uR HO_7)); (case aS => exact (keep_size (w := w) (g := g) (row := none) uV)); (case aL => have := LMc20.out; omega); intro v120 w23 ho hb hg hat; rw [← Ny119.out] at ho; have HO121 := am (ho); replace HO_5 := am (Kd.R_over' (uR HO_5) (Kd.R_typed (uR HO_7)) (by decide) hg); replace HI0 := am (IsS73.grown uI hg (IsS73.own_ne HI0.out HO_7.out (by decide))); replace HB := am (below_weaken uW HL.out hb); replace HK := am (KeepBut.trans uV (KeepBut.of_grown hg g) (Kd.R_base2 HO_7.out)); clear HO_7; clear ho hb hg hat))
        go_roundg k2
        case measure => have := HJ3.out; have := HK2.out; omega
        case rel => exact ⟨(y119), (wrap64 (x23_2 + 1)), (t117), (t118), (by first | rfl | (simp; done) | (simp [*]; done)), H', ⟨by have := HJ3.out; have := HK2.out; omega⟩, ⟨by (with_reducible repeat (first | apply rA | apply rN | apply rD)); exact HO_5.out⟩, ⟨by (with_reducible repeat (first | apply rA | apply rN | apply rD)); exact HO121.out⟩, ⟨by exact uI⟩, ⟨by exact uV⟩, ⟨by exact uW⟩⟩
       ·rw [if_neg c20] at H
        exact absurd H (by simp)
      ·rw [if_neg c17] at H
       have c17b0 : decide (x23_2 < (t101.length : Int)) = false := decide_eq_false c17
       clear c17
       simp only [Option.some.injEq, Prod.mk.injEq] at H
       obtain ⟨rfl, rfl, rfl, rfl, rfl⟩ := H
       go_wp2
       go_ret3
       exact ⟨_, _, uA, by (with_reducible repeat (first | apply rA | apply rN | apply rD)); exact HO_5.out, by (with_reducible repeat (first | apply rA | apply rN | apply rD)); exact HO_7.out, by exact uI, by exact uW, by exact uV⟩
   ·replace c15 := Bool.eq_false_iff.mpr c15
    subst c15
    have H1 : (if (t101.length : Int) < 6 then ((spec_bgAll.f kj3 t101 t106).bind fun t122 => ((spec_l1Cur_pick.f s0_0 x1001_3 x1002_3 250).bind fun bt125 => (if (t122.length : Int) = 0 then (none) else (if 0 ≤ (Int.tmod bt125.1 (t122.length : Int)) then (if (Int.tmod bt125.1 (t122.length : Int)) < (t122.length : Int) then (some (t101, t106, rd_L3 t122 (Int.tmod bt125.1 (t122.length : Int)), bt125.2.1, bt125.2.2)) else (none)) else (none))))) else ((spec_l1Cur_one.f s0_0 x1001_3 x1002_3 2).bind fun bt129 => ((spec_bgOrder.f kj3 t101 bt129.1).bind fun t132 => ((spec_bgPack.f kj3 t101 t106 t132).bind fun t135 => (some (t101, t106, t135, bt129.2.1, bt129.2.2)))))) = some (r1, r2, r3, r4, r5) := by rw [if_neg (show ¬ (false = true) by decide)] at H; exact H
    clear H
    have H := H1
    clear H1
    by_cases c24 : (t101.length : Int) < 6
    ·rw [if_pos c24] at H
     have c24b0 : decide ((t101.length : Int) < 6) = true := decide_eq_true c24
     have c24b1 : decide (t101.length < 6) = true := decide_eq_true (by omega)
     clear c24
     replace H := bH H
     obtain ⟨t122, A250, H⟩ := H
     replace H : ((spec_l1Cur_pick.f s0_0 x1001_3 x1002_3 250).bind fun bt125 => (if (t122.length : Int) = 0 then (none) else (if 0 ≤ (Int.tmod bt125.1 (t122.length : Int)) then (if (Int.tmod bt125.1 (t122.length : Int)) < (t122.length : Int) then (some (t101, t106, rd_L3 t122 (Int.tmod bt125.1 (t122.length : Int)), bt125.2.1, bt125.2.2)) else (none)) else (none)))) = some (r1, r2, r3, r4, r5) := H
     have A25 := am A250
     clear A250
     replace H := bH H
     obtain ⟨⟨t125, t126, t127⟩, A260, H⟩ := H
     replace H : (if (t122.length : Int) = 0 then (none) else (if 0 ≤ (Int.tmod t125 (t122.length : Int)) then (if (Int.tmod t125 (t122.length : Int)) < (t122.length : Int) then (some (t101, t106, rd_L3 t122 (Int.tmod t125 (t122.length : Int)), t126, t127)) else (none)) else (none))) = some (r1, r2, r3, r4, r5) := H
     have A26 := am A260
     clear A260
     by_cases c27 : (t122.length : Int) = 0
     ·rw [if_pos c27] at H
      exact absurd H (by simp)
     ·rw [if_neg c27] at H
      have c27b0 : ((t122.length : Int) == 0) = false := beq_eq_false_iff_ne.mpr c27
      have c27b1 : ((t122.length : Int) != 0) = true := bne_iff_ne.mpr c27
      have c27b2 : ¬ (t122 = []) := fun h_ => c27 (by rw [h_]; rfl)
      obtain ⟨ji28, hji28⟩ : ∃ j_ : Int, (Int.tmod t125 (t122.length : Int)) = j_ := ⟨_, rfl⟩
      replace H : (if 0 ≤ (ji28) then (if (ji28) < (t122.length : Int) then (some (t101, t106, rd_L3 t122 (ji28), t126, t127)) else (none)) else (none)) = some (r1, r2, r3, r4, r5) := by first | (rw [hji28] at H; exact H) | (simp only [hji28] at H ⊢; exact H)
      (try rw [hji28] at A25)
      (try rw [hji28] at A26)
      by_cases c29 : 0 ≤ (ji28)
      ·rw [if_pos c29] at H
       have c29b0 : decide (0 ≤ (ji28)) = true := decide_eq_true c29
       clear c29
       by_cases c30 : (ji28) < (t122.length : Int)
       ·rw [if_pos c30] at H
        have c30b0 : decide ((ji28) < (t122.length : Int)) = true := decide_eq_true c30
        clear c30
        simp only [Option.some.injEq, Prod.mk.injEq] at H
        obtain ⟨rfl, rfl, rfl, rfl, rfl⟩ := H
        obtain ⟨Ao31, co31, eo31⟩ := Kd.R_slice HO_5.out
        subst eo31
        try go_wp2_with (first | ((with_reducible refine gate_callee (f := 78) rfl ?_); refine uGo (some 43) Try.func78 #[.slice Ao31 t101.length co31, .int .i64 t106] ?_; (with_reducible refine (spec_bgAll.calls kj3 _ _ t101 t106 t122 _ ?side1 ?side2 A25.out).mono ?_); (case side1 => repeat (first | exact (Kd.R_reads' HO_5.out).2.2 | (with_reducible refine cA ?_ _) | (with_reducible refine cN ?_ _) | (with_reducible refine cD ?_))); (case side2 => exact (Kd.R_reads' HO_5.out).2.1); rintro e w32 ⟨v123, rfl, ho0, hb⟩; refine ⟨_, rfl, ?_⟩; have HO124 := am (Kd.S_lower ho0 (keep_size (w := w) (g := g) (row := none) uV)); replace HO_5 := am (Kd.R_below (uR HO_5) hb); replace HI0 := am (IsS73.below uI hb); replace HK := am (KeepBut.trans uV (KeepBut.of_below hb g none) (.inl rfl)); replace HB := uS hb; (try clear hb); (try clear hb2); (try clear hk); (try clear hi); (try clear ho0)))
        replace HO_5 := am (Kd.R_drew HO_5.out)
        replace HO124 := am (Kd.S_drew HO124.out)
        replace HI0 := am (IsS73.drew HI0.out)
        replace HK := am (keep_drew HK.out)
        replace HB := am (below_drew1 HB.out)
        obtain ⟨Ao34, co34, eo34⟩ := Kd.S_slice HO124.out
        (first | subst eo34 | (injection eo34 with f1_ f2_ f3_; have f4_ := f1_.symm; have f5_ := f3_.symm; clear f1_ f2_ f3_; subst f4_; subst f5_))
        have p128 : 0 ≤ ((ji28) : Int) := of_decide_eq_true (by first | (with_reducible assumption) | assumption)
        have q128 : (ji28) < (t122.length : Int) := of_decide_eq_true (by first | (with_reducible assumption) | assumption)
        obtain ⟨ad128, A128_0, c128_0, e128, hx128_0, hl128_0, hi128_0⟩ := at_L3 (Kd.S_reads' HO124.out).2.2 (ji28) p128 q128
        cases e128
        obtain ⟨ce128, hce128, hMe128, hcc128⟩ := Kd.S_get HO124.out [] (ji28) p128 (by first | exact q128 | exact of_decide_eq_true (by first | (with_reducible assumption) | assumption) | (have e_ := (Kd.S_reads' HO124.out).1; omega))
        obtain ⟨ve128_0, rfl, ge128_0⟩ := hMe128
        have hv128_0 := hcc128 0 _ rfl
        rw [Nat.add_zero, show ((Kd.slice 3 (Kd.int .i64))).sz = 1 from rfl, Nat.mul_one] at hv128_0
        replace hv128_0 := Option.some.inj (hv128_0.symm.trans hx128_0)
        rw [hv128_0] at ge128_0
        have HL128_0 := am (show Kd.R (Kd.int .i64) 3 _ _ _ _ (rd_L3 t122 (ji28)) from ge128_0)
        clear hv128_0 ge128_0
        clear hcc128 hce128
        have HR128_0 := am hi128_0
        have HC128_0 := am hl128_0
        clear hi128_0 hl128_0
        replace p128 := eq_true p128
        replace q128 := eq_true q128
        refine start_ (n := 13) (S := fun w' => w'.cell? (ad128.add ((ji28)).toNat) = some (.slice A128_0 (rd_L3 t122 (ji28)).length c128_0)) (ds := []) #[false, false, false, false, false, false, false, false, false, false, false, false, false] (by kernel_rfl) rfl rfl (hx128_0) (fun hHeld => ?_); refine with_tabW spec_l1Cur_packed.tab11 spec_l1Cur_packed.bits11 (fun HT_ HW_ => ?_)
        generalize w32.drew = w33 at HO_5 HO124 HI0 HK HB HL128_0 HR128_0 hx128_0 hHeld ⊢
        refine uPu (i := 0) (N := some 44) #[true, false, false, false, false, false, false, false, false, false, false, false, false] ?_
        refine uPu (i := 1) (N := some 45) #[true, true, false, false, false, false, false, false, false, false, false, false, false] ?_
        refine uPu (i := 2) (N := some 46) #[true, true, true, false, false, false, false, false, false, false, false, false, false] ?_
        refine uPu (i := 3) (N := some 47) #[true, true, true, true, false, false, false, false, false, false, false, false, false] ?_
        refine uPu (i := 5) (N := some 49) #[true, true, true, true, false, true, false, false, false, false, false, false, false] ?_
        refine uPu (i := 6) (N := some 50) #[true, true, true, true, false, true, true, false, false, false, false, false, false] ?_
        refine uOn (i := 4) (N := some 48) #[true, true, true, true, true, true, true, false, false, false, false, false, false] (fun K hK => ?_)
        refine uGs Try.func94 #[.pointer (some ⟨g, 0, none⟩), .int .i64 250] ?_
        with_reducible refine (spec_l1Cur_pick.calls g s0_0 x1001_3 x1002_3 250 t125 t126 t127 w0 _ ?side1 ?side2 A26.out).mono ?_
        (case side1 => exact uI)
        (case side2 => exact uW)
        rintro e w35 ⟨rfl, hi, hb, hk⟩
        have HS0_ := keep_cell hk (hHeld) (by first | (rw [add_block]; exact Kd.own_blk (IsS73.own_neS HI0.out HO124.out (by decide))) | (show (Addr.add _ _).block ≠ _; rw [add_block]; exact Kd.own_blk (IsS73.own_neS HI0.out HO124.out (by decide))) | exact Kd.own_blk (IsS73.own_neS HI0.out HO124.out (by decide)))
        refine ⟨_, rfl, ?_⟩
        replace HL128_0 := am (Kd.R_mono (Kd.R_keep (IsS73.apart (show IsS73 w0 _ g s0_0 x1001_3 x1002_3 from by exact uI) (by (with_reducible repeat (first | apply rA | apply rN | apply rD)); exact HL128_0.out) (by decide)) hk (fun _ h => h.2)) (fun _ h => h.1))
        replace HO_5 := am (Kd.R_mono (Kd.R_keep (IsS73.apart (show IsS73 w0 _ g s0_0 x1001_3 x1002_3 from by exact uI) (uR HO_5) (by decide)) hk (fun _ h => h.2)) (fun _ h => h.1))
        replace HO124 := am (Kd.S_mono (Kd.S_keep (IsS73.apartS (show IsS73 w0 _ g s0_0 x1001_3 x1002_3 from by exact uI) (by (with_reducible repeat (first | apply Kd.S_alloc | apply Kd.S_drewN | apply Kd.S_drew)); exact HO124.out) (by decide)) hk (fun _ h => h.2)) (fun _ h => h.1))
        replace HK := am (KeepBut.trans uV hk (.inl rfl))
        replace HB := am (hb)
        replace HI0 := am (hi)
        (try clear hb)
        (try clear hb2)
        (try clear hk)
        (try clear hi)
        refine hK.out _ _ (HS0_) (fun hHeld => ?_)
        clear hK K
        refine uNo (some 48) ?_
        refine uPu (i := 7) (N := some 51) #[true, true, true, true, true, true, true, true, false, false, false, false, false] ?_
        refine uPu (i := 8) (N := some 52) #[true, true, true, true, true, true, true, true, true, false, false, false, false] ?_
        refine uPu (i := 10) (N := some 2) #[true, true, true, true, true, true, true, true, true, false, true, false, false] ?_
        refine uPu (i := 11) (N := some 3) #[true, true, true, true, true, true, true, true, true, false, true, true, false] ?_
        refine take_ (i := 9) (N := some 53) (v := ?_) (a' := ?_) #[true, true, true, true, true, true, true, true, true, true, true, true, false] rfl rfl (take_ofW HT_.out HW_.out (by kernel_rfl)) (fun _ _ _ h => h) (Or.inl ⟨by rfl, ?_⟩) hHeld ?_ ?_
        rotate_left
        ·intro w' s0
         go_simp
         with_reducible rfl
        rotate_left
        ·simp only [Act.put, List.setIfInBounds_toArray, List.set_cons_zero, List.set_cons_succ, i64_w, i32_w]
         rfl
        refine uPu (i := 12) (N := some 4) #[true, true, true, true, true, true, true, true, true, true, true, true, true] ?_
        refine done_ (done_of HT_.out (by kernel_rfl)) ?_
        try go_wp2
        go_ret3
        exact ⟨_, _, by first | rfl | (simp [errW_none, errW_some] <;> rfl) | (simp only [← hji28]; first | rfl | (simp [errW_none, errW_some] <;> rfl)) | (simp [*, errW_none, errW_some] <;> rfl), by (with_reducible repeat (first | apply rA | apply rN | apply rD)); exact HO_5.out, by (with_reducible repeat (first | apply rA | apply rN | apply rD)); exact Kd.R_mono HL128_0.out (fun _ hk => trivial), by exact uI, by exact uW, by exact uV⟩
       ·rw [if_neg c30] at H
        exact absurd H (by simp)
      ·rw [if_neg c29] at H
       exact absurd H (by simp)
    ·rw [if_neg c24] at H
     have c24b0 : decide ((t101.length : Int) < 6) = false := decide_eq_false c24
     have c24b1 : decide (t101.length < 6) = false := decide_eq_false (by omega)
     clear c24
     replace H := bH H
     obtain ⟨⟨t129, t130, t131⟩, A360, H⟩ := H
     replace H : ((spec_bgOrder.f kj3 t101 t129).bind fun t132 => ((spec_bgPack.f kj3 t101 t106 t132).bind fun t135 => (some (t101, t106, t135, t130, t131)))) = some (r1, r2, r3, r4, r5) := H
     have A36 := am A360
     clear A360
     replace H := bH H
     obtain ⟨t132, A370, H⟩ := H
     replace H : ((spec_bgPack.f kj3 t101 t106 t132).bind fun t135 => (some (t101, t106, t135, t130, t131))) = some (r1, r2, r3, r4, r5) := H
     have A37 := am A370
     clear A370
     replace H := bH H
     obtain ⟨t135, A380, H⟩ := H
     replace H : (some (t101, t106, t135, t130, t131)) = some (r1, r2, r3, r4, r5) := H
     have A38 := am A380
     clear A380
     simp only [Option.some.injEq, Prod.mk.injEq] at H
     obtain ⟨rfl, rfl, rfl, rfl, rfl⟩ := H
     obtain ⟨Ao39, co39, eo39⟩ := Kd.R_slice HO_5.out
     subst eo39
     go_wp2_with (first | ((with_reducible refine gate_callee (f := 99) rfl ?_); refine uGo (some 60) Try.func99 #[.pointer (some ⟨g, 0, none⟩), .int .i64 2] ?_; (with_reducible refine (spec_l1Cur_one.calls g s0_0 x1001_3 x1002_3 2 t129 t130 t131 w0 _ ?side1 ?side2 A36.out).mono ?_); (case side1 => exact uI); (case side2 => exact uW); rintro e w40 ⟨rfl, hi, hb, hk⟩; refine ⟨_, rfl, ?_⟩; replace HO_5 := am (Kd.R_mono (Kd.R_keep (IsS73.apart (show IsS73 w0 _ g s0_0 x1001_3 x1002_3 from by exact uI) (uR HO_5) (by decide)) hk (fun _ h => h.2)) (fun _ h => h.1)); replace HK := am (KeepBut.trans uV hk (.inl rfl)); replace HB := am (hb); replace HI0 := am (hi); (try clear hb); (try clear hb2); (try clear hk); (try clear hi)) | ((with_reducible refine gate_callee (f := 50) rfl ?_); refine uGo (some 61) Try.func50 #[.slice Ao39 t101.length co39, .bool t129] ?_; (with_reducible refine (spec_bgOrder.calls kj3 _ _ t101 t129 t132 _ ?side1 ?side2 A37.out).mono ?_); (case side1 => repeat (first | exact (Kd.R_reads' HO_5.out).2.2 | (with_reducible refine cA ?_ _) | (with_reducible refine cN ?_ _) | (with_reducible refine cD ?_))); (case side2 => exact (Kd.R_reads' HO_5.out).2.1); rintro e w41 ⟨v133, rfl, ho0, hb⟩; refine ⟨_, rfl, ?_⟩; have HO134 := am (Kd.R_lower ho0 (keep_size (w := w) (g := g) (row := none) uV)); replace HO_5 := am (Kd.R_below (uR HO_5) hb); replace HI0 := am (IsS73.below uI hb); replace HK := am (KeepBut.trans uV (KeepBut.of_below hb g none) (.inl rfl)); replace HB := uS hb; (try clear hb); (try clear hb2); (try clear hk); (try clear hi); (try clear ho0); obtain ⟨Ao42, co42, eo42⟩ := Kd.R_slice HO134.out; subst eo42) | ((with_reducible refine gate_callee (f := 49) rfl ?_); refine uGo (some 62) Try.func49 #[.slice Ao39 t101.length co39, .int .i64 t106, .slice Ao42 t132.length co42] ?_; (with_reducible refine (spec_bgPack.calls kj3 _ _ t101 t106 _ _ t132 t135 _ ?side1 ?side2 ?side3 ?side4 A38.out).mono ?_); (case side1 => repeat (first | exact (Kd.R_reads' HO_5.out).2.2 | (with_reducible refine cA ?_ _) | (with_reducible refine cN ?_ _) | (with_reducible refine cD ?_))); (case side2 => exact (Kd.R_reads' HO_5.out).2.1); (case side3 => repeat (first | exact (Kd.R_reads' HO134.out).2.2 | (with_reducible refine cA ?_ _) | (with_reducible refine cN ?_ _) | (with_reducible refine cD ?_))); (case side4 => exact (Kd.R_reads' HO134.out).2.1); rintro e w43 ⟨v136, rfl, ho0, hb⟩; refine ⟨_, rfl, ?_⟩; have HO137 := am (Kd.R_lower (Kd.R_new' ho0 (Kd.R_lt (uR HO134))) (keep_size (w := w) (g := g) (row := none) uV)); replace HO_5 := am (Kd.R_below (uR HO_5) hb); replace HO134 := am (Kd.R_elder' (uR HO134) (Kd.R_base ho0) hb); replace HI0 := am (IsS73.below uI hb); replace HK := am (KeepBut.trans uV (KeepBut.of_below hb g none) (.inl rfl)); replace HB := uS hb; (try clear hb); (try clear hb2); (try clear hk); (try clear hi); (try clear ho0)))
     go_ret3
     exact ⟨_, _, uA, by (with_reducible repeat (first | apply rA | apply rN | apply rD)); exact HO_5.out, by (with_reducible repeat (first | apply rA | apply rN | apply rD)); exact Kd.R_mono HO137.out (fun _ hk => trivial), by exact uI, by exact uW, by exact uV⟩
def spec_DrawIsBagPlan.f (k : Nat) (l0 : List Int) : Option ((List (S45)) × Int × List Int) := (spec_l1Cur_packed.f k l0 0 0).bind fun bt102 => (some (bt102.1, bt102.2.1, bt102.2.2.1))
theorem spec_DrawIsBagPlan.calls (k : Nat) (A0 : Option Addr) (c0 : Nat) (l0 : List Int) (r1 : List (S45)) (r2 : Int) (r3 : List Int) (w : World) (hr0 : Kd.C (Kd.int .u8) w A0 l0.length l0) (hc0 : l0.length ≤ c0) (h : spec_DrawIsBagPlan.f k l0 = some (r1, r2, r3)) :
  Calls Try.prog 66 #[.slice A0 l0.length c0] w fun e w' => ∃ v0_ v2_ : Value, e = .returned (.tuple #[v0_, .int .i64 r2, v2_]) ∧ Kd.R k45 45 w' w.heap.size (fun _ => True) v0_ r1 ∧ Kd.R (Kd.int .i64) 3 w' w.heap.size (fun _ => True) v2_ r3 ∧ Below w.heap.size w w' := by
 have hu73 := Try.underlying73
 have HR0 := am hr0
 have HC0 := am hc0
 clear hr0 hc0
 have HB := am (Below.refl w.heap.size w)
 have H : ((spec_l1Cur_packed.f k l0 0 0).bind fun bt102 => (some (bt102.1, bt102.2.1, bt102.2.2.1))) = some (r1, r2, r3) := h
 clear h
 replace H := bH H
 obtain ⟨⟨t102, t105, t106, t109, t110⟩, A20, H⟩ := H
 replace H : (some (t102, t105, t106)) = some (r1, r2, r3) := H
 have A2 := am A20
 clear A20
 simp only [Option.some.injEq, Prod.mk.injEq] at H
 obtain ⟨rfl, rfl, rfl⟩ := H
 go_enter Try.func66, Try.ntmps66
 go_wp2_with (first | ((with_reducible refine gate_dst (N := 8) rfl ?_); refine uX (N := 8) (cs := #[.slice A0 l0.length c0, .int .i64 0, .int .u64 0]) (t := 73) ?_; intro gb101 hg w3 hbox hb; have BK101 := am (hbox); have GW101 := uE hg; have GE101 := GW101; replace HB := uS hb; clear hb hbox hg) | ((with_reducible refine gate_callee (f := 88) rfl ?_); refine uGo (some 10) Try.func88 #[.pointer (some ⟨gb101, 0, none⟩)] ?_; (with_reducible refine (spec_l1Cur_packed.calls k gb101 l0 0 0 t102 t105 t106 t109 t110 w _ ?side1 ?side2 A2.out).mono ?_); (case side1 => exact ⟨_, _, by (with_reducible repeat (first | refine bN ?_ _ | refine bD ?_ | refine bA ?_ _)); exact BK101.out, GE101.out, HR0.out⟩); (case side2 => exact uW); rintro e w4 ⟨v103, v107, rfl, ho0, ho1, hi, hb, hk⟩; refine ⟨_, rfl, ?_⟩; have HO104 := am (Kd.R_lower ho0 (below_size uW)); have HO108 := am (Kd.R_lower ho1 (below_size uW)); have HI101 := am (hi); replace HB := am (hb); clear BK101; (try clear hb); (try clear hb2); (try clear hk); (try clear hi); (try clear ho0); (try clear ho1)))
 go_ret3
 exact ⟨_, _, uA, by (with_reducible repeat (first | apply rA | apply rN | apply rD)); exact HO104.out, by (with_reducible repeat (first | apply rA | apply rN | apply rD)); exact HO108.out, by exact uW⟩
def spec_DrawTripsOfPlan.f (k : Nat) (l0 : List Int) : Option ((List (S45)) × Int × List Int) := (spec_DrawIsBagPlan.f k l0).bind fun bt101 => (some (bt101.1, bt101.2.1, bt101.2.2))
theorem spec_DrawTripsOfPlan.calls (k : Nat) (A0 : Option Addr) (c0 : Nat) (l0 : List Int) (r1 : List (S45)) (r2 : Int) (r3 : List Int) (w : World) (hr0 : Kd.C (Kd.int .u8) w A0 l0.length l0) (hc0 : l0.length ≤ c0) (h : spec_DrawTripsOfPlan.f k l0 = some (r1, r2, r3)) :
  Calls Try.prog 30 #[.slice A0 l0.length c0] w fun e w' => ∃ v0_ v2_ : Value, e = .returned (.tuple #[v0_, .int .i64 r2, v2_]) ∧ Kd.R k45 45 w' w.heap.size (fun _ => True) v0_ r1 ∧ Kd.R (Kd.int .i64) 3 w' w.heap.size (fun _ => True) v2_ r3 ∧ Below w.heap.size w w' := by
 have HR0 := am hr0
 have HC0 := am hc0
 clear hr0 hc0
 have HB := am (Below.refl w.heap.size w)
 have H : ((spec_DrawIsBagPlan.f k l0).bind fun bt101 => (some (bt101.1, bt101.2.1, bt101.2.2))) = some (r1, r2, r3) := h
 clear h
 replace H := bH H
 obtain ⟨⟨t101, t102, t103⟩, A20, H⟩ := H
 replace H : (some (t101, t102, t103)) = some (r1, r2, r3) := H
 have A2 := am A20
 clear A20
 simp only [Option.some.injEq, Prod.mk.injEq] at H
 obtain ⟨rfl, rfl, rfl⟩ := H
 go_enter Try.func30, Try.ntmps30
 go_wp2_with (first | ((with_reducible refine gate_callee (f := 66) rfl ?_); refine uGo (some 6) Try.func66 #[.slice A0 l0.length c0] ?_; (with_reducible refine (spec_DrawIsBagPlan.calls k _ _ l0 t101 t102 t103 _ ?side1 ?side2 A2.out).mono ?_); (case side1 => repeat (first | exact HR0.out | (with_reducible refine cA ?_ _) | (with_reducible refine cN ?_ _) | (with_reducible refine cD ?_))); (case side2 => exact HC0.out); rintro e w3 ⟨v104, v106, rfl, ho0, ho1, hb⟩; refine ⟨_, rfl, ?_⟩; have HO105 := am (Kd.R_lower ho0 (below_size uW)); have HO107 := am (Kd.R_lower ho1 (below_size uW)); replace HB := uS hb; (try clear hb); (try clear hb2); (try clear hk); (try clear hi); (try clear ho0); (try clear ho1)))
 go_ret3
 exact ⟨_, _, uA, by (with_reducible repeat (first | apply rA | apply rN | apply rD)); exact HO105.out, by (with_reducible repeat (first | apply rA | apply rN | apply rD)); exact HO107.out, by exact uW⟩
def spec_l1Same.l0 : Nat → List Int → List Int → Int → Int → Option (Bool)
 | 0, _, _, _, _ => none
 | k + 1, x0, x1, x12, x13 => if x13 < x12 then (if 0 ≤ x13 then (if x13 < (x0.length : Int) then (if x13 < (x1.length : Int) then (if (rd x0 x13) = (rd x1 x13) then (spec_l1Same.l0 k x0 x1 x12 (wrap64 (x13 + 1))) else (some false)) else (none)) else (none)) else (none)) else (some true)
def spec_l1Same.f (k : Nat) (l0 : List Int) (l1 : List Int) : Option (Bool) := if (l0.length : Int) = (l1.length : Int) then (spec_l1Same.l0 k l0 l1 (l0.length : Int) 0) else (some false)
theorem spec_l1Same.calls (k : Nat) (A0 : Option Addr) (c0 : Nat) (l0 : List Int) (A1 : Option Addr) (c1 : Nat) (l1 : List Int) (r : Bool) (w : World) (hr0 : Kd.C (Kd.int .i64) w A0 l0.length l0) (hc0 : l0.length ≤ c0) (hr1 : Kd.C (Kd.int .i64) w A1 l1.length l1) (hc1 : l1.length ≤ c1) (h : spec_l1Same.f k l0 l1 = some r) :
  Calls Try.prog 91 #[.slice A0 l0.length c0, .slice A1 l1.length c1] w fun e w' => e = .returned (.bool r) ∧ Drawn0 w w' := by
 have HR0 := am hr0
 have HC0 := am hc0
 clear hr0 hc0
 have HR1 := am hr1
 have HC1 := am hc1
 clear hr1 hc1
 have H : (if (l0.length : Int) = (l1.length : Int) then (spec_l1Same.l0 k l0 l1 (l0.length : Int) 0) else (some false)) = some r := h
 clear h
 by_cases c3 : (l0.length : Int) = (l1.length : Int)
 ·rw [if_pos c3] at H
  have c3b0 : ((l0.length : Int) == (l1.length : Int)) = true := beq_iff_eq.mpr c3
  have c3b1 : ((l0.length : Int) != (l1.length : Int)) = false := bne_eq_false_iff_eq.mpr c3
  have c3b2 : (l0.length == l1.length) = true := by first | simpa using c3 | (simp at c3 ⊢; omega)
  clear c3
  have H' := am H
  clear H
  go_enter Try.func91, Try.ntmps91
  go_wp2
  repeat (go_quiet (fail); try go_wp2)
  go_loopg [13] k (fun kq v13 w' => ∃ (x13_1 : Int), v13 = .int .i64 x13_1 ∧ Aside0 (spec_l1Same.l0 kq l0 l1 (l0.length : Int) x13_1 = some r) ∧ Aside0 (kq ≤ k) ∧ Drawn0 w w')
  case atStart => exact ⟨(0), (by first | rfl | (simp; done) | (simp [*]; done)), H', ⟨Nat.le_refl _⟩, by repeat (first | exact Drawn0.refl _ | apply Drawn0.step)⟩
  case round =>
   clear H'
   try clear c1
   try clear p2
   try clear c3
   try clear c3b0
   try clear c3b1
   try clear c3b2
   obtain ⟨x13_1, rfl, HA, HK1, ⟨m1, rfl⟩⟩ := hrel
   cases gk with
   | zero => exact absurd HA.out (by simp [spec_l1Same.l0])
   | succ k1 =>
    have H := HA.out
    clear HA
    simp only [spec_l1Same.l0] at H
    by_cases c4 : x13_1 < (l0.length : Int)
    ·rw [if_pos c4] at H
     have c4b0 : decide (x13_1 < (l0.length : Int)) = true := decide_eq_true c4
     clear c4
     by_cases c5 : 0 ≤ x13_1
     ·rw [if_pos c5] at H
      have c5b0 : decide (0 ≤ x13_1) = true := decide_eq_true c5
      clear c5
      by_cases c6 : x13_1 < (l0.length : Int)
      ·rw [if_pos c6] at H
       have c6b0 : decide (x13_1 < (l0.length : Int)) = true := decide_eq_true c6
       clear c6
       by_cases c7 : x13_1 < (l1.length : Int)
       ·rw [if_pos c7] at H
        have c7b0 : decide (x13_1 < (l1.length : Int)) = true := decide_eq_true c7
        clear c7
        by_cases c8 : (rd l0 x13_1) = (rd l1 x13_1)
        ·rw [if_pos c8] at H
         have c8b0 : ((rd l0 x13_1) == (rd l1 x13_1)) = true := beq_iff_eq.mpr c8
         have c8b1 : ((rd l0 x13_1) != (rd l1 x13_1)) = false := bne_eq_false_iff_eq.mpr c8
         clear c8
         have H' := am H
         clear H
         have p101 : 0 ≤ (x13_1 : Int) := of_decide_eq_true (by first | (with_reducible assumption) | assumption)
         have q101 : x13_1 < (l0.length : Int) := of_decide_eq_true (by first | (with_reducible assumption) | assumption)
         obtain ⟨ad101, e101, hx101_0⟩ := Kd.at_int HR0.out x13_1 p101 q101
         cases e101
         replace p101 := eq_true p101
         replace q101 := eq_true q101
         have p102 : 0 ≤ (x13_1 : Int) := of_decide_eq_true (by first | (with_reducible assumption) | assumption)
         have q102 : x13_1 < (l1.length : Int) := of_decide_eq_true (by first | (with_reducible assumption) | assumption)
         obtain ⟨ad102, e102, hx102_0⟩ := Kd.at_int HR1.out x13_1 p102 q102
         cases e102
         replace p102 := eq_true p102
         replace q102 := eq_true q102
         go_wp2
         repeat (go_quiet (fail); try go_wp2)
         go_roundg k1
         case measure => have := HK1.out; omega
         case rel => exact ⟨(wrap64 (x13_1 + 1)), (by first | rfl | (simp; done) | (simp [*]; done)), H', ⟨by have := HK1.out; omega⟩, by repeat (first | exact Drawn0.refl _ | apply Drawn0.step)⟩
        ·rw [if_neg c8] at H
         have c8b0 : ((rd l0 x13_1) == (rd l1 x13_1)) = false := beq_eq_false_iff_ne.mpr c8
         have c8b1 : ((rd l0 x13_1) != (rd l1 x13_1)) = true := bne_iff_ne.mpr c8
         obtain rfl := Option.some.inj H
         have p101 : 0 ≤ (x13_1 : Int) := of_decide_eq_true (by first | (with_reducible assumption) | assumption)
         have q101 : x13_1 < (l0.length : Int) := of_decide_eq_true (by first | (with_reducible assumption) | assumption)
         obtain ⟨ad101, e101, hx101_0⟩ := Kd.at_int HR0.out x13_1 p101 q101
         cases e101
         replace p101 := eq_true p101
         replace q101 := eq_true q101
         have p102 : 0 ≤ (x13_1 : Int) := of_decide_eq_true (by first | (with_reducible assumption) | assumption)
         have q102 : x13_1 < (l1.length : Int) := of_decide_eq_true (by first | (with_reducible assumption) | assumption)
         obtain ⟨ad102, e102, hx102_0⟩ := Kd.at_int HR1.out x13_1 p102 q102
         cases e102
         replace p102 := eq_true p102
         replace q102 := eq_true q102
         go_wp2
         repeat (go_quiet (fail); try go_wp2)
         go_ret
         exact ⟨by first | rfl | (simp; done) | (simp [*]; done), by repeat (first | exact Drawn0.refl _ | apply Drawn0.step)⟩
       ·rw [if_neg c7] at H
        exact absurd H (by simp)
      ·rw [if_neg c6] at H
       exact absurd H (by simp)
     ·rw [if_neg c5] at H
      exact absurd H (by simp)
    ·rw [if_neg c4] at H
     have c4b0 : decide (x13_1 < (l0.length : Int)) = false := decide_eq_false c4
     clear c4
     obtain rfl := Option.some.inj H
     go_wp2
     repeat (go_quiet (fail); try go_wp2)
     go_ret
     exact ⟨by first | rfl | (simp; done) | (simp [*]; done), by repeat (first | exact Drawn0.refl _ | apply Drawn0.step)⟩
 ·rw [if_neg c3] at H
  have c3b0 : ((l0.length : Int) == (l1.length : Int)) = false := beq_eq_false_iff_ne.mpr c3
  have c3b1 : ((l0.length : Int) != (l1.length : Int)) = true := bne_iff_ne.mpr c3
  have c3b2 : (l0.length == l1.length) = false := by first | simpa using c3 | (simp at c3 ⊢; omega)
  obtain rfl := Option.some.inj H
  go_enter Try.func91, Try.ntmps91
  go_wp2
  repeat (go_quiet (fail); try go_wp2)
  go_ret
  exact ⟨by first | rfl | (simp; done) | (simp [*]; done), by repeat (first | exact Drawn0.refl _ | apply Drawn0.step)⟩
def spec_l1All.l0 : Nat → Int → Int → List Int → Int → Int → Option (Bool)
 | 0, _, _, _, _, _ => none
 | k + 1, x1, x2, x9, x10, x11 => if x11 < x10 then (if 0 ≤ x11 then (if x11 < (x9.length : Int) then ((spec_l1In.f (rd x9 x11) x1 x2).bind fun t102 => (if t102 = true then (spec_l1All.l0 k x1 x2 x9 x10 (wrap64 (x11 + 1))) else (some false))) else (none)) else (none)) else (some true)
def spec_l1All.f (k : Nat) (l0 : List Int) (a1 : Int) (a2 : Int) : Option (Bool) := spec_l1All.l0 k a1 a2 l0 (l0.length : Int) 0
theorem spec_l1All.calls (k : Nat) (A0 : Option Addr) (c0 : Nat) (l0 : List Int) (a1 : Int) (a2 : Int) (r : Bool) (w : World) (hr0 : Kd.C (Kd.int .i64) w A0 l0.length l0) (hc0 : l0.length ≤ c0) (h : spec_l1All.f k l0 a1 a2 = some r) :
  Calls Try.prog 92 #[.slice A0 l0.length c0, .int .i64 a1, .int .i64 a2] w fun e w' => e = .returned (.bool r) ∧ Drawn0 w w' := by
 have HR0 := am hr0
 have HC0 := am hc0
 clear hr0 hc0
 have H : (spec_l1All.l0 k a1 a2 l0 (l0.length : Int) 0) = some r := h
 clear h
 have H' := am H
 clear H
 go_enter Try.func92, Try.ntmps92
 go_wp2
 go_loopg [11] k (fun kq v11 w' => ∃ (x11_1 : Int), v11 = .int .i64 x11_1 ∧ Aside0 (spec_l1All.l0 kq a1 a2 l0 (l0.length : Int) x11_1 = some r) ∧ Aside0 (kq ≤ k) ∧ Drawn0 w w')
 case atStart => exact ⟨(0), (by first | rfl | (simp; done) | (simp [*]; done)), H', ⟨Nat.le_refl _⟩, by repeat (first | exact Drawn0.refl _ | apply Drawn0.step)⟩
 case round =>
  clear H'
  try clear p2
  obtain ⟨x11_1, rfl, HA, HK1, ⟨m1, rfl⟩⟩ := hrel
  cases gk with
  | zero => exact absurd HA.out (by simp [spec_l1All.l0])
  | succ k1 =>
   have H := HA.out
   clear HA
   simp only [spec_l1All.l0] at H
   by_cases c4 : x11_1 < (l0.length : Int)
   ·rw [if_pos c4] at H
    have c4b0 : decide (x11_1 < (l0.length : Int)) = true := decide_eq_true c4
    clear c4
    by_cases c5 : 0 ≤ x11_1
    ·rw [if_pos c5] at H
     have c5b0 : decide (0 ≤ x11_1) = true := decide_eq_true c5
     clear c5
     by_cases c6 : x11_1 < (l0.length : Int)
     ·rw [if_pos c6] at H
      have c6b0 : decide (x11_1 < (l0.length : Int)) = true := decide_eq_true c6
      clear c6
      replace H := bH H
      obtain ⟨t102, A70, H⟩ := H
      replace H : (if t102 = true then (spec_l1All.l0 k1 a1 a2 l0 (l0.length : Int) (wrap64 (x11_1 + 1))) else (some false)) = some r := H
      have A7 := am A70
      clear A70
      by_cases c8 : t102 = true
      ·subst c8
       have H1 : (spec_l1All.l0 k1 a1 a2 l0 (l0.length : Int) (wrap64 (x11_1 + 1))) = some r := by rw [if_pos rfl] at H; exact H
       clear H
       have H := H1
       clear H1
       have H' := am H
       clear H
       have p101 : 0 ≤ (x11_1 : Int) := of_decide_eq_true (by first | (with_reducible assumption) | assumption)
       have q101 : x11_1 < (l0.length : Int) := of_decide_eq_true (by first | (with_reducible assumption) | assumption)
       obtain ⟨ad101, e101, hx101_0⟩ := Kd.at_int HR0.out x11_1 p101 q101
       cases e101
       replace p101 := eq_true p101
       replace q101 := eq_true q101
       go_wp2_with (first | ((with_reducible refine gate_callee (f := 77) rfl ?_); refine uGo (some 18) Try.func77 #[.int .i64 (rd l0 x11_1), .int .i64 a1, .int .i64 a2] ?_; (with_reducible refine (spec_l1In.calls (rd l0 x11_1) a1 a2 true _ A7.out).mono ?_); rintro e w' ⟨rfl, ⟨nd, rfl⟩⟩; refine ⟨_, rfl, ?_⟩))
       go_roundg k1
       case measure => have := HK1.out; omega
       case rel => exact ⟨(wrap64 (x11_1 + 1)), (by first | rfl | (simp; done) | (simp [*]; done)), H', ⟨by have := HK1.out; omega⟩, by repeat (first | exact Drawn0.refl _ | apply Drawn0.step)⟩
      ·replace c8 := Bool.eq_false_iff.mpr c8
       subst c8
       have H1 : (some false) = some r := by rw [if_neg (show ¬ (false = true) by decide)] at H; exact H
       clear H
       have H := H1
       clear H1
       obtain rfl := Option.some.inj H
       have p101 : 0 ≤ (x11_1 : Int) := of_decide_eq_true (by first | (with_reducible assumption) | assumption)
       have q101 : x11_1 < (l0.length : Int) := of_decide_eq_true (by first | (with_reducible assumption) | assumption)
       obtain ⟨ad101, e101, hx101_0⟩ := Kd.at_int HR0.out x11_1 p101 q101
       cases e101
       replace p101 := eq_true p101
       replace q101 := eq_true q101
       go_wp2_with (first | ((with_reducible refine gate_callee (f := 77) rfl ?_); refine uGo (some 18) Try.func77 #[.int .i64 (rd l0 x11_1), .int .i64 a1, .int .i64 a2] ?_; (with_reducible refine (spec_l1In.calls (rd l0 x11_1) a1 a2 false _ A7.out).mono ?_); rintro e w' ⟨rfl, ⟨nd, rfl⟩⟩; refine ⟨_, rfl, ?_⟩))
       go_ret
       exact ⟨by first | rfl | (simp; done) | (simp [*]; done), by repeat (first | exact Drawn0.refl _ | apply Drawn0.step)⟩
     ·rw [if_neg c6] at H
      exact absurd H (by simp)
    ·rw [if_neg c5] at H
     exact absurd H (by simp)
   ·rw [if_neg c4] at H
    have c4b0 : decide (x11_1 < (l0.length : Int)) = false := decide_eq_false c4
    clear c4
    obtain rfl := Option.some.inj H
    go_wp2
    go_ret
    exact ⟨by first | rfl | (simp; done) | (simp [*]; done), by repeat (first | exact Drawn0.refl _ | apply Drawn0.step)⟩
def spec_bgPlan.j0 : Nat → List (S45) → Int → List Int → Bool → Option (Bool)
 | 0, _, _, _, _ => none
 | k + 1, x0, x1, x2, x18 => if x18 = true then (some false) else ((spec_bgWeights.f k x0 x2).bind fun t105 => ((spec_l1All.f k t105 1 x1).bind fun t108 => (some t108)))
def spec_bgPlan.f (k : Nat) (l0 : List (S45)) (a1 : Int) (l2 : List Int) : Option (Bool) := if (l2.length : Int) = (l0.length : Int) then ((spec_bgNamed.f k l2).bind fun t101 => ((spec_l1Same.f k t101 l2).bind fun t104 => (spec_bgPlan.j0 k l0 a1 l2 (!t104)))) else (spec_bgPlan.j0 k l0 a1 l2 true)
theorem spec_bgPlan.calls (k : Nat) (A0 : Option Addr) (c0 : Nat) (l0 : List (S45)) (a1 : Int) (A2 : Option Addr) (c2 : Nat) (l2 : List Int) (r : Bool) (w : World) (hr0 : Kd.C k45 w A0 l0.length l0) (hc0 : l0.length ≤ c0) (hr2 : Kd.C (Kd.int .i64) w A2 l2.length l2) (hc2 : l2.length ≤ c2) (h : spec_bgPlan.f k l0 a1 l2 = some r) :
  Calls Try.prog 70 #[.slice A0 l0.length c0, .int .i64 a1, .slice A2 l2.length c2] w fun e w' => e = .returned (.bool r) ∧ Below w.heap.size w w' := by
 have HR0 := am hr0
 have HC0 := am hc0
 clear hr0 hc0
 have HR2 := am hr2
 have HC2 := am hc2
 clear hr2 hc2
 have HB := am (Below.refl w.heap.size w)
 have H : (if (l2.length : Int) = (l0.length : Int) then ((spec_bgNamed.f k l2).bind fun t101 => ((spec_l1Same.f k t101 l2).bind fun t104 => (spec_bgPlan.j0 k l0 a1 l2 (!t104)))) else (spec_bgPlan.j0 k l0 a1 l2 true)) = some r := h
 clear h
 have HC4 := am H
 clear H
 go_enter Try.func70, Try.ntmps70
 go_upto_region 1 with (fail)
 go_cut [18] (fun v18 wc => ∃ (kq : Nat) (x18_3 : Bool), v18 = .bool x18_3 ∧ Aside0 (spec_bgPlan.j0 kq l0 a1 l2 x18_3 = some r) ∧ Aside0 (kq ≤ k) ∧ Aside0 (Below w.heap.size w wc))
 case first =>
  have H := HC4.out
  clear HC4
  by_cases c5 : (l2.length : Int) = (l0.length : Int)
  ·rw [if_pos c5] at H
   have c5b0 : ((l2.length : Int) == (l0.length : Int)) = true := beq_iff_eq.mpr c5
   have c5b1 : ((l2.length : Int) != (l0.length : Int)) = false := bne_eq_false_iff_eq.mpr c5
   have c5b2 : (l2.length == l0.length) = true := by first | simpa using c5 | (simp at c5 ⊢; omega)
   clear c5
   (first | rw [c5b0] | (simp only [i64_w, i32_w]; rw [c5b0]) | skip)
   replace H := bH H
   obtain ⟨t101, A60, H⟩ := H
   replace H : ((spec_l1Same.f k t101 l2).bind fun t104 => (spec_bgPlan.j0 k l0 a1 l2 (!t104))) = some r := H
   have A6 := am A60
   clear A60
   replace H := bH H
   obtain ⟨t104, A70, H⟩ := H
   replace H : (spec_bgPlan.j0 k l0 a1 l2 (!t104)) = some r := H
   have A7 := am A70
   clear A70
   have H' := am H
   clear H
   go_wp2_with (first | (go_at_call 81; (with_reducible refine (spec_bgNamed.calls k _ _ l2 t101 _ ?side1 ?side2 A6.out).mono ?_); (case side1 => repeat (first | exact (Kd.C_below HR2.out HB.out) | (with_reducible refine cA ?_ _) | (with_reducible refine cN ?_ _) | (with_reducible refine cD ?_))); (case side2 => exact HC2.out); rintro e w8 ⟨v102, rfl, ho0, hb⟩; have HO103 := am (Kd.R_lower ho0 (below_size uW)); replace HB := uS hb; (try clear hb); (try clear hb2); (try clear hk); (try clear hi); (try clear ho0); obtain ⟨Ao9, co9, eo9⟩ := Kd.R_slice HO103.out; subst eo9) | (go_at_call 91; (with_reducible refine (spec_l1Same.calls k _ _ t101 _ _ l2 t104 _ ?side1 ?side2 ?side3 ?side4 A7.out).mono ?_); (case side1 => repeat (first | exact (Kd.R_reads' HO103.out).2.2 | (with_reducible refine cA ?_ _) | (with_reducible refine cN ?_ _) | (with_reducible refine cD ?_))); (case side2 => exact (Kd.R_reads' HO103.out).2.1); (case side3 => repeat (first | exact (Kd.C_below HR2.out HB.out) | (with_reducible refine cA ?_ _) | (with_reducible refine cN ?_ _) | (with_reducible refine cD ?_))); (case side4 => exact HC2.out); rintro e w' ⟨rfl, ⟨nd, rfl⟩⟩))
   go_meet
   case rel => exact ⟨_, (!t104), (by first | rfl | (simp; done) | (simp [*]; done)), H', ⟨by first | omega | exact Nat.le_refl _⟩, ⟨by exact uW⟩⟩
  ·rw [if_neg c5] at H
   have c5b0 : ((l2.length : Int) == (l0.length : Int)) = false := beq_eq_false_iff_ne.mpr c5
   have c5b1 : ((l2.length : Int) != (l0.length : Int)) = true := bne_iff_ne.mpr c5
   have c5b2 : (l2.length == l0.length) = false := by first | simpa using c5 | (simp at c5 ⊢; omega)
   (first | rw [c5b0] | (simp only [i64_w, i32_w]; rw [c5b0]) | skip)
   have H' := am H
   clear H
   go_wp2
   go_meet
   case rel => exact ⟨_, (true), (by first | rfl | (simp; done) | (simp [*]; done)), H', ⟨by first | omega | exact Nat.le_refl _⟩, ⟨by exact uW⟩⟩
 case rest =>
  clear HC4
  try clear c2
  try clear p2
  try clear c5
  try clear c5b0
  try clear c5b1
  try clear c5b2
  try clear c7
  obtain ⟨kq, x18_3, rfl, HA, HJ3, HB⟩ := hcut
  cases kq with
  | zero => exact absurd HA.out (by simp [spec_bgPlan.j0])
  | succ kj3 =>
   have H := HA.out
   clear HA
   simp only [spec_bgPlan.j0] at H
   by_cases c10 : x18_3 = true
   ·subst c10
    have H1 : (some false) = some r := by rw [if_pos rfl] at H; exact H
    clear H
    have H := H1
    clear H1
    obtain rfl := Option.some.inj H
    go_wp2
    go_ret
    exact ⟨uA, by exact uW⟩
   ·replace c10 := Bool.eq_false_iff.mpr c10
    subst c10
    have H1 : ((spec_bgWeights.f kj3 l0 l2).bind fun t105 => ((spec_l1All.f kj3 t105 1 a1).bind fun t108 => (some t108))) = some r := by rw [if_neg (show ¬ (false = true) by decide)] at H; exact H
    clear H
    have H := H1
    clear H1
    replace H := bH H
    obtain ⟨t105, A110, H⟩ := H
    replace H : ((spec_l1All.f kj3 t105 1 a1).bind fun t108 => (some t108)) = some r := H
    have A11 := am A110
    clear A110
    replace H := bH H
    obtain ⟨t108, A120, H⟩ := H
    replace H : (some t108) = some r := H
    have A12 := am A120
    clear A120
    obtain rfl := Option.some.inj H
    go_wp2_with (first | ((with_reducible refine gate_callee (f := 68) rfl ?_); refine uGo (some 21) Try.func68 #[.slice A0 l0.length c0, .slice A2 l2.length c2] ?_; (with_reducible refine (spec_bgWeights.calls kj3 _ _ l0 _ _ l2 t105 _ ?side1 ?side2 ?side3 ?side4 A11.out).mono ?_); (case side1 => repeat (first | exact (Kd.C_below HR0.out HB.out) | (with_reducible refine cA ?_ _) | (with_reducible refine cN ?_ _) | (with_reducible refine cD ?_))); (case side2 => exact HC0.out); (case side3 => repeat (first | exact (Kd.C_below HR2.out HB.out) | (with_reducible refine cA ?_ _) | (with_reducible refine cN ?_ _) | (with_reducible refine cD ?_))); (case side4 => exact HC2.out); rintro e w13 ⟨v106, rfl, ho0, hb⟩; refine ⟨_, rfl, ?_⟩; have HO107 := am (Kd.R_lower ho0 (below_size uW)); replace HB := uS hb; (try clear hb); (try clear hb2); (try clear hk); (try clear hi); (try clear ho0); obtain ⟨Ao14, co14, eo14⟩ := Kd.R_slice HO107.out; subst eo14) | ((with_reducible refine gate_callee (f := 92) rfl ?_); refine uGo (some 23) Try.func92 #[.slice Ao14 t105.length co14, .int .i64 1, .int .i64 a1] ?_; (with_reducible refine (spec_l1All.calls kj3 _ _ t105 1 a1 t108 _ ?side1 ?side2 A12.out).mono ?_); (case side1 => repeat (first | exact (Kd.R_reads' HO107.out).2.2 | (with_reducible refine cA ?_ _) | (with_reducible refine cN ?_ _) | (with_reducible refine cD ?_))); (case side2 => exact (Kd.R_reads' HO107.out).2.1); rintro e w' ⟨rfl, ⟨nd, rfl⟩⟩; refine ⟨_, rfl, ?_⟩))
    go_ret
    exact ⟨uA, by exact uW⟩
def spec_bgBoth.f (k : Nat) (l0 : List (S45)) (a1 : Int) (l2 : List Int) : Option (Bool) := (spec_bgAsked.f k l0 a1).bind fun t101 => (if t101 = true then ((spec_bgPlan.f k l0 a1 l2).bind fun t102 => (some t102)) else (some false))
theorem spec_bgBoth.calls (k : Nat) (A0 : Option Addr) (c0 : Nat) (l0 : List (S45)) (a1 : Int) (A2 : Option Addr) (c2 : Nat) (l2 : List Int) (r : Bool) (w : World) (hr0 : Kd.C k45 w A0 l0.length l0) (hc0 : l0.length ≤ c0) (hr2 : Kd.C (Kd.int .i64) w A2 l2.length l2) (hc2 : l2.length ≤ c2) (h : spec_bgBoth.f k l0 a1 l2 = some r) :
  Calls Try.prog 67 #[.slice A0 l0.length c0, .int .i64 a1, .slice A2 l2.length c2] w fun e w' => e = .returned (.bool r) ∧ Below w.heap.size w w' := by
 have HR0 := am hr0
 have HC0 := am hc0
 clear hr0 hc0
 have HR2 := am hr2
 have HC2 := am hc2
 clear hr2 hc2
 have HB := am (Below.refl w.heap.size w)
 have H : ((spec_bgAsked.f k l0 a1).bind fun t101 => (if t101 = true then ((spec_bgPlan.f k l0 a1 l2).bind fun t102 => (some t102)) else (some false))) = some r := h
 clear h
 replace H := bH H
 obtain ⟨t101, A40, H⟩ := H
 replace H : (if t101 = true then ((spec_bgPlan.f k l0 a1 l2).bind fun t102 => (some t102)) else (some false)) = some r := H
 have A4 := am A40
 clear A40
 by_cases c5 : t101 = true
 ·subst c5
  have H1 : ((spec_bgPlan.f k l0 a1 l2).bind fun t102 => (some t102)) = some r := by rw [if_pos rfl] at H; exact H
  clear H
  have H := H1
  clear H1
  replace H := bH H
  obtain ⟨t102, A60, H⟩ := H
  replace H : (some t102) = some r := H
  have A6 := am A60
  clear A60
  obtain rfl := Option.some.inj H
  go_enter Try.func67, Try.ntmps67
  go_wp2_with (first | ((with_reducible refine gate_callee (f := 44) rfl ?_); refine uGo (some 9) Try.func44 #[.slice A0 l0.length c0, .int .i64 a1] ?_; (with_reducible refine (spec_bgAsked.calls k _ _ l0 a1 true _ ?side1 ?side2 A4.out).mono ?_); (case side1 => repeat (first | exact HR0.out | (with_reducible refine cA ?_ _) | (with_reducible refine cN ?_ _) | (with_reducible refine cD ?_))); (case side2 => exact HC0.out); rintro e w7 ⟨rfl, hb⟩; refine ⟨_, rfl, ?_⟩; replace HB := uS hb; (try clear hb); (try clear hb2); (try clear hk); (try clear hi)) | (go_at_call 70; (with_reducible refine (spec_bgPlan.calls k _ _ l0 a1 _ _ l2 t102 _ ?side1 ?side2 ?side3 ?side4 A6.out).mono ?_); (case side1 => repeat (first | exact (Kd.C_below HR0.out HB.out) | (with_reducible refine cA ?_ _) | (with_reducible refine cN ?_ _) | (with_reducible refine cD ?_))); (case side2 => exact HC0.out); (case side3 => repeat (first | exact (Kd.C_below HR2.out HB.out) | (with_reducible refine cA ?_ _) | (with_reducible refine cN ?_ _) | (with_reducible refine cD ?_))); (case side4 => exact HC2.out); rintro e w8 ⟨rfl, hb⟩; replace HB := uS hb; (try clear hb); (try clear hb2); (try clear hk); (try clear hi)))
  go_ret
  exact ⟨uA, by exact uW⟩
 ·replace c5 := Bool.eq_false_iff.mpr c5
  subst c5
  have H1 : (some false) = some r := by rw [if_neg (show ¬ (false = true) by decide)] at H; exact H
  clear H
  have H := H1
  clear H1
  obtain rfl := Option.some.inj H
  go_enter Try.func67, Try.ntmps67
  go_wp2_with (first | ((with_reducible refine gate_callee (f := 44) rfl ?_); refine uGo (some 9) Try.func44 #[.slice A0 l0.length c0, .int .i64 a1] ?_; (with_reducible refine (spec_bgAsked.calls k _ _ l0 a1 false _ ?side1 ?side2 A4.out).mono ?_); (case side1 => repeat (first | exact HR0.out | (with_reducible refine cA ?_ _) | (with_reducible refine cN ?_ _) | (with_reducible refine cD ?_))); (case side2 => exact HC0.out); rintro e w9 ⟨rfl, hb⟩; refine ⟨_, rfl, ?_⟩; replace HB := uS hb; (try clear hb); (try clear hb2); (try clear hk); (try clear hi)))
  go_ret
  exact ⟨uA, by exact uW⟩
mutual
def spec_TripsOfPlan.l0 : Nat → List Int → List (List Int) → Int → Int → Option ((List (List Int)) × Bool)
 | 0, _, _, _, _ => none
 | k + 1, x2, x8, x21, x22 => if x22 < x21 then (spec_TripsOfPlan.l1 k x2 x8 x22 ([] : List Int) x21 x22 x2 (x2.length : Int) 0) else (some (x8, true))
def spec_TripsOfPlan.l1 : Nat → List Int → List (List Int) → Int → List Int → Int → Int → List Int → Int → Int → Option ((List (List Int)) × Bool)
 | 0, _, _, _, _, _, _, _, _, _ => none
 | k + 1, x2, x8, x9, x10, x21, x22, x25, x26, x27 => if x27 < x26 then (if 0 ≤ x27 then (if x27 < (x25.length : Int) then (if (rd x25 x27) = x9 then (if x10.length < 17592186044416 then (spec_TripsOfPlan.l1 k x2 x8 x9 (x10 ++ [x27]) x21 x22 x25 x26 (wrap64 (x27 + 1))) else (none)) else (spec_TripsOfPlan.l1 k x2 x8 x9 x10 x21 x22 x25 x26 (wrap64 (x27 + 1)))) else (none)) else (none)) else (if x8.length < 5864062014805 then (spec_TripsOfPlan.l0 k x2 (x8 ++ [x10]) x21 (wrap64 (x22 + 1))) else (none))
end
def spec_TripsOfPlan.f (k : Nat) (l0 : List (S45)) (a1 : Int) (l2 : List Int) : Option ((List (List Int)) × Bool) := (spec_bgBoth.f k l0 a1 l2).bind fun t101 => (if t101 = true then ((spec_bgWeights.f k l0 l2).bind fun t102 => (spec_TripsOfPlan.l0 k l2 ([] : List (List Int)) (t102.length : Int) 0)) else (some (([] : List (List Int)), false)))
theorem spec_TripsOfPlan.calls (k : Nat) (A0 : Option Addr) (c0 : Nat) (l0 : List (S45)) (a1 : Int) (A2 : Option Addr) (c2 : Nat) (l2 : List Int) (r1 : List (List Int)) (r2 : Bool) (w : World) (hr0 : Kd.C k45 w A0 l0.length l0) (hc0 : l0.length ≤ c0) (hr2 : Kd.C (Kd.int .i64) w A2 l2.length l2) (hc2 : l2.length ≤ c2) (h : spec_TripsOfPlan.f k l0 a1 l2 = some (r1, r2)) :
  Calls Try.prog 31 #[.slice A0 l0.length c0, .int .i64 a1, .slice A2 l2.length c2] w fun e w' => ∃ v0_ : Value, e = .returned (.tuple #[v0_, .bool r2]) ∧ Kd.S (Kd.slice 3 (Kd.int .i64)) 27 w' w.heap.size (fun _ => True) v0_ r1 ∧ Below w.heap.size w w' := by
 have HR0 := am hr0
 have HC0 := am hc0
 clear hr0 hc0
 have HR2 := am hr2
 have HC2 := am hc2
 clear hr2 hc2
 have HB := am (Below.refl w.heap.size w)
 have H : ((spec_bgBoth.f k l0 a1 l2).bind fun t101 => (if t101 = true then ((spec_bgWeights.f k l0 l2).bind fun t102 => (spec_TripsOfPlan.l0 k l2 ([] : List (List Int)) (t102.length : Int) 0)) else (some (([] : List (List Int)), false)))) = some (r1, r2) := h
 clear h
 replace H := bH H
 obtain ⟨t101, A40, H⟩ := H
 replace H : (if t101 = true then ((spec_bgWeights.f k l0 l2).bind fun t102 => (spec_TripsOfPlan.l0 k l2 ([] : List (List Int)) (t102.length : Int) 0)) else (some (([] : List (List Int)), false))) = some (r1, r2) := H
 have A4 := am A40
 clear A40
 by_cases c5 : t101 = true
 ·subst c5
  have H1 : ((spec_bgWeights.f k l0 l2).bind fun t102 => (spec_TripsOfPlan.l0 k l2 ([] : List (List Int)) (t102.length : Int) 0)) = some (r1, r2) := by rw [if_pos rfl] at H; exact H
  clear H
  have H := H1
  clear H1
  replace H := bH H
  obtain ⟨t102, A60, H⟩ := H
  replace H : (spec_TripsOfPlan.l0 k l2 ([] : List (List Int)) (t102.length : Int) 0) = some (r1, r2) := H
  have A6 := am A60
  clear A60
  have H' := am H
  clear H
  go_enter Try.func31, Try.ntmps31
  go_wp2_with (first | ((with_reducible refine gate_callee (f := 67) rfl ?_); refine uGo (some 16) Try.func67 #[.slice A0 l0.length c0, .int .i64 a1, .slice A2 l2.length c2] ?_; (with_reducible refine (spec_bgBoth.calls k _ _ l0 a1 _ _ l2 true _ ?side1 ?side2 ?side3 ?side4 A4.out).mono ?_); (case side1 => repeat (first | exact HR0.out | (with_reducible refine cA ?_ _) | (with_reducible refine cN ?_ _) | (with_reducible refine cD ?_))); (case side2 => exact HC0.out); (case side3 => repeat (first | exact HR2.out | (with_reducible refine cA ?_ _) | (with_reducible refine cN ?_ _) | (with_reducible refine cD ?_))); (case side4 => exact HC2.out); rintro e w7 ⟨rfl, hb⟩; refine ⟨_, rfl, ?_⟩; replace HB := uS hb; (try clear hb); (try clear hb2); (try clear hk); (try clear hi)) | ((with_reducible refine gate_callee (f := 68) rfl ?_); refine uGo (some 20) Try.func68 #[.slice A0 l0.length c0, .slice A2 l2.length c2] ?_; (with_reducible refine (spec_bgWeights.calls k _ _ l0 _ _ l2 t102 _ ?side1 ?side2 ?side3 ?side4 A6.out).mono ?_); (case side1 => repeat (first | exact (Kd.C_below HR0.out HB.out) | (with_reducible refine cA ?_ _) | (with_reducible refine cN ?_ _) | (with_reducible refine cD ?_))); (case side2 => exact HC0.out); (case side3 => repeat (first | exact (Kd.C_below HR2.out HB.out) | (with_reducible refine cA ?_ _) | (with_reducible refine cN ?_ _) | (with_reducible refine cD ?_))); (case side4 => exact HC2.out); rintro e w8 ⟨v103, rfl, ho0, hb⟩; refine ⟨_, rfl, ?_⟩; have HO104 := am (Kd.R_lower ho0 (below_size uW)); replace HB := uS hb; (try clear hb); (try clear hb2); (try clear hk); (try clear hi); (try clear ho0); obtain ⟨Ao9, co9, eo9⟩ := Kd.R_slice HO104.out; subst eo9))
  go_loopg [8, 22] k (fun kq v8 v22 w' => ∃ (x8_1 : List (List Int)) (x22_1 : Int), v22 = .int .i64 x22_1 ∧ Aside0 (spec_TripsOfPlan.l0 kq l2 x8_1 (t102.length : Int) x22_1 = some (r1, r2)) ∧ Aside0 (kq ≤ k) ∧ Aside0 (Kd.S (Kd.slice 3 (Kd.int .i64)) 27 w' w.heap.size (fun _ => True) v8 x8_1) ∧ Aside0 (Below w.heap.size w w'))
  case atStart => exact ⟨(([] : List (List Int))), (0), (by first | rfl | (simp; done) | (simp [*]; done)), H', ⟨Nat.le_refl _⟩, ⟨by first | exact Kd.S_nil _ _ _ _ _ | exact Kd.N_nil _ _ _ _ _ | exact Kd.V_nil _ _ _ _ _ | exact Kd.Q_nil _ _ _ _ _ | exact Kd.R_nil _ _ _ _ _⟩, ⟨by exact uW⟩⟩
  case round =>
   clear H'
   try clear c2
   try clear p2
   try clear c3
   try clear c5
   try clear c6
   obtain ⟨x8_1, x22_1, rfl, HA, HK1, HO_8, HB⟩ := hrel
   cases gk with
   | zero => exact absurd HA.out (by simp [spec_TripsOfPlan.l0])
   | succ k1 =>
    have H := HA.out
    clear HA
    simp only [spec_TripsOfPlan.l0] at H
    by_cases c10 : x22_1 < (t102.length : Int)
    ·rw [if_pos c10] at H
     have c10b0 : decide (x22_1 < (t102.length : Int)) = true := decide_eq_true c10
     clear c10
     have H' := am H
     clear H
     go_wp2
     go_loopg [10, 27] k1 (fun kq v10 v27 w' => ∃ (x10_2 : List Int) (x27_2 : Int), v27 = .int .i64 x27_2 ∧ Aside0 (spec_TripsOfPlan.l1 kq l2 x8_1 x22_1 x10_2 (t102.length : Int) x22_1 l2 (l2.length : Int) x27_2 = some (r1, r2)) ∧ Aside0 (kq ≤ k1) ∧ Aside0 (Kd.S (Kd.slice 3 (Kd.int .i64)) 27 w' w.heap.size (fun k_ => some k_ ≠ (v10 : Value).ownBlock) u8 x8_1) ∧ Aside0 (Kd.R (Kd.int .i64) 3 w' w.heap.size (fun _ => True) v10 x10_2) ∧ Aside0 (Below w.heap.size w w'))
     case atStart => exact ⟨(([] : List Int)), (0), (by first | rfl | (simp; done) | (simp [*]; done)), H', ⟨Nat.le_refl _⟩, ⟨by (with_reducible repeat (first | apply Kd.S_alloc | apply Kd.S_drewN | apply Kd.S_drew)); exact Kd.S_mono HO_8.out (fun _ hk => (by simp [Value.ownBlock]))⟩, ⟨uN⟩, ⟨by exact uW⟩⟩
     case round =>
      clear H'
      try clear c1
      try clear c2
      try clear p2
      try clear c3
      try clear c5
      try clear c6
      try clear c10
      try clear c10b0
      try clear p2
      obtain ⟨x10_2, x27_2, rfl, HA, HK2, HO_8, HO_10, HB⟩ := hrel
      cases gk with
      | zero => exact absurd HA.out (by simp [spec_TripsOfPlan.l1])
      | succ k2 =>
       have H := HA.out
       clear HA
       simp only [spec_TripsOfPlan.l1] at H
       by_cases c11 : x27_2 < (l2.length : Int)
       ·rw [if_pos c11] at H
        have c11b0 : decide (x27_2 < (l2.length : Int)) = true := decide_eq_true c11
        clear c11
        by_cases c12 : 0 ≤ x27_2
        ·rw [if_pos c12] at H
         have c12b0 : decide (0 ≤ x27_2) = true := decide_eq_true c12
         clear c12
         by_cases c13 : x27_2 < (l2.length : Int)
         ·rw [if_pos c13] at H
          have c13b0 : decide (x27_2 < (l2.length : Int)) = true := decide_eq_true c13
          clear c13
          by_cases c14 : (rd l2 x27_2) = x22_1
          ·rw [if_pos c14] at H
           have c14b0 : ((rd l2 x27_2) == x22_1) = true := beq_iff_eq.mpr c14
           have c14b1 : ((rd l2 x27_2) != x22_1) = false := bne_eq_false_iff_eq.mpr c14
           clear c14
           by_cases c15 : x10_2.length < 17592186044416
           ·rw [if_pos c15] at H
            have LMc15 := am c15
            clear c15
            obtain ⟨y106, hy106⟩ : ∃ y_ : List Int, y_ = (x10_2 ++ [x27_2]) := ⟨_, rfl⟩
            replace H : (spec_TripsOfPlan.l1 k2 l2 x8_1 x22_1 y106 (t102.length : Int) x22_1 l2 (l2.length : Int) (wrap64 (x27_2 + 1))) = some (r1, r2) := by first | (rw [hy106]; with_reducible exact H) | (have H2_ := (Option.bind_some _ _).symm.trans H; rw [hy106]; with_reducible exact H2_) | (have H2_ := (Option.bind_some _ _).symm.trans H; with_reducible exact H2_) | with_reducible exact H | (rw [hy106]; exact H) | exact H
            have Ny106 := am hy106
            clear hy106
            have H' := am H
            clear H
            have p105 : 0 ≤ (x27_2 : Int) := of_decide_eq_true (by first | (with_reducible assumption) | assumption)
            have q105 : x27_2 < (l2.length : Int) := of_decide_eq_true (by first | (with_reducible assumption) | assumption)
            obtain ⟨ad105, e105, hx105_0⟩ := Kd.at_int HR2.out x27_2 p105 q105
            cases e105
            try replace hx105_0 := (HB.out.cell (World.block_lt_of_cell? w _ hx105_0)).trans hx105_0
            replace p105 := eq_true p105
            replace q105 := eq_true q105
            go_wp2_with (first | ((with_reducible refine gate_builtin (b := .append) (xs := #[.tmp 35, .tmp 37]) rfl ?_); at_builtin; refine Kd.R_append (Kd.int .i64) (w0 := w) w.heap.size rfl (.tmp 35) (.tmp 37) 27 3 (.int .i64 0) 8 rfl Try.underlying27 info3 rfl (by decide) (by omega) u10 x10_2 x27_2 [.int .i64 x27_2] (fun _ => True) (fun _ => False) rfl rfl ?aP (fun _ hk => hk.elim) ?aF ?aO ?aB ?aS ?aL ?_; (case aP => exact rfl); (case aB => exact uW); (case aF => exact (fun _ _ => trivial)); (case aO => exact (uR HO_10)); (case aS => exact (below_size uW)); (case aL => have := LMc15.out; omega); intro v107 w16 ho hb hg hat; rw [← Ny106.out] at ho; have HO108 := am (ho); replace HO_8 := am (Kd.S_after (ok := (fun _ => True)) (by (with_reducible repeat (first | apply Kd.S_alloc | apply Kd.S_drewN | apply Kd.S_drew)); exact Kd.S_mono HO_8.out (fun _ hk => ⟨trivial, hk⟩)) hg hat); replace HB := am (hb); clear HO_10; clear ho hb hg hat))
            go_roundg k2
            case measure => have := HK1.out; have := HK2.out; omega
            case rel => exact ⟨(y106), (wrap64 (x27_2 + 1)), (by first | rfl | (simp; done) | (simp [*]; done)), H', ⟨by have := HK1.out; have := HK2.out; omega⟩, ⟨by (with_reducible repeat (first | apply Kd.S_alloc | apply Kd.S_drewN | apply Kd.S_drew)); exact Kd.S_mono HO_8.out (fun _ hk => hk.2)⟩, ⟨by (with_reducible repeat (first | apply rA | apply rN | apply rD)); exact HO108.out⟩, ⟨by exact uW⟩⟩
           ·rw [if_neg c15] at H
            exact absurd H (by simp)
          ·rw [if_neg c14] at H
           have c14b0 : ((rd l2 x27_2) == x22_1) = false := beq_eq_false_iff_ne.mpr c14
           have c14b1 : ((rd l2 x27_2) != x22_1) = true := bne_iff_ne.mpr c14
           have H' := am H
           clear H
           have p105 : 0 ≤ (x27_2 : Int) := of_decide_eq_true (by first | (with_reducible assumption) | assumption)
           have q105 : x27_2 < (l2.length : Int) := of_decide_eq_true (by first | (with_reducible assumption) | assumption)
           obtain ⟨ad105, e105, hx105_0⟩ := Kd.at_int HR2.out x27_2 p105 q105
           cases e105
           try replace hx105_0 := (HB.out.cell (World.block_lt_of_cell? w _ hx105_0)).trans hx105_0
           replace p105 := eq_true p105
           replace q105 := eq_true q105
           go_wp2
           go_roundg k2
           case measure => have := HK1.out; have := HK2.out; omega
           case rel => exact ⟨(x10_2), (wrap64 (x27_2 + 1)), (by first | rfl | (simp; done) | (simp [*]; done)), H', ⟨by have := HK1.out; have := HK2.out; omega⟩, ⟨by (with_reducible repeat (first | apply Kd.S_alloc | apply Kd.S_drewN | apply Kd.S_drew)); exact HO_8.out⟩, ⟨by (with_reducible repeat (first | apply rA | apply rN | apply rD)); exact HO_10.out⟩, ⟨by exact uW⟩⟩
         ·rw [if_neg c13] at H
          exact absurd H (by simp)
        ·rw [if_neg c12] at H
         exact absurd H (by simp)
       ·rw [if_neg c11] at H
        have c11b0 : decide (x27_2 < (l2.length : Int)) = false := decide_eq_false c11
        clear c11
        by_cases c17 : x8_1.length < 5864062014805
        ·rw [if_pos c17] at H
         have LMc17 := am c17
         clear c17
         obtain ⟨y109, hy109⟩ : ∃ y_ : List (List Int), y_ = (x8_1 ++ [x10_2]) := ⟨_, rfl⟩
         replace H : (spec_TripsOfPlan.l0 k2 l2 y109 (t102.length : Int) (wrap64 (x22_1 + 1))) = some (r1, r2) := by first | (rw [hy109]; with_reducible exact H) | (have H2_ := (Option.bind_some _ _).symm.trans H; rw [hy109]; with_reducible exact H2_) | (have H2_ := (Option.bind_some _ _).symm.trans H; with_reducible exact H2_) | with_reducible exact H | (rw [hy109]; exact H) | exact H
         have Ny109 := am hy109
         clear hy109
         have H' := am H
         clear H
         obtain ⟨Ao19, co19, eo19⟩ := Kd.R_slice HO_10.out
         subst eo19
         go_wp2_with (first | ((with_reducible refine gate_builtin (b := .append) (xs := #[.tmp 40, .tmp 42]) rfl ?_); at_builtin; refine Kd.S_append (Kd.slice 3 (Kd.int .i64)) (w0 := w) w.heap.size rfl (.tmp 40) (.tmp 42) 34 27 (.slice none 0 0) 24 rfl Try.underlying34 info27 rfl (by decide) (by omega) u8 x8_1 x10_2 [.slice Ao19 x10_2.length co19] (fun _ => True) (fun k_ => some k_ = (.slice Ao19 x10_2.length co19 : Value).ownBlock) rfl rfl ?aP (fun k_ hk_ => ((Kd.R_mono (ok' := fun k_ => ((fun _ => True)) k_ ∧ some k_ ≠ (u8 : Value).ownBlock) (Kd.R_apart' (HO_10.out) (Kd.S_typed HO_8.out) (by decide)) (fun k_ hk => ⟨trivial, hk.2⟩))).1 k_ hk_.symm) ?aF ?aO ?aB ?aS ?aL ?_; (case aP => exact Kd.M_row (Kd.R_mono (Kd.R_tight rfl (Kd.R_mono (ok' := fun k_ => ((fun _ => True)) k_ ∧ some k_ ≠ (u8 : Value).ownBlock) (Kd.R_apart' (HO_10.out) (Kd.S_typed HO_8.out) (by decide)) (fun k_ hk => ⟨trivial, hk.2⟩))) (fun _ h_ => h_))); (case aB => exact uW); (case aF => exact (fun _ _ => trivial)); (case aO => exact (by (with_reducible repeat (first | apply Kd.S_alloc | apply Kd.S_drewN | apply Kd.S_drew)); exact Kd.S_mono HO_8.out (fun k_ hk => ⟨trivial, fun e_ => hk e_⟩))); (case aS => exact (below_size uW)); (case aL => have := LMc17.out; omega); intro v110 w18 ho hb hg hat; rw [← Ny109.out] at ho; have HO111 := am (ho); replace HB := am (hb); clear HO_8 HO_10; clear ho hb hg hat))
         go_roundg k2
         case measure => have := HK1.out; have := HK2.out; omega
         case rel => exact ⟨(y109), (wrap64 (x22_1 + 1)), (by first | rfl | (simp; done) | (simp [*]; done)), H', ⟨by have := HK1.out; have := HK2.out; omega⟩, ⟨by (with_reducible repeat (first | apply Kd.S_alloc | apply Kd.S_drewN | apply Kd.S_drew)); exact HO111.out⟩, ⟨by exact uW⟩⟩
        ·rw [if_neg c17] at H
         exact absurd H (by simp)
    ·rw [if_neg c10] at H
     have c10b0 : decide (x22_1 < (t102.length : Int)) = false := decide_eq_false c10
     clear c10
     simp only [Option.some.injEq, Prod.mk.injEq] at H
     obtain ⟨rfl, rfl⟩ := H
     go_wp2
     go_ret2
     exact ⟨_, uA, by (with_reducible repeat (first | apply Kd.S_alloc | apply Kd.S_drewN | apply Kd.S_drew)); exact HO_8.out, by exact uW⟩
 ·replace c5 := Bool.eq_false_iff.mpr c5
  subst c5
  have H1 : (some (([] : List (List Int)), false)) = some (r1, r2) := by rw [if_neg (show ¬ (false = true) by decide)] at H; exact H
  clear H
  have H := H1
  clear H1
  simp only [Option.some.injEq, Prod.mk.injEq] at H
  obtain ⟨rfl, rfl⟩ := H
  go_enter Try.func31, Try.ntmps31
  go_wp2_with (first | ((with_reducible refine gate_callee (f := 67) rfl ?_); refine uGo (some 16) Try.func67 #[.slice A0 l0.length c0, .int .i64 a1, .slice A2 l2.length c2] ?_; (with_reducible refine (spec_bgBoth.calls k _ _ l0 a1 _ _ l2 false _ ?side1 ?side2 ?side3 ?side4 A4.out).mono ?_); (case side1 => repeat (first | exact HR0.out | (with_reducible refine cA ?_ _) | (with_reducible refine cN ?_ _) | (with_reducible refine cD ?_))); (case side2 => exact HC0.out); (case side3 => repeat (first | exact HR2.out | (with_reducible refine cA ?_ _) | (with_reducible refine cN ?_ _) | (with_reducible refine cD ?_))); (case side4 => exact HC2.out); rintro e w20 ⟨rfl, hb⟩; refine ⟨_, rfl, ?_⟩; replace HB := uS hb; (try clear hb); (try clear hb2); (try clear hk); (try clear hi)))
  go_ret2
  exact ⟨_, uA, by first | exact Kd.S_nil _ _ _ _ _ | exact Kd.N_nil _ _ _ _ _ | exact Kd.V_nil _ _ _ _ _ | exact Kd.Q_nil _ _ _ _ _ | exact Kd.R_nil _ _ _ _ _, by exact uW⟩
def spec_PackInOrder.f (k : Nat) (l0 : List (S45)) (a1 : Int) : Option (List Int × Bool) := (spec_bgAsked.f k l0 a1).bind fun t101 => (if t101 = true then ((spec_bgOrder.f k l0 false).bind fun t102 => ((spec_bgPack.f k l0 a1 t102).bind fun t105 => (some (t105, true)))) else (some (([] : List Int), false)))
theorem spec_PackInOrder.calls (k : Nat) (A0 : Option Addr) (c0 : Nat) (l0 : List (S45)) (a1 : Int) (r1 : List Int) (r2 : Bool) (w : World) (hr0 : Kd.C k45 w A0 l0.length l0) (hc0 : l0.length ≤ c0) (h : spec_PackInOrder.f k l0 a1 = some (r1, r2)) :
  Calls Try.prog 17 #[.slice A0 l0.length c0, .int .i64 a1] w fun e w' => ∃ v0_ : Value, e = .returned (.tuple #[v0_, .bool r2]) ∧ Kd.R (Kd.int .i64) 3 w' w.heap.size (fun _ => True) v0_ r1 ∧ Below w.heap.size w w' := by
 have HR0 := am hr0
 have HC0 := am hc0
 clear hr0 hc0
 have HB := am (Below.refl w.heap.size w)
 have H : ((spec_bgAsked.f k l0 a1).bind fun t101 => (if t101 = true then ((spec_bgOrder.f k l0 false).bind fun t102 => ((spec_bgPack.f k l0 a1 t102).bind fun t105 => (some (t105, true)))) else (some (([] : List Int), false)))) = some (r1, r2) := h
 clear h
 replace H := bH H
 obtain ⟨t101, A30, H⟩ := H
 replace H : (if t101 = true then ((spec_bgOrder.f k l0 false).bind fun t102 => ((spec_bgPack.f k l0 a1 t102).bind fun t105 => (some (t105, true)))) else (some (([] : List Int), false))) = some (r1, r2) := H
 have A3 := am A30
 clear A30
 by_cases c4 : t101 = true
 ·subst c4
  have H1 : ((spec_bgOrder.f k l0 false).bind fun t102 => ((spec_bgPack.f k l0 a1 t102).bind fun t105 => (some (t105, true)))) = some (r1, r2) := by rw [if_pos rfl] at H; exact H
  clear H
  have H := H1
  clear H1
  replace H := bH H
  obtain ⟨t102, A50, H⟩ := H
  replace H : ((spec_bgPack.f k l0 a1 t102).bind fun t105 => (some (t105, true))) = some (r1, r2) := H
  have A5 := am A50
  clear A50
  replace H := bH H
  obtain ⟨t105, A60, H⟩ := H
  replace H : (some (t105, true)) = some (r1, r2) := H
  have A6 := am A60
  clear A60
  simp only [Option.some.injEq, Prod.mk.injEq] at H
  obtain ⟨rfl, rfl⟩ := H
  go_enter Try.func17, Try.ntmps17
  go_wp2_with (first | ((with_reducible refine gate_callee (f := 44) rfl ?_); refine uGo (some 8) Try.func44 #[.slice A0 l0.length c0, .int .i64 a1] ?_; (with_reducible refine (spec_bgAsked.calls k _ _ l0 a1 true _ ?side1 ?side2 A3.out).mono ?_); (case side1 => repeat (first | exact HR0.out | (with_reducible refine cA ?_ _) | (with_reducible refine cN ?_ _) | (with_reducible refine cD ?_))); (case side2 => exact HC0.out); rintro e w7 ⟨rfl, hb⟩; refine ⟨_, rfl, ?_⟩; replace HB := uS hb; (try clear hb); (try clear hb2); (try clear hk); (try clear hi)) | ((with_reducible refine gate_callee (f := 50) rfl ?_); refine uGo (some 13) Try.func50 #[.slice A0 l0.length c0, .bool false] ?_; (with_reducible refine (spec_bgOrder.calls k _ _ l0 false t102 _ ?side1 ?side2 A5.out).mono ?_); (case side1 => repeat (first | exact (Kd.C_below HR0.out HB.out) | (with_reducible refine cA ?_ _) | (with_reducible refine cN ?_ _) | (with_reducible refine cD ?_))); (case side2 => exact HC0.out); rintro e w8 ⟨v103, rfl, ho0, hb⟩; refine ⟨_, rfl, ?_⟩; have HO104 := am (Kd.R_lower ho0 (below_size uW)); replace HB := uS hb; (try clear hb); (try clear hb2); (try clear hk); (try clear hi); (try clear ho0); obtain ⟨Ao9, co9, eo9⟩ := Kd.R_slice HO104.out; subst eo9) | ((with_reducible refine gate_callee (f := 49) rfl ?_); refine uGo (some 14) Try.func49 #[.slice A0 l0.length c0, .int .i64 a1, .slice Ao9 t102.length co9] ?_; (with_reducible refine (spec_bgPack.calls k _ _ l0 a1 _ _ t102 t105 _ ?side1 ?side2 ?side3 ?side4 A6.out).mono ?_); (case side1 => repeat (first | exact (Kd.C_below HR0.out HB.out) | (with_reducible refine cA ?_ _) | (with_reducible refine cN ?_ _) | (with_reducible refine cD ?_))); (case side2 => exact HC0.out); (case side3 => repeat (first | exact (Kd.R_reads' HO104.out).2.2 | (with_reducible refine cA ?_ _) | (with_reducible refine cN ?_ _) | (with_reducible refine cD ?_))); (case side4 => exact (Kd.R_reads' HO104.out).2.1); rintro e w10 ⟨v106, rfl, ho0, hb⟩; refine ⟨_, rfl, ?_⟩; have HO107 := am (Kd.R_lower (Kd.R_new' ho0 (Kd.R_lt (uR HO104))) (below_size uW)); replace HO104 := am (Kd.R_elder' (uR HO104) (Kd.R_base ho0) hb); replace HB := uS hb; (try clear hb); (try clear hb2); (try clear hk); (try clear hi); (try clear ho0)))
  go_ret2
  exact ⟨_, uA, by (with_reducible repeat (first | apply rA | apply rN | apply rD)); exact Kd.R_mono HO107.out (fun _ hk => trivial), by exact uW⟩
 ·replace c4 := Bool.eq_false_iff.mpr c4
  subst c4
  have H1 : (some (([] : List Int), false)) = some (r1, r2) := by rw [if_neg (show ¬ (false = true) by decide)] at H; exact H
  clear H
  have H := H1
  clear H1
  simp only [Option.some.injEq, Prod.mk.injEq] at H
  obtain ⟨rfl, rfl⟩ := H
  go_enter Try.func17, Try.ntmps17
  go_wp2_with (first | ((with_reducible refine gate_callee (f := 44) rfl ?_); refine uGo (some 8) Try.func44 #[.slice A0 l0.length c0, .int .i64 a1] ?_; (with_reducible refine (spec_bgAsked.calls k _ _ l0 a1 false _ ?side1 ?side2 A3.out).mono ?_); (case side1 => repeat (first | exact HR0.out | (with_reducible refine cA ?_ _) | (with_reducible refine cN ?_ _) | (with_reducible refine cD ?_))); (case side2 => exact HC0.out); rintro e w11 ⟨rfl, hb⟩; refine ⟨_, rfl, ?_⟩; replace HB := uS hb; (try clear hb); (try clear hb2); (try clear hk); (try clear hi)))
  go_ret2
  exact ⟨_, uA, uN, by exact uW⟩
def spec_l1Most.f (a0 : Int) (a1 : Int) : Option (Int) := if a0 > a1 then (some a0) else (some a1)
theorem spec_l1Most.calls (a0 : Int) (a1 : Int) (r : Int) (w : World) (h : spec_l1Most.f a0 a1 = some r) :
  Calls Try.prog 90 #[.int .i64 a0, .int .i64 a1] w fun e w' => e = .returned (.int .i64 r) ∧ Drawn0 w w' := by
 have H : (if a0 > a1 then (some a0) else (some a1)) = some r := h
 clear h
 by_cases c3 : a0 > a1
 ·rw [if_pos c3] at H
  have c3b0 : decide (a1 < a0) = true := decide_eq_true c3
  clear c3
  obtain rfl := Option.some.inj H
  go_enter Try.func90, Try.ntmps90
  go_wp2
  go_ret
  exact ⟨by first | rfl | (simp; done) | (simp [*]; done), by repeat (first | exact Drawn0.refl _ | apply Drawn0.step)⟩
 ·rw [if_neg c3] at H
  have c3b0 : decide (a1 < a0) = false := decide_eq_false c3
  clear c3
  obtain rfl := Option.some.inj H
  go_enter Try.func90, Try.ntmps90
  go_wp2
  go_ret
  exact ⟨by first | rfl | (simp; done) | (simp [*]; done), by repeat (first | exact Drawn0.refl _ | apply Drawn0.step)⟩
def spec_bgFar.l0 : Nat → List (S45) → List Int → List Int → Int → Int → Option (List Int)
 | 0, _, _, _, _, _ => none
 | k + 1, x0, x5, x8, x9, x10 => if x10 < x9 then (if 0 ≤ x10 then (if x10 < (x8.length : Int) then (if (rd x8 x10) = (x5.length : Int) then (if x5.length < 17592186044416 then ((some (x5 ++ [0] : List Int)).bind fun y102 => (if 0 ≤ (rd x8 x10) then (if (rd x8 x10) < (y102.length : Int) then (if x10 < (x0.length : Int) then ((spec_l1Most.f (rd y102 (rd x8 x10)) ((rd_T45 x0 x10).f0)).bind fun t107 => (spec_bgFar.l0 k x0 (y102.set ((rd x8 x10) : Int).toNat t107) x8 x9 (wrap64 (x10 + 1)))) else (none)) else (none)) else (none))) else (none)) else (if 0 ≤ (rd x8 x10) then (if (rd x8 x10) < (x5.length : Int) then (if x10 < (x0.length : Int) then ((spec_l1Most.f (rd x5 (rd x8 x10)) ((rd_T45 x0 x10).f0)).bind fun t111 => (spec_bgFar.l0 k x0 (x5.set ((rd x8 x10) : Int).toNat t111) x8 x9 (wrap64 (x10 + 1)))) else (none)) else (none)) else (none))) else (none)) else (none)) else (some x5)
def spec_bgFar.f (k : Nat) (l0 : List (S45)) (l1 : List Int) : Option (List Int) := spec_bgFar.l0 k l0 ([] : List Int) l1 (l1.length : Int) 0
def spec_bgFar.T7 : Bool × List (List Nat × List Nat) := (true, [([], []), ([], []), ([], []), ([], []), ([2, 3], [2, 3]), ([4], [4]), ([], []), ([], []), ([6, 7], [6, 7]), ([8], [8]), ([9], [9]), ([5, 10], [5, 10]), ([0, 1, 0, 1, 2, 3, 4, 5, 6, 7, 8, 9, 10, 11], [0, 1]), ([12, 11, 11, 0, 1, 2, 3, 4, 5, 6, 7, 8, 9, 10, 11], [11, 12])])
def spec_bgFar.B7 : List Nat := [0, 0, 0, 0, 12, 28, 0, 0, 192, 448, 960, 2044, 4095, 8191]
theorem spec_bgFar.tab7 : rtab .any (opsOf Try.f89 7) = spec_bgFar.T7 := by kernel_rfl
theorem spec_bgFar.bits7 : waitsOk spec_bgFar.T7.2 spec_bgFar.B7 = true := by kernel_rfl
theorem spec_bgFar.calls (k : Nat) (A0 : Option Addr) (c0 : Nat) (l0 : List (S45)) (A1 : Option Addr) (c1 : Nat) (l1 : List Int) (r : List Int) (w : World) (hr0 : Kd.C k45 w A0 l0.length l0) (hc0 : l0.length ≤ c0) (hr1 : Kd.C (Kd.int .i64) w A1 l1.length l1) (hc1 : l1.length ≤ c1) (h : spec_bgFar.f k l0 l1 = some r) :
  Calls Try.prog 89 #[.slice A0 l0.length c0, .slice A1 l1.length c1] w fun e w' => ∃ v0_ : Value, e = .returned (v0_) ∧ Kd.R (Kd.int .i64) 3 w' w.heap.size (fun _ => True) v0_ r ∧ Below w.heap.size w w' := by
 have HR0 := am hr0
 have HC0 := am hc0
 clear hr0 hc0
 have HR1 := am hr1
 have HC1 := am hc1
 clear hr1 hc1
 have HB := am (Below.refl w.heap.size w)
 have H : (spec_bgFar.l0 k l0 ([] : List Int) l1 (l1.length : Int) 0) = some r := h
 clear h
 have H' := am H
 clear H
 go_enter Try.func89, Try.ntmps89
 go_wp2
 go_loopg [5, 10] k (fun kq v5 v10 w' => ∃ (x5_1 : List Int) (x10_1 : Int), v10 = .int .i64 x10_1 ∧ Aside0 (spec_bgFar.l0 kq l0 x5_1 l1 (l1.length : Int) x10_1 = some r) ∧ Aside0 (kq ≤ k) ∧ Aside0 (Kd.R (Kd.int .i64) 3 w' w.heap.size (fun _ => True) v5 x5_1) ∧ Aside0 (Below w.heap.size w w'))
 case atStart => exact ⟨(([] : List Int)), (0), (by first | rfl | (simp; done) | (simp [*]; done)), H', ⟨Nat.le_refl _⟩, ⟨uN⟩, ⟨by exact uW⟩⟩
 case round =>
  clear H'
  try clear c1
  try clear p2
  obtain ⟨x5_1, x10_1, rfl, HA, HK1, HO_5, HB⟩ := hrel
  cases gk with
  | zero => exact absurd HA.out (by simp [spec_bgFar.l0])
  | succ k1 =>
   have H := HA.out
   clear HA
   simp only [spec_bgFar.l0] at H
   by_cases c3 : x10_1 < (l1.length : Int)
   ·rw [if_pos c3] at H
    have c3b0 : decide (x10_1 < (l1.length : Int)) = true := decide_eq_true c3
    clear c3
    by_cases c4 : 0 ≤ x10_1
    ·rw [if_pos c4] at H
     have c4b0 : decide (0 ≤ x10_1) = true := decide_eq_true c4
     clear c4
     by_cases c5 : x10_1 < (l1.length : Int)
     ·rw [if_pos c5] at H
      have c5b0 : decide (x10_1 < (l1.length : Int)) = true := decide_eq_true c5
      clear c5
      by_cases c6 : (rd l1 x10_1) = (x5_1.length : Int)
      ·rw [if_pos c6] at H
       have c6b0 : ((rd l1 x10_1) == (x5_1.length : Int)) = true := beq_iff_eq.mpr c6
       have c6b1 : ((rd l1 x10_1) != (x5_1.length : Int)) = false := bne_eq_false_iff_eq.mpr c6
       clear c6
       by_cases c7 : x5_1.length < 17592186044416
       ·rw [if_pos c7] at H
        have LMc7 := am c7
        clear c7
        obtain ⟨y102, hy102⟩ : ∃ y_ : List Int, y_ = (x5_1 ++ [0]) := ⟨_, rfl⟩
        replace H : (if 0 ≤ (rd l1 x10_1) then (if (rd l1 x10_1) < (y102.length : Int) then (if x10_1 < (l0.length : Int) then ((spec_l1Most.f (rd y102 (rd l1 x10_1)) ((rd_T45 l0 x10_1).f0)).bind fun t107 => (spec_bgFar.l0 k1 l0 (y102.set ((rd l1 x10_1) : Int).toNat t107) l1 (l1.length : Int) (wrap64 (x10_1 + 1)))) else (none)) else (none)) else (none)) = some r := by first | (rw [hy102]; with_reducible exact H) | (have H2_ := (Option.bind_some _ _).symm.trans H; rw [hy102]; with_reducible exact H2_) | (have H2_ := (Option.bind_some _ _).symm.trans H; with_reducible exact H2_) | with_reducible exact H | (rw [hy102]; exact H) | exact H
        have Ny102 := am hy102
        clear hy102
        by_cases c8 : 0 ≤ (rd l1 x10_1)
        ·rw [if_pos c8] at H
         have c8b0 : decide (0 ≤ (rd l1 x10_1)) = true := decide_eq_true c8
         clear c8
         by_cases c9 : (rd l1 x10_1) < (y102.length : Int)
         ·rw [if_pos c9] at H
          have c9b0 : decide ((rd l1 x10_1) < (y102.length : Int)) = true := decide_eq_true c9
          clear c9
          by_cases c10 : x10_1 < (l0.length : Int)
          ·rw [if_pos c10] at H
           have c10b0 : decide (x10_1 < (l0.length : Int)) = true := decide_eq_true c10
           clear c10
           replace H := bH H
           obtain ⟨t107, A110, H⟩ := H
           replace H : (spec_bgFar.l0 k1 l0 (y102.set ((rd l1 x10_1) : Int).toNat t107) l1 (l1.length : Int) (wrap64 (x10_1 + 1))) = some r := H
           have A11 := am A110
           clear A110
           obtain ⟨y108, hy108⟩ : ∃ y_ : List Int, y_ = (y102.set ((rd l1 x10_1) : Int).toNat t107) := ⟨_, rfl⟩
           replace H : (spec_bgFar.l0 k1 l0 y108 l1 (l1.length : Int) (wrap64 (x10_1 + 1))) = some r := by first | (rw [hy108]; with_reducible exact H) | (have H2_ := (Option.bind_some _ _).symm.trans H; rw [hy108]; with_reducible exact H2_) | (have H2_ := (Option.bind_some _ _).symm.trans H; with_reducible exact H2_) | with_reducible exact H | (rw [hy108]; exact H) | exact H
           have Ny108 := am hy108
           clear hy108
           have H' := am H
           clear H
           have p101 : 0 ≤ (x10_1 : Int) := of_decide_eq_true (by first | (with_reducible assumption) | assumption)
           have q101 : x10_1 < (l1.length : Int) := of_decide_eq_true (by first | (with_reducible assumption) | assumption)
           obtain ⟨ad101, e101, hx101_0⟩ := Kd.at_int HR1.out x10_1 p101 q101
           cases e101
           try replace hx101_0 := (HB.out.cell (World.block_lt_of_cell? w _ hx101_0)).trans hx101_0
           replace p101 := eq_true p101
           replace q101 := eq_true q101
           obtain ⟨Ao13, co13, eo13⟩ := Kd.R_slice HO_5.out
           subst eo13
           try go_wp2_with (first | ((with_reducible refine gate_builtin (b := .append) (xs := #[.tmp 19, .tmp 20]) rfl ?_); at_builtin; refine Kd.R_append (Kd.int .i64) (w0 := w) w.heap.size rfl (.tmp 19) (.tmp 20) 27 3 (.int .i64 0) 8 rfl Try.underlying27 info3 rfl (by decide) (by omega) (.slice Ao13 x5_1.length co13) x5_1 0 [.int .i64 0] (fun _ => True) (fun _ => False) rfl rfl ?aP (fun _ hk => hk.elim) ?aF ?aO ?aB ?aS ?aL ?_; (case aP => exact rfl); (case aB => exact uW); (case aF => exact (fun _ _ => trivial)); (case aO => exact (uR HO_5)); (case aS => exact (below_size uW)); (case aL => have := LMc7.out; omega); intro v103 w14 ho hb hg hat; rw [← Ny102.out] at ho; have HO104 := am (ho); replace HB := am (hb); clear HO_5; clear ho hb hg hat))
           replace HO104 := am (Kd.R_drew HO104.out)
           replace HB := am (below_drew1 HB.out)
           obtain ⟨Ao16, co16, eo16⟩ := Kd.R_slice HO104.out
           (first | subst eo16 | (injection eo16 with f1_ f2_ f3_; have f4_ := f1_.symm; have f5_ := f3_.symm; clear f1_ f2_ f3_; subst f4_; subst f5_))
           have p105 : 0 ≤ ((rd l1 x10_1) : Int) := of_decide_eq_true (by first | (with_reducible assumption) | assumption)
           have q105 : (rd l1 x10_1) < (y102.length : Int) := of_decide_eq_true (by first | (with_reducible assumption) | assumption)
           obtain ⟨ad105, e105, hx105_0⟩ := Kd.at_int (Kd.R_reads' HO104.out).2.2 (rd l1 x10_1) p105 q105
           cases e105
           replace p105 := eq_true p105
           replace q105 := eq_true q105
           have p106 : 0 ≤ (x10_1 : Int) := of_decide_eq_true (by first | (with_reducible assumption) | assumption)
           have q106 : x10_1 < (l0.length : Int) := of_decide_eq_true (by first | (with_reducible assumption) | assumption)
           obtain ⟨ad106, e106, hx106_0, hx106_1⟩ := at_T45 HR0.out x10_1 p106 q106
           have hw106_1 := hx106_1
           have hw106_0 := hx106_0
           cases e106
           try replace hx106_0 := (HB.out.cell (World.block_lt_of_cell? w _ hx106_0)).trans hx106_0
           try replace hx106_1 := (HB.out.cell (World.block_lt_of_cell? w _ hx106_1)).trans hx106_1
           replace p106 := eq_true p106
           replace q106 := eq_true q106
           refine start_ (n := 14) (S := fun w' => w'.cell? (ad105.add ((rd l1 x10_1)).toNat) = some (.int .i64 (rd y102 (rd l1 x10_1))) ∧ w'.cell? (ad106.add ((x10_1).toNat * 2)) = some (.int .i64 ((rd_T45 l0 x10_1).f0)) ∧ w'.cell? ⟨(ad106.add ((x10_1).toNat * 2)).block, (ad106.add ((x10_1).toNat * 2)).off + 1, none⟩ = some (.int .i64 ((rd_T45 l0 x10_1).f1))) (ds := [13]) #[false, false, false, false, false, false, false, false, false, false, false, false, false, false] (by kernel_rfl) rfl rfl ⟨hx105_0, ((HB.out.cell (World.block_lt_of_cell? w _ hw106_0)).trans hw106_0), ((HB.out.cell (World.block_lt_of_cell? w _ hw106_1)).trans hw106_1)⟩ (fun hHeld => ?_); refine with_tabW spec_bgFar.tab7 spec_bgFar.bits7 (fun HT_ HW_ => ?_)
           generalize w14.drew = w15 at HO104 HB hx105_0 hx106_0 hx106_1 hHeld ⊢
           refine uPu (i := 0) (N := some 22) #[true, false, false, false, false, false, false, false, false, false, false, false, false, false] ?_
           refine uPu (i := 1) (N := some 23) #[true, true, false, false, false, false, false, false, false, false, false, false, false, false] ?_
           refine uPu (i := 2) (N := some 24) #[true, true, true, false, false, false, false, false, false, false, false, false, false, false] ?_
           refine uPu (i := 3) (N := some 25) #[true, true, true, true, false, false, false, false, false, false, false, false, false, false] ?_
           refine uPu (i := 4) (N := some 26) #[true, true, true, true, true, false, false, false, false, false, false, false, false, false] ?_
           refine uPu (i := 6) (N := some 28) #[true, true, true, true, true, false, true, false, false, false, false, false, false, false] ?_
           refine uPu (i := 7) (N := some 29) #[true, true, true, true, true, false, true, true, false, false, false, false, false, false] ?_
           refine uPu (i := 8) (N := some 30) #[true, true, true, true, true, false, true, true, true, false, false, false, false, false] ?_
           refine uPu (i := 9) (N := some 31) #[true, true, true, true, true, false, true, true, true, true, false, false, false, false] ?_
           refine uTk (i := 5) (N := some 27) #[true, true, true, true, true, true, true, true, true, true, false, false, false, false] hHeld ?_
           refine uTk (i := 10) (N := some 32) #[true, true, true, true, true, true, true, true, true, true, true, false, false, false] hHeld ?_
           refine uOn (i := 11) (N := some 33) #[true, true, true, true, true, true, true, true, true, true, true, true, false, false] (fun K hK => ?_)
           refine uGs Try.func90 #[.int .i64 (rd y102 (rd l1 x10_1)), .int .i64 ((rd_T45 l0 x10_1).f0)] ?_
           with_reducible refine (spec_l1Most.calls (rd y102 (rd l1 x10_1)) ((rd_T45 l0 x10_1).f0) t107 _ A11.out).mono ?_
           rintro e w' ⟨rfl, ⟨nd, rfl⟩⟩
           refine ⟨_, rfl, ?_⟩
           have p12 : 0 ≤ ((rd l1 x10_1) : Int) := of_decide_eq_true (by first | (with_reducible assumption) | assumption)
           have q12 : ((rd l1 x10_1) : Int) < ((y102.length : Int) : Int) := of_decide_eq_true (by first | (with_reducible assumption) | assumption)
           obtain ⟨go12, co12, eo12, gb12, gl12, cl12, HG12⟩ := Kd.R_form HO104.out (by omega)
           (first | cases eo12 | (injection eo12 with ea_ en_ ec_; (first | subst ea_ | (injection ea_ with ea_; subst ea_)); subst ec_; clear en_))
           have GB12 := am gb12
           have GG12 := am HG12
           clear gb12 gl12 HG12
           (first | simp only [add_plain] at hx105_0 | skip)
           obtain ⟨hx12_0, hf12_0⟩ := Kd.R_celln 0 HO104.out ((rd l1 x10_1) : Int) p12 q12
           replace p12 := eq_true p12
           replace q12 := eq_true q12
           have HP17 := Kd.R_putn HO104.out ((rd l1 x10_1) : Int) t107
           rw [← Ny108.out] at HP17
           have HQ17 := am HP17
           clear HP17
           refine hK.out _ _ ⟨hHeld.1, ((HB.out.cell (World.block_lt_of_cell? w _ hw106_0)).trans hw106_0), ((HB.out.cell (World.block_lt_of_cell? w _ hw106_1)).trans hw106_1)⟩ (fun hHeld => ?_)
           clear hK K
           refine uNo (some 33) ?_
           refine uPu (i := 12) (N := some 34) #[true, true, true, true, true, true, true, true, true, true, true, true, true, false] ?_
           refine last_ (i := 13) (N := none) #[true, true, true, true, true, true, true, true, true, true, true, true, true, true] rfl rfl (one_of HT_.out (by kernel_rfl)) (by decide) (fun K hK => ?_)
           refine skip_ (w1 := ?_) (by rfl) rfl ?_ ?_
           rotate_left
           ·go_simp
            rfl
           refine hK.out _ _ ?_
           clear hK K
           refine done_ (done_of HT_.out (by kernel_rfl)) ?_
           try go_wp2
           go_roundg k1
           case measure => have := HK1.out; omega
           case rel => exact ⟨(y108), (wrap64 (x10_1 + 1)), (by first | rfl | (simp; done) | (simp [*]; done)), H', ⟨by have := HK1.out; omega⟩, ⟨by (with_reducible repeat (first | apply rA | apply rN | apply rD)); exact HQ17.out⟩, ⟨by repeat (first | (with_reducible first | exact HB.out | apply below_alloc | apply pw_below_drewN | apply below_drew1 | refine below_set ?_ GB12.out) | exact HB.out)⟩⟩
          ·rw [if_neg c10] at H
           exact absurd H (by simp)
         ·rw [if_neg c9] at H
          exact absurd H (by simp)
        ·rw [if_neg c8] at H
         exact absurd H (by simp)
       ·rw [if_neg c7] at H
        exact absurd H (by simp)
      ·rw [if_neg c6] at H
       have c6b0 : ((rd l1 x10_1) == (x5_1.length : Int)) = false := beq_eq_false_iff_ne.mpr c6
       have c6b1 : ((rd l1 x10_1) != (x5_1.length : Int)) = true := bne_iff_ne.mpr c6
       by_cases c18 : 0 ≤ (rd l1 x10_1)
       ·rw [if_pos c18] at H
        have c18b0 : decide (0 ≤ (rd l1 x10_1)) = true := decide_eq_true c18
        clear c18
        by_cases c19 : (rd l1 x10_1) < (x5_1.length : Int)
        ·rw [if_pos c19] at H
         have c19b0 : decide ((rd l1 x10_1) < (x5_1.length : Int)) = true := decide_eq_true c19
         clear c19
         by_cases c20 : x10_1 < (l0.length : Int)
         ·rw [if_pos c20] at H
          have c20b0 : decide (x10_1 < (l0.length : Int)) = true := decide_eq_true c20
          clear c20
          replace H := bH H
          obtain ⟨t111, A210, H⟩ := H
          replace H : (spec_bgFar.l0 k1 l0 (x5_1.set ((rd l1 x10_1) : Int).toNat t111) l1 (l1.length : Int) (wrap64 (x10_1 + 1))) = some r := H
          have A21 := am A210
          clear A210
          obtain ⟨y112, hy112⟩ : ∃ y_ : List Int, y_ = (x5_1.set ((rd l1 x10_1) : Int).toNat t111) := ⟨_, rfl⟩
          replace H : (spec_bgFar.l0 k1 l0 y112 l1 (l1.length : Int) (wrap64 (x10_1 + 1))) = some r := by first | (rw [hy112]; with_reducible exact H) | (have H2_ := (Option.bind_some _ _).symm.trans H; rw [hy112]; with_reducible exact H2_) | (have H2_ := (Option.bind_some _ _).symm.trans H; with_reducible exact H2_) | with_reducible exact H | (rw [hy112]; exact H) | exact H
          have Ny112 := am hy112
          clear hy112
          have H' := am H
          clear H
          have p101 : 0 ≤ (x10_1 : Int) := of_decide_eq_true (by first | (with_reducible assumption) | assumption)
          have q101 : x10_1 < (l1.length : Int) := of_decide_eq_true (by first | (with_reducible assumption) | assumption)
          obtain ⟨ad101, e101, hx101_0⟩ := Kd.at_int HR1.out x10_1 p101 q101
          cases e101
          try replace hx101_0 := (HB.out.cell (World.block_lt_of_cell? w _ hx101_0)).trans hx101_0
          replace p101 := eq_true p101
          replace q101 := eq_true q101
          obtain ⟨Ao23, co23, eo23⟩ := Kd.R_slice HO_5.out
          subst eo23
          try go_wp2
          replace HO_5 := am (Kd.R_drew HO_5.out)
          replace HB := am (below_drew1 HB.out)
          have p109 : 0 ≤ ((rd l1 x10_1) : Int) := of_decide_eq_true (by first | (with_reducible assumption) | assumption)
          have q109 : (rd l1 x10_1) < (x5_1.length : Int) := of_decide_eq_true (by first | (with_reducible assumption) | assumption)
          obtain ⟨ad109, e109, hx109_0⟩ := Kd.at_int (Kd.R_reads' HO_5.out).2.2 (rd l1 x10_1) p109 q109
          cases e109
          replace p109 := eq_true p109
          replace q109 := eq_true q109
          have p110 : 0 ≤ (x10_1 : Int) := of_decide_eq_true (by first | (with_reducible assumption) | assumption)
          have q110 : x10_1 < (l0.length : Int) := of_decide_eq_true (by first | (with_reducible assumption) | assumption)
          obtain ⟨ad110, e110, hx110_0, hx110_1⟩ := at_T45 HR0.out x10_1 p110 q110
          have hw110_1 := hx110_1
          have hw110_0 := hx110_0
          cases e110
          try replace hx110_0 := (HB.out.cell (World.block_lt_of_cell? w _ hx110_0)).trans hx110_0
          try replace hx110_1 := (HB.out.cell (World.block_lt_of_cell? w _ hx110_1)).trans hx110_1
          replace p110 := eq_true p110
          replace q110 := eq_true q110
          refine start_ (n := 14) (S := fun w' => w'.cell? (ad109.add ((rd l1 x10_1)).toNat) = some (.int .i64 (rd x5_1 (rd l1 x10_1))) ∧ w'.cell? (ad110.add ((x10_1).toNat * 2)) = some (.int .i64 ((rd_T45 l0 x10_1).f0)) ∧ w'.cell? ⟨(ad110.add ((x10_1).toNat * 2)).block, (ad110.add ((x10_1).toNat * 2)).off + 1, none⟩ = some (.int .i64 ((rd_T45 l0 x10_1).f1))) (ds := [13]) #[false, false, false, false, false, false, false, false, false, false, false, false, false, false] (by kernel_rfl) rfl rfl ⟨hx109_0, ((HB.out.cell (World.block_lt_of_cell? w _ hw110_0)).trans hw110_0), ((HB.out.cell (World.block_lt_of_cell? w _ hw110_1)).trans hw110_1)⟩ (fun hHeld => ?_); refine with_tabW spec_bgFar.tab7 spec_bgFar.bits7 (fun HT_ HW_ => ?_)
          generalize wr.drew = w24 at HO_5 HB hx109_0 hx110_0 hx110_1 hHeld ⊢
          refine uPu (i := 0) (N := some 22) #[true, false, false, false, false, false, false, false, false, false, false, false, false, false] ?_
          refine uPu (i := 1) (N := some 23) #[true, true, false, false, false, false, false, false, false, false, false, false, false, false] ?_
          refine uPu (i := 2) (N := some 24) #[true, true, true, false, false, false, false, false, false, false, false, false, false, false] ?_
          refine uPu (i := 3) (N := some 25) #[true, true, true, true, false, false, false, false, false, false, false, false, false, false] ?_
          refine uPu (i := 4) (N := some 26) #[true, true, true, true, true, false, false, false, false, false, false, false, false, false] ?_
          refine uPu (i := 6) (N := some 28) #[true, true, true, true, true, false, true, false, false, false, false, false, false, false] ?_
          refine uPu (i := 7) (N := some 29) #[true, true, true, true, true, false, true, true, false, false, false, false, false, false] ?_
          refine uPu (i := 8) (N := some 30) #[true, true, true, true, true, false, true, true, true, false, false, false, false, false] ?_
          refine uPu (i := 9) (N := some 31) #[true, true, true, true, true, false, true, true, true, true, false, false, false, false] ?_
          refine uTk (i := 5) (N := some 27) #[true, true, true, true, true, true, true, true, true, true, false, false, false, false] hHeld ?_
          refine uTk (i := 10) (N := some 32) #[true, true, true, true, true, true, true, true, true, true, true, false, false, false] hHeld ?_
          refine uOn (i := 11) (N := some 33) #[true, true, true, true, true, true, true, true, true, true, true, true, false, false] (fun K hK => ?_)
          refine uGs Try.func90 #[.int .i64 (rd x5_1 (rd l1 x10_1)), .int .i64 ((rd_T45 l0 x10_1).f0)] ?_
          with_reducible refine (spec_l1Most.calls (rd x5_1 (rd l1 x10_1)) ((rd_T45 l0 x10_1).f0) t111 _ A21.out).mono ?_
          rintro e w' ⟨rfl, ⟨nd, rfl⟩⟩
          refine ⟨_, rfl, ?_⟩
          have p22 : 0 ≤ ((rd l1 x10_1) : Int) := of_decide_eq_true (by first | (with_reducible assumption) | assumption)
          have q22 : ((rd l1 x10_1) : Int) < ((x5_1.length : Int) : Int) := of_decide_eq_true (by first | (with_reducible assumption) | assumption)
          obtain ⟨go22, co22, eo22, gb22, gl22, cl22, HG22⟩ := Kd.R_form HO_5.out (by omega)
          (first | cases eo22 | (injection eo22 with ea_ en_ ec_; (first | subst ea_ | (injection ea_ with ea_; subst ea_)); subst ec_; clear en_))
          have GB22 := am gb22
          have GG22 := am HG22
          clear gb22 gl22 HG22
          (first | simp only [add_plain] at hx109_0 | skip)
          obtain ⟨hx22_0, hf22_0⟩ := Kd.R_celln 0 HO_5.out ((rd l1 x10_1) : Int) p22 q22
          replace p22 := eq_true p22
          replace q22 := eq_true q22
          have HP25 := Kd.R_putn HO_5.out ((rd l1 x10_1) : Int) t111
          rw [← Ny112.out] at HP25
          have HQ25 := am HP25
          clear HP25
          refine hK.out _ _ ⟨hHeld.1, ((HB.out.cell (World.block_lt_of_cell? w _ hw110_0)).trans hw110_0), ((HB.out.cell (World.block_lt_of_cell? w _ hw110_1)).trans hw110_1)⟩ (fun hHeld => ?_)
          clear hK K
          refine uNo (some 33) ?_
          refine uPu (i := 12) (N := some 34) #[true, true, true, true, true, true, true, true, true, true, true, true, true, false] ?_
          refine last_ (i := 13) (N := none) #[true, true, true, true, true, true, true, true, true, true, true, true, true, true] rfl rfl (one_of HT_.out (by kernel_rfl)) (by decide) (fun K hK => ?_)
          refine skip_ (w1 := ?_) (by rfl) rfl ?_ ?_
          rotate_left
          ·go_simp
           rfl
          refine hK.out _ _ ?_
          clear hK K
          refine done_ (done_of HT_.out (by kernel_rfl)) ?_
          try go_wp2
          go_roundg k1
          case measure => have := HK1.out; omega
          case rel => exact ⟨(y112), (wrap64 (x10_1 + 1)), (by first | rfl | (simp; done) | (simp [*]; done)), H', ⟨by have := HK1.out; omega⟩, ⟨by (with_reducible repeat (first | apply rA | apply rN | apply rD)); exact HQ25.out⟩, ⟨by repeat (first | (with_reducible first | exact HB.out | apply below_alloc | apply pw_below_drewN | apply below_drew1 | refine below_set ?_ GB22.out) | exact HB.out)⟩⟩
         ·rw [if_neg c20] at H
          exact absurd H (by simp)
        ·rw [if_neg c19] at H
         exact absurd H (by simp)
       ·rw [if_neg c18] at H
        exact absurd H (by simp)
     ·rw [if_neg c5] at H
      exact absurd H (by simp)
    ·rw [if_neg c4] at H
     exact absurd H (by simp)
   ·rw [if_neg c3] at H
    have c3b0 : decide (x10_1 < (l1.length : Int)) = false := decide_eq_false c3
    clear c3
    obtain rfl := Option.some.inj H
    go_wp2
    go_ret
    exact ⟨_, uA, by (with_reducible repeat (first | apply rA | apply rN | apply rD)); exact HO_5.out, by exact uW⟩
def spec_bgLength.l0 : Nat → Int → Int → List Int → Int → Int → Option (Int × Int)
 | 0, _, _, _, _, _ => none
 | k + 1, x6, x7, x12, x13, x14 => if x14 < x13 then (if 0 ≤ x14 then (if x14 < (x12.length : Int) then ((spec_l1Most.f x7 (rd x12 x14)).bind fun t105 => (spec_bgLength.l0 k (wrap64 (x6 + (wrap64 (2 * (rd x12 x14))))) t105 x12 x13 (wrap64 (x14 + 1)))) else (none)) else (none)) else (some (x6, x7))
def spec_bgLength.f (k : Nat) (l0 : List (S45)) (l1 : List Int) : Option (Int × Int) := (spec_bgFar.f k l0 l1).bind fun t101 => (spec_bgLength.l0 k 0 0 t101 (t101.length : Int) 0)
theorem spec_bgLength.calls (k : Nat) (A0 : Option Addr) (c0 : Nat) (l0 : List (S45)) (A1 : Option Addr) (c1 : Nat) (l1 : List Int) (r1 : Int) (r2 : Int) (w : World) (hr0 : Kd.C k45 w A0 l0.length l0) (hc0 : l0.length ≤ c0) (hr1 : Kd.C (Kd.int .i64) w A1 l1.length l1) (hc1 : l1.length ≤ c1) (h : spec_bgLength.f k l0 l1 = some (r1, r2)) :
  Calls Try.prog 69 #[.slice A0 l0.length c0, .slice A1 l1.length c1] w fun e w' => e = .returned (.tuple #[.int .i64 r1, .int .i64 r2]) ∧ Below w.heap.size w w' := by
 have HR0 := am hr0
 have HC0 := am hc0
 clear hr0 hc0
 have HR1 := am hr1
 have HC1 := am hc1
 clear hr1 hc1
 have HB := am (Below.refl w.heap.size w)
 have H : ((spec_bgFar.f k l0 l1).bind fun t101 => (spec_bgLength.l0 k 0 0 t101 (t101.length : Int) 0)) = some (r1, r2) := h
 clear h
 replace H := bH H
 obtain ⟨t101, A30, H⟩ := H
 replace H : (spec_bgLength.l0 k 0 0 t101 (t101.length : Int) 0) = some (r1, r2) := H
 have A3 := am A30
 clear A30
 have H' := am H
 clear H
 go_enter Try.func69, Try.ntmps69
 go_wp2_with (first | ((with_reducible refine gate_callee (f := 89) rfl ?_); refine uGo (some 12) Try.func89 #[.slice A0 l0.length c0, .slice A1 l1.length c1] ?_; (with_reducible refine (spec_bgFar.calls k _ _ l0 _ _ l1 t101 _ ?side1 ?side2 ?side3 ?side4 A3.out).mono ?_); (case side1 => repeat (first | exact HR0.out | (with_reducible refine cA ?_ _) | (with_reducible refine cN ?_ _) | (with_reducible refine cD ?_))); (case side2 => exact HC0.out); (case side3 => repeat (first | exact HR1.out | (with_reducible refine cA ?_ _) | (with_reducible refine cN ?_ _) | (with_reducible refine cD ?_))); (case side4 => exact HC1.out); rintro e w4 ⟨v102, rfl, ho0, hb⟩; refine ⟨_, rfl, ?_⟩; have HO103 := am (Kd.R_lower ho0 (below_size uW)); replace HB := uS hb; (try clear hb); (try clear hb2); (try clear hk); (try clear hi); (try clear ho0); obtain ⟨Ao5, co5, eo5⟩ := Kd.R_slice HO103.out; subst eo5))
 go_loopg [6, 7, 14] k (fun kq v6 v7 v14 w' => ∃ (x6_1 : Int) (x7_1 : Int) (x14_1 : Int), v6 = .int .i64 x6_1 ∧ v7 = .int .i64 x7_1 ∧ v14 = .int .i64 x14_1 ∧ Aside0 (spec_bgLength.l0 kq x6_1 x7_1 t101 (t101.length : Int) x14_1 = some (r1, r2)) ∧ Aside0 (kq ≤ k) ∧ Aside0 (Kd.R (Kd.int .i64) 3 w' w.heap.size (fun _ => True) (.slice Ao5 t101.length co5) t101) ∧ Aside0 (Below w.heap.size w w'))
 case atStart => exact ⟨(0), (0), (0), (by first | rfl | (simp; done) | (simp [*]; done)), (by first | rfl | (simp; done) | (simp [*]; done)), (by first | rfl | (simp; done) | (simp [*]; done)), H', ⟨Nat.le_refl _⟩, ⟨by (with_reducible repeat (first | apply rA | apply rN | apply rD)); exact HO103.out⟩, ⟨by exact uW⟩⟩
 case round =>
  clear H'
  try clear c1
  try clear p2
  obtain ⟨x6_1, x7_1, x14_1, rfl, rfl, rfl, HA, HK1, HO_12, HB⟩ := hrel
  cases gk with
  | zero => exact absurd HA.out (by simp [spec_bgLength.l0])
  | succ k1 =>
   have H := HA.out
   clear HA
   simp only [spec_bgLength.l0] at H
   by_cases c6 : x14_1 < (t101.length : Int)
   ·rw [if_pos c6] at H
    have c6b0 : decide (x14_1 < (t101.length : Int)) = true := decide_eq_true c6
    clear c6
    by_cases c7 : 0 ≤ x14_1
    ·rw [if_pos c7] at H
     have c7b0 : decide (0 ≤ x14_1) = true := decide_eq_true c7
     clear c7
     by_cases c8 : x14_1 < (t101.length : Int)
     ·rw [if_pos c8] at H
      have c8b0 : decide (x14_1 < (t101.length : Int)) = true := decide_eq_true c8
      clear c8
      replace H := bH H
      obtain ⟨t105, A90, H⟩ := H
      replace H : (spec_bgLength.l0 k1 (wrap64 (x6_1 + (wrap64 (2 * (rd t101 x14_1))))) t105 t101 (t101.length : Int) (wrap64 (x14_1 + 1))) = some (r1, r2) := H
      have A9 := am A90
      clear A90
      have H' := am H
      clear H
      have p104 : 0 ≤ (x14_1 : Int) := of_decide_eq_true (by first | (with_reducible assumption) | assumption)
      have q104 : x14_1 < (t101.length : Int) := of_decide_eq_true (by first | (with_reducible assumption) | assumption)
      obtain ⟨ad104, e104, hx104_0⟩ := Kd.at_int (Kd.R_reads' HO_12.out).2.2 x14_1 p104 q104
      cases e104
      replace p104 := eq_true p104
      replace q104 := eq_true q104
      go_wp2_with (first | ((with_reducible refine gate_callee (f := 90) rfl ?_); refine uGo (some 24) Try.func90 #[.int .i64 x7_1, .int .i64 (rd t101 x14_1)] ?_; (with_reducible refine (spec_l1Most.calls x7_1 (rd t101 x14_1) t105 _ A9.out).mono ?_); rintro e w' ⟨rfl, ⟨nd, rfl⟩⟩; refine ⟨_, rfl, ?_⟩))
      go_roundg k1
      case measure => have := HK1.out; omega
      case rel => exact ⟨(wrap64 (x6_1 + (wrap64 (2 * (rd t101 x14_1))))), (t105), (wrap64 (x14_1 + 1)), (by first | rfl | (simp; done) | (simp [*]; done)), (by first | rfl | (simp; done) | (simp [*]; done)), (by first | rfl | (simp; done) | (simp [*]; done)), H', ⟨by have := HK1.out; omega⟩, ⟨by (with_reducible repeat (first | apply rA | apply rN | apply rD)); exact HO_12.out⟩, ⟨by exact uW⟩⟩
     ·rw [if_neg c8] at H
      exact absurd H (by simp)
    ·rw [if_neg c7] at H
     exact absurd H (by simp)
   ·rw [if_neg c6] at H
    have c6b0 : decide (x14_1 < (t101.length : Int)) = false := decide_eq_false c6
    clear c6
    simp only [Option.some.injEq, Prod.mk.injEq] at H
    obtain ⟨rfl, rfl⟩ := H
    go_wp2
    go_ret2
    exact ⟨uA, by exact uW⟩
theorem row_at {W : World} {base n cap : Nat} {ad : Addr} {xs : List (List Int)} (h : Kd.R (Kd.slice 3 (Kd.int .i64)) 27 W base (fun _ => True) (.slice (some ad) n cap) xs) (i : Nat) (hi : i < n) (hx : i < xs.length) :
  ∃ v, W.cell? (ad.add i) = some v ∧ Kd.R (Kd.int .i64) 3 W base (fun _ => True) v xs[i] := by
 obtain ⟨c, _, ⟨v, rfl, hr⟩, hc⟩ := Kd.R_get h [] (i : Int) (by omega) (by omega)
 refine ⟨v, ?_, ?_⟩
 ·have := hc 0 v rfl
  simpa [Kd.slice] using this
 ·have := Kd.R_mono hr (fun _ _ => trivial) (ok' := fun _ => True)
  rwa [Int.toNat_natCast, List.getD_eq_getElem?_getD, List.getElem?_eq_getElem hx, Option.getD_some] at this
def fewGo (k : Nat) (l : List S45) : List (List Int) → List Int → Int → Option (List Int × Int)
 | [], best, few => some (best, few)
 | p :: ps, best, few => (spec_bgWeights.f k l p).bind fun ws => if (ws.length : Int) < few then fewGo k l ps p ws.length else fewGo k l ps best few
def spec_bgFewest.f (k : Nat) (l0 : List (S45)) (a1 : Int) : Option (List Int × Int) := (spec_bgAll.f k l0 a1).bind fun all => if l0.length ≤ 1000 ∧ all.length ≤ 9223372036854775806 then fewGo k l0 all [] ((l0.length : Int) + 1) else none
theorem spec_bgFewest.calls (k : Nat) (A0 : Option Addr) (c0 : Nat) (l0 : List (S45)) (a1 : Int) (r1 : List Int) (r2 : Int) (w : World) (hr0 : Kd.C k45 w A0 l0.length l0) (hc0 : l0.length ≤ c0) (h : spec_bgFewest.f k l0 a1 = some (r1, r2)) :
  Calls Try.prog 47 #[.slice A0 l0.length c0, .int .i64 a1] w fun e w' => ∃ v0_ : Value, e = .returned (.tuple #[v0_, .int .i64 r2]) ∧ Kd.R (Kd.int .i64) 3 w' w.heap.size (fun _ => True) v0_ r1 ∧ Below w.heap.size w w' := by
 unfold spec_bgFewest.f at h
 obtain ⟨all, hall, hh⟩ := Option.bind_eq_some_iff.1 h
 clear h
 by_cases hl : l0.length ≤ 1000 ∧ all.length ≤ 9223372036854775806
 ·rw [if_pos hl] at hh
  obtain ⟨hl, hl2⟩ := hl
  have KA := am fun W h0 => spec_bgAll.calls k A0 c0 l0 a1 all W h0 hc0 hall
  have HR := am hr0
  have HC := am hc0
  have HH := am hh
  clear hr0 hc0 hh hall
  have e2 : wrap64 ((l0.length : Int) + 1) = (l0.length : Int) + 1 := by unfold wrap64; omega
  go_enter Try.func47, Try.ntmps47
  go_wp2_with fail
  refine (KA.out _ HR.out).mono ?_
  rintro e w1 ⟨v, rfl, ho, hb⟩
  obtain ⟨Av, cv, rfl⟩ := Kd.S_slice ho
  have HO := am (Kd.S_R ho)
  have HB := am hb
  clear ho hb KA
  go_wp2_with fail
  go_loopg [6, 7, 18] all.length (fun gg s6 s7 s18 wr => ∃ (i : Nat) (best : List Int) (few : Int), s18 = .int .i64 (i : Int) ∧ s7 = .int .i64 few ∧ i + gg = all.length ∧ Aside0 (fewGo k l0 (all.drop i) best few = some (r1, r2)) ∧ Aside0 (Below w.heap.size w wr) ∧ Aside0 (Below w1.heap.size w1 wr) ∧ Aside0 (Kd.R (Kd.int .i64) 3 wr w.heap.size (fun _ => True) s6 best))
  case atStart => exact ⟨0, [], _, rfl, rfl, by omega, HH, HB, ⟨Below.refl _ _⟩, ⟨Kd.R_nil _ _ _ _ _⟩⟩
  case round =>
   obtain ⟨i, best, few, rfl, rfl, hg, HF, HB2, HB3, HV⟩ := hrel
   by_cases hlt : i < all.length
   ·obtain ⟨m, rfl⟩ : ∃ m, gk = m + 1 := ⟨gk - 1, by omega⟩
    have c1 : decide ((i : Int) < (all.length : Int)) = true := decide_eq_true (by omega)
    have hF := HF.out
    rw [List.drop_eq_getElem_cons hlt] at hF
    unfold fewGo at hF
    obtain ⟨ws, hws, hF⟩ := Option.bind_eq_some_iff.1 hF
    have HO3 := Kd.R_below HO.out HB3.out
    obtain ⟨ad, rfl⟩ : ∃ ad, Av = some ad := by
     obtain ⟨g, cap, hv, _⟩ := Kd.R_form HO3 (by omega)
     injection hv with hA
     exact ⟨_, hA⟩
    obtain ⟨vp, hvp, hp⟩ := row_at HO3 i hlt hlt
    obtain ⟨Ap, cp, rfl, hcp, hCp⟩ := Kd.R_reads hp
    have KW := am (spec_bgWeights.calls k A0 c0 l0 Ap cp all[i] ws wr (Kd.C_below HR.out HB2.out) HC.out hCp hcp hws)
    have HP := am hp
    have e3 : wrap64 ((i : Int) + 1) = ((i + 1 : Nat) : Int) := by unfold wrap64; omega
    clear hCp hp HO3 hws
    go_wp2_with fail
    refine KW.out.mono ?_
    rintro e w2 ⟨vw, rfl, how, hbw⟩
    obtain ⟨Aw, cw, rfl⟩ := Kd.R_slice how
    have HBW := am hbw
    clear how hbw KW
    by_cases hfew : (ws.length : Int) < few
    ·rw [if_pos hfew] at hF
     have c2 : decide ((ws.length : Int) < few) = true := decide_eq_true hfew
     have HF2 := am hF
     clear hF
     go_wp2
     go_roundg m
     case measure => omega
     case rel => exact ⟨i + 1, all[i], ws.length, rfl, rfl, by omega, HF2, ⟨below_step HB2.out HBW.out⟩, ⟨below_step HB3.out HBW.out⟩, ⟨Kd.R_below HP.out HBW.out⟩⟩
    ·rw [if_neg hfew] at hF
     have c2 : decide ((ws.length : Int) < few) = false := decide_eq_false hfew
     have HF2 := am hF
     clear hF
     go_wp2
     go_roundg m
     case measure => omega
     case rel => exact ⟨i + 1, best, few, rfl, rfl, by omega, HF2, ⟨below_step HB2.out HBW.out⟩, ⟨below_step HB3.out HBW.out⟩, ⟨Kd.R_below HV.out HBW.out⟩⟩
   ·obtain rfl : gk = 0 := by omega
    have c1 : decide ((i : Int) < (all.length : Int)) = false := decide_eq_false (by omega)
    have hF := HF.out
    rw [List.drop_eq_nil_of_le (by omega)] at hF
    unfold fewGo at hF
    obtain ⟨rfl, rfl⟩ : best = r1 ∧ few = r2 := by simpa using hF
    obtain ⟨Ab, cb, rfl⟩ := Kd.R_slice HV.out
    clear hF HF HH
    go_wp2
    go_ret2
    exact ⟨_, rfl, HV.out, HB2.out⟩
 ·rw [if_neg hl] at hh
  cases hh
def shortGo (k : Nat) (l : List S45) : List (List Int) → List Int → Int → Int → Option (List Int × Int × Int)
 | [], best, least, count => some (best, least, count)
 | p :: ps, best, least, count => (spec_bgLength.f k l p).bind fun n => if best.length = 0 ∨ n.1 < least then shortGo k l ps p n.1 1 else if n.1 = least then shortGo k l ps best least (wrap64 (count + 1)) else shortGo k l ps best least count
def spec_bgShortest.f (k : Nat) (l0 : List (S45)) (a1 : Int) : Option (List Int × Int × Int) := (spec_bgAll.f k l0 a1).bind fun all => if all.length ≤ 9223372036854775806 then shortGo k l0 all [] 0 0 else none
theorem spec_bgShortest.calls (k : Nat) (A0 : Option Addr) (c0 : Nat) (l0 : List (S45)) (a1 : Int) (r1 : List Int) (r2 : Int) (r3 : Int) (w : World) (hr0 : Kd.C k45 w A0 l0.length l0) (hc0 : l0.length ≤ c0) (h : spec_bgShortest.f k l0 a1 = some (r1, r2, r3)) :
  Calls Try.prog 45 #[.slice A0 l0.length c0, .int .i64 a1] w fun e w' => ∃ v0_ : Value, e = .returned (.tuple #[v0_, .int .i64 r2, .int .i64 r3]) ∧ Kd.R (Kd.int .i64) 3 w' w.heap.size (fun _ => True) v0_ r1 ∧ Below w.heap.size w w' := by
 unfold spec_bgShortest.f at h
 obtain ⟨all, hall, hh⟩ := Option.bind_eq_some_iff.1 h
 clear h
 by_cases hl : all.length ≤ 9223372036854775806
 ·rw [if_pos hl] at hh
  have KA := am fun W h0 => spec_bgAll.calls k A0 c0 l0 a1 all W h0 hc0 hall
  have HR := am hr0
  have HC := am hc0
  have HH := am hh
  clear hr0 hc0 hh hall
  go_enter Try.func45, Try.ntmps45
  go_wp2_with fail
  refine (KA.out _ HR.out).mono ?_
  rintro e w1 ⟨v, rfl, ho, hb⟩
  obtain ⟨Av, cv, rfl⟩ := Kd.S_slice ho
  have HO := am (Kd.S_R ho)
  have HB := am hb
  clear ho hb KA
  go_wp2_with fail
  go_loopg [7, 8, 9, 18] all.length (fun gg s7 s8 s9 s18 wr => ∃ (i : Nat) (best : List Int) (least count : Int), s18 = .int .i64 (i : Int) ∧ s8 = .int .i64 least ∧ s9 = .int .i64 count ∧ i + gg = all.length ∧ Aside0 (shortGo k l0 (all.drop i) best least count = some (r1, r2, r3)) ∧ Aside0 (Below w.heap.size w wr) ∧ Aside0 (Below w1.heap.size w1 wr) ∧ Aside0 (Kd.R (Kd.int .i64) 3 wr w.heap.size (fun _ => True) s7 best))
  case atStart => exact ⟨0, [], 0, 0, rfl, rfl, rfl, by omega, HH, HB, ⟨Below.refl _ _⟩, ⟨Kd.R_nil _ _ _ _ _⟩⟩
  case round =>
   obtain ⟨i, best, least, count, rfl, rfl, rfl, hg, HF, HB2, HB3, HV⟩ := hrel
   by_cases hlt : i < all.length
   ·obtain ⟨m, rfl⟩ : ∃ m, gk = m + 1 := ⟨gk - 1, by omega⟩
    have c1 : decide ((i : Int) < (all.length : Int)) = true := decide_eq_true (by omega)
    have hF := HF.out
    rw [List.drop_eq_getElem_cons hlt] at hF
    unfold shortGo at hF
    obtain ⟨⟨n1, n2⟩, hws, hF⟩ := Option.bind_eq_some_iff.1 hF
    have HO3 := Kd.R_below HO.out HB3.out
    obtain ⟨ad, rfl⟩ : ∃ ad, Av = some ad := by
     obtain ⟨g, cap, hv, _⟩ := Kd.R_form HO3 (by omega)
     injection hv with hA
     exact ⟨_, hA⟩
    obtain ⟨vp, hvp, hp⟩ := row_at HO3 i hlt hlt
    obtain ⟨Ap, cp, rfl, hcp, hCp⟩ := Kd.R_reads hp
    obtain ⟨Ab, cb, rfl⟩ := Kd.R_slice HV.out
    have KW := am (spec_bgLength.calls k A0 c0 l0 Ap cp all[i] n1 n2 wr (Kd.C_below HR.out HB2.out) HC.out hCp hcp hws)
    have HP := am hp
    have e3 : wrap64 ((i : Int) + 1) = ((i + 1 : Nat) : Int) := by unfold wrap64; omega
    clear hCp hp HO3 hws
    go_wp2_with fail
    refine KW.out.mono ?_
    rintro e w2 ⟨rfl, hbw⟩
    have HBW : Aside0 (Below wr.heap.size wr w2) := ⟨by first | exact hbw | exact hbw.below⟩
    clear hbw KW
    by_cases hz : best.length = 0
    ·rw [if_pos (.inl hz)] at hF
     have c2 : ((best.length : Int) == 0) = true := by simp [hz]
     have c4 : (best.length == 0) = true := by simp [hz]
     have HF2 := am hF
     clear hF
     go_wp2
     go_roundg m
     case measure => omega
     case rel => exact ⟨i + 1, all[i], n1, 1, rfl, rfl, rfl, by omega, HF2, ⟨below_step HB2.out HBW.out⟩, ⟨below_step HB3.out HBW.out⟩, ⟨Kd.R_below HP.out HBW.out⟩⟩
    ·have c2 : ((best.length : Int) == 0) = false := by simp; exact fun h => hz (by rw [h]; rfl)
     have c4 : (best.length == 0) = false := by simp; exact fun h => hz (by rw [h]; rfl)
     by_cases hfew : n1 < least
     ·rw [if_pos (.inr hfew)] at hF
      have c3 : decide (n1 < least) = true := decide_eq_true hfew
      have HF2 := am hF
      clear hF
      go_wp2
      go_roundg m
      case measure => omega
      case rel => exact ⟨i + 1, all[i], n1, 1, rfl, rfl, rfl, by omega, HF2, ⟨below_step HB2.out HBW.out⟩, ⟨below_step HB3.out HBW.out⟩, ⟨Kd.R_below HP.out HBW.out⟩⟩
     ·rw [if_neg (by rintro (h | h); exact hz h; exact hfew h)] at hF
      have c3 : decide (n1 < least) = false := decide_eq_false hfew
      by_cases heq : n1 = least
      ·rw [if_pos heq] at hF
       have c5 : (n1 == least) = true := by simpa using heq
       have HF2 := am hF
       clear hF
       go_wp2
       go_roundg m
       case measure => omega
       case rel => exact ⟨i + 1, best, least, wrap64 (count + 1), rfl, rfl, rfl, by omega, HF2, ⟨below_step HB2.out HBW.out⟩, ⟨below_step HB3.out HBW.out⟩, ⟨Kd.R_below HV.out HBW.out⟩⟩
      ·rw [if_neg heq] at hF
       have c5 : (n1 == least) = false := by simpa using heq
       have HF2 := am hF
       clear hF
       go_wp2
       go_roundg m
       case measure => omega
       case rel => exact ⟨i + 1, best, least, count, rfl, rfl, rfl, by omega, HF2, ⟨below_step HB2.out HBW.out⟩, ⟨below_step HB3.out HBW.out⟩, ⟨Kd.R_below HV.out HBW.out⟩⟩
   ·obtain rfl : gk = 0 := by omega
    have c1 : decide ((i : Int) < (all.length : Int)) = false := decide_eq_false (by omega)
    have hF := HF.out
    rw [List.drop_eq_nil_of_le (by omega)] at hF
    unfold shortGo at hF
    obtain ⟨rfl, rfl, rfl⟩ : best = r1 ∧ least = r2 ∧ count = r3 := by simpa using hF
    obtain ⟨Ab, cb, rfl⟩ := Kd.R_slice HV.out
    clear hF HF HH
    go_wp2
    go_ret3
    exact ⟨_, rfl, HV.out, HB2.out⟩
 ·rw [if_neg hl] at hh
  cases hh
def spec_FewestTrips.f (k : Nat) (l0 : List (S45)) (a1 : Int) : Option (Int × Bool) := (spec_bgAsked.f k l0 a1).bind fun t101 => (if t101 = true then ((spec_bgFewest.f k l0 a1).bind fun bt102 => (some (bt102.2, true))) else (some (0, false)))
theorem spec_FewestTrips.calls (k : Nat) (A0 : Option Addr) (c0 : Nat) (l0 : List (S45)) (a1 : Int) (r1 : Int) (r2 : Bool) (w : World) (hr0 : Kd.C k45 w A0 l0.length l0) (hc0 : l0.length ≤ c0) (h : spec_FewestTrips.f k l0 a1 = some (r1, r2)) :
  Calls Try.prog 15 #[.slice A0 l0.length c0, .int .i64 a1] w fun e w' => e = .returned (.tuple #[.int .i64 r1, .bool r2]) ∧ Below w.heap.size w w' := by
 have HR0 := am hr0
 have HC0 := am hc0
 clear hr0 hc0
 have HB := am (Below.refl w.heap.size w)
 have H : ((spec_bgAsked.f k l0 a1).bind fun t101 => (if t101 = true then ((spec_bgFewest.f k l0 a1).bind fun bt102 => (some (bt102.2, true))) else (some (0, false)))) = some (r1, r2) := h
 clear h
 replace H := bH H
 obtain ⟨t101, A30, H⟩ := H
 replace H : (if t101 = true then ((spec_bgFewest.f k l0 a1).bind fun bt102 => (some (bt102.2, true))) else (some (0, false))) = some (r1, r2) := H
 have A3 := am A30
 clear A30
 by_cases c4 : t101 = true
 ·subst c4
  have H1 : ((spec_bgFewest.f k l0 a1).bind fun bt102 => (some (bt102.2, true))) = some (r1, r2) := by rw [if_pos rfl] at H; exact H
  clear H
  have H := H1
  clear H1
  replace H := bH H
  obtain ⟨⟨t102, t103⟩, A50, H⟩ := H
  replace H : (some (t103, true)) = some (r1, r2) := H
  have A5 := am A50
  clear A50
  simp only [Option.some.injEq, Prod.mk.injEq] at H
  obtain ⟨rfl, rfl⟩ := H
  go_enter Try.func15, Try.ntmps15
  go_wp2_with (first | ((with_reducible refine gate_callee (f := 44) rfl ?_); refine uGo (some 10) Try.func44 #[.slice A0 l0.length c0, .int .i64 a1] ?_; (with_reducible refine (spec_bgAsked.calls k _ _ l0 a1 true _ ?side1 ?side2 A3.out).mono ?_); (case side1 => repeat (first | exact HR0.out | (with_reducible refine cA ?_ _) | (with_reducible refine cN ?_ _) | (with_reducible refine cD ?_))); (case side2 => exact HC0.out); rintro e w6 ⟨rfl, hb⟩; refine ⟨_, rfl, ?_⟩; replace HB := uS hb; (try clear hb); (try clear hb2); (try clear hk); (try clear hi)) | ((with_reducible refine gate_callee (f := 47) rfl ?_); refine uGo (some 15) Try.func47 #[.slice A0 l0.length c0, .int .i64 a1] ?_; (with_reducible refine (spec_bgFewest.calls k _ _ l0 a1 t102 t103 _ ?side1 ?side2 A5.out).mono ?_); (case side1 => repeat (first | exact (Kd.C_below HR0.out HB.out) | (with_reducible refine cA ?_ _) | (with_reducible refine cN ?_ _) | (with_reducible refine cD ?_))); (case side2 => exact HC0.out); rintro e w7 ⟨v104, rfl, ho0, hb⟩; refine ⟨_, rfl, ?_⟩; have HO105 := am (Kd.R_lower ho0 (below_size uW)); replace HB := uS hb; (try clear hb); (try clear hb2); (try clear hk); (try clear hi); (try clear ho0)))
  go_ret2
  exact ⟨uA, by exact uW⟩
 ·replace c4 := Bool.eq_false_iff.mpr c4
  subst c4
  have H1 : (some (0, false)) = some (r1, r2) := by rw [if_neg (show ¬ (false = true) by decide)] at H; exact H
  clear H
  have H := H1
  clear H1
  simp only [Option.some.injEq, Prod.mk.injEq] at H
  obtain ⟨rfl, rfl⟩ := H
  go_enter Try.func15, Try.ntmps15
  go_wp2_with (first | ((with_reducible refine gate_callee (f := 44) rfl ?_); refine uGo (some 10) Try.func44 #[.slice A0 l0.length c0, .int .i64 a1] ?_; (with_reducible refine (spec_bgAsked.calls k _ _ l0 a1 false _ ?side1 ?side2 A3.out).mono ?_); (case side1 => repeat (first | exact HR0.out | (with_reducible refine cA ?_ _) | (with_reducible refine cN ?_ _) | (with_reducible refine cD ?_))); (case side2 => exact HC0.out); rintro e w8 ⟨rfl, hb⟩; refine ⟨_, rfl, ?_⟩; replace HB := uS hb; (try clear hb); (try clear hb2); (try clear hk); (try clear hi)))
  go_ret2
  exact ⟨uA, by exact uW⟩
def maxTo (l : List Int) : Nat → Int
 | 0 => rd l 0
 | n + 1 => if maxTo l n < rd l ((n + 1 : Nat) : Int) then rd l ((n + 1 : Nat) : Int) else maxTo l n
def slices_Max_int_int.f (l0 : List Int) : Option (Int) := if 1 ≤ l0.length then some (maxTo l0 (l0.length - 1)) else none
theorem slices_Max_int_int.calls (A0 : Option Addr) (c0 : Nat) (l0 : List Int) (r : Int) (w : World) (hr0 : Kd.C (Kd.int .i64) w A0 l0.length l0) (hc0 : l0.length ≤ c0) (h : slices_Max_int_int.f l0 = some r) :
  Calls Try.prog 64 #[.slice A0 l0.length c0] w fun e w' => e = .returned (.int .i64 r) ∧ Drawn0 w w' := by
 unfold slices_Max_int_int.f at h
 have HR := am hr0
 have HC := am hc0
 clear hr0 hc0
 by_cases c1 : 1 ≤ l0.length
 ·rw [if_pos c1] at h
  obtain rfl := Option.some.inj h
  clear h
  have HL := am c1
  have c2 : decide ((l0.length : Int) < 1) = false := decide_eq_false (by omega)
  have q101 : (0 : Int) < (l0.length : Int) := by omega
  obtain ⟨ad101, e101, hx101_0⟩ := Kd.at_int HR.out 0 (by omega) q101
  clear c1
  cases e101
  have hx0 : w.cell? ad101 = some (.int .i64 (rd l0 0)) := hx101_0
  clear hx101_0
  go_enter Try.func64, Try.ntmps64
  go_wp2
  go_loopg [3, 4] (l0.length - 1) (fun gg v3 v4 wr => ∃ kk : Nat, kk + 1 + gg = l0.length ∧ v3 = .int .i64 (maxTo l0 kk) ∧ v4 = .int .i64 ((kk + 1 : Nat) : Int) ∧ Drawn0 w wr)
  case atStart => exact ⟨0, by omega, rfl, rfl, by repeat (first | exact Drawn0.refl _ | apply Drawn0.step)⟩
  case round =>
   obtain ⟨kk, hkk, rfl, rfl, ⟨m1, rfl⟩⟩ := hrel
   have hlen : l0.length ≤ 9223372036854775807 := HR.out.2.1
   by_cases hlt : kk + 1 < l0.length
   ·obtain ⟨ad, e, hx⟩ := Kd.at_int HR.out ((kk + 1 : Nat) : Int) (by omega) (by omega)
    cases e
    have c3b0 : decide (((kk + 1 : Nat) : Int) < (l0.length : Int)) = true := decide_eq_true (by omega)
    have q0 : (0 ≤ ((kk + 1 : Nat) : Int)) = True := eq_true (by omega)
    have q1 : (((kk + 1 : Nat) : Int) < (l0.length : Int)) = True := eq_true (by omega)
    have e1 : wrap64 (((kk + 1 : Nat) : Int) + 1) = ((kk + 1 + 1 : Nat) : Int) := by unfold wrap64; omega
    generalize hz : ((kk + 1 : Nat) : Int) = z at *
    have hM : maxTo l0 (kk + 1) = if maxTo l0 kk < rd l0 z then rd l0 z else maxTo l0 kk := by simp only [maxTo, hz]
    go_wp2
    all_goals
     go_roundg (gk - 1)
     (case measure => omega)
     (case rel => exact ⟨kk + 1, by omega, by rw [hM]; first | rfl | (rw [if_pos (by omega)]; done) | (rw [if_neg (by omega)]; done), by first | rfl | (congr 1; omega), by repeat (first | exact ⟨⟨m1, rfl⟩⟩ | exact ⟨m1, rfl⟩ | apply Drawn0.step)⟩)
   ·have c3b0 : decide (((kk + 1 : Nat) : Int) < (l0.length : Int)) = false := decide_eq_false (by omega)
    obtain rfl : kk = l0.length - 1 := by omega
    go_wp2
    go_ret
    exact ⟨rfl, by repeat (first | exact ⟨⟨m1, rfl⟩⟩ | exact ⟨m1, rfl⟩ | apply Drawn0.step)⟩
 ·rw [if_neg c1] at h
  cases h
def spec_CountShortestPlans.f (k : Nat) (l0 : List (S45)) (a1 : Int) : Option (Int × Bool) := (spec_bgAsked.f k l0 a1).bind fun t101 => (if t101 = true then ((spec_bgShortest.f k l0 a1).bind fun bt102 => (some (bt102.2.2, true))) else (some (0, false)))
theorem spec_CountShortestPlans.calls (k : Nat) (A0 : Option Addr) (c0 : Nat) (l0 : List (S45)) (a1 : Int) (r1 : Int) (r2 : Bool) (w : World) (hr0 : Kd.C k45 w A0 l0.length l0) (hc0 : l0.length ≤ c0) (h : spec_CountShortestPlans.f k l0 a1 = some (r1, r2)) :
  Calls Try.prog 11 #[.slice A0 l0.length c0, .int .i64 a1] w fun e w' => e = .returned (.tuple #[.int .i64 r1, .bool r2]) ∧ Below w.heap.size w w' := by
 have HR0 := am hr0
 have HC0 := am hc0
 clear hr0 hc0
 have HB := am (Below.refl w.heap.size w)
 have H : ((spec_bgAsked.f k l0 a1).bind fun t101 => (if t101 = true then ((spec_bgShortest.f k l0 a1).bind fun bt102 => (some (bt102.2.2, true))) else (some (0, false)))) = some (r1, r2) := h
 clear h
 replace H := bH H
 obtain ⟨t101, A30, H⟩ := H
 replace H : (if t101 = true then ((spec_bgShortest.f k l0 a1).bind fun bt102 => (some (bt102.2.2, true))) else (some (0, false))) = some (r1, r2) := H
 have A3 := am A30
 clear A30
 by_cases c4 : t101 = true
 ·subst c4
  have H1 : ((spec_bgShortest.f k l0 a1).bind fun bt102 => (some (bt102.2.2, true))) = some (r1, r2) := by rw [if_pos rfl] at H; exact H
  clear H
  have H := H1
  clear H1
  replace H := bH H
  obtain ⟨⟨t102, t103, t104⟩, A50, H⟩ := H
  replace H : (some (t104, true)) = some (r1, r2) := H
  have A5 := am A50
  clear A50
  simp only [Option.some.injEq, Prod.mk.injEq] at H
  obtain ⟨rfl, rfl⟩ := H
  go_enter Try.func11, Try.ntmps11
  go_wp2_with (first | ((with_reducible refine gate_callee (f := 44) rfl ?_); refine uGo (some 11) Try.func44 #[.slice A0 l0.length c0, .int .i64 a1] ?_; (with_reducible refine (spec_bgAsked.calls k _ _ l0 a1 true _ ?side1 ?side2 A3.out).mono ?_); (case side1 => repeat (first | exact HR0.out | (with_reducible refine cA ?_ _) | (with_reducible refine cN ?_ _) | (with_reducible refine cD ?_))); (case side2 => exact HC0.out); rintro e w6 ⟨rfl, hb⟩; refine ⟨_, rfl, ?_⟩; replace HB := uS hb; (try clear hb); (try clear hb2); (try clear hk); (try clear hi)) | ((with_reducible refine gate_callee (f := 45) rfl ?_); refine uGo (some 16) Try.func45 #[.slice A0 l0.length c0, .int .i64 a1] ?_; (with_reducible refine (spec_bgShortest.calls k _ _ l0 a1 t102 t103 t104 _ ?side1 ?side2 A5.out).mono ?_); (case side1 => repeat (first | exact (Kd.C_below HR0.out HB.out) | (with_reducible refine cA ?_ _) | (with_reducible refine cN ?_ _) | (with_reducible refine cD ?_))); (case side2 => exact HC0.out); rintro e w7 ⟨v105, rfl, ho0, hb⟩; refine ⟨_, rfl, ?_⟩; have HO106 := am (Kd.R_lower ho0 (below_size uW)); replace HB := uS hb; (try clear hb); (try clear hb2); (try clear hk); (try clear hi); (try clear ho0)))
  go_ret2
  exact ⟨uA, by exact uW⟩
 ·replace c4 := Bool.eq_false_iff.mpr c4
  subst c4
  have H1 : (some (0, false)) = some (r1, r2) := by rw [if_neg (show ¬ (false = true) by decide)] at H; exact H
  clear H
  have H := H1
  clear H1
  simp only [Option.some.injEq, Prod.mk.injEq] at H
  obtain ⟨rfl, rfl⟩ := H
  go_enter Try.func11, Try.ntmps11
  go_wp2_with (first | ((with_reducible refine gate_callee (f := 44) rfl ?_); refine uGo (some 11) Try.func44 #[.slice A0 l0.length c0, .int .i64 a1] ?_; (with_reducible refine (spec_bgAsked.calls k _ _ l0 a1 false _ ?side1 ?side2 A3.out).mono ?_); (case side1 => repeat (first | exact HR0.out | (with_reducible refine cA ?_ _) | (with_reducible refine cN ?_ _) | (with_reducible refine cD ?_))); (case side2 => exact HC0.out); rintro e w8 ⟨rfl, hb⟩; refine ⟨_, rfl, ?_⟩; replace HB := uS hb; (try clear hb); (try clear hb2); (try clear hk); (try clear hi)))
  go_ret2
  exact ⟨uA, by exact uW⟩
def impl_countTrips.f (l0 : List (S45)) (l1 : List Int) : Option (Int) := (slices_Max_int_int.f l1).bind fun t101 => (some (wrap64 (t101 + 1)))
theorem impl_countTrips.calls (A0 : Option Addr) (c0 : Nat) (l0 : List (S45)) (A1 : Option Addr) (c1 : Nat) (l1 : List Int) (r : Int) (w : World) (hr0 : Kd.C k45 w A0 l0.length l0) (hc0 : l0.length ≤ c0) (hr1 : Kd.C (Kd.int .i64) w A1 l1.length l1) (hc1 : l1.length ≤ c1) (h : impl_countTrips.f l0 l1 = some r) :
  Calls Try.prog 46 #[.slice A0 l0.length c0, .slice A1 l1.length c1] w fun e w' => e = .returned (.int .i64 r) ∧ Drawn0 w w' := by
 have HR0 := am hr0
 have HC0 := am hc0
 clear hr0 hc0
 have HR1 := am hr1
 have HC1 := am hc1
 clear hr1 hc1
 have H : ((slices_Max_int_int.f l1).bind fun t101 => (some (wrap64 (t101 + 1)))) = some r := h
 clear h
 replace H := bH H
 obtain ⟨t101, A30, H⟩ := H
 replace H : (some (wrap64 (t101 + 1))) = some r := H
 have A3 := am A30
 clear A30
 obtain rfl := Option.some.inj H
 go_enter Try.func46, Try.ntmps46
 go_wp2_with (first | ((with_reducible refine gate_callee (f := 64) rfl ?_); refine uGo (some 6) Try.func64 #[.slice A1 l1.length c1] ?_; (with_reducible refine (slices_Max_int_int.calls _ _ l1 t101 _ ?side1 ?side2 A3.out).mono ?_); (case side1 => repeat (first | exact HR1.out | (with_reducible refine cA ?_ _) | (with_reducible refine cN ?_ _) | (with_reducible refine cD ?_))); (case side2 => exact HC1.out); rintro e w' ⟨rfl, ⟨nd, rfl⟩⟩; refine ⟨_, rfl, ?_⟩))
 go_ret
 exact ⟨by first | rfl | (simp; done) | (simp [*]; done), by repeat (first | exact Drawn0.refl _ | apply Drawn0.step)⟩
def impl_tripsOf.l0 : Nat → List (List Int) → List Int → Int → Int → Option ((List (List Int)))
 | 0, _, _, _, _ => none
 | k + 1, x3, x10, x11, x12 => if x12 < x11 then (if 0 ≤ x12 then (if x12 < (x10.length : Int) then (if 0 ≤ (rd x10 x12) then (if (rd x10 x12) < (x3.length : Int) then (if (rd_L3 x3 (rd x10 x12)).length < 17592186044416 then (impl_tripsOf.l0 k (x3.set ((rd x10 x12) : Int).toNat ((rd_L3 x3 (rd x10 x12)) ++ [x12])) x10 x11 (wrap64 (x12 + 1))) else (none)) else (none)) else (none)) else (none)) else (none)) else (some x3)
def impl_tripsOf.f (k : Nat) (l0 : List Int) : Option ((List (List Int))) := (slices_Max_int_int.f l0).bind fun t101 => (if 0 ≤ (wrap64 (t101 + 1)) then (if (wrap64 (t101 + 1) : Int).toNat ≤ 11728124029610 then (impl_tripsOf.l0 k (List.replicate (wrap64 (t101 + 1) : Int).toNat []) l0 (l0.length : Int) 0) else (none)) else (none))
theorem impl_tripsOf.calls (k : Nat) (A0 : Option Addr) (c0 : Nat) (l0 : List Int) (r : List (List Int)) (w : World) (hr0 : Kd.C (Kd.int .i64) w A0 l0.length l0) (hc0 : l0.length ≤ c0) (h : impl_tripsOf.f k l0 = some r) :
  Calls Try.prog 62 #[.slice A0 l0.length c0] w fun e w' => ∃ v0_ : Value, e = .returned (v0_) ∧ Kd.S (Kd.slice 3 (Kd.int .i64)) 27 w' w.heap.size (fun _ => True) v0_ r ∧ Below w.heap.size w w' := by
 have HR0 := am hr0
 have HC0 := am hc0
 clear hr0 hc0
 have HB := am (Below.refl w.heap.size w)
 have H : ((slices_Max_int_int.f l0).bind fun t101 => (if 0 ≤ (wrap64 (t101 + 1)) then (if (wrap64 (t101 + 1) : Int).toNat ≤ 11728124029610 then (impl_tripsOf.l0 k (List.replicate (wrap64 (t101 + 1) : Int).toNat []) l0 (l0.length : Int) 0) else (none)) else (none))) = some r := h
 clear h
 replace H := bH H
 obtain ⟨t101, A20, H⟩ := H
 replace H : (if 0 ≤ (wrap64 (t101 + 1)) then (if (wrap64 (t101 + 1) : Int).toNat ≤ 11728124029610 then (impl_tripsOf.l0 k (List.replicate (wrap64 (t101 + 1) : Int).toNat []) l0 (l0.length : Int) 0) else (none)) else (none)) = some r := H
 have A2 := am A20
 clear A20
 obtain ⟨ji3, hji3⟩ : ∃ j_ : Int, (wrap64 (t101 + 1)) = j_ := ⟨_, rfl⟩
 replace H : (if 0 ≤ (ji3) then (if (ji3 : Int).toNat ≤ 11728124029610 then (impl_tripsOf.l0 k (List.replicate (ji3 : Int).toNat []) l0 (l0.length : Int) 0) else (none)) else (none)) = some r := by first | (rw [hji3] at H; exact H) | (simp only [hji3] at H ⊢; exact H)
 (try rw [hji3] at A2)
 have hji3w : (IntKind.i64.wrap (t101 + 1)) = ji3 := (i64_w _).trans hji3
 by_cases c4 : 0 ≤ (ji3)
 ·rw [if_pos c4] at H
  have c4b0 := eq_true c4
  have c4b1 : decide (0 ≤ (ji3)) = true := decide_eq_true c4
  clear c4
  by_cases c5 : (ji3 : Int).toNat ≤ 11728124029610
  ·rw [if_pos c5] at H
   have c5b0 := eq_true c5
   have c5b1 : decide ((ji3 : Int).toNat ≤ 11728124029610) = true := decide_eq_true c5
   clear c5
   obtain ⟨y102, hy102⟩ : ∃ y_ : List (List Int), y_ = (List.replicate (ji3 : Int).toNat []) := ⟨_, rfl⟩
   replace H : (impl_tripsOf.l0 k y102 l0 (l0.length : Int) 0) = some r := by first | (rw [hy102]; with_reducible exact H) | (have H2_ := (Option.bind_some _ _).symm.trans H; rw [hy102]; with_reducible exact H2_) | (have H2_ := (Option.bind_some _ _).symm.trans H; with_reducible exact H2_) | with_reducible exact H | (rw [hy102]; exact H) | exact H
   have Ny102 := am hy102
   clear hy102
   have H' := am H
   clear H
   go_enter Try.func62, Try.ntmps62
   go_wp2_with (first | ((with_reducible refine gate_callee (f := 64) rfl ?_); refine uGo (some 7) Try.func64 #[.slice A0 l0.length c0] ?_; (with_reducible refine (slices_Max_int_int.calls _ _ l0 t101 _ ?side1 ?side2 A2.out).mono ?_); (case side1 => repeat (first | exact HR0.out | (with_reducible refine cA ?_ _) | (with_reducible refine cN ?_ _) | (with_reducible refine cD ?_))); (case side2 => exact HC0.out); rintro e w' ⟨rfl, ⟨nd, rfl⟩⟩; refine ⟨_, rfl, ?_⟩) | ((with_reducible refine gate_dst (N := 9) rfl ?_); refine Kd.S_make (Kd.slice 3 (Kd.int .i64)) _ 27 rfl (N := 9) rfl 34 _ _ rfl ji3 rfl rfl Try.underlying34 (.slice none 0 0) 24 info27 rfl (by decide) (by omega) [] (ok := fun _ => True) (okp := fun _ => True) ⟨_, rfl, Kd.R_nil _ _ _ _ _⟩ (fun _ hk => hk) trivial (of_decide_eq_true (by first | (with_reducible assumption) | assumption)) (Nat.le_trans (Nat.mul_le_mul_right _ (of_decide_eq_true (by first | (with_reducible assumption) | assumption) : ji3.toNat ≤ 11728124029610)) (by omega)) (Below.refl _ _) (Nat.le_refl _) ?_; intro v103 w6 ho7 hb hg_ hnew_; clear hg_ hnew_; (first | rw [← Ny102.out] at ho7 | (simp only [Int.reduceToNat] at ho7; rw [← Ny102.out] at ho7)); have HO104 := am (Kd.S_lower ho7 (below_size uW)); replace HB := uS hb; clear hb ho7))
   go_loopg [12] k (fun kq v12 w' => ∃ (x3_1 : List (List Int)) (x12_1 : Int), v12 = .int .i64 x12_1 ∧ Aside0 (impl_tripsOf.l0 kq x3_1 l0 (l0.length : Int) x12_1 = some r) ∧ Aside0 (kq ≤ k) ∧ Aside0 (Kd.S (Kd.slice 3 (Kd.int .i64)) 27 w' w.heap.size (fun _ => True) v103 x3_1) ∧ Aside0 (Below w.heap.size w w'))
   case atStart => exact ⟨(y102), (0), (by first | rfl | (simp; done) | (simp [*]; done)), H', ⟨Nat.le_refl _⟩, ⟨by (with_reducible repeat (first | apply Kd.S_alloc | apply Kd.S_drewN | apply Kd.S_drew)); exact HO104.out⟩, ⟨by exact uW⟩⟩
   case round =>
    clear H'
    try clear p2
    try clear c4
    try clear c4b0
    try clear c4b1
    try clear c5
    try clear c5b0
    try clear c5b1
    try clear c6
    try clear p6
    obtain ⟨x3_1, x12_1, rfl, HA, HK1, HO_3, HB⟩ := hrel
    cases gk with
    | zero => exact absurd HA.out (by simp [impl_tripsOf.l0])
    | succ k1 =>
     have H := HA.out
     clear HA
     simp only [impl_tripsOf.l0] at H
     by_cases c8 : x12_1 < (l0.length : Int)
     ·rw [if_pos c8] at H
      have c8b0 : decide (x12_1 < (l0.length : Int)) = true := decide_eq_true c8
      clear c8
      by_cases c9 : 0 ≤ x12_1
      ·rw [if_pos c9] at H
       have c9b0 : decide (0 ≤ x12_1) = true := decide_eq_true c9
       clear c9
       by_cases c10 : x12_1 < (l0.length : Int)
       ·rw [if_pos c10] at H
        have c10b0 : decide (x12_1 < (l0.length : Int)) = true := decide_eq_true c10
        clear c10
        by_cases c11 : 0 ≤ (rd l0 x12_1)
        ·rw [if_pos c11] at H
         have c11b0 : decide (0 ≤ (rd l0 x12_1)) = true := decide_eq_true c11
         clear c11
         by_cases c12 : (rd l0 x12_1) < (x3_1.length : Int)
         ·rw [if_pos c12] at H
          have c12b0 : decide ((rd l0 x12_1) < (x3_1.length : Int)) = true := decide_eq_true c12
          clear c12
          by_cases c13 : (rd_L3 x3_1 (rd l0 x12_1)).length < 17592186044416
          ·rw [if_pos c13] at H
           have LMc13 := am c13
           clear c13
           obtain ⟨y107, hy107⟩ : ∃ y_ : List Int, y_ = ((rd_L3 x3_1 (rd l0 x12_1)) ++ [x12_1]) := ⟨_, rfl⟩
           replace H : (impl_tripsOf.l0 k1 (x3_1.set ((rd l0 x12_1) : Int).toNat y107) l0 (l0.length : Int) (wrap64 (x12_1 + 1))) = some r := by first | (rw [hy107]; with_reducible exact H) | (have H2_ := (Option.bind_some _ _).symm.trans H; rw [hy107]; with_reducible exact H2_) | (have H2_ := (Option.bind_some _ _).symm.trans H; with_reducible exact H2_) | with_reducible exact H | (rw [hy107]; exact H) | exact H
           have Ny107 := am hy107
           clear hy107
           obtain ⟨y110, hy110⟩ : ∃ y_ : List (List Int), y_ = (x3_1.set ((rd l0 x12_1) : Int).toNat y107) := ⟨_, rfl⟩
           replace H : (impl_tripsOf.l0 k1 y110 l0 (l0.length : Int) (wrap64 (x12_1 + 1))) = some r := by first | (rw [hy110]; with_reducible exact H) | (have H2_ := (Option.bind_some _ _).symm.trans H; rw [hy110]; with_reducible exact H2_) | (have H2_ := (Option.bind_some _ _).symm.trans H; with_reducible exact H2_) | with_reducible exact H | (rw [hy110]; exact H) | exact H
           have Ny110 := am hy110
           clear hy110
           have H' := am H
           clear H
           have p105 : 0 ≤ (x12_1 : Int) := of_decide_eq_true (by first | (with_reducible assumption) | assumption)
           have q105 : x12_1 < (l0.length : Int) := of_decide_eq_true (by first | (with_reducible assumption) | assumption)
           obtain ⟨ad105, e105, hx105_0⟩ := Kd.at_int HR0.out x12_1 p105 q105
           cases e105
           try replace hx105_0 := (HB.out.cell (World.block_lt_of_cell? w _ hx105_0)).trans hx105_0
           replace p105 := eq_true p105
           replace q105 := eq_true q105
           obtain ⟨Ao15, co15, eo15⟩ := Kd.S_slice HO_3.out
           subst eo15
           have p106 : 0 ≤ ((rd l0 x12_1) : Int) := of_decide_eq_true (by first | (with_reducible assumption) | assumption)
           have q106 : (rd l0 x12_1) < (x3_1.length : Int) := of_decide_eq_true (by first | (with_reducible assumption) | assumption)
           obtain ⟨ad106, A106_0, c106_0, e106, hx106_0, hl106_0, hi106_0⟩ := at_L3 (Kd.S_reads' HO_3.out).2.2 (rd l0 x12_1) p106 q106
           cases e106
           obtain ⟨ce106, hce106, hMe106, hcc106⟩ := Kd.S_get HO_3.out [] (rd l0 x12_1) p106 (by first | exact q106 | exact of_decide_eq_true (by first | (with_reducible assumption) | assumption) | (have e_ := (Kd.S_reads' HO_3.out).1; omega))
           obtain ⟨ve106_0, rfl, ge106_0⟩ := hMe106
           have hv106_0 := hcc106 0 _ rfl
           rw [Nat.add_zero, show ((Kd.slice 3 (Kd.int .i64))).sz = 1 from rfl, Nat.mul_one] at hv106_0
           replace hv106_0 := Option.some.inj (hv106_0.symm.trans hx106_0)
           rw [hv106_0] at ge106_0
           have HL106_0 := am (show Kd.R (Kd.int .i64) 3 _ _ _ _ (rd_L3 x3_1 (rd l0 x12_1)) from ge106_0)
           clear hv106_0 ge106_0
           have HX106_0 := am hx106_0
           clear hcc106 hce106
           have HR106_0 := am hi106_0
           have HC106_0 := am hl106_0
           clear hi106_0 hl106_0
           replace p106 := eq_true p106
           replace q106 := eq_true q106
           obtain ⟨go16, co16, eo16, gb16, gl16, cl16, HG16⟩ := Kd.S_form HO_3.out (by have h_ : ((rd l0 x12_1) : Int) < ((x3_1.length : Int) : Int) := of_decide_eq_true (by first | (with_reducible assumption) | assumption); have h2_ : 0 ≤ ((rd l0 x12_1) : Int) := (of_decide_eq_true (by first | (with_reducible assumption) | assumption)); omega)
           (first | cases eo16 | (injection eo16 with ea_ en_ ec_; (first | subst ea_ | (injection ea_ with ea_; subst ea_)); subst ec_; clear en_))
           have GB16 := am gb16
           have GG16 := am HG16
           clear gb16 gl16 HG16
           (first | simp only [add_plain] at hx106_0 | skip)
           obtain ⟨oki16, ce16, hcl16, hM16, hcc16, _, _, hH16⟩ := Kd.S_elem HO_3.out [] ((rd l0 x12_1) : Int) (of_decide_eq_true (by first | (with_reducible assumption) | assumption)) (by have h_ : ((rd l0 x12_1) : Int) < ((x3_1.length : Int) : Int) := of_decide_eq_true (by first | (with_reducible assumption) | assumption); first | exact h_ | (have e_ := (Kd.S_reads' HO_3.out).1; omega) | simpa using h_)
           obtain ⟨ve16_0, rfl, ge16_0⟩ := hM16
           have hv16 := hcc16 0 _ rfl
           have hX16 := HX106_0.out
           (try simp only [add_plain] at hX16)
           (try simp only [Nat.add_zero] at hv16)
           (try rw [show ((Kd.slice 3 (Kd.int .i64))).sz = 1 from rfl, Nat.mul_one] at hv16)
           replace hv16 := Option.some.inj (hv16.symm.trans hX16)
           subst hv16
           clear hX16 hcc16 hcl16
           have UU16 := am (show Kd.R (Kd.int .i64) 3 _ w.heap.size oki16 (.slice A106_0 (rd_L3 x3_1 (rd l0 x12_1)).length c106_0) (rd_L3 x3_1 (rd l0 x12_1)) from ge16_0)
           have HH16 := am hH16
           have HN16 := am (Kd.S_reads' HO_3.out).1
           clear hH16 ge16_0
           go_wp2_with (first | ((with_reducible refine gate_builtin (b := .append) (xs := #[.tmp 22, .tmp 24]) rfl ?_); at_builtin; refine Kd.R_append (Kd.int .i64) (w0 := w) w.heap.size rfl (.tmp 22) (.tmp 24) 27 3 (.int .i64 0) 8 rfl Try.underlying27 info3 rfl (by decide) (by omega) (.slice A106_0 (rd_L3 x3_1 (rd l0 x12_1)).length c106_0) (rd_L3 x3_1 (rd l0 x12_1)) x12_1 [.int .i64 x12_1] (fun k_ => oki16 k_ ∨ ((fun _ => True)) k_ ∧ wr.heap.size ≤ k_) (fun _ => False) rfl rfl ?aP (fun _ hk => hk.elim) ?aF ?aO ?aB ?aS ?aL ?_; (case aP => exact rfl); (case aB => exact uW); (case aF => exact (fun k_ hk => .inr ⟨trivial, hk⟩)); (case aO => exact (by (with_reducible repeat (first | apply rA | apply rN | apply rD)); exact Kd.R_mono UU16.out (fun _ hk => .inl hk))); (case aS => exact (below_size uW)); (case aL => have := LMc13.out; omega); intro v108 w17 ho hb hg hat; rw [← Ny107.out] at ho; have HO109 := am (ho); replace HB := am (hb); replace HH16 := am (Kd.H_grown (Kd.H_widen (by repeat (first | exact HH16.out | refine Kd.H_alloc ?_ _ | refine Kd.H_drewN ?_ _ | refine Kd.H_drew ?_))) hg (fun k_ e_ => .inl (UU16.out.1 k_ e_))); clear HO_3 UU16 HL106_0; clear ho hb hg hat; have p14 : 0 ≤ ((rd l0 x12_1) : Int) := of_decide_eq_true (by first | (with_reducible assumption) | assumption); have q14 : ((rd l0 x12_1) : Int) < ((x3_1.length : Int) : Int) := of_decide_eq_true (by first | (with_reducible assumption) | assumption); replace p14 := eq_true p14; replace q14 := eq_true q14; obtain ⟨Ao20, co20, eo20⟩ := Kd.R_slice HO109.out; subst eo20; obtain ⟨_, _, hraw18, _, _, hcc18, _⟩ := Kd.H_raw HH16.out (of_decide_eq_true (by first | (with_reducible assumption) | assumption)) (by have h_ : ((rd l0 x12_1) : Int) < ((x3_1.length : Int) : Int) := of_decide_eq_true (by first | (with_reducible assumption) | assumption); first | exact h_ | (have e_ := (HN16.out); omega) | simpa using h_); obtain ⟨_, hfr18⟩ := Kd.H_at HH16.out (of_decide_eq_true (by first | (with_reducible assumption) | assumption)) (by have h_ : ((rd l0 x12_1) : Int) < ((x3_1.length : Int) : Int) := of_decide_eq_true (by first | (with_reducible assumption) | assumption); first | exact h_ | (have e_ := (HN16.out); omega) | simpa using h_); have hx18_0 := hcc18 0 _ rfl; have hf18_0 := hfr18 0; (try simp only [Nat.add_zero] at hx18_0 hf18_0); (try rw [show ((Kd.slice 3 (Kd.int .i64))).sz = 1 from rfl, Nat.mul_one] at hx18_0); (try rw [show ((Kd.slice 3 (Kd.int .i64))).sz = 1 from rfl, Nat.mul_one] at hf18_0); have HP18 := Kd.S_seg0 HH16.out (of_decide_eq_true (by first | (with_reducible assumption) | assumption)) (by have h_ : ((rd l0 x12_1) : Int) < ((x3_1.length : Int) : Int) := of_decide_eq_true (by first | (with_reducible assumption) | assumption); first | exact h_ | (have e_ := (HN16.out); omega) | simpa using h_) (seg := [.slice Ao20 y107.length co20]) (j := 0) (show 1 ≤ 1 from by decide) (x' := y107) (Kd.M_row HO109.out) (fun _ hk => hk); (try simp only [show ((Kd.slice 3 (Kd.int .i64))).sz = 1 from rfl, Nat.mul_one, Nat.add_zero] at HP18); clear hcc18 hfr18) | ((with_reducible refine gate_store (t := 27) (p := 26) rfl ?_); refine store_event (t := 27) (p := 26) (v := ?vo_w19) (w1 := (w17.setCell ⟨go16, ((rd l0 x12_1) : Int).toNat, none⟩ (.slice Ao20 y107.length co20))) ?hg ?ho ?hn ?hr ?_; (case ho => rfl); (case hg => rfl); (case hn => rfl); (case hr => first | (go_simp; done) | (go_simp; rfl)); intro w19 hw; have hg : w17.grownBy w19 (some go16) := (by rw [hw]; exact HP18.2); have hp_ : Kd.S (Kd.slice 3 (Kd.int .i64)) 27 w19 w.heap.size (fun _ => True) (.slice (some ⟨go16, 0, none⟩) x3_1.length co15) y110 := (by rw [hw, Ny110.out]; exact HP18.1); clear HP18; have HO_3 := am (hp_); replace HB := am ((by rw [hw]; exact below_set HB.out GB16.out : Below w.heap.size w w19)); clear HO109 HH16; clear hg hw hp_ hraw18))
           go_roundg k1
           case measure => have := HK1.out; omega
           case rel => exact ⟨(y110), (wrap64 (x12_1 + 1)), (by first | rfl | (simp; done) | (simp [*]; done)), H', ⟨by have := HK1.out; omega⟩, ⟨by (with_reducible repeat (first | apply Kd.S_alloc | apply Kd.S_drewN | apply Kd.S_drew)); exact HO_3.out⟩, ⟨by exact uW⟩⟩
          ·rw [if_neg c13] at H
           exact absurd H (by simp)
         ·rw [if_neg c12] at H
          exact absurd H (by simp)
        ·rw [if_neg c11] at H
         exact absurd H (by simp)
       ·rw [if_neg c10] at H
        exact absurd H (by simp)
      ·rw [if_neg c9] at H
       exact absurd H (by simp)
     ·rw [if_neg c8] at H
      have c8b0 : decide (x12_1 < (l0.length : Int)) = false := decide_eq_false c8
      clear c8
      obtain rfl := Option.some.inj H
      go_wp2
      go_ret
      exact ⟨_, by first | rfl | (simp [errW_none, errW_some] <;> rfl) | (simp only [← hji3]; first | rfl | (simp [errW_none, errW_some] <;> rfl)) | (simp [*, errW_none, errW_some] <;> rfl), by (with_reducible repeat (first | apply Kd.S_alloc | apply Kd.S_drewN | apply Kd.S_drew)); exact HO_3.out, by exact uW⟩
  ·rw [if_neg c5] at H
   exact absurd H (by simp)
 ·rw [if_neg c4] at H
  exact absurd H (by simp)
mutual
def impl_lengthOf.l0 : Nat → List (S45) → Int → List (List Int) → Int → Int → Option (Int)
 | 0, _, _, _, _, _ => none
 | k + 1, x0, x5, x12, x13, x14 => if x14 < x13 then (if 0 ≤ x14 then (if x14 < (x12.length : Int) then (impl_lengthOf.l1 k x0 x5 0 x12 x13 x14 (rd_L3 x12 x14) ((rd_L3 x12 x14).length : Int) 0) else (none)) else (none)) else (some x5)
def impl_lengthOf.l1 : Nat → List (S45) → Int → Int → List (List Int) → Int → Int → List Int → Int → Int → Option (Int)
 | 0, _, _, _, _, _, _, _, _, _ => none
 | k + 1, x0, x5, x8, x12, x13, x14, x18, x19, x20 => if x20 < x19 then (if 0 ≤ x20 then (if x20 < (x18.length : Int) then (if 0 ≤ (rd x18 x20) then (if (rd x18 x20) < (x0.length : Int) then (impl_lengthOf.l1 k x0 x5 (mx x8 ((rd_T45 x0 (rd x18 x20)).f0)) x12 x13 x14 x18 x19 (wrap64 (x20 + 1))) else (none)) else (none)) else (none)) else (none)) else (impl_lengthOf.l0 k x0 (wrap64 (x5 + (wrap64 (2 * x8)))) x12 x13 (wrap64 (x14 + 1)))
end
def impl_lengthOf.f (k : Nat) (l0 : List (S45)) (l1 : List Int) : Option (Int) := (impl_tripsOf.f k l1).bind fun t101 => (impl_lengthOf.l0 k l0 0 t101 (t101.length : Int) 0)
theorem impl_lengthOf.calls (k : Nat) (A0 : Option Addr) (c0 : Nat) (l0 : List (S45)) (A1 : Option Addr) (c1 : Nat) (l1 : List Int) (r : Int) (w : World) (hr0 : Kd.C k45 w A0 l0.length l0) (hc0 : l0.length ≤ c0) (hr1 : Kd.C (Kd.int .i64) w A1 l1.length l1) (hc1 : l1.length ≤ c1) (h : impl_lengthOf.f k l0 l1 = some r) :
  Calls Try.prog 43 #[.slice A0 l0.length c0, .slice A1 l1.length c1] w fun e w' => e = .returned (.int .i64 r) ∧ Below w.heap.size w w' := by
 have HR0 := am hr0
 have HC0 := am hc0
 clear hr0 hc0
 have HR1 := am hr1
 have HC1 := am hc1
 clear hr1 hc1
 have HB := am (Below.refl w.heap.size w)
 have H : ((impl_tripsOf.f k l1).bind fun t101 => (impl_lengthOf.l0 k l0 0 t101 (t101.length : Int) 0)) = some r := h
 clear h
 replace H := bH H
 obtain ⟨t101, A30, H⟩ := H
 replace H : (impl_lengthOf.l0 k l0 0 t101 (t101.length : Int) 0) = some r := H
 have A3 := am A30
 clear A30
 have H' := am H
 clear H
 go_enter Try.func43, Try.ntmps43
 go_wp2_with (first | ((with_reducible refine gate_callee (f := 62) rfl ?_); refine uGo (some 12) Try.func62 #[.slice A1 l1.length c1] ?_; (with_reducible refine (impl_tripsOf.calls k _ _ l1 t101 _ ?side1 ?side2 A3.out).mono ?_); (case side1 => repeat (first | exact HR1.out | (with_reducible refine cA ?_ _) | (with_reducible refine cN ?_ _) | (with_reducible refine cD ?_))); (case side2 => exact HC1.out); rintro e w4 ⟨v102, rfl, ho0, hb⟩; refine ⟨_, rfl, ?_⟩; have HO103 := am (Kd.S_lower ho0 (below_size uW)); replace HB := uS hb; (try clear hb); (try clear hb2); (try clear hk); (try clear hi); (try clear ho0); obtain ⟨Ao5, co5, eo5⟩ := Kd.S_slice HO103.out; subst eo5))
 go_loopg [5, 14] k (fun kq v5 v14 w' => ∃ (x5_1 : Int) (x14_1 : Int), v5 = .int .i64 x5_1 ∧ v14 = .int .i64 x14_1 ∧ Aside0 (impl_lengthOf.l0 kq l0 x5_1 t101 (t101.length : Int) x14_1 = some r) ∧ Aside0 (kq ≤ k) ∧ Aside0 (Kd.S (Kd.slice 3 (Kd.int .i64)) 27 w' w.heap.size (fun _ => True) (.slice Ao5 t101.length co5) t101) ∧ Aside0 (Below w.heap.size w w'))
 case atStart => exact ⟨(0), (0), (by first | rfl | (simp; done) | (simp [*]; done)), (by first | rfl | (simp; done) | (simp [*]; done)), H', ⟨Nat.le_refl _⟩, ⟨by (with_reducible repeat (first | apply Kd.S_alloc | apply Kd.S_drewN | apply Kd.S_drew)); exact HO103.out⟩, ⟨by exact uW⟩⟩
 case round =>
  clear H'
  try clear c1
  try clear p2
  try clear c4
  obtain ⟨x5_1, x14_1, rfl, rfl, HA, HK1, HO_12, HB⟩ := hrel
  cases gk with
  | zero => exact absurd HA.out (by simp [impl_lengthOf.l0])
  | succ k1 =>
   have H := HA.out
   clear HA
   simp only [impl_lengthOf.l0] at H
   by_cases c6 : x14_1 < (t101.length : Int)
   ·rw [if_pos c6] at H
    have c6b0 : decide (x14_1 < (t101.length : Int)) = true := decide_eq_true c6
    clear c6
    by_cases c7 : 0 ≤ x14_1
    ·rw [if_pos c7] at H
     have c7b0 : decide (0 ≤ x14_1) = true := decide_eq_true c7
     clear c7
     by_cases c8 : x14_1 < (t101.length : Int)
     ·rw [if_pos c8] at H
      have c8b0 : decide (x14_1 < (t101.length : Int)) = true := decide_eq_true c8
      clear c8
      have H' := am H
      clear H
      have p104 : 0 ≤ (x14_1 : Int) := of_decide_eq_true (by first | (with_reducible assumption) | assumption)
      have q104 : x14_1 < (t101.length : Int) := of_decide_eq_true (by first | (with_reducible assumption) | assumption)
      obtain ⟨ad104, A104_0, c104_0, e104, hx104_0, hl104_0, hi104_0⟩ := at_L3 (Kd.S_reads' HO_12.out).2.2 x14_1 p104 q104
      cases e104
      obtain ⟨ce104, hce104, hMe104, hcc104⟩ := Kd.S_get HO_12.out [] x14_1 p104 (by first | exact q104 | exact of_decide_eq_true (by first | (with_reducible assumption) | assumption) | (have e_ := (Kd.S_reads' HO_12.out).1; omega))
      obtain ⟨ve104_0, rfl, ge104_0⟩ := hMe104
      have hv104_0 := hcc104 0 _ rfl
      rw [Nat.add_zero, show ((Kd.slice 3 (Kd.int .i64))).sz = 1 from rfl, Nat.mul_one] at hv104_0
      replace hv104_0 := Option.some.inj (hv104_0.symm.trans hx104_0)
      rw [hv104_0] at ge104_0
      have HL104_0 := am (show Kd.R (Kd.int .i64) 3 _ _ _ _ (rd_L3 t101 x14_1) from ge104_0)
      clear hv104_0 ge104_0
      clear hcc104 hce104
      have HR104_0 := am hi104_0
      have HC104_0 := am hl104_0
      clear hi104_0 hl104_0
      replace p104 := eq_true p104
      replace q104 := eq_true q104
      go_wp2
      go_loopg [8, 20] k1 (fun kq v8 v20 w' => ∃ (x8_2 : Int) (x20_2 : Int), v8 = .int .i64 x8_2 ∧ v20 = .int .i64 x20_2 ∧ Aside0 (impl_lengthOf.l1 kq l0 x5_1 x8_2 t101 (t101.length : Int) x14_1 (rd_L3 t101 x14_1) ((rd_L3 t101 x14_1).length : Int) x20_2 = some r) ∧ Aside0 (kq ≤ k1) ∧ Aside0 (Kd.S (Kd.slice 3 (Kd.int .i64)) 27 w' w.heap.size (fun _ => True) (.slice (some ad104) t101.length co5) t101) ∧ Aside0 (Kd.C (Kd.int .i64) w' A104_0 (rd_L3 t101 x14_1).length (rd_L3 t101 x14_1)) ∧ Aside0 (Below w.heap.size w w'))
      case atStart => exact ⟨(0), (0), (by first | rfl | (simp; done) | (simp [*]; done)), (by first | rfl | (simp; done) | (simp [*]; done)), H', ⟨Nat.le_refl _⟩, ⟨by (with_reducible repeat (first | apply Kd.S_alloc | apply Kd.S_drewN | apply Kd.S_drew)); exact HO_12.out⟩, ⟨by repeat (first | (with_reducible exact HR104_0.out) | (with_reducible refine cA ?_ _) | (with_reducible refine cN ?_ _) | (with_reducible refine cD ?_) | exact HR104_0.out)⟩, ⟨by exact uW⟩⟩
      case round =>
       clear H'
       try clear c1
       try clear p1
       try clear q1
       try clear hx1
       try clear p2
       try clear c4
       try clear c6
       try clear c6b0
       try clear c7
       try clear c7b0
       try clear c8
       try clear c8b0
       try clear hx104_0
       try clear p104
       try clear p2
       try clear q104
       obtain ⟨x8_2, x20_2, rfl, rfl, HA, HK2, HO_12, HR104_0, HB⟩ := hrel
       cases gk with
       | zero => exact absurd HA.out (by simp [impl_lengthOf.l1])
       | succ k2 =>
        have H := HA.out
        clear HA
        simp only [impl_lengthOf.l1] at H
        by_cases c9 : x20_2 < ((rd_L3 t101 x14_1).length : Int)
        ·rw [if_pos c9] at H
         have c9b0 : decide (x20_2 < ((rd_L3 t101 x14_1).length : Int)) = true := decide_eq_true c9
         clear c9
         by_cases c10 : 0 ≤ x20_2
         ·rw [if_pos c10] at H
          have c10b0 : decide (0 ≤ x20_2) = true := decide_eq_true c10
          clear c10
          by_cases c11 : x20_2 < ((rd_L3 t101 x14_1).length : Int)
          ·rw [if_pos c11] at H
           have c11b0 : decide (x20_2 < ((rd_L3 t101 x14_1).length : Int)) = true := decide_eq_true c11
           clear c11
           by_cases c12 : 0 ≤ (rd (rd_L3 t101 x14_1) x20_2)
           ·rw [if_pos c12] at H
            have c12b0 : decide (0 ≤ (rd (rd_L3 t101 x14_1) x20_2)) = true := decide_eq_true c12
            clear c12
            by_cases c13 : (rd (rd_L3 t101 x14_1) x20_2) < (l0.length : Int)
            ·rw [if_pos c13] at H
             have c13b0 : decide ((rd (rd_L3 t101 x14_1) x20_2) < (l0.length : Int)) = true := decide_eq_true c13
             clear c13
             obtain ⟨ji14, hji14⟩ : ∃ j_ : Int, (mx x8_2 ((rd_T45 l0 (rd (rd_L3 t101 x14_1) x20_2)).f0)) = j_ := ⟨_, rfl⟩
             replace H : (impl_lengthOf.l1 k2 l0 x5_1 ji14 t101 (t101.length : Int) x14_1 (rd_L3 t101 x14_1) ((rd_L3 t101 x14_1).length : Int) (wrap64 (x20_2 + 1))) = some r := by first | (rw [hji14] at H; exact H) | (simp only [hji14] at H ⊢; exact H)
             have hji14_ : (if x8_2 < ((rd_T45 l0 (rd (rd_L3 t101 x14_1) x20_2)).f0) then ((rd_T45 l0 (rd (rd_L3 t101 x14_1) x20_2)).f0) else x8_2) = ji14 := hji14
             have H' := am H
             clear H
             have p105 : 0 ≤ (x20_2 : Int) := of_decide_eq_true (by first | (with_reducible assumption) | assumption)
             have q105 : x20_2 < ((rd_L3 t101 x14_1).length : Int) := of_decide_eq_true (by first | (with_reducible assumption) | assumption)
             obtain ⟨ad105, e105, hx105_0⟩ := Kd.at_int HR104_0.out x20_2 p105 q105
             cases e105
             try replace hx105_0 := (HB.out.cell (World.block_lt_of_cell? w _ hx105_0)).trans hx105_0
             replace p105 := eq_true p105
             replace q105 := eq_true q105
             have p106 : 0 ≤ ((rd (rd_L3 t101 x14_1) x20_2) : Int) := of_decide_eq_true (by first | (with_reducible assumption) | assumption)
             have q106 : (rd (rd_L3 t101 x14_1) x20_2) < (l0.length : Int) := of_decide_eq_true (by first | (with_reducible assumption) | assumption)
             obtain ⟨ad106, e106, hx106_0, hx106_1⟩ := at_T45 HR0.out (rd (rd_L3 t101 x14_1) x20_2) p106 q106
             cases e106
             try replace hx106_0 := (HB.out.cell (World.block_lt_of_cell? w _ hx106_0)).trans hx106_0
             try replace hx106_1 := (HB.out.cell (World.block_lt_of_cell? w _ hx106_1)).trans hx106_1
             replace p106 := eq_true p106
             replace q106 := eq_true q106
             go_wp2
             go_roundg k2
             case measure => have := HK1.out; have := HK2.out; omega
             case rel => exact ⟨(ji14), (wrap64 (x20_2 + 1)), (by first | rfl | (simp; done) | (simp only [← hji14] <;> (first | rfl | simp)) | (simp [*]; done)), (by first | rfl | (simp; done) | (simp [*]; done)), H', ⟨by have := HK1.out; have := HK2.out; omega⟩, ⟨by (with_reducible repeat (first | apply Kd.S_alloc | apply Kd.S_drewN | apply Kd.S_drew)); exact HO_12.out⟩, ⟨by repeat (first | (with_reducible exact HR104_0.out) | (with_reducible refine cA ?_ _) | (with_reducible refine cN ?_ _) | (with_reducible refine cD ?_) | exact HR104_0.out)⟩, ⟨by exact uW⟩⟩
            ·rw [if_neg c13] at H
             exact absurd H (by simp)
           ·rw [if_neg c12] at H
            exact absurd H (by simp)
          ·rw [if_neg c11] at H
           exact absurd H (by simp)
         ·rw [if_neg c10] at H
          exact absurd H (by simp)
        ·rw [if_neg c9] at H
         have c9b0 : decide (x20_2 < ((rd_L3 t101 x14_1).length : Int)) = false := decide_eq_false c9
         clear c9
         have H' := am H
         clear H
         go_wp2
         go_roundg k2
         case measure => have := HK1.out; have := HK2.out; omega
         case rel => exact ⟨(wrap64 (x5_1 + (wrap64 (2 * x8_2)))), (wrap64 (x14_1 + 1)), (by first | rfl | (simp; done) | (simp [*]; done)), (by first | rfl | (simp; done) | (simp [*]; done)), H', ⟨by have := HK1.out; have := HK2.out; omega⟩, ⟨by (with_reducible repeat (first | apply Kd.S_alloc | apply Kd.S_drewN | apply Kd.S_drew)); exact HO_12.out⟩, ⟨by exact uW⟩⟩
     ·rw [if_neg c8] at H
      exact absurd H (by simp)
    ·rw [if_neg c7] at H
     exact absurd H (by simp)
   ·rw [if_neg c6] at H
    have c6b0 : decide (x14_1 < (t101.length : Int)) = false := decide_eq_false c6
    clear c6
    obtain rfl := Option.some.inj H
    go_wp2
    go_ret
    exact ⟨uA, by exact uW⟩
end Go.Proofs.Ytmninaoedoonbaa.G
end
