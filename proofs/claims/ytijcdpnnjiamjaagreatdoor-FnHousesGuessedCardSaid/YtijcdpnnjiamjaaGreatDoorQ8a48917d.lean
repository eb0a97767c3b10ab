/- Texts of this seat's proofs: contracts of its functions and plain laws about them, with no condition beyond those that each theorem states. -/
import Derived.Test.YtijcdpnnjiamjaaGreatDoorQ15781164
import Derived.Test.YtijcdpnnjiamjaaGreatDoorQd3e38972
import Derived.Test.YtijcdpnnjiamjaaGreatDoorQde898898
import Derived.WalkSpells
import Derived.Deep.RegionLaw
import Derived.Lib.SliceRun
set_option maxHeartbeats 8000000
set_option maxRecDepth 100000
section
namespace Go.Proofs.YtijcdpnnjiamjaaGreatDoor.G
open Go.RowKit Go.Proofs.YtijcdpnnjiamjaaGreatDoorW.PrintWords Go.Proofs.YtijcdpnnjiamjaaGreatDoorW.PrintLast Go.Proofs.YtijcdpnnjiamjaaGreatDoorW.PrintMore
attribute [local go_sem] max2_int min2_int max_two min_two max_three min_three max_four min_four
set_option linter.unusedVariables false
set_option linter.unusedSimpArgs false
mutual
def spec_pzAll.l0 : Nat → List (S46) → List Int → Int → Int → Int → Option (List Int)
 | 0, _, _, _, _, _ => none
 | k + 1, x1, x5, x6, x102000, x102001 => (spec_nuHouses.f x102000 x102001).bind fun t102 => (if x6 ≤ t102 then (spec_pzAll.l1 k x1 x5 x6 true x1 (x1.length : Int) 0 x102000 x102001) else (some x5))
def spec_pzAll.l1 : Nat → List (S46) → List Int → Int → Bool → List (S46) → Int → Int → Int → Int → Option (List Int)
 | 0, _, _, _, _, _, _, _, _, _ => none
 | k + 1, x1, x5, x6, x7, x16, x17, x18, x102000, x102001 => if x18 < x17 then (if 0 ≤ x18 then (if x18 < (x16.length : Int) then (if x7 = true then ((spec_pzFits.f x102000 x102001 ((rd_T46 x16 x18).f0) ((rd_T46 x16 x18).f1) ((rd_T46 x16 x18).f2) x6).bind fun t105 => (spec_pzAll.l1 k x1 x5 x6 t105 x16 x17 (wrap64 (x18 + 1)) x102000 x102001)) else (spec_pzAll.l1 k x1 x5 x6 false x16 x17 (wrap64 (x18 + 1)) x102000 x102001)) else (none)) else (none)) else (if x7 = true then (if x5.length < 17592186044416 then (spec_pzAll.l0 k x1 (x5 ++ [x6]) (wrap64 (x6 + 1)) x102000 x102001) else (none)) else (spec_pzAll.l0 k x1 x5 (wrap64 (x6 + 1)) x102000 x102001))
end
def spec_pzAll.f (k : Nat) (a0_0 : Int) (a0_1 : Int) (l1 : List (S46)) : Option (List Int) := spec_pzAll.l0 k l1 ([] : List Int) 1 a0_0 a0_1
theorem spec_pzAll.mono_l : ∀ k, (∀ y0 y1 y2 y3 y4, LeO (spec_pzAll.l0 k y0 y1 y2 y3 y4) (spec_pzAll.l0 (k + 1) y0 y1 y2 y3 y4)) ∧ (∀ y0 y1 y2 y3 y4 y5 y6 y7 y8, LeO (spec_pzAll.l1 k y0 y1 y2 y3 y4 y5 y6 y7 y8) (spec_pzAll.l1 (k + 1) y0 y1 y2 y3 y4 y5 y6 y7 y8))
 | 0 => ⟨fun _ _ _ _ _ r h => by simp [spec_pzAll.l0] at h, fun _ _ _ _ _ _ _ _ _ r h => by simp [spec_pzAll.l1] at h⟩
 | k + 1 => by
  obtain ⟨ih0, ih1⟩ := spec_pzAll.mono_l k
  refine ⟨?_, ?_⟩
  ·intro y0 y1 y2 y3 y4
   unfold spec_pzAll.l0
   repeat' first | (with_reducible exact ih1 _ _ _ _ _ _ _ _ _) | (with_reducible exact LeO.refl _) | (with_reducible refine LeO.ite ?_ ?_) | (with_reducible refine LeO.bind ?_ (fun _ => ?_))
  ·intro y0 y1 y2 y3 y4 y5 y6 y7 y8
   unfold spec_pzAll.l1
   repeat' first | (with_reducible exact ih0 _ _ _ _ _) | (with_reducible exact ih1 _ _ _ _ _ _ _ _ _) | (with_reducible exact LeO.refl _) | (with_reducible refine LeO.ite ?_ ?_) | (with_reducible refine LeO.bind ?_ (fun _ => ?_))
theorem spec_pzAll.mono : ∀ a0 a1 a2 k, LeO (spec_pzAll.f k a0 a1 a2) (spec_pzAll.f (k + 1) a0 a1 a2) := by
 intro a0 a1 a2 k
 obtain ⟨ih0, ih1⟩ := spec_pzAll.mono_l k
 unfold spec_pzAll.f
 repeat' (with_reducible exact ih0 _ _ _ _ _)
theorem spec_pzAll.calls (k : Nat) (a0_0 : Int) (a0_1 : Int) (A1 : Option Addr) (c1 : Nat) (l1 : List (S46)) (r : List Int) (w : World) (hr1 : Kd.C k46 w A1 l1.length l1) (hc1 : l1.length ≤ c1) (h : spec_pzAll.f k a0_0 a0_1 l1 = some r) :
  Calls Tryz.prog 39 #[.agg #[.int .i64 a0_0, .int .i64 a0_1], .slice A1 l1.length c1] w fun e w' => ∃ v0_ : Value, e = .returned (v0_) ∧ Kd.R (Kd.int .i64) 3 w' w.heap.size (fun _ => True) v0_ r ∧ Below w.heap.size w w' := by
 have hu25 := Tryz.underlying25
 have hu46 := Tryz.underlying46
 have HR1 := am hr1
 have HC1 := am hc1
 clear hr1 hc1
 have HB := am (Below.refl w.heap.size w)
 have H := h
 clear h
 unfold spec_pzAll.f at H
 have H' := am H
 clear H
 go_enter Tryz.func39, Tryz.ntmps39
 go_wp2_with (((with_reducible refine gate_dst (N := 2) rfl ?_); refine uX (N := 2) (cs := #[.int .i64 a0_0, .int .i64 a0_1]) (t := 25) ?_; intro gb101 hg w3 hbox hb; have BK101 := am (hbox); have GW101 := uE hg; have GE101 := GW101; replace HB := uS hb; clear hb hbox hg))
 go_loopg [5, 6] k (fun kq v5 v6 w' => ∃ (x5_1 : List Int) (x6_1 : Int), v6 = .int .i64 x6_1 ∧ Aside0 (spec_pzAll.l0 kq l1 x5_1 x6_1 a0_0 a0_1 = some r) ∧ Aside0 (kq ≤ k) ∧ Aside0 (Kd.R (Kd.int .i64) 3 w' w.heap.size (fun _ => True) v5 x5_1) ∧ Aside0 (w'.heap[gb101]? = some (.cells #[.int .i64 a0_0, .int .i64 a0_1] 25 (0, 0))) ∧ Aside0 (Below w.heap.size w w'))
 case atStart => exact ⟨(([] : List Int)), (1), (by rfl), H', ⟨Nat.le_refl _⟩, ⟨uN⟩, ⟨by (with_reducible skip); exact BK101.out⟩, ⟨by exact uW⟩⟩
 case round =>
  clear H'
  obtain ⟨x5_1, x6_1, rfl, HA, HK1, HO_5, BK101, HB⟩ := hrel
  cases gk with
  | zero => exact absurd HA.out (by simp [spec_pzAll.l0])
  | succ k1 =>
   have H := HA.out
   clear HA
   simp only [spec_pzAll.l0] at H
   obtain ⟨t102, A40, H⟩ := bH H
   have A4 := am A40
   clear A40
   by_cases c5 : x6_1 ≤ t102
   ·rw [if_pos c5] at H
    have c5b0 : decide (x6_1 ≤ t102) = true := decide_eq_true c5
    clear c5
    have H' := am H
    clear H
    obtain ⟨hcz6_0, hcz6_1, hfz6_0, hfz6_1⟩ := uZ2 BK101
    go_wp2_with (((with_reducible refine gate_callee (f := 66) rfl ?_); refine uGo (some 12) Tryz.func66 #[.agg #[.int .i64 a0_0, .int .i64 a0_1]] ?_; (with_reducible refine (spec_nuHouses.calls a0_0 a0_1 t102 _ A4.out).mono ?_); rintro e w7 ⟨rfl, hb⟩; refine ⟨_, rfl, ?_⟩; replace HO_5 := am (Kd.R_below (uR HO_5) hb); replace BK101 := uB BK101 hb; replace HB := uS hb; (try clear hb)))
    go_loopg [7, 18] k1 (fun kq v7 v18 w' => ∃ (x7_2 : Bool) (x18_2 : Int), v7 = .bool x7_2 ∧ v18 = .int .i64 x18_2 ∧ Aside0 (spec_pzAll.l1 kq l1 x5_1 x6_1 x7_2 l1 (l1.length : Int) x18_2 a0_0 a0_1 = some r) ∧ Aside0 (kq ≤ k1) ∧ Aside0 (Kd.R (Kd.int .i64) 3 w' w.heap.size (fun _ => True) u5 x5_1) ∧ Aside0 (w'.heap[gb101]? = some (.cells #[.int .i64 a0_0, .int .i64 a0_1] 25 (0, 0))) ∧ Aside0 (Below w.heap.size w w'))
    case atStart => exact ⟨(true), (0), (by rfl), (by rfl), H', ⟨Nat.le_refl _⟩, ⟨by (with_reducible skip); exact HO_5.out⟩, ⟨by (with_reducible skip); exact BK101.out⟩, ⟨by exact uW⟩⟩
    case round =>
     clear H'
     try clear c5b0
     try clear hcz6_0
     try clear hcz6_1
     try clear hfz6_0
     try clear hfz6_1
     obtain ⟨x7_2, x18_2, rfl, rfl, HA, HK2, HO_5, BK101, HB⟩ := hrel
     cases gk with
     | zero => exact absurd HA.out (by simp [spec_pzAll.l1])
     | succ k2 =>
      have H := HA.out
      clear HA
      simp only [spec_pzAll.l1] at H
      by_cases c8 : x18_2 < (l1.length : Int)
      ·rw [if_pos c8] at H
       have c8b0 : decide (x18_2 < (l1.length : Int)) = true := decide_eq_true c8
       clear c8
       by_cases c9 : 0 ≤ x18_2
       ·rw [if_pos c9] at H
        have c9b0 : decide (0 ≤ x18_2) = true := decide_eq_true c9
        clear c9
        by_cases c10 : x18_2 < (l1.length : Int)
        ·rw [if_pos c10] at H
         have c10b0 : decide (x18_2 < (l1.length : Int)) = true := decide_eq_true c10
         clear c10
         by_cases c11 : x7_2 = true
         ·subst c11
          rw [if_pos rfl] at H
          obtain ⟨t105, A120, H⟩ := bH H
          have A12 := am A120
          clear A120
          have H' := am H
          clear H
          have p103 : 0 ≤ (x18_2 : Int) := of_decide_eq_true (by (with_reducible assumption))
          have q103 : x18_2 < (l1.length : Int) := of_decide_eq_true (by (with_reducible assumption))
          obtain ⟨ad103, e103, hx103_0, hx103_1, hx103_2⟩ := at_T46 HR1.out x18_2 p103 q103
          cases e103
          try replace hx103_0 := (HB.out.cell (World.block_lt_of_cell? w _ hx103_0)).trans hx103_0
          try replace hx103_1 := (HB.out.cell (World.block_lt_of_cell? w _ hx103_1)).trans hx103_1
          try replace hx103_2 := (HB.out.cell (World.block_lt_of_cell? w _ hx103_2)).trans hx103_2
          replace p103 := eq_true p103
          replace q103 := eq_true q103
          go_wp2_with (first | ((with_reducible refine gate_dst (N := 9) rfl ?_); refine uX (N := 9) (cs := #[.int .i64 0, .int .i64 0, .int .i64 0]) (t := 46) ?_; intro gb104 hg w13 hbox hb; have BK104 := am (hbox); have GW104 := uE hg; have GE104 := GW104; have NB101_104 := uL BK101 hg; have NB104_101 := uY NB101_104; replace HO_5 := am (Kd.R_below (uR HO_5) hb); replace BK101 := uB BK101 hb; replace HB := uS hb; clear hb hbox hg; have hnb14 := NB104_101.out; have hnc14 := NB101_104.out; obtain ⟨hcz15_0, hcz15_1, hcz15_2, hfz15_0, hfz15_1, hfz15_2⟩ := uZ3 BK104; obtain ⟨hcz16_0, hcz16_1, hfz16_0, hfz16_1⟩ := uZ2 BK101) | (go_at_call 67; (with_reducible refine (spec_pzFits.calls a0_0 a0_1 ((rd_T46 l1 x18_2).f0) ((rd_T46 l1 x18_2).f1) ((rd_T46 l1 x18_2).f2) x6_1 t105 _ A12.out).mono ?_); rintro e w17 ⟨rfl, hb⟩; replace HO_5 := am (Kd.R_below (by (with_reducible skip); exact (Kd.R_mono (Kd.R_far (p := ⟨gb104, 2, none⟩) (Kd.R_far (p := ⟨gb104, 1, none⟩) (Kd.R_far (p := ⟨gb104, 0, none⟩) (Kd.R_types HO_5.out BK104.out (by decide)) (fun _ hk => hk.2) (.int .i64 ((rd_T46 l1 x18_2).f0))) (fun _ hk => hk.2) (.int .i64 ((rd_T46 l1 x18_2).f1))) (fun _ hk => hk.2) (.int .i64 ((rd_T46 l1 x18_2).f2))) (fun _ h_ => h_.1))) hb); replace BK101 := am (blk_below (g := gb101) (o := .cells #[.int .i64 a0_0, .int .i64 a0_1] 25 (0, 0)) (by refine blk_far ?_ NB101_104.out _; refine blk_far ?_ NB101_104.out _; refine blk_far ?_ NB101_104.out _; exact (uP BK101)) hb); replace BK104 := am (blk_below (g := gb104) (o := .cells #[.int .i64 ((rd_T46 l1 x18_2).f0), .int .i64 ((rd_T46 l1 x18_2).f1), .int .i64 ((rd_T46 l1 x18_2).f2)] 46 (0, 0)) (by refine blk_put (cs := #[.int .i64 ((rd_T46 l1 x18_2).f0), .int .i64 ((rd_T46 l1 x18_2).f1), .int .i64 0]) ?_ 2 _ rfl; refine blk_put (cs := #[.int .i64 ((rd_T46 l1 x18_2).f0), .int .i64 0, .int .i64 0]) ?_ 1 _ rfl; refine blk_put (cs := #[.int .i64 0, .int .i64 0, .int .i64 0]) ?_ 0 _ rfl; exact (uP BK104)) hb); replace HB := uS hb; (try clear hb)))
          go_roundg k2
          case measure => have := HK1.out; have := HK2.out; omega
          case rel => exact ⟨(t105), (wrap64 (x18_2 + 1)), (by rfl), (by rfl), H', ⟨by have := HK1.out; have := HK2.out; omega⟩, ⟨by (with_reducible skip); exact HO_5.out⟩, ⟨by (with_reducible skip); exact BK101.out⟩, ⟨by exact uW⟩⟩
         ·replace c11 := Bool.eq_false_iff.mpr c11
          subst c11
          rw [if_neg (show ¬ (false = true) by decide)] at H
          have H' := am H
          clear H
          have p103 : 0 ≤ (x18_2 : Int) := of_decide_eq_true (by (with_reducible assumption))
          have q103 : x18_2 < (l1.length : Int) := of_decide_eq_true (by (with_reducible assumption))
          obtain ⟨ad103, e103, hx103_0, hx103_1, hx103_2⟩ := at_T46 HR1.out x18_2 p103 q103
          cases e103
          try replace hx103_0 := (HB.out.cell (World.block_lt_of_cell? w _ hx103_0)).trans hx103_0
          try replace hx103_1 := (HB.out.cell (World.block_lt_of_cell? w _ hx103_1)).trans hx103_1
          try replace hx103_2 := (HB.out.cell (World.block_lt_of_cell? w _ hx103_2)).trans hx103_2
          replace p103 := eq_true p103
          replace q103 := eq_true q103
          go_wp2_with (((with_reducible refine gate_dst (N := 9) rfl ?_); refine uX (N := 9) (cs := #[.int .i64 0, .int .i64 0, .int .i64 0]) (t := 46) ?_; intro gb104 hg w18 hbox hb; have BK104 := am (hbox); have GW104 := uE hg; have GE104 := GW104; have NB101_104 := uL BK101 hg; have NB104_101 := uY NB101_104; replace HO_5 := am (Kd.R_below (uR HO_5) hb); replace BK101 := uB BK101 hb; replace HB := uS hb; clear hb hbox hg; have hnb19 := NB104_101.out; have hnc19 := NB101_104.out; obtain ⟨hcz20_0, hcz20_1, hcz20_2, hfz20_0, hfz20_1, hfz20_2⟩ := uZ3 BK104))
          go_roundg k2
          case measure => have := HK1.out; have := HK2.out; omega
          case rel => exact ⟨(false), (wrap64 (x18_2 + 1)), (by rfl), (by rfl), H', ⟨by have := HK1.out; have := HK2.out; omega⟩, ⟨by (with_reducible skip); exact Kd.R_mono (Kd.R_far (p := ⟨gb104, 2, none⟩) (Kd.R_far (p := ⟨gb104, 1, none⟩) (Kd.R_far (p := ⟨gb104, 0, none⟩) (Kd.R_types HO_5.out BK104.out (by decide)) (fun _ hk => hk.2) (.int .i64 ((rd_T46 l1 x18_2).f0))) (fun _ hk => hk.2) (.int .i64 ((rd_T46 l1 x18_2).f1))) (fun _ hk => hk.2) (.int .i64 ((rd_T46 l1 x18_2).f2))) (fun _ hk => trivial)⟩, ⟨by refine blk_far ?_ NB101_104.out _; refine blk_far ?_ NB101_104.out _; refine blk_far ?_ NB101_104.out _; exact (uP BK101)⟩, ⟨by exact uW⟩⟩
        ·rw [if_neg c10] at H
         exact absurd H (by simp)
       ·rw [if_neg c9] at H
        exact absurd H (by simp)
      ·rw [if_neg c8] at H
       have c8b0 : decide (x18_2 < (l1.length : Int)) = false := decide_eq_false c8
       clear c8
       by_cases c21 : x7_2 = true
       ·subst c21
        rw [if_pos rfl] at H
        by_cases c22 : x5_1.length < 17592186044416
        ·rw [if_pos c22] at H
         have LMc22 := am c22
         clear c22
         obtain ⟨y106, hy106⟩ : ∃ y_ : List Int, y_ = (x5_1 ++ [x6_1]) := ⟨_, rfl⟩
         replace H : (spec_pzAll.l0 k2 l1 y106 (wrap64 (x6_1 + 1)) a0_0 a0_1) = some r := by (rw [hy106]; with_reducible exact H)
         have Ny106 := am hy106
         clear hy106
         have H' := am H
         clear H
         go_wp2_with (((with_reducible refine gate_builtin (b := .append) (xs := #[.tmp 31, .tmp 33]) rfl ?_); at_builtin; refine Kd.R_append (Kd.int .i64) (w0 := w) w.heap.size rfl (.tmp 31) (.tmp 33) 30 3 (.int .i64 0) 8 rfl Tryz.underlying30 info3 rfl (by decide) (by omega) u5 x5_1 x6_1 [.int .i64 x6_1] (fun _ => True) (fun _ => False) rfl rfl ?aP (fun _ hk => hk.elim) ?aF ?aO ?aB ?aS ?aL ?_; (case aP => exact rfl); (case aB => exact uW); (case aF => exact (fun _ _ => trivial)); (case aO => exact (uR HO_5)); (case aS => exact (below_size uW)); (case aL => have := LMc22.out; omega); intro v107 w23 ho hb hg hat; rw [← Ny106.out] at ho; have HO108 := am (ho); replace BK101 := am (blk_grown (uP BK101) hg (Kd.R_ne HO_5.out BK101.out (by decide))); replace HB := am (hb); clear HO_5; clear ho hb hg hat))
         go_roundg k2
         case measure => have := HK1.out; have := HK2.out; omega
         case rel => exact ⟨(y106), (wrap64 (x6_1 + 1)), (by rfl), H', ⟨by have := HK1.out; have := HK2.out; omega⟩, ⟨by (with_reducible skip); exact HO108.out⟩, ⟨by (with_reducible skip); exact BK101.out⟩, ⟨by exact uW⟩⟩
        ·rw [if_neg c22] at H
         exact absurd H (by simp)
       ·replace c21 := Bool.eq_false_iff.mpr c21
        subst c21
        rw [if_neg (show ¬ (false = true) by decide)] at H
        have H' := am H
        clear H
        go_wp2
        go_roundg k2
        case measure => have := HK1.out; have := HK2.out; omega
        case rel => exact ⟨(x5_1), (wrap64 (x6_1 + 1)), (by rfl), H', ⟨by have := HK1.out; have := HK2.out; omega⟩, ⟨by (with_reducible skip); exact HO_5.out⟩, ⟨by (with_reducible skip); exact BK101.out⟩, ⟨by exact uW⟩⟩
   ·rw [if_neg c5] at H
    have c5b0 : decide (x6_1 ≤ t102) = false := decide_eq_false c5
    clear c5
    obtain rfl := Option.some.inj H
    obtain ⟨hcz24_0, hcz24_1, hfz24_0, hfz24_1⟩ := uZ2 BK101
    go_wp2_with (((with_reducible refine gate_callee (f := 66) rfl ?_); refine uGo (some 12) Tryz.func66 #[.agg #[.int .i64 a0_0, .int .i64 a0_1]] ?_; (with_reducible refine (spec_nuHouses.calls a0_0 a0_1 t102 _ A4.out).mono ?_); rintro e w25 ⟨rfl, hb⟩; refine ⟨_, rfl, ?_⟩; replace HO_5 := am (Kd.R_below (uR HO_5) hb); replace BK101 := uB BK101 hb; replace HB := uS hb; (try clear hb)))
    go_ret
    exact ⟨_, uA, by (with_reducible skip); exact HO_5.out, by exact uW⟩
def spec_Solutions.f (k : Nat) (a0_0 : Int) (a0_1 : Int) (l0_2 : List (S46)) : Option (List Int × Bool) := (spec_pzGood.f k a0_0 a0_1 l0_2).bind fun t102 => (if t102 = true then ((spec_pzAll.f k a0_0 a0_1 l0_2).bind fun t103 => (some (t103, true))) else (some (([] : List Int), false)))
theorem spec_Solutions.calls (k : Nat) (a0_0 : Int) (a0_1 : Int) (A0_2 : Option Addr) (c0_2 : Nat) (l0_2 : List (S46)) (r1 : List Int) (r2 : Bool) (w : World) (hr0_2 : Kd.C k46 w A0_2 l0_2.length l0_2) (hc0_2 : l0_2.length ≤ c0_2) (h : spec_Solutions.f k a0_0 a0_1 l0_2 = some (r1, r2)) :
  Calls Tryz.prog 7 #[.agg #[.int .i64 a0_0, .int .i64 a0_1, .slice A0_2 l0_2.length c0_2]] w fun e w' => ∃ v0_ : Value, e = .returned (.tuple #[v0_, .bool r2]) ∧ Kd.R (Kd.int .i64) 3 w' w.heap.size (fun _ => True) v0_ r1 ∧ Below w.heap.size w w' := by
 have hu28 := Tryz.underlying28
 have hu25 := Tryz.underlying25
 have HR0_2 := am hr0_2
 have HC0_2 := am hc0_2
 clear hr0_2 hc0_2
 have HB := am (Below.refl w.heap.size w)
 have H := h
 clear h
 unfold spec_Solutions.f at H
 obtain ⟨t102, A20, H⟩ := bH H
 have A2 := am A20
 clear A20
 by_cases c3 : t102 = true
 ·subst c3
  rw [if_pos rfl] at H
  obtain ⟨t103, A40, H⟩ := bH H
  have A4 := am A40
  clear A40
  simp only [Option.some.injEq, Prod.mk.injEq] at H
  obtain ⟨rfl, rfl⟩ := H
  go_enter Tryz.func7, Tryz.ntmps7
  go_wp2_with (first | ((with_reducible refine gate_dst (N := 1) rfl ?_); refine uX (N := 1) (cs := #[.int .i64 a0_0, .int .i64 a0_1, .slice A0_2 l0_2.length c0_2]) (t := 28) ?_; intro gb101 hg w5 hbox hb; have BK101 := am (hbox); have GW101 := uE hg; have GE101 := GW101; replace HB := uS hb; clear hb hbox hg; obtain ⟨hcz6_0, hcz6_1, hcz6_2, hfz6_0, hfz6_1, hfz6_2⟩ := uZ3 BK101) | ((with_reducible refine gate_callee (f := 38) rfl ?_); refine uGo (some 5) Tryz.func38 #[.agg #[.int .i64 a0_0, .int .i64 a0_1, .slice A0_2 l0_2.length c0_2]] ?_; (with_reducible refine (spec_pzGood.calls k a0_0 a0_1 _ _ l0_2 true _ ?side1 ?side2 A2.out).mono ?_); (case side1 => repeat (exact (Kd.C_below HR0_2.out HB.out))); (case side2 => exact HC0_2.out); rintro e w7 ⟨rfl, hb⟩; refine ⟨_, rfl, ?_⟩; replace BK101 := uB BK101 hb; replace HB := uS hb; (try clear hb); obtain ⟨hcz8_0, hcz8_1, hcz8_2, hfz8_0, hfz8_1, hfz8_2⟩ := uZ3 BK101) | ((with_reducible refine gate_callee (f := 39) rfl ?_); refine uGo (some 11) Tryz.func39 #[.agg #[.int .i64 a0_0, .int .i64 a0_1], .slice A0_2 l0_2.length c0_2] ?_; (with_reducible refine (spec_pzAll.calls k a0_0 a0_1 _ _ l0_2 t103 _ ?side1 ?side2 A4.out).mono ?_); (case side1 => repeat (exact (Kd.C_below HR0_2.out HB.out))); (case side2 => exact HC0_2.out); rintro e w9 ⟨v104, rfl, ho0, hb⟩; refine ⟨_, rfl, ?_⟩; have HO105 := am (Kd.R_lower ho0 (below_size uW)); replace BK101 := uB BK101 hb; replace HB := uS hb; (try clear hb); (try clear ho0)))
  go_ret2
  exact ⟨_, uA, by (with_reducible skip); exact HO105.out, by exact uW⟩
 ·replace c3 := Bool.eq_false_iff.mpr c3
  subst c3
  rw [if_neg (show ¬ (false = true) by decide)] at H
  simp only [Option.some.injEq, Prod.mk.injEq] at H
  obtain ⟨rfl, rfl⟩ := H
  go_enter Tryz.func7, Tryz.ntmps7
  go_wp2_with (first | ((with_reducible refine gate_dst (N := 1) rfl ?_); refine uX (N := 1) (cs := #[.int .i64 a0_0, .int .i64 a0_1, .slice A0_2 l0_2.length c0_2]) (t := 28) ?_; intro gb101 hg w10 hbox hb; have BK101 := am (hbox); have GW101 := uE hg; have GE101 := GW101; replace HB := uS hb; clear hb hbox hg; obtain ⟨hcz11_0, hcz11_1, hcz11_2, hfz11_0, hfz11_1, hfz11_2⟩ := uZ3 BK101) | ((with_reducible refine gate_callee (f := 38) rfl ?_); refine uGo (some 5) Tryz.func38 #[.agg #[.int .i64 a0_0, .int .i64 a0_1, .slice A0_2 l0_2.length c0_2]] ?_; (with_reducible refine (spec_pzGood.calls k a0_0 a0_1 _ _ l0_2 false _ ?side1 ?side2 A2.out).mono ?_); (case side1 => repeat (exact (Kd.C_below HR0_2.out HB.out))); (case side2 => exact HC0_2.out); rintro e w12 ⟨rfl, hb⟩; refine ⟨_, rfl, ?_⟩; replace BK101 := uB BK101 hb; replace HB := uS hb; (try clear hb)))
  go_ret2
  exact ⟨_, uA, uN, by exact uW⟩
def impl_CountSolutions.f (a0_0 : Int) (a0_1 : Int) (l0_2 : List (S46)) : Option (Int × Bool) := (impl_IsPuzzle.f a0_0 a0_1 l0_2).bind fun t102 => (if t102 = true then ((impl_solutions.f a0_0 a0_1 l0_2).bind fun t103 => (some ((t103.length : Int), true))) else (some (0, false)))
theorem impl_CountSolutions.calls (a0_0 : Int) (a0_1 : Int) (A0_2 : Option Addr) (c0_2 : Nat) (l0_2 : List (S46)) (r1 : Int) (r2 : Bool) (w : World) (hr0_2 : Kd.C k46 w A0_2 l0_2.length l0_2) (hc0_2 : l0_2.length ≤ c0_2) (h : impl_CountSolutions.f a0_0 a0_1 l0_2 = some (r1, r2)) :
  Calls Tryz.prog 8 #[.agg #[.int .i64 a0_0, .int .i64 a0_1, .slice A0_2 l0_2.length c0_2]] w fun e w' => e = .returned (.tuple #[.int .i64 r1, .bool r2]) ∧ Below w.heap.size w w' := by
 have hu28 := Tryz.underlying28
 have hu25 := Tryz.underlying25
 have HR0_2 := am hr0_2
 have HC0_2 := am hc0_2
 clear hr0_2 hc0_2
 have HB := am (Below.refl w.heap.size w)
 have H := h
 clear h
 unfold impl_CountSolutions.f at H
 obtain ⟨t102, A20, H⟩ := bH H
 have A2 := am A20
 clear A20
 by_cases c3 : t102 = true
 ·subst c3
  rw [if_pos rfl] at H
  obtain ⟨t103, A40, H⟩ := bH H
  have A4 := am A40
  clear A40
  simp only [Option.some.injEq, Prod.mk.injEq] at H
  obtain ⟨rfl, rfl⟩ := H
  go_enter Tryz.func8, Tryz.ntmps8
  go_wp2_with (first | ((with_reducible refine gate_dst (N := 1) rfl ?_); refine uX (N := 1) (cs := #[.int .i64 a0_0, .int .i64 a0_1, .slice A0_2 l0_2.length c0_2]) (t := 28) ?_; intro gb101 hg w5 hbox hb; have BK101 := am (hbox); have GW101 := uE hg; have GE101 := GW101; replace HB := uS hb; clear hb hbox hg; obtain ⟨hcz6_0, hcz6_1, hcz6_2, hfz6_0, hfz6_1, hfz6_2⟩ := uZ3 BK101) | ((with_reducible refine gate_callee (f := 25) rfl ?_); refine uGo (some 5) Tryz.func25 #[.agg #[.int .i64 a0_0, .int .i64 a0_1, .slice A0_2 l0_2.length c0_2]] ?_; (with_reducible refine (impl_IsPuzzle.calls a0_0 a0_1 _ _ l0_2 true _ ?side1 ?side2 A2.out).mono ?_); (case side1 => repeat (exact (Kd.C_below HR0_2.out HB.out))); (case side2 => exact HC0_2.out); rintro e w7 ⟨rfl, hb⟩; refine ⟨_, rfl, ?_⟩; replace BK101 := uB BK101 hb; replace HB := uS hb; (try clear hb); obtain ⟨hcz8_0, hcz8_1, hcz8_2, hfz8_0, hfz8_1, hfz8_2⟩ := uZ3 BK101) | ((with_reducible refine gate_callee (f := 37) rfl ?_); refine uGo (some 11) Tryz.func37 #[.agg #[.int .i64 a0_0, .int .i64 a0_1], .slice A0_2 l0_2.length c0_2] ?_; (with_reducible refine (impl_solutions.calls a0_0 a0_1 _ _ l0_2 t103 _ ?side1 ?side2 A4.out).mono ?_); (case side1 => repeat (exact (Kd.C_below HR0_2.out HB.out))); (case side2 => exact HC0_2.out); rintro e w9 ⟨v104, rfl, ho0, hb⟩; refine ⟨_, rfl, ?_⟩; have HO105 := am (Kd.R_lower ho0 (below_size uW)); replace BK101 := uB BK101 hb; replace HB := uS hb; (try clear hb); (try clear ho0); obtain ⟨Ao10, co10, eo10⟩ := Kd.R_slice HO105.out; subst eo10))
  go_ret2
  exact ⟨uA, by exact uW⟩
 ·replace c3 := Bool.eq_false_iff.mpr c3
  subst c3
  rw [if_neg (show ¬ (false = true) by decide)] at H
  simp only [Option.some.injEq, Prod.mk.injEq] at H
  obtain ⟨rfl, rfl⟩ := H
  go_enter Tryz.func8, Tryz.ntmps8
  go_wp2_with (first | ((with_reducible refine gate_dst (N := 1) rfl ?_); refine uX (N := 1) (cs := #[.int .i64 a0_0, .int .i64 a0_1, .slice A0_2 l0_2.length c0_2]) (t := 28) ?_; intro gb101 hg w11 hbox hb; have BK101 := am (hbox); have GW101 := uE hg; have GE101 := GW101; replace HB := uS hb; clear hb hbox hg; obtain ⟨hcz12_0, hcz12_1, hcz12_2, hfz12_0, hfz12_1, hfz12_2⟩ := uZ3 BK101) | ((with_reducible refine gate_callee (f := 25) rfl ?_); refine uGo (some 5) Tryz.func25 #[.agg #[.int .i64 a0_0, .int .i64 a0_1, .slice A0_2 l0_2.length c0_2]] ?_; (with_reducible refine (impl_IsPuzzle.calls a0_0 a0_1 _ _ l0_2 false _ ?side1 ?side2 A2.out).mono ?_); (case side1 => repeat (exact (Kd.C_below HR0_2.out HB.out))); (case side2 => exact HC0_2.out); rintro e w13 ⟨rfl, hb⟩; refine ⟨_, rfl, ?_⟩; replace BK101 := uB BK101 hb; replace HB := uS hb; (try clear hb)))
  go_ret2
  exact ⟨uA, by exact uW⟩
def spec_CountSolutions.f (k : Nat) (a0_0 : Int) (a0_1 : Int) (l0_2 : List (S46)) : Option (Int × Bool) := (spec_pzGood.f k a0_0 a0_1 l0_2).bind fun t102 => (if t102 = true then ((spec_pzAll.f k a0_0 a0_1 l0_2).bind fun t103 => (some ((t103.length : Int), true))) else (some (0, false)))
theorem spec_CountSolutions.calls (k : Nat) (a0_0 : Int) (a0_1 : Int) (A0_2 : Option Addr) (c0_2 : Nat) (l0_2 : List (S46)) (r1 : Int) (r2 : Bool) (w : World) (hr0_2 : Kd.C k46 w A0_2 l0_2.length l0_2) (hc0_2 : l0_2.length ≤ c0_2) (h : spec_CountSolutions.f k a0_0 a0_1 l0_2 = some (r1, r2)) :
  Calls Tryz.prog 9 #[.agg #[.int .i64 a0_0, .int .i64 a0_1, .slice A0_2 l0_2.length c0_2]] w fun e w' => e = .returned (.tuple #[.int .i64 r1, .bool r2]) ∧ Below w.heap.size w w' := by
 have hu28 := Tryz.underlying28
 have hu25 := Tryz.underlying25
 have HR0_2 := am hr0_2
 have HC0_2 := am hc0_2
 clear hr0_2 hc0_2
 have HB := am (Below.refl w.heap.size w)
 have H := h
 clear h
 unfold spec_CountSolutions.f at H
 obtain ⟨t102, A20, H⟩ := bH H
 have A2 := am A20
 clear A20
 by_cases c3 : t102 = true
 ·subst c3
  rw [if_pos rfl] at H
  obtain ⟨t103, A40, H⟩ := bH H
  have A4 := am A40
  clear A40
  simp only [Option.some.injEq, Prod.mk.injEq] at H
  obtain ⟨rfl, rfl⟩ := H
  go_enter Tryz.func9, Tryz.ntmps9
  go_wp2_with (first | ((with_reducible refine gate_dst (N := 1) rfl ?_); refine uX (N := 1) (cs := #[.int .i64 a0_0, .int .i64 a0_1, .slice A0_2 l0_2.length c0_2]) (t := 28) ?_; intro gb101 hg w5 hbox hb; have BK101 := am (hbox); have GW101 := uE hg; have GE101 := GW101; replace HB := uS hb; clear hb hbox hg; obtain ⟨hcz6_0, hcz6_1, hcz6_2, hfz6_0, hfz6_1, hfz6_2⟩ := uZ3 BK101) | ((with_reducible refine gate_callee (f := 38) rfl ?_); refine uGo (some 5) Tryz.func38 #[.agg #[.int .i64 a0_0, .int .i64 a0_1, .slice A0_2 l0_2.length c0_2]] ?_; (with_reducible refine (spec_pzGood.calls k a0_0 a0_1 _ _ l0_2 true _ ?side1 ?side2 A2.out).mono ?_); (case side1 => repeat (exact (Kd.C_below HR0_2.out HB.out))); (case side2 => exact HC0_2.out); rintro e w7 ⟨rfl, hb⟩; refine ⟨_, rfl, ?_⟩; replace BK101 := uB BK101 hb; replace HB := uS hb; (try clear hb); obtain ⟨hcz8_0, hcz8_1, hcz8_2, hfz8_0, hfz8_1, hfz8_2⟩ := uZ3 BK101) | ((with_reducible refine gate_callee (f := 39) rfl ?_); refine uGo (some 11) Tryz.func39 #[.agg #[.int .i64 a0_0, .int .i64 a0_1], .slice A0_2 l0_2.length c0_2] ?_; (with_reducible refine (spec_pzAll.calls k a0_0 a0_1 _ _ l0_2 t103 _ ?side1 ?side2 A4.out).mono ?_); (case side1 => repeat (exact (Kd.C_below HR0_2.out HB.out))); (case side2 => exact HC0_2.out); rintro e w9 ⟨v104, rfl, ho0, hb⟩; refine ⟨_, rfl, ?_⟩; have HO105 := am (Kd.R_lower ho0 (below_size uW)); replace BK101 := uB BK101 hb; replace HB := uS hb; (try clear hb); (try clear ho0); obtain ⟨Ao10, co10, eo10⟩ := Kd.R_slice HO105.out; subst eo10))
  go_ret2
  exact ⟨uA, by exact uW⟩
 ·replace c3 := Bool.eq_false_iff.mpr c3
  subst c3
  rw [if_neg (show ¬ (false = true) by decide)] at H
  simp only [Option.some.injEq, Prod.mk.injEq] at H
  obtain ⟨rfl, rfl⟩ := H
  go_enter Tryz.func9, Tryz.ntmps9
  go_wp2_with (first | ((with_reducible refine gate_dst (N := 1) rfl ?_); refine uX (N := 1) (cs := #[.int .i64 a0_0, .int .i64 a0_1, .slice A0_2 l0_2.length c0_2]) (t := 28) ?_; intro gb101 hg w11 hbox hb; have BK101 := am (hbox); have GW101 := uE hg; have GE101 := GW101; replace HB := uS hb; clear hb hbox hg; obtain ⟨hcz12_0, hcz12_1, hcz12_2, hfz12_0, hfz12_1, hfz12_2⟩ := uZ3 BK101) | ((with_reducible refine gate_callee (f := 38) rfl ?_); refine uGo (some 5) Tryz.func38 #[.agg #[.int .i64 a0_0, .int .i64 a0_1, .slice A0_2 l0_2.length c0_2]] ?_; (with_reducible refine (spec_pzGood.calls k a0_0 a0_1 _ _ l0_2 false _ ?side1 ?side2 A2.out).mono ?_); (case side1 => repeat (exact (Kd.C_below HR0_2.out HB.out))); (case side2 => exact HC0_2.out); rintro e w13 ⟨rfl, hb⟩; refine ⟨_, rfl, ?_⟩; replace BK101 := uB BK101 hb; replace HB := uS hb; (try clear hb)))
  go_ret2
  exact ⟨uA, by exact uW⟩
def impl_FirstSolution.f (a0_0 : Int) (a0_1 : Int) (l0_2 : List (S46)) : Option (Int × Bool) := (impl_IsPuzzle.f a0_0 a0_1 l0_2).bind fun t102 => (if t102 = true then ((impl_solutions.f a0_0 a0_1 l0_2).bind fun t103 => (if (t103.length : Int) = 0 then (some (0, false)) else (if 0 < (t103.length : Int) then (some (rd t103 0, true)) else (none)))) else (some (0, false)))
theorem impl_FirstSolution.calls (a0_0 : Int) (a0_1 : Int) (A0_2 : Option Addr) (c0_2 : Nat) (l0_2 : List (S46)) (r1 : Int) (r2 : Bool) (w : World) (hr0_2 : Kd.C k46 w A0_2 l0_2.length l0_2) (hc0_2 : l0_2.length ≤ c0_2) (h : impl_FirstSolution.f a0_0 a0_1 l0_2 = some (r1, r2)) :
  Calls Tryz.prog 10 #[.agg #[.int .i64 a0_0, .int .i64 a0_1, .slice A0_2 l0_2.length c0_2]] w fun e w' => e = .returned (.tuple #[.int .i64 r1, .bool r2]) ∧ Below w.heap.size w w' := by
 have hu28 := Tryz.underlying28
 have hu25 := Tryz.underlying25
 have HR0_2 := am hr0_2
 have HC0_2 := am hc0_2
 clear hr0_2 hc0_2
 have HB := am (Below.refl w.heap.size w)
 have H := h
 clear h
 unfold impl_FirstSolution.f at H
 obtain ⟨t102, A20, H⟩ := bH H
 have A2 := am A20
 clear A20
 by_cases c3 : t102 = true
 ·subst c3
  rw [if_pos rfl] at H
  obtain ⟨t103, A40, H⟩ := bH H
  have A4 := am A40
  clear A40
  by_cases c5 : (t103.length : Int) = 0
  ·rw [if_pos c5] at H
   have c5b0 : ((t103.length : Int) == 0) = true := beq_iff_eq.mpr c5
   have c5b1 : ((t103.length : Int) != 0) = false := bne_eq_false_iff_eq.mpr c5
   clear c5
   simp only [Option.some.injEq, Prod.mk.injEq] at H
   obtain ⟨rfl, rfl⟩ := H
   go_enter Tryz.func10, Tryz.ntmps10
   go_wp2_with (first | ((with_reducible refine gate_dst (N := 1) rfl ?_); refine uX (N := 1) (cs := #[.int .i64 a0_0, .int .i64 a0_1, .slice A0_2 l0_2.length c0_2]) (t := 28) ?_; intro gb101 hg w6 hbox hb; have BK101 := am (hbox); have GW101 := uE hg; have GE101 := GW101; replace HB := uS hb; clear hb hbox hg; obtain ⟨hcz7_0, hcz7_1, hcz7_2, hfz7_0, hfz7_1, hfz7_2⟩ := uZ3 BK101) | ((with_reducible refine gate_callee (f := 25) rfl ?_); refine uGo (some 6) Tryz.func25 #[.agg #[.int .i64 a0_0, .int .i64 a0_1, .slice A0_2 l0_2.length c0_2]] ?_; (with_reducible refine (impl_IsPuzzle.calls a0_0 a0_1 _ _ l0_2 true _ ?side1 ?side2 A2.out).mono ?_); (case side1 => repeat (exact (Kd.C_below HR0_2.out HB.out))); (case side2 => exact HC0_2.out); rintro e w8 ⟨rfl, hb⟩; refine ⟨_, rfl, ?_⟩; replace BK101 := uB BK101 hb; replace HB := uS hb; (try clear hb); obtain ⟨hcz9_0, hcz9_1, hcz9_2, hfz9_0, hfz9_1, hfz9_2⟩ := uZ3 BK101) | ((with_reducible refine gate_callee (f := 37) rfl ?_); refine uGo (some 12) Tryz.func37 #[.agg #[.int .i64 a0_0, .int .i64 a0_1], .slice A0_2 l0_2.length c0_2] ?_; (with_reducible refine (impl_solutions.calls a0_0 a0_1 _ _ l0_2 t103 _ ?side1 ?side2 A4.out).mono ?_); (case side1 => repeat (exact (Kd.C_below HR0_2.out HB.out))); (case side2 => exact HC0_2.out); rintro e w10 ⟨v104, rfl, ho0, hb⟩; refine ⟨_, rfl, ?_⟩; have HO105 := am (Kd.R_lower ho0 (below_size uW)); replace BK101 := uB BK101 hb; replace HB := uS hb; (try clear hb); (try clear ho0); obtain ⟨Ao11, co11, eo11⟩ := Kd.R_slice HO105.out; subst eo11))
   go_ret2
   exact ⟨uA, by exact uW⟩
  ·rw [if_neg c5] at H
   have c5b0 : ((t103.length : Int) == 0) = false := beq_eq_false_iff_ne.mpr c5
   have c5b1 : ((t103.length : Int) != 0) = true := bne_iff_ne.mpr c5
   have c5b2 : ¬ (t103 = []) := fun h_ => c5 (by rw [h_]; rfl)
   by_cases c12 : 0 < (t103.length : Int)
   ·rw [if_pos c12] at H
    have c12b0 : decide (0 < (t103.length : Int)) = true := decide_eq_true c12
    have c12b1 : decide (0 < t103.length) = true := decide_eq_true (by omega)
    clear c12
    simp only [Option.some.injEq, Prod.mk.injEq] at H
    obtain ⟨rfl, rfl⟩ := H
    go_enter Tryz.func10, Tryz.ntmps10
    go_wp2_with (first | ((with_reducible refine gate_dst (N := 1) rfl ?_); refine uX (N := 1) (cs := #[.int .i64 a0_0, .int .i64 a0_1, .slice A0_2 l0_2.length c0_2]) (t := 28) ?_; intro gb101 hg w13 hbox hb; have BK101 := am (hbox); have GW101 := uE hg; have GE101 := GW101; replace HB := uS hb; clear hb hbox hg; obtain ⟨hcz14_0, hcz14_1, hcz14_2, hfz14_0, hfz14_1, hfz14_2⟩ := uZ3 BK101) | ((with_reducible refine gate_callee (f := 25) rfl ?_); refine uGo (some 6) Tryz.func25 #[.agg #[.int .i64 a0_0, .int .i64 a0_1, .slice A0_2 l0_2.length c0_2]] ?_; (with_reducible refine (impl_IsPuzzle.calls a0_0 a0_1 _ _ l0_2 true _ ?side1 ?side2 A2.out).mono ?_); (case side1 => repeat (exact (Kd.C_below HR0_2.out HB.out))); (case side2 => exact HC0_2.out); rintro e w15 ⟨rfl, hb⟩; refine ⟨_, rfl, ?_⟩; replace BK101 := uB BK101 hb; replace HB := uS hb; (try clear hb); obtain ⟨hcz16_0, hcz16_1, hcz16_2, hfz16_0, hfz16_1, hfz16_2⟩ := uZ3 BK101) | ((with_reducible refine gate_callee (f := 37) rfl ?_); refine uGo (some 12) Tryz.func37 #[.agg #[.int .i64 a0_0, .int .i64 a0_1], .slice A0_2 l0_2.length c0_2] ?_; (with_reducible refine (impl_solutions.calls a0_0 a0_1 _ _ l0_2 t103 _ ?side1 ?side2 A4.out).mono ?_); (case side1 => repeat (exact (Kd.C_below HR0_2.out HB.out))); (case side2 => exact HC0_2.out); rintro e w17 ⟨v104, rfl, ho0, hb⟩; refine ⟨_, rfl, ?_⟩; have HO105 := am (Kd.R_lower ho0 (below_size uW)); replace BK101 := uB BK101 hb; replace HB := uS hb; (try clear hb); (try clear ho0); obtain ⟨Ao18, co18, eo18⟩ := Kd.R_slice HO105.out; subst eo18; have p106 : 0 ≤ (0 : Int) := (by omega); have q106 : 0 < (t103.length : Int) := of_decide_eq_true (by (with_reducible assumption)); obtain ⟨ad106, e106, hx106_0⟩ := Kd.at_int (Kd.R_reads' HO105.out).2.2 0 p106 q106; cases e106; have qi106 : (0 < t103.length) = True := eq_true (by omega); (try rw [show ((0 : Int)).toNat = 0 from rfl] at hx106_0); (try rw [Addr.add_zero'] at hx106_0); replace p106 := eq_true p106; replace q106 := eq_true q106))
    go_ret2
    exact ⟨uA, by exact uW⟩
   ·rw [if_neg c12] at H
    exact absurd H (by simp)
 ·replace c3 := Bool.eq_false_iff.mpr c3
  subst c3
  rw [if_neg (show ¬ (false = true) by decide)] at H
  simp only [Option.some.injEq, Prod.mk.injEq] at H
  obtain ⟨rfl, rfl⟩ := H
  go_enter Tryz.func10, Tryz.ntmps10
  go_wp2_with (first | ((with_reducible refine gate_dst (N := 1) rfl ?_); refine uX (N := 1) (cs := #[.int .i64 a0_0, .int .i64 a0_1, .slice A0_2 l0_2.length c0_2]) (t := 28) ?_; intro gb101 hg w19 hbox hb; have BK101 := am (hbox); have GW101 := uE hg; have GE101 := GW101; replace HB := uS hb; clear hb hbox hg; obtain ⟨hcz20_0, hcz20_1, hcz20_2, hfz20_0, hfz20_1, hfz20_2⟩ := uZ3 BK101) | ((with_reducible refine gate_callee (f := 25) rfl ?_); refine uGo (some 6) Tryz.func25 #[.agg #[.int .i64 a0_0, .int .i64 a0_1, .slice A0_2 l0_2.length c0_2]] ?_; (with_reducible refine (impl_IsPuzzle.calls a0_0 a0_1 _ _ l0_2 false _ ?side1 ?side2 A2.out).mono ?_); (case side1 => repeat (exact (Kd.C_below HR0_2.out HB.out))); (case side2 => exact HC0_2.out); rintro e w21 ⟨rfl, hb⟩; refine ⟨_, rfl, ?_⟩; replace BK101 := uB BK101 hb; replace HB := uS hb; (try clear hb)))
  go_ret2
  exact ⟨uA, by exact uW⟩
def spec_NeedlessClues.l0 : Nat → List Int → Int → Int → Int → Int → Int → List (S46) → Option (List Int × Bool)
 | 0, _, _, _, _, _, _, _ => none
 | k + 1, x4, x5, x18, x19, x102000, x102001, x102002 => if x19 < x18 then ((spec_pzWithout.f x102002 x19).bind fun t106 => ((spec_pzAll.f k x102000 x102001 t106).bind fun t109 => (if (t109.length : Int) = x5 then (if x4.length < 17592186044416 then (spec_NeedlessClues.l0 k (x4 ++ [x19]) x5 x18 (wrap64 (x19 + 1)) x102000 x102001 x102002) else (none)) else (spec_NeedlessClues.l0 k x4 x5 x18 (wrap64 (x19 + 1)) x102000 x102001 x102002)))) else (some (x4, true))
def spec_NeedlessClues.f (k : Nat) (a0_0 : Int) (a0_1 : Int) (l0_2 : List (S46)) : Option (List Int × Bool) := (spec_pzGood.f k a0_0 a0_1 l0_2).bind fun t102 => (if t102 = true then ((spec_pzAll.f k a0_0 a0_1 l0_2).bind fun t103 => (spec_NeedlessClues.l0 k ([] : List Int) (t103.length : Int) (l0_2.length : Int) 0 a0_0 a0_1 l0_2)) else (some (([] : List Int), false)))
def spec_NeedlessClues.T8 : Bool × List (List Nat × List Nat) := (true, [([], []), ([0], [0]), ([], []), ([2], [2]), ([], []), ([3, 4], [3, 4]), ([1, 5, 5], [1, 5]), ([6], [6]), ([], []), ([7, 8], [7, 8])])
def spec_NeedlessClues.B8 : List Nat := [0, 1, 0, 4, 0, 28, 63, 127, 0, 511]
theorem spec_NeedlessClues.tab8 : rtab .any (opsOf Tryz.f17 8) = spec_NeedlessClues.T8 := by kernel_rfl
theorem spec_NeedlessClues.bits8 : waitsOk spec_NeedlessClues.T8.2 spec_NeedlessClues.B8 = true := by kernel_rfl
theorem spec_NeedlessClues.calls (k : Nat) (a0_0 : Int) (a0_1 : Int) (A0_2 : Option Addr) (c0_2 : Nat) (l0_2 : List (S46)) (r1 : List Int) (r2 : Bool) (w : World) (hr0_2 : Kd.C k46 w A0_2 l0_2.length l0_2) (hc0_2 : l0_2.length ≤ c0_2) (h : spec_NeedlessClues.f k a0_0 a0_1 l0_2 = some (r1, r2)) :
  Calls Tryz.prog 17 #[.agg #[.int .i64 a0_0, .int .i64 a0_1, .slice A0_2 l0_2.length c0_2]] w fun e w' => ∃ v0_ : Value, e = .returned (.tuple #[v0_, .bool r2]) ∧ Kd.R (Kd.int .i64) 3 w' w.heap.size (fun _ => True) v0_ r1 ∧ Below w.heap.size w w' := by
 have hu28 := Tryz.underlying28
 have hu25 := Tryz.underlying25
 have HR0_2 := am hr0_2
 have HC0_2 := am hc0_2
 clear hr0_2 hc0_2
 have HB := am (Below.refl w.heap.size w)
 have H := h
 clear h
 unfold spec_NeedlessClues.f at H
 obtain ⟨t102, A20, H⟩ := bH H
 have A2 := am A20
 clear A20
 by_cases c3 : t102 = true
 ·subst c3
  rw [if_pos rfl] at H
  obtain ⟨t103, A40, H⟩ := bH H
  have A4 := am A40
  clear A40
  have H' := am H
  clear H
  go_enter Tryz.func17, Tryz.ntmps17
  go_wp2_with (first | ((with_reducible refine gate_dst (N := 1) rfl ?_); refine uX (N := 1) (cs := #[.int .i64 a0_0, .int .i64 a0_1, .slice A0_2 l0_2.length c0_2]) (t := 28) ?_; intro gb101 hg w5 hbox hb; have BK101 := am (hbox); have GW101 := uE hg; have GE101 := GW101; replace HB := uS hb; clear hb hbox hg; obtain ⟨hcz6_0, hcz6_1, hcz6_2, hfz6_0, hfz6_1, hfz6_2⟩ := uZ3 BK101) | ((with_reducible refine gate_callee (f := 38) rfl ?_); refine uGo (some 8) Tryz.func38 #[.agg #[.int .i64 a0_0, .int .i64 a0_1, .slice A0_2 l0_2.length c0_2]] ?_; (with_reducible refine (spec_pzGood.calls k a0_0 a0_1 _ _ l0_2 true _ ?side1 ?side2 A2.out).mono ?_); (case side1 => repeat (exact (Kd.C_below HR0_2.out HB.out))); (case side2 => exact HC0_2.out); rintro e w7 ⟨rfl, hb⟩; refine ⟨_, rfl, ?_⟩; replace BK101 := uB BK101 hb; replace HB := uS hb; (try clear hb); obtain ⟨hcz8_0, hcz8_1, hcz8_2, hfz8_0, hfz8_1, hfz8_2⟩ := uZ3 BK101) | ((with_reducible refine gate_callee (f := 39) rfl ?_); refine uGo (some 14) Tryz.func39 #[.agg #[.int .i64 a0_0, .int .i64 a0_1], .slice A0_2 l0_2.length c0_2] ?_; (with_reducible refine (spec_pzAll.calls k a0_0 a0_1 _ _ l0_2 t103 _ ?side1 ?side2 A4.out).mono ?_); (case side1 => repeat (exact (Kd.C_below HR0_2.out HB.out))); (case side2 => exact HC0_2.out); rintro e w9 ⟨v104, rfl, ho0, hb⟩; refine ⟨_, rfl, ?_⟩; have HO105 := am (Kd.R_lower ho0 (below_size uW)); replace BK101 := uB BK101 hb; replace HB := uS hb; (try clear hb); (try clear ho0); obtain ⟨Ao10, co10, eo10⟩ := Kd.R_slice HO105.out; subst eo10; obtain ⟨hcz11_0, hcz11_1, hcz11_2, hfz11_0, hfz11_1, hfz11_2⟩ := uZ3 BK101))
  go_loopg [4, 19] k (fun kq v4 v19 w' => ∃ (x4_1 : List Int) (x19_1 : Int), v19 = .int .i64 x19_1 ∧ Aside0 (spec_NeedlessClues.l0 kq x4_1 (t103.length : Int) (l0_2.length : Int) x19_1 a0_0 a0_1 l0_2 = some (r1, r2)) ∧ Aside0 (kq ≤ k) ∧ Aside0 (Kd.R (Kd.int .i64) 3 w' w.heap.size (fun _ => True) v4 x4_1) ∧ Aside0 (w'.heap[gb101]? = some (.cells #[.int .i64 a0_0, .int .i64 a0_1, (.slice A0_2 l0_2.length c0_2)] 28 (0, 0))) ∧ Aside0 (Below w.heap.size w w'))
  case atStart => exact ⟨(([] : List Int)), (0), (by rfl), H', ⟨Nat.le_refl _⟩, ⟨uN⟩, ⟨by (with_reducible skip); exact BK101.out⟩, ⟨by exact uW⟩⟩
  case round =>
   clear H'
   try clear hcz11_0
   try clear hcz11_1
   try clear hcz11_2
   try clear hcz6_0
   try clear hcz6_1
   try clear hcz6_2
   try clear hcz8_0
   try clear hcz8_1
   try clear hcz8_2
   try clear hfz11_0
   try clear hfz11_1
   try clear hfz11_2
   try clear hfz6_0
   try clear hfz6_1
   try clear hfz6_2
   try clear hfz8_0
   try clear hfz8_1
   try clear hfz8_2
   obtain ⟨x4_1, x19_1, rfl, HA, HK1, HO_4, BK101, HB⟩ := hrel
   cases gk with
   | zero => exact absurd HA.out (by simp [spec_NeedlessClues.l0])
   | succ k1 =>
    have H := HA.out
    clear HA
    simp only [spec_NeedlessClues.l0] at H
    by_cases c12 : x19_1 < (l0_2.length : Int)
    ·rw [if_pos c12] at H
     have c12b0 : decide (x19_1 < (l0_2.length : Int)) = true := decide_eq_true c12
     clear c12
     obtain ⟨t106, A130, H⟩ := bH H
     have A13 := am A130
     clear A130
     obtain ⟨t109, A140, H⟩ := bH H
     have A14 := am A140
     clear A140
     by_cases c15 : (t109.length : Int) = (t103.length : Int)
     ·rw [if_pos c15] at H
      have c15b0 : ((t109.length : Int) == (t103.length : Int)) = true := beq_iff_eq.mpr c15
      have c15b1 : ((t109.length : Int) != (t103.length : Int)) = false := bne_eq_false_iff_eq.mpr c15
      have c15b2 : (t109.length == t103.length) = true := by (simp at c15 ⊢; omega)
      clear c15
      by_cases c16 : x4_1.length < 17592186044416
      ·rw [if_pos c16] at H
       have LMc16 := am c16
       clear c16
       obtain ⟨y112, hy112⟩ : ∃ y_ : List Int, y_ = (x4_1 ++ [x19_1]) := ⟨_, rfl⟩
       replace H : (spec_NeedlessClues.l0 k1 y112 (t103.length : Int) (l0_2.length : Int) (wrap64 (x19_1 + 1)) a0_0 a0_1 l0_2) = some (r1, r2) := by (rw [hy112]; with_reducible exact H)
       have Ny112 := am hy112
       clear hy112
       have H' := am H
       clear H
       try go_wp2
       replace HO_4 := am (Kd.R_drew HO_4.out)
       replace BK101 := am (blk_drew BK101.out)
       replace HB := am (below_drew1 HB.out)
       refine start_ (n := 10) (S := fun w' => w'.cell? ⟨gb101, 0, none⟩ = some (.int .i64 a0_0) ∧ w'.cell? ⟨gb101, 1, none⟩ = some (.int .i64 a0_1) ∧ w'.cell? ⟨gb101, 2, none⟩ = some (.slice A0_2 l0_2.length c0_2)) (ds := []) #[false, false, false, false, false, false, false, false, false, false] (by kernel_rfl) rfl rfl ⟨uT BK101 0, uT BK101 1, uT BK101 2⟩ (fun hHeld => ?_); refine with_tabW spec_NeedlessClues.tab8 spec_NeedlessClues.bits8 (fun HT_ HW_ => ?_)
       generalize wr.drew = w17 at HO_4 BK101 HB hHeld ⊢
       refine uPu (i := 0) (N := some 22) #[true, false, false, false, false, false, false, false, false, false] ?_
       refine uPu (i := 2) (N := some 24) #[true, false, true, false, false, false, false, false, false, false] ?_
       refine uPu (i := 4) (N := some 26) #[true, false, true, false, true, false, false, false, false, false] ?_
       refine uPu (i := 8) (N := some 30) #[true, false, true, false, true, false, false, false, true, false] ?_
       refine uTk (i := 1) (N := some 23) #[true, true, true, false, true, false, false, false, true, false] hHeld ?_
       refine uTk (i := 3) (N := some 25) #[true, true, true, true, true, false, false, false, true, false] hHeld ?_
       refine uOn (i := 5) (N := some 27) #[true, true, true, true, true, true, false, false, true, false] (fun K hK => ?_)
       refine uGs Tryz.func42 #[.slice A0_2 l0_2.length c0_2, .int .i64 x19_1] ?_
       with_reducible refine (spec_pzWithout.calls _ _ l0_2 x19_1 t106 _ ?side1 ?side2 A13.out).mono ?_
       (case side1 => repeat (exact (Kd.C_below HR0_2.out HB.out)))
       (case side2 => exact HC0_2.out)
       rintro e w18 ⟨v107, rfl, ho0, hb⟩
       refine ⟨_, rfl, ?_⟩
       have HO108 := am (Kd.R_lower ho0 (below_size uW))
       replace HO_4 := am (Kd.R_below (uR HO_4) hb)
       replace BK101 := uB BK101 hb
       replace HB := uS hb
       (try clear hb)
       (skip)
       (skip)
       (skip)
       (try clear ho0)
       obtain ⟨Ao19, co19, eo19⟩ := Kd.R_slice HO108.out
       (subst eo19)
       refine hK.out _ _ ⟨uT BK101 0, uT BK101 1, uT BK101 2⟩ (fun hHeld => ?_)
       clear hK K
       refine uNo (some 27) ?_
       refine uOn (i := 6) (N := some 28) #[true, true, true, true, true, true, true, false, true, false] (fun K hK => ?_)
       refine uGs Tryz.func39 #[.agg #[.int .i64 a0_0, .int .i64 a0_1], .slice Ao19 t106.length co19] ?_
       with_reducible refine (spec_pzAll.calls k1 a0_0 a0_1 _ _ t106 t109 _ ?side1 ?side2 A14.out).mono ?_
       (case side1 => repeat (exact (Kd.R_reads' HO108.out).2.2))
       (case side2 => exact (Kd.R_reads' HO108.out).2.1)
       rintro e w20 ⟨v110, rfl, ho0, hb⟩
       refine ⟨_, rfl, ?_⟩
       have HO111 := am (Kd.R_lower (Kd.R_new' ho0 (Kd.R_lt (uR HO_4))) (below_size uW))
       replace HO_4 := am (Kd.R_elder' (uR HO_4) (Kd.R_base ho0) hb)
       replace HO108 := am (Kd.R_below (uR HO108) hb)
       replace BK101 := uB BK101 hb
       replace HB := uS hb
       (try clear hb)
       (skip)
       (skip)
       (skip)
       (try clear ho0)
       obtain ⟨Ao21, co21, eo21⟩ := Kd.R_slice HO111.out
       (subst eo21)
       refine hK.out _ _ ⟨uT BK101 0, uT BK101 1, uT BK101 2⟩ (fun hHeld => ?_)
       clear hK K
       refine uNo (some 28) ?_
       refine uPu (i := 7) (N := some 29) #[true, true, true, true, true, true, true, true, true, false] ?_
       refine uPu (i := 9) (N := some 31) #[true, true, true, true, true, true, true, true, true, true] ?_
       refine done_ (done_of HT_.out (by kernel_rfl)) ?_
       try go_wp2_with (((with_reducible refine gate_builtin (b := .append) (xs := #[.tmp 32, .tmp 34]) rfl ?_); at_builtin; refine Kd.R_append (Kd.int .i64) (w0 := w) w.heap.size rfl (.tmp 32) (.tmp 34) 30 3 (.int .i64 0) 8 rfl Tryz.underlying30 info3 rfl (by decide) (by omega) u4 x4_1 x19_1 [.int .i64 x19_1] (fun k_ => some k_ ≠ (.slice Ao21 t109.length co21 : Value).ownBlock) (fun _ => False) rfl rfl ?aP (fun _ hk => hk.elim) ?aF ?aO ?aB ?aS ?aL ?_; (case aP => exact rfl); (case aB => exact uW); (case aF => exact (fun k_ hk => Kd.fresh' (Kd.R_lt (uR HO111)) k_ hk)); (case aO => exact (by (with_reducible skip); exact Kd.R_mono HO_4.out (fun _ hk => hk.2))); (case aS => exact (below_size uW)); (case aL => have := LMc16.out; omega); intro v113 w22 ho hb hg hat; rw [← Ny112.out] at ho; have HO114 := am (ho); replace BK101 := am (blk_grown (uP BK101) hg (Kd.R_ne HO_4.out BK101.out (by decide))); replace HO108 := am (Kd.R_over' (uR HO108) (Kd.R_typed (uR HO_4)) (by decide) hg); replace HO111 := am (Kd.R_after (ok := (fun _ => True)) (uR HO111) hg hat); replace HB := am (hb); clear HO_4; clear ho hb hg hat))
       go_roundg k1
       case measure => have := HK1.out; omega
       case rel => exact ⟨(y112), (wrap64 (x19_1 + 1)), (by rfl), H', ⟨by have := HK1.out; omega⟩, ⟨by (with_reducible skip); exact Kd.R_mono HO114.out (fun _ hk => trivial)⟩, ⟨by (with_reducible skip); exact BK101.out⟩, ⟨by exact uW⟩⟩
      ·rw [if_neg c16] at H
       exact absurd H (by simp)
     ·rw [if_neg c15] at H
      have c15b0 : ((t109.length : Int) == (t103.length : Int)) = false := beq_eq_false_iff_ne.mpr c15
      have c15b1 : ((t109.length : Int) != (t103.length : Int)) = true := bne_iff_ne.mpr c15
      have c15b2 : (t109.length == t103.length) = false := by (simp at c15 ⊢; omega)
      have H' := am H
      clear H
      try go_wp2
      replace HO_4 := am (Kd.R_drew HO_4.out)
      replace BK101 := am (blk_drew BK101.out)
      replace HB := am (below_drew1 HB.out)
      refine start_ (n := 10) (S := fun w' => w'.cell? ⟨gb101, 0, none⟩ = some (.int .i64 a0_0) ∧ w'.cell? ⟨gb101, 1, none⟩ = some (.int .i64 a0_1) ∧ w'.cell? ⟨gb101, 2, none⟩ = some (.slice A0_2 l0_2.length c0_2)) (ds := []) #[false, false, false, false, false, false, false, false, false, false] (by kernel_rfl) rfl rfl ⟨uT BK101 0, uT BK101 1, uT BK101 2⟩ (fun hHeld => ?_); refine with_tabW spec_NeedlessClues.tab8 spec_NeedlessClues.bits8 (fun HT_ HW_ => ?_)
      generalize wr.drew = w23 at HO_4 BK101 HB hHeld ⊢
      refine uPu (i := 0) (N := some 22) #[true, false, false, false, false, false, false, false, false, false] ?_
      refine uPu (i := 2) (N := some 24) #[true, false, true, false, false, false, false, false, false, false] ?_
      refine uPu (i := 4) (N := some 26) #[true, false, true, false, true, false, false, false, false, false] ?_
      refine uPu (i := 8) (N := some 30) #[true, false, true, false, true, false, false, false, true, false] ?_
      refine uTk (i := 1) (N := some 23) #[true, true, true, false, true, false, false, false, true, false] hHeld ?_
      refine uTk (i := 3) (N := some 25) #[true, true, true, true, true, false, false, false, true, false] hHeld ?_
      refine uOn (i := 5) (N := some 27) #[true, true, true, true, true, true, false, false, true, false] (fun K hK => ?_)
      refine uGs Tryz.func42 #[.slice A0_2 l0_2.length c0_2, .int .i64 x19_1] ?_
      with_reducible refine (spec_pzWithout.calls _ _ l0_2 x19_1 t106 _ ?side1 ?side2 A13.out).mono ?_
      (case side1 => repeat (exact (Kd.C_below HR0_2.out HB.out)))
      (case side2 => exact HC0_2.out)
      rintro e w24 ⟨v107, rfl, ho0, hb⟩
      refine ⟨_, rfl, ?_⟩
      have HO108 := am (Kd.R_lower ho0 (below_size uW))
      replace HO_4 := am (Kd.R_below (uR HO_4) hb)
      replace BK101 := uB BK101 hb
      replace HB := uS hb
      (try clear hb)
      (skip)
      (skip)
      (skip)
      (try clear ho0)
      obtain ⟨Ao25, co25, eo25⟩ := Kd.R_slice HO108.out
      (subst eo25)
      refine hK.out _ _ ⟨uT BK101 0, uT BK101 1, uT BK101 2⟩ (fun hHeld => ?_)
      clear hK K
      refine uNo (some 27) ?_
      refine uOn (i := 6) (N := some 28) #[true, true, true, true, true, true, true, false, true, false] (fun K hK => ?_)
      refine uGs Tryz.func39 #[.agg #[.int .i64 a0_0, .int .i64 a0_1], .slice Ao25 t106.length co25] ?_
      with_reducible refine (spec_pzAll.calls k1 a0_0 a0_1 _ _ t106 t109 _ ?side1 ?side2 A14.out).mono ?_
      (case side1 => repeat (exact (Kd.R_reads' HO108.out).2.2))
      (case side2 => exact (Kd.R_reads' HO108.out).2.1)
      rintro e w26 ⟨v110, rfl, ho0, hb⟩
      refine ⟨_, rfl, ?_⟩
      have HO111 := am (Kd.R_lower (Kd.R_new' ho0 (Kd.R_lt (uR HO_4))) (below_size uW))
      replace HO_4 := am (Kd.R_elder' (uR HO_4) (Kd.R_base ho0) hb)
      replace HO108 := am (Kd.R_below (uR HO108) hb)
      replace BK101 := uB BK101 hb
      replace HB := uS hb
      (try clear hb)
      (skip)
      (skip)
      (skip)
      (try clear ho0)
      obtain ⟨Ao27, co27, eo27⟩ := Kd.R_slice HO111.out
      (subst eo27)
      refine hK.out _ _ ⟨uT BK101 0, uT BK101 1, uT BK101 2⟩ (fun hHeld => ?_)
      clear hK K
      refine uNo (some 28) ?_
      refine uPu (i := 7) (N := some 29) #[true, true, true, true, true, true, true, true, true, false] ?_
      refine uPu (i := 9) (N := some 31) #[true, true, true, true, true, true, true, true, true, true] ?_
      refine done_ (done_of HT_.out (by kernel_rfl)) ?_
      try go_wp2
      go_roundg k1
      case measure => have := HK1.out; omega
      case rel => exact ⟨(x4_1), (wrap64 (x19_1 + 1)), (by rfl), H', ⟨by have := HK1.out; omega⟩, ⟨by (with_reducible skip); exact Kd.R_mono HO_4.out (fun _ hk => trivial)⟩, ⟨by (with_reducible skip); exact BK101.out⟩, ⟨by exact uW⟩⟩
    ·rw [if_neg c12] at H
     have c12b0 : decide (x19_1 < (l0_2.length : Int)) = false := decide_eq_false c12
     clear c12
     simp only [Option.some.injEq, Prod.mk.injEq] at H
     obtain ⟨rfl, rfl⟩ := H
     go_wp2
     go_ret2
     exact ⟨_, uA, by (with_reducible skip); exact HO_4.out, by exact uW⟩
 ·replace c3 := Bool.eq_false_iff.mpr c3
  subst c3
  rw [if_neg (show ¬ (false = true) by decide)] at H
  simp only [Option.some.injEq, Prod.mk.injEq] at H
  obtain ⟨rfl, rfl⟩ := H
  go_enter Tryz.func17, Tryz.ntmps17
  go_wp2_with (first | ((with_reducible refine gate_dst (N := 1) rfl ?_); refine uX (N := 1) (cs := #[.int .i64 a0_0, .int .i64 a0_1, .slice A0_2 l0_2.length c0_2]) (t := 28) ?_; intro gb101 hg w28 hbox hb; have BK101 := am (hbox); have GW101 := uE hg; have GE101 := GW101; replace HB := uS hb; clear hb hbox hg; obtain ⟨hcz29_0, hcz29_1, hcz29_2, hfz29_0, hfz29_1, hfz29_2⟩ := uZ3 BK101) | ((with_reducible refine gate_callee (f := 38) rfl ?_); refine uGo (some 8) Tryz.func38 #[.agg #[.int .i64 a0_0, .int .i64 a0_1, .slice A0_2 l0_2.length c0_2]] ?_; (with_reducible refine (spec_pzGood.calls k a0_0 a0_1 _ _ l0_2 false _ ?side1 ?side2 A2.out).mono ?_); (case side1 => repeat (exact (Kd.C_below HR0_2.out HB.out))); (case side2 => exact HC0_2.out); rintro e w30 ⟨rfl, hb⟩; refine ⟨_, rfl, ?_⟩; replace BK101 := uB BK101 hb; replace HB := uS hb; (try clear hb)))
  go_ret2
  exact ⟨_, uA, uN, by exact uW⟩
def impl_ParseStreet.f (a0 : ByteArray) : Option (Int × Int × Bool) := if a0.toList = ([] : List UInt8) then (some (0, 0, false)) else (if 1 ≤ (a0.size : Int) then ((impl_readNumber.f (a0.extract 1 a0.size)).bind fun bt102 => (if 0 < (a0.size : Int) then ((strings_IndexByte.f (⟨#[114, 111, 117]⟩ : ByteArray) (bt a0 0)).bind fun t104 => (if bt102.2 = true then ((impl_IsStreet.f t104 bt102.1).bind fun t106 => (if t106 = true then (some (t104, bt102.1, true)) else (some (0, 0, false)))) else (some (0, 0, false)))) else (none))) else (none))
theorem impl_ParseStreet.calls (a0 : ByteArray) (r1 : Int) (r2 : Int) (r3 : Bool) (w : World) (hT : Tb w) (h : impl_ParseStreet.f a0 = some (r1, r2, r3)) :
  Calls Tryz.prog 55 #[.string a0] w fun e w' => e = .returned (.tuple #[.agg #[.int .i64 r1, .int .i64 r2], .bool r3]) ∧ Below w.heap.size w w' := by
 have hu25 := Tryz.underlying25
 have HT0 := am hT
 clear hT
 have HB := am (Below.refl w.heap.size w)
 have H := h
 clear h
 unfold impl_ParseStreet.f at H
 by_cases c2 : a0.toList = ([] : List UInt8)
 ·rw [if_pos c2] at H
  have c2b0 : (a0.toList == ([] : List UInt8)) = true := beq_iff_eq.mpr c2
  have c2b1 : (a0.toList != ([] : List UInt8)) = false := bne_eq_false_iff_eq.mpr c2
  clear c2
  simp only [Option.some.injEq, Prod.mk.injEq] at H
  obtain ⟨rfl, rfl, rfl⟩ := H
  go_enter Tryz.func55, Tryz.ntmps55
  go_wp2_with (((with_reducible refine gate_dst (N := 2) rfl ?_); refine uX (N := 2) (cs := #[.int .i64 0, .int .i64 0]) (t := 25) ?_; intro gb101 hg w3 hbox hb; have BK101 := am (hbox); have GW101 := uE hg; have GE101 := GW101; replace HB := uS hb; clear hb hbox hg; obtain ⟨hcz4_0, hcz4_1, hfz4_0, hfz4_1⟩ := uZ2 BK101))
  refine bodyPost_ret (results_ct rfl _ _ gb101 25 #[.int .i64 0, .int .i64 0] (0, 0) _ rfl (by refine blk_put (cs := #[.int .i64 0, .int .i64 0]) ?_ 1 _ rfl; refine blk_put (cs := #[.int .i64 0, .int .i64 0]) ?_ 0 _ rfl; exact (uP BK101)) Tryz.underlying25 rfl (by kernel_rfl)) rfl ?_
  exact ⟨uA, by exact uW⟩
 ·rw [if_neg c2] at H
  have c2b0 : (a0.toList == ([] : List UInt8)) = false := beq_eq_false_iff_ne.mpr c2
  have c2b1 : (a0.toList != ([] : List UInt8)) = true := bne_iff_ne.mpr c2
  by_cases c5 : 1 ≤ (a0.size : Int)
  ·rw [if_pos c5] at H
   have c5b0 := eq_true c5
   have c5b1 : decide (1 ≤ (a0.size : Int)) = true := decide_eq_true c5
   clear c5
   obtain ⟨⟨t102, t103⟩, A60, H⟩ := bH H
   dsimp only at H
   have A6 := am A60
   clear A60
   by_cases c7 : 0 < (a0.size : Int)
   ·rw [if_pos c7] at H
    have c7b0 : decide (0 < (a0.size : Int)) = true := decide_eq_true c7
    have c7b1 : decide (0 < a0.size) = true := decide_eq_true (by omega)
    clear c7
    obtain ⟨t104, A90, H⟩ := bH H
    have A9 := am A90
    clear A90
    by_cases c10 : t103 = true
    ·subst c10
     rw [if_pos rfl] at H
     obtain ⟨t106, A110, H⟩ := bH H
     have A11 := am A110
     clear A110
     by_cases c12 : t106 = true
     ·subst c12
      rw [if_pos rfl] at H
      simp only [Option.some.injEq, Prod.mk.injEq] at H
      obtain ⟨rfl, rfl, rfl⟩ := H
      go_enter Tryz.func55, Tryz.ntmps55
      go_wp2_with (first | ((with_reducible refine gate_dst (N := 2) rfl ?_); refine uX (N := 2) (cs := #[.int .i64 0, .int .i64 0]) (t := 25) ?_; intro gb101 hg w13 hbox hb; have BK101 := am (hbox); have GW101 := uE hg; have GE101 := GW101; replace HB := uS hb; clear hb hbox hg) | ((with_reducible refine gate_callee (f := 78) rfl ?_); refine uGo (some 13) Tryz.func78 #[.string (a0.extract 1 a0.size)] ?_; (with_reducible refine (impl_readNumber.calls (a0.extract 1 a0.size) t102 true _ ?side1 A6.out).mono ?_); (case side1 => exact Tb.below HT0.out uW); rintro e w14 ⟨rfl, hb⟩; refine ⟨_, rfl, ?_⟩; replace BK101 := uB BK101 hb; replace HB := uS hb; (try clear hb); have p8 : 0 ≤ (0 : Int) := (by omega); have q8 : 0 < a0.size := (by have : (0 : Int) < (a0.size : Int) := of_decide_eq_true (by (with_reducible assumption)); omega); have hx8 : ∀ h : 0 < a0.size, ((a0[0]'h).toNat : Int) = bt a0 0 := bt_at a0 0; clear p8; have qi8 : (0 < (a0.size : Int)) = True := eq_true (of_decide_eq_true (by (with_reducible assumption))); replace q8 := eq_true q8) | ((with_reducible refine gate_callee (f := 79) rfl ?_); refine uGo (some 18) Tryz.func79 #[.string (⟨#[114, 111, 117]⟩ : ByteArray), .int .u8 (bt a0 0)] ?_; (with_reducible refine (strings_IndexByte.calls (⟨#[114, 111, 117]⟩ : ByteArray) (bt a0 0) t104 _ A9.out).mono ?_); rintro e w' ⟨rfl, ⟨nd, rfl⟩⟩; refine ⟨_, rfl, ?_⟩; (try (rw [drewN_self w14]; generalize hq_ : World.drewN w14 _ = w14; have n0_ : Aside0 (w14.heap[gb101]? = some (.cells #[.int .i64 0, .int .i64 0] 25 (0, 0))) := ⟨by rw [← hq_]; exact (uP BK101)⟩; have n1_ : Aside0 (Below w.heap.size w w14) := ⟨by rw [← hq_]; exact uW⟩; clear BK101 HB hq_; have BK101 := n0_; have HB := n1_; clear n0_ n1_))) | ((with_reducible refine gate_dst (N := 6) rfl ?_); refine uX (N := 6) (cs := #[.int .i64 0, .int .i64 0]) (t := 25) ?_; intro gb105 hg w15 hbox hb; have BK105 := am (hbox); have GW105 := uE hg; have GE105 := GW105; have NB101_105 := uL BK101 hg; have NB105_101 := uY NB101_105; replace BK101 := uB BK101 hb; replace HB := uS hb; clear hb hbox hg; have hnb16 := NB105_101.out; have hnc16 := NB101_105.out; obtain ⟨hcz17_0, hcz17_1, hfz17_0, hfz17_1⟩ := uZ2 BK105) | (go_at_call 49; (with_reducible refine (impl_IsStreet.calls t104 t102 true _ A11.out).mono ?_); rintro e w18 ⟨rfl, hb⟩; replace BK101 := am (blk_below (g := gb101) (o := .cells #[.int .i64 0, .int .i64 0] 25 (0, 0)) (by refine blk_far ?_ NB101_105.out _; refine blk_far ?_ NB101_105.out _; exact (uP BK101)) hb); replace BK105 := am (blk_below (g := gb105) (o := .cells #[.int .i64 t104, .int .i64 t102] 25 (0, 0)) (by refine blk_put (cs := #[.int .i64 t104, .int .i64 0]) ?_ 1 _ rfl; refine blk_put (cs := #[.int .i64 0, .int .i64 0]) ?_ 0 _ rfl; exact (uP BK105)) hb); replace HB := uS hb; (try clear hb); obtain ⟨hcz19_0, hcz19_1, hfz19_0, hfz19_1⟩ := uZ2 BK105; obtain ⟨hcz20_0, hcz20_1, hfz20_0, hfz20_1⟩ := uZ2 BK101))
      refine bodyPost_ret (results_ct rfl _ _ gb101 25 #[.int .i64 t104, .int .i64 t102] (0, 0) _ rfl (by refine blk_put (cs := #[.int .i64 t104, .int .i64 0]) ?_ 1 _ rfl; refine blk_put (cs := #[.int .i64 0, .int .i64 0]) ?_ 0 _ rfl; exact (uP BK101)) Tryz.underlying25 rfl (by kernel_rfl)) rfl ?_
      exact ⟨uA, by exact uW⟩
     ·replace c12 := Bool.eq_false_iff.mpr c12
      subst c12
      rw [if_neg (show ¬ (false = true) by decide)] at H
      simp only [Option.some.injEq, Prod.mk.injEq] at H
      obtain ⟨rfl, rfl, rfl⟩ := H
      go_enter Tryz.func55, Tryz.ntmps55
      go_wp2_with (first | ((with_reducible refine gate_dst (N := 2) rfl ?_); refine uX (N := 2) (cs := #[.int .i64 0, .int .i64 0]) (t := 25) ?_; intro gb101 hg w21 hbox hb; have BK101 := am (hbox); have GW101 := uE hg; have GE101 := GW101; replace HB := uS hb; clear hb hbox hg) | ((with_reducible refine gate_callee (f := 78) rfl ?_); refine uGo (some 13) Tryz.func78 #[.string (a0.extract 1 a0.size)] ?_; (with_reducible refine (impl_readNumber.calls (a0.extract 1 a0.size) t102 true _ ?side1 A6.out).mono ?_); (case side1 => exact Tb.below HT0.out uW); rintro e w22 ⟨rfl, hb⟩; refine ⟨_, rfl, ?_⟩; replace BK101 := uB BK101 hb; replace HB := uS hb; (try clear hb); have p8 : 0 ≤ (0 : Int) := (by omega); have q8 : 0 < a0.size := (by have : (0 : Int) < (a0.size : Int) := of_decide_eq_true (by (with_reducible assumption)); omega); have hx8 : ∀ h : 0 < a0.size, ((a0[0]'h).toNat : Int) = bt a0 0 := bt_at a0 0; clear p8; have qi8 : (0 < (a0.size : Int)) = True := eq_true (of_decide_eq_true (by (with_reducible assumption))); replace q8 := eq_true q8) | ((with_reducible refine gate_callee (f := 79) rfl ?_); refine uGo (some 18) Tryz.func79 #[.string (⟨#[114, 111, 117]⟩ : ByteArray), .int .u8 (bt a0 0)] ?_; (with_reducible refine (strings_IndexByte.calls (⟨#[114, 111, 117]⟩ : ByteArray) (bt a0 0) t104 _ A9.out).mono ?_); rintro e w' ⟨rfl, ⟨nd, rfl⟩⟩; refine ⟨_, rfl, ?_⟩; (try (rw [drewN_self w22]; generalize hq_ : World.drewN w22 _ = w22; have n0_ : Aside0 (w22.heap[gb101]? = some (.cells #[.int .i64 0, .int .i64 0] 25 (0, 0))) := ⟨by rw [← hq_]; exact (uP BK101)⟩; have n1_ : Aside0 (Below w.heap.size w w22) := ⟨by rw [← hq_]; exact uW⟩; clear BK101 HB hq_; have BK101 := n0_; have HB := n1_; clear n0_ n1_))) | ((with_reducible refine gate_dst (N := 6) rfl ?_); refine uX (N := 6) (cs := #[.int .i64 0, .int .i64 0]) (t := 25) ?_; intro gb105 hg w23 hbox hb; have BK105 := am (hbox); have GW105 := uE hg; have GE105 := GW105; have NB101_105 := uL BK101 hg; have NB105_101 := uY NB101_105; replace BK101 := uB BK101 hb; replace HB := uS hb; clear hb hbox hg; have hnb24 := NB105_101.out; have hnc24 := NB101_105.out; obtain ⟨hcz25_0, hcz25_1, hfz25_0, hfz25_1⟩ := uZ2 BK105) | (go_at_call 49; (with_reducible refine (impl_IsStreet.calls t104 t102 false _ A11.out).mono ?_); rintro e w26 ⟨rfl, hb⟩; replace BK101 := am (blk_below (g := gb101) (o := .cells #[.int .i64 0, .int .i64 0] 25 (0, 0)) (by refine blk_far ?_ NB101_105.out _; refine blk_far ?_ NB101_105.out _; exact (uP BK101)) hb); replace BK105 := am (blk_below (g := gb105) (o := .cells #[.int .i64 t104, .int .i64 t102] 25 (0, 0)) (by refine blk_put (cs := #[.int .i64 t104, .int .i64 0]) ?_ 1 _ rfl; refine blk_put (cs := #[.int .i64 0, .int .i64 0]) ?_ 0 _ rfl; exact (uP BK105)) hb); replace HB := uS hb; (try clear hb); obtain ⟨hcz27_0, hcz27_1, hfz27_0, hfz27_1⟩ := uZ2 BK101))
      refine bodyPost_ret (results_ct rfl _ _ gb101 25 #[.int .i64 0, .int .i64 0] (0, 0) _ rfl (by refine blk_put (cs := #[.int .i64 0, .int .i64 0]) ?_ 1 _ rfl; refine blk_put (cs := #[.int .i64 0, .int .i64 0]) ?_ 0 _ rfl; exact (uP BK101)) Tryz.underlying25 rfl (by kernel_rfl)) rfl ?_
      exact ⟨uA, by exact uW⟩
    ·replace c10 := Bool.eq_false_iff.mpr c10
     subst c10
     rw [if_neg (show ¬ (false = true) by decide)] at H
     simp only [Option.some.injEq, Prod.mk.injEq] at H
     obtain ⟨rfl, rfl, rfl⟩ := H
     go_enter Tryz.func55, Tryz.ntmps55
     go_wp2_with (first | ((with_reducible refine gate_dst (N := 2) rfl ?_); refine uX (N := 2) (cs := #[.int .i64 0, .int .i64 0]) (t := 25) ?_; intro gb101 hg w28 hbox hb; have BK101 := am (hbox); have GW101 := uE hg; have GE101 := GW101; replace HB := uS hb; clear hb hbox hg) | ((with_reducible refine gate_callee (f := 78) rfl ?_); refine uGo (some 13) Tryz.func78 #[.string (a0.extract 1 a0.size)] ?_; (with_reducible refine (impl_readNumber.calls (a0.extract 1 a0.size) t102 false _ ?side1 A6.out).mono ?_); (case side1 => exact Tb.below HT0.out uW); rintro e w29 ⟨rfl, hb⟩; refine ⟨_, rfl, ?_⟩; replace BK101 := uB BK101 hb; replace HB := uS hb; (try clear hb); have p8 : 0 ≤ (0 : Int) := (by omega); have q8 : 0 < a0.size := (by have : (0 : Int) < (a0.size : Int) := of_decide_eq_true (by (with_reducible assumption)); omega); have hx8 : ∀ h : 0 < a0.size, ((a0[0]'h).toNat : Int) = bt a0 0 := bt_at a0 0; clear p8; have qi8 : (0 < (a0.size : Int)) = True := eq_true (of_decide_eq_true (by (with_reducible assumption))); replace q8 := eq_true q8) | ((with_reducible refine gate_callee (f := 79) rfl ?_); refine uGo (some 18) Tryz.func79 #[.string (⟨#[114, 111, 117]⟩ : ByteArray), .int .u8 (bt a0 0)] ?_; (with_reducible refine (strings_IndexByte.calls (⟨#[114, 111, 117]⟩ : ByteArray) (bt a0 0) t104 _ A9.out).mono ?_); rintro e w' ⟨rfl, ⟨nd, rfl⟩⟩; refine ⟨_, rfl, ?_⟩; (try (rw [drewN_self w29]; generalize hq_ : World.drewN w29 _ = w29; have n0_ : Aside0 (w29.heap[gb101]? = some (.cells #[.int .i64 0, .int .i64 0] 25 (0, 0))) := ⟨by rw [← hq_]; exact (uP BK101)⟩; have n1_ : Aside0 (Below w.heap.size w w29) := ⟨by rw [← hq_]; exact uW⟩; clear BK101 HB hq_; have BK101 := n0_; have HB := n1_; clear n0_ n1_))) | ((with_reducible refine gate_dst (N := 6) rfl ?_); refine uX (N := 6) (cs := #[.int .i64 0, .int .i64 0]) (t := 25) ?_; intro gb105 hg w30 hbox hb; have BK105 := am (hbox); have GW105 := uE hg; have GE105 := GW105; have NB101_105 := uL BK101 hg; have NB105_101 := uY NB101_105; replace BK101 := uB BK101 hb; replace HB := uS hb; clear hb hbox hg; have hnb31 := NB105_101.out; have hnc31 := NB101_105.out; obtain ⟨hcz32_0, hcz32_1, hfz32_0, hfz32_1⟩ := uZ2 BK105; obtain ⟨hcz33_0, hcz33_1, hfz33_0, hfz33_1⟩ := uZ2 BK101))
     refine bodyPost_ret (results_ct rfl _ _ gb101 25 #[.int .i64 0, .int .i64 0] (0, 0) _ rfl (by refine blk_put (cs := #[.int .i64 0, .int .i64 0]) ?_ 1 _ rfl; refine blk_put (cs := #[.int .i64 0, .int .i64 0]) ?_ 0 _ rfl; refine blk_far ?_ NB101_105.out _; refine blk_far ?_ NB101_105.out _; exact (uP BK101)) Tryz.underlying25 rfl (by kernel_rfl)) rfl ?_
     exact ⟨uA, by exact uW⟩
   ·rw [if_neg c7] at H
    exact absurd H (by simp)
  ·rw [if_neg c5] at H
   exact absurd H (by simp)
def impl_Clue_69_N.f (l0 : List (S46)) : Option ((List (S46))) := some ([] : List (S46))
theorem impl_Clue_69_N.calls (c0 : Nat) (l0 : List (S46)) (r : List (S46)) (w : World) (hr0 : Kd.C k46 w (none : Option Addr) l0.length l0) (hc0 : l0.length ≤ c0) (h : impl_Clue_69_N.f l0 = some r) :
  Calls Tryz.prog 69 #[.slice (none : Option Addr) l0.length c0] w fun e w' => ∃ v0_ : Value, e = .returned (v0_) ∧ Kd.R k46 46 w' w.heap.size (fun _ => True) v0_ r ∧ Below w.heap.size w w' := by
 have hnil := fun (w : World) => Lib.run_eql_slice_nil (P := Tryz.prog) w 26 46 (none : Option Addr) l0.length c0 0 0 Tryz.underlying26
 have HR0 := am hr0
 have HC0 := am hc0
 clear hr0 hc0
 have HB := am (Below.refl w.heap.size w)
 have H := h
 clear h
 unfold impl_Clue_69_N.f at H
 obtain rfl := Option.some.inj H
 go_enter Tryz.func69, Tryz.ntmps69
 go_wp2
 go_ret
 exact ⟨_, uA, uN, by exact uW⟩
def impl_Clue_69_S.f (l0 : List (S46)) : Option ((List (S46))) := (some (([] : List (S46)) : List (S46))).bind fun y104 => (if y104.length + l0.length < 5864062014805 then (some (y104 ++ l0)) else (none))
theorem impl_Clue_69_S.calls (ad0 : Addr) (c0 : Nat) (l0 : List (S46)) (r : List (S46)) (w : World) (hr0 : Kd.C k46 w (some ad0) l0.length l0) (hc0 : l0.length ≤ c0) (h : impl_Clue_69_S.f l0 = some r) :
  Calls Tryz.prog 69 #[.slice (some ad0) l0.length c0] w fun e w' => ∃ v0_ : Value, e = .returned (v0_) ∧ Kd.R k46 46 w' w.heap.size (fun _ => True) v0_ r ∧ Below w.heap.size w w' := by
 have hnil := fun (w : World) => Lib.run_eql_slice_nil (P := Tryz.prog) w 26 46 (some ad0) l0.length c0 0 0 Tryz.underlying26
 have HR0 := am hr0
 have HC0 := am hc0
 clear hr0 hc0
 have HB := am (Below.refl w.heap.size w)
 have H := h
 clear h
 unfold impl_Clue_69_S.f at H
 obtain ⟨y104, hy104⟩ : ∃ y_ : List (S46), y_ = (([] : List (S46))) := ⟨_, rfl⟩
 replace H : (if y104.length + l0.length < 5864062014805 then (some (y104 ++ l0)) else (none)) = some r := by (have H2_ := (Option.bind_some _ _).symm.trans H; rw [hy104]; with_reducible exact H2_)
 have Ny104 := am hy104
 clear hy104
 by_cases c2 : y104.length + l0.length < 5864062014805
 ·rw [if_pos c2] at H
  have LMc2 := am c2
  clear c2
  obtain ⟨y107, hy107⟩ : ∃ y_ : List (S46), y_ = (y104 ++ l0) := ⟨_, rfl⟩
  replace H : (some y107) = some r := by (rw [hy107]; with_reducible exact H)
  have Ny107 := am hy107
  clear hy107
  obtain rfl := Option.some.inj H
  go_enter Tryz.func69, Tryz.ntmps69
  go_wp2_with (first | ((with_reducible refine gate_dst (N := 5) rfl ?_); refine Kd.R_lit k46 _ 46 ?hg (N := 5) ?hd (xs := ([] : List (S46))) (inner := []) (ok := fun _ => True) (okp := fun _ => True) ?hr ?hp (fun _ hk => hk) trivial (Below.refl _ _) (Nat.le_refl _) (by simp) ?_; (case hd => rfl); (case hg => rfl); (case hr => (go_simp; done)); (case hp => exact (Reps.none _ _)); intro v105 w3 ho4 hb hg_ hnew_; clear hg_ hnew_; (rw [← Ny104.out] at ho4); have HO106 := am (Kd.R_lower ho4 (below_size uW)); replace HB := uS hb; clear hb ho4) | ((with_reducible refine gate_builtin (b := .append) (xs := #[.tmp 5, .tmp 6]) rfl ?_); at_builtin; refine Kd.R_append_rows k46 (w0 := w) w.heap.size rfl (.tmp 5) (.tmp 6) 26 46 (.agg #[(.int .i64 0), (.int .i64 0), (.int .i64 0)]) 24 rfl Tryz.underlying26 info46 rfl (by decide) (by omega) v105 y104 l0 _ _ _ (fun _ => True) (fun _ => False) rfl rfl ?aO ?aR (fun _ _ h => h) (fun _ h => h.elim) ?aF ?aB ?aS ?aL ?_; (case aR => repeat (exact (Kd.C_below HR0.out HB.out))); (case aB => exact uW); (case aF => exact (fun _ _ => trivial)); (case aO => exact (uR HO106)); (case aS => exact (below_size uW)); (case aL => have := LMc2.out; omega); intro v108 w5 ho hb hg hat; rw [← Ny107.out] at ho; have HO109 := am (ho); replace HB := am (hb); clear HO106; clear ho hb hg hat))
  go_ret
  exact ⟨_, uA, by (with_reducible skip); exact HO109.out, by exact uW⟩
 ·rw [if_neg c2] at H
  exact absurd H (by simp)
def impl_Clue_69.f (l0 : List (S46)) : Option ((List (S46))) := if l0.length < 5864062014805 then some l0 else none
theorem impl_Clue_69.calls (A0 : Option Addr) (c0 : Nat) (l0 : List (S46)) (r : List (S46)) (w : World) (hr0 : Kd.C k46 w A0 l0.length l0) (hc0 : l0.length ≤ c0) (h : impl_Clue_69.f l0 = some r) :
  Calls Tryz.prog 69 #[.slice A0 l0.length c0] w fun e w' => ∃ v0_ : Value, e = .returned (v0_) ∧ Kd.R k46 46 w' w.heap.size (fun _ => True) v0_ r ∧ Below w.heap.size w w' := by
 unfold impl_Clue_69.f at h
 by_cases hl : l0.length < 5864062014805
 ·rw [if_pos hl] at h
  obtain rfl := Option.some.inj h
  cases A0 with
  | none =>
   obtain rfl := Fun.C_none hr0
   exact impl_Clue_69_N.calls c0 [] [] w hr0 hc0 (by simp [impl_Clue_69_N.f])
  | some ad => exact impl_Clue_69_S.calls ad c0 l0 l0 w hr0 hc0 (by simp [impl_Clue_69_S.f, hl])
 ·rw [if_neg hl] at h
  cases h
def spec_FirstSolution.f (k : Nat) (a0_0 : Int) (a0_1 : Int) (l0_2 : List (S46)) : Option (Int × Bool) := (spec_pzGood.f k a0_0 a0_1 l0_2).bind fun t102 => (if t102 = true then ((spec_pzAll.f k a0_0 a0_1 l0_2).bind fun t103 => (if (t103.length : Int) = 0 then (some (0, false)) else (if 0 < (t103.length : Int) then (some (rd t103 0, true)) else (none)))) else (some (0, false)))
theorem spec_FirstSolution.calls (k : Nat) (a0_0 : Int) (a0_1 : Int) (A0_2 : Option Addr) (c0_2 : Nat) (l0_2 : List (S46)) (r1 : Int) (r2 : Bool) (w : World) (hr0_2 : Kd.C k46 w A0_2 l0_2.length l0_2) (hc0_2 : l0_2.length ≤ c0_2) (h : spec_FirstSolution.f k a0_0 a0_1 l0_2 = some (r1, r2)) :
  Calls Tryz.prog 11 #[.agg #[.int .i64 a0_0, .int .i64 a0_1, .slice A0_2 l0_2.length c0_2]] w fun e w' => e = .returned (.tuple #[.int .i64 r1, .bool r2]) ∧ Below w.heap.size w w' := by
 have hu28 := Tryz.underlying28
 have hu25 := Tryz.underlying25
 have HR0_2 := am hr0_2
 have HC0_2 := am hc0_2
 clear hr0_2 hc0_2
 have HB := am (Below.refl w.heap.size w)
 have H := h
 clear h
 unfold spec_FirstSolution.f at H
 obtain ⟨t102, A20, H⟩ := bH H
 have A2 := am A20
 clear A20
 by_cases c3 : t102 = true
 ·subst c3
  rw [if_pos rfl] at H
  obtain ⟨t103, A40, H⟩ := bH H
  have A4 := am A40
  clear A40
  by_cases c5 : (t103.length : Int) = 0
  ·rw [if_pos c5] at H
   have c5b0 : ((t103.length : Int) == 0) = true := beq_iff_eq.mpr c5
   have c5b1 : ((t103.length : Int) != 0) = false := bne_eq_false_iff_eq.mpr c5
   clear c5
   simp only [Option.some.injEq, Prod.mk.injEq] at H
   obtain ⟨rfl, rfl⟩ := H
   go_enter Tryz.func11, Tryz.ntmps11
   go_wp2_with (first | ((with_reducible refine gate_dst (N := 1) rfl ?_); refine uX (N := 1) (cs := #[.int .i64 a0_0, .int .i64 a0_1, .slice A0_2 l0_2.length c0_2]) (t := 28) ?_; intro gb101 hg w6 hbox hb; have BK101 := am (hbox); have GW101 := uE hg; have GE101 := GW101; replace HB := uS hb; clear hb hbox hg; obtain ⟨hcz7_0, hcz7_1, hcz7_2, hfz7_0, hfz7_1, hfz7_2⟩ := uZ3 BK101) | ((with_reducible refine gate_callee (f := 38) rfl ?_); refine uGo (some 6) Tryz.func38 #[.agg #[.int .i64 a0_0, .int .i64 a0_1, .slice A0_2 l0_2.length c0_2]] ?_; (with_reducible refine (spec_pzGood.calls k a0_0 a0_1 _ _ l0_2 true _ ?side1 ?side2 A2.out).mono ?_); (case side1 => repeat (exact (Kd.C_below HR0_2.out HB.out))); (case side2 => exact HC0_2.out); rintro e w8 ⟨rfl, hb⟩; refine ⟨_, rfl, ?_⟩; replace BK101 := uB BK101 hb; replace HB := uS hb; (try clear hb); obtain ⟨hcz9_0, hcz9_1, hcz9_2, hfz9_0, hfz9_1, hfz9_2⟩ := uZ3 BK101) | ((with_reducible refine gate_callee (f := 39) rfl ?_); refine uGo (some 12) Tryz.func39 #[.agg #[.int .i64 a0_0, .int .i64 a0_1], .slice A0_2 l0_2.length c0_2] ?_; (with_reducible refine (spec_pzAll.calls k a0_0 a0_1 _ _ l0_2 t103 _ ?side1 ?side2 A4.out).mono ?_); (case side1 => repeat (exact (Kd.C_below HR0_2.out HB.out))); (case side2 => exact HC0_2.out); rintro e w10 ⟨v104, rfl, ho0, hb⟩; refine ⟨_, rfl, ?_⟩; have HO105 := am (Kd.R_lower ho0 (below_size uW)); replace BK101 := uB BK101 hb; replace HB := uS hb; (try clear hb); (try clear ho0); obtain ⟨Ao11, co11, eo11⟩ := Kd.R_slice HO105.out; subst eo11))
   go_ret2
   exact ⟨uA, by exact uW⟩
  ·rw [if_neg c5] at H
   have c5b0 : ((t103.length : Int) == 0) = false := beq_eq_false_iff_ne.mpr c5
   have c5b1 : ((t103.length : Int) != 0) = true := bne_iff_ne.mpr c5
   have c5b2 : ¬ (t103 = []) := fun h_ => c5 (by rw [h_]; rfl)
   by_cases c12 : 0 < (t103.length : Int)
   ·rw [if_pos c12] at H
    have c12b0 : decide (0 < (t103.length : Int)) = true := decide_eq_true c12
    have c12b1 : decide (0 < t103.length) = true := decide_eq_true (by omega)
    clear c12
    simp only [Option.some.injEq, Prod.mk.injEq] at H
    obtain ⟨rfl, rfl⟩ := H
    go_enter Tryz.func11, Tryz.ntmps11
    go_wp2_with (first | ((with_reducible refine gate_dst (N := 1) rfl ?_); refine uX (N := 1) (cs := #[.int .i64 a0_0, .int .i64 a0_1, .slice A0_2 l0_2.length c0_2]) (t := 28) ?_; intro gb101 hg w13 hbox hb; have BK101 := am (hbox); have GW101 := uE hg; have GE101 := GW101; replace HB := uS hb; clear hb hbox hg; obtain ⟨hcz14_0, hcz14_1, hcz14_2, hfz14_0, hfz14_1, hfz14_2⟩ := uZ3 BK101) | ((with_reducible refine gate_callee (f := 38) rfl ?_); refine uGo (some 6) Tryz.func38 #[.agg #[.int .i64 a0_0, .int .i64 a0_1, .slice A0_2 l0_2.length c0_2]] ?_; (with_reducible refine (spec_pzGood.calls k a0_0 a0_1 _ _ l0_2 true _ ?side1 ?side2 A2.out).mono ?_); (case side1 => repeat (exact (Kd.C_below HR0_2.out HB.out))); (case side2 => exact HC0_2.out); rintro e w15 ⟨rfl, hb⟩; refine ⟨_, rfl, ?_⟩; replace BK101 := uB BK101 hb; replace HB := uS hb; (try clear hb); obtain ⟨hcz16_0, hcz16_1, hcz16_2, hfz16_0, hfz16_1, hfz16_2⟩ := uZ3 BK101) | ((with_reducible refine gate_callee (f := 39) rfl ?_); refine uGo (some 12) Tryz.func39 #[.agg #[.int .i64 a0_0, .int .i64 a0_1], .slice A0_2 l0_2.length c0_2] ?_; (with_reducible refine (spec_pzAll.calls k a0_0 a0_1 _ _ l0_2 t103 _ ?side1 ?side2 A4.out).mono ?_); (case side1 => repeat (exact (Kd.C_below HR0_2.out HB.out))); (case side2 => exact HC0_2.out); rintro e w17 ⟨v104, rfl, ho0, hb⟩; refine ⟨_, rfl, ?_⟩; have HO105 := am (Kd.R_lower ho0 (below_size uW)); replace BK101 := uB BK101 hb; replace HB := uS hb; (try clear hb); (try clear ho0); obtain ⟨Ao18, co18, eo18⟩ := Kd.R_slice HO105.out; subst eo18; have p106 : 0 ≤ (0 : Int) := (by omega); have q106 : 0 < (t103.length : Int) := of_decide_eq_true (by (with_reducible assumption)); obtain ⟨ad106, e106, hx106_0⟩ := Kd.at_int (Kd.R_reads' HO105.out).2.2 0 p106 q106; cases e106; have qi106 : (0 < t103.length) = True := eq_true (by omega); (try rw [show ((0 : Int)).toNat = 0 from rfl] at hx106_0); (try rw [Addr.add_zero'] at hx106_0); replace p106 := eq_true p106; replace q106 := eq_true q106))
    go_ret2
    exact ⟨uA, by exact uW⟩
   ·rw [if_neg c12] at H
    exact absurd H (by simp)
 ·replace c3 := Bool.eq_false_iff.mpr c3
  subst c3
  rw [if_neg (show ¬ (false = true) by decide)] at H
  simp only [Option.some.injEq, Prod.mk.injEq] at H
  obtain ⟨rfl, rfl⟩ := H
  go_enter Tryz.func11, Tryz.ntmps11
  go_wp2_with (first | ((with_reducible refine gate_dst (N := 1) rfl ?_); refine uX (N := 1) (cs := #[.int .i64 a0_0, .int .i64 a0_1, .slice A0_2 l0_2.length c0_2]) (t := 28) ?_; intro gb101 hg w19 hbox hb; have BK101 := am (hbox); have GW101 := uE hg; have GE101 := GW101; replace HB := uS hb; clear hb hbox hg; obtain ⟨hcz20_0, hcz20_1, hcz20_2, hfz20_0, hfz20_1, hfz20_2⟩ := uZ3 BK101) | ((with_reducible refine gate_callee (f := 38) rfl ?_); refine uGo (some 6) Tryz.func38 #[.agg #[.int .i64 a0_0, .int .i64 a0_1, .slice A0_2 l0_2.length c0_2]] ?_; (with_reducible refine (spec_pzGood.calls k a0_0 a0_1 _ _ l0_2 false _ ?side1 ?side2 A2.out).mono ?_); (case side1 => repeat (exact (Kd.C_below HR0_2.out HB.out))); (case side2 => exact HC0_2.out); rintro e w21 ⟨rfl, hb⟩; refine ⟨_, rfl, ?_⟩; replace BK101 := uB BK101 hb; replace HB := uS hb; (try clear hb)))
  go_ret2
  exact ⟨uA, by exact uW⟩
def impl_RangeOfSolutions.f (a0_0 : Int) (a0_1 : Int) (l0_2 : List (S46)) : Option (Int × Int × Bool) := (impl_IsPuzzle.f a0_0 a0_1 l0_2).bind fun t102 => (if t102 = true then ((impl_solutions.f a0_0 a0_1 l0_2).bind fun t103 => (if (t103.length : Int) = 0 then (some (0, 0, false)) else (if 0 < (t103.length : Int) then (if 0 ≤ (wrap64 ((t103.length : Int) - 1)) then (if (wrap64 ((t103.length : Int) - 1)) < (t103.length : Int) then (some (rd t103 0, rd t103 (wrap64 ((t103.length : Int) - 1)), true)) else (none)) else (none)) else (none)))) else (some (0, 0, false)))
theorem impl_RangeOfSolutions.calls (a0_0 : Int) (a0_1 : Int) (A0_2 : Option Addr) (c0_2 : Nat) (l0_2 : List (S46)) (r1 : Int) (r2 : Int) (r3 : Bool) (w : World) (hr0_2 : Kd.C k46 w A0_2 l0_2.length l0_2) (hc0_2 : l0_2.length ≤ c0_2) (h : impl_RangeOfSolutions.f a0_0 a0_1 l0_2 = some (r1, r2, r3)) :
  Calls Tryz.prog 12 #[.agg #[.int .i64 a0_0, .int .i64 a0_1, .slice A0_2 l0_2.length c0_2]] w fun e w' => e = .returned (.tuple #[.int .i64 r1, .int .i64 r2, .bool r3]) ∧ Below w.heap.size w w' := by
 have hu28 := Tryz.underlying28
 have hu25 := Tryz.underlying25
 have HR0_2 := am hr0_2
 have HC0_2 := am hc0_2
 clear hr0_2 hc0_2
 have HB := am (Below.refl w.heap.size w)
 have H := h
 clear h
 unfold impl_RangeOfSolutions.f at H
 obtain ⟨t102, A20, H⟩ := bH H
 have A2 := am A20
 clear A20
 by_cases c3 : t102 = true
 ·subst c3
  rw [if_pos rfl] at H
  obtain ⟨t103, A40, H⟩ := bH H
  have A4 := am A40
  clear A40
  by_cases c5 : (t103.length : Int) = 0
  ·rw [if_pos c5] at H
   have c5b0 : ((t103.length : Int) == 0) = true := beq_iff_eq.mpr c5
   have c5b1 : ((t103.length : Int) != 0) = false := bne_eq_false_iff_eq.mpr c5
   clear c5
   simp only [Option.some.injEq, Prod.mk.injEq] at H
   obtain ⟨rfl, rfl, rfl⟩ := H
   go_enter Tryz.func12, Tryz.ntmps12
   go_wp2_with (first | ((with_reducible refine gate_dst (N := 1) rfl ?_); refine uX (N := 1) (cs := #[.int .i64 a0_0, .int .i64 a0_1, .slice A0_2 l0_2.length c0_2]) (t := 28) ?_; intro gb101 hg w6 hbox hb; have BK101 := am (hbox); have GW101 := uE hg; have GE101 := GW101; replace HB := uS hb; clear hb hbox hg; obtain ⟨hcz7_0, hcz7_1, hcz7_2, hfz7_0, hfz7_1, hfz7_2⟩ := uZ3 BK101) | (go_at_call 25; (with_reducible refine (impl_IsPuzzle.calls a0_0 a0_1 _ _ l0_2 true _ ?side1 ?side2 A2.out).mono ?_); (case side1 => repeat (exact (Kd.C_below HR0_2.out HB.out))); (case side2 => exact HC0_2.out); rintro e w8 ⟨rfl, hb⟩; replace BK101 := uB BK101 hb; replace HB := uS hb; (try clear hb); obtain ⟨hcz9_0, hcz9_1, hcz9_2, hfz9_0, hfz9_1, hfz9_2⟩ := uZ3 BK101) | (go_at_call 37; (with_reducible refine (impl_solutions.calls a0_0 a0_1 _ _ l0_2 t103 _ ?side1 ?side2 A4.out).mono ?_); (case side1 => repeat (exact (Kd.C_below HR0_2.out HB.out))); (case side2 => exact HC0_2.out); rintro e w10 ⟨v104, rfl, ho0, hb⟩; have HO105 := am (Kd.R_lower ho0 (below_size uW)); replace BK101 := uB BK101 hb; replace HB := uS hb; (try clear hb); (try clear ho0); obtain ⟨Ao11, co11, eo11⟩ := Kd.R_slice HO105.out; subst eo11))
   go_ret3
   exact ⟨uA, by exact uW⟩
  ·rw [if_neg c5] at H
   have c5b0 : ((t103.length : Int) == 0) = false := beq_eq_false_iff_ne.mpr c5
   have c5b1 : ((t103.length : Int) != 0) = true := bne_iff_ne.mpr c5
   have c5b2 : ¬ (t103 = []) := fun h_ => c5 (by rw [h_]; rfl)
   by_cases c12 : 0 < (t103.length : Int)
   ·rw [if_pos c12] at H
    have c12b0 : decide (0 < (t103.length : Int)) = true := decide_eq_true c12
    have c12b1 : decide (0 < t103.length) = true := decide_eq_true (by omega)
    clear c12
    obtain ⟨ji13, hji13⟩ : ∃ j_ : Int, (wrap64 ((t103.length : Int) - 1)) = j_ := ⟨_, rfl⟩
    replace H : (if 0 ≤ (ji13) then (if (ji13) < (t103.length : Int) then (some (rd t103 0, rd t103 (ji13), true)) else (none)) else (none)) = some (r1, r2, r3) := by (rw [hji13] at H; exact H)
    (skip)
    (skip)
    have hji13w : (IntKind.i64.wrap ((t103.length : Int) - 1)) = ji13 := (i64_w _).trans hji13
    by_cases c14 : 0 ≤ (ji13)
    ·rw [if_pos c14] at H
     have c14b0 : decide (0 ≤ (ji13)) = true := decide_eq_true c14
     clear c14
     by_cases c15 : (ji13) < (t103.length : Int)
     ·rw [if_pos c15] at H
      have c15b0 : decide ((ji13) < (t103.length : Int)) = true := decide_eq_true c15
      clear c15
      simp only [Option.some.injEq, Prod.mk.injEq] at H
      obtain ⟨rfl, rfl, rfl⟩ := H
      go_enter Tryz.func12, Tryz.ntmps12
      go_wp2_with (first | ((with_reducible refine gate_dst (N := 1) rfl ?_); refine uX (N := 1) (cs := #[.int .i64 a0_0, .int .i64 a0_1, .slice A0_2 l0_2.length c0_2]) (t := 28) ?_; intro gb101 hg w16 hbox hb; have BK101 := am (hbox); have GW101 := uE hg; have GE101 := GW101; replace HB := uS hb; clear hb hbox hg; obtain ⟨hcz17_0, hcz17_1, hcz17_2, hfz17_0, hfz17_1, hfz17_2⟩ := uZ3 BK101) | (go_at_call 25; (with_reducible refine (impl_IsPuzzle.calls a0_0 a0_1 _ _ l0_2 true _ ?side1 ?side2 A2.out).mono ?_); (case side1 => repeat (exact (Kd.C_below HR0_2.out HB.out))); (case side2 => exact HC0_2.out); rintro e w18 ⟨rfl, hb⟩; replace BK101 := uB BK101 hb; replace HB := uS hb; (try clear hb); obtain ⟨hcz19_0, hcz19_1, hcz19_2, hfz19_0, hfz19_1, hfz19_2⟩ := uZ3 BK101) | (go_at_call 37; (with_reducible refine (impl_solutions.calls a0_0 a0_1 _ _ l0_2 t103 _ ?side1 ?side2 A4.out).mono ?_); (case side1 => repeat (exact (Kd.C_below HR0_2.out HB.out))); (case side2 => exact HC0_2.out); rintro e w20 ⟨v104, rfl, ho0, hb⟩; have HO105 := am (Kd.R_lower ho0 (below_size uW)); replace BK101 := uB BK101 hb; replace HB := uS hb; (try clear hb); (try clear ho0); obtain ⟨Ao21, co21, eo21⟩ := Kd.R_slice HO105.out; subst eo21; have p106 : 0 ≤ (0 : Int) := (by omega); have q106 : 0 < (t103.length : Int) := of_decide_eq_true (by (with_reducible assumption)); obtain ⟨ad106, e106, hx106_0⟩ := Kd.at_int (Kd.R_reads' HO105.out).2.2 0 p106 q106; cases e106; have qi106 : (0 < t103.length) = True := eq_true (by omega); (try rw [show ((0 : Int)).toNat = 0 from rfl] at hx106_0); (try rw [Addr.add_zero'] at hx106_0); replace p106 := eq_true p106; replace q106 := eq_true q106; have p107 : 0 ≤ ((ji13) : Int) := of_decide_eq_true (by (with_reducible assumption)); have q107 : (ji13) < (t103.length : Int) := of_decide_eq_true (by (with_reducible assumption)); obtain ⟨ad107, e107, hx107_0⟩ := Kd.at_int (Kd.R_reads' HO105.out).2.2 (ji13) p107 q107; obtain rfl : ad106 = ad107 := (by injection e107); replace p107 := eq_true p107; replace q107 := eq_true q107))
      repeat (go_quiet (fail); try go_wp2_with (fail))
      go_ret3
      exact ⟨by rfl, by exact uW⟩
     ·rw [if_neg c15] at H
      exact absurd H (by simp)
    ·rw [if_neg c14] at H
     exact absurd H (by simp)
   ·rw [if_neg c12] at H
    exact absurd H (by simp)
 ·replace c3 := Bool.eq_false_iff.mpr c3
  subst c3
  rw [if_neg (show ¬ (false = true) by decide)] at H
  simp only [Option.some.injEq, Prod.mk.injEq] at H
  obtain ⟨rfl, rfl, rfl⟩ := H
  go_enter Tryz.func12, Tryz.ntmps12
  go_wp2_with (first | ((with_reducible refine gate_dst (N := 1) rfl ?_); refine uX (N := 1) (cs := #[.int .i64 a0_0, .int .i64 a0_1, .slice A0_2 l0_2.length c0_2]) (t := 28) ?_; intro gb101 hg w22 hbox hb; have BK101 := am (hbox); have GW101 := uE hg; have GE101 := GW101; replace HB := uS hb; clear hb hbox hg; obtain ⟨hcz23_0, hcz23_1, hcz23_2, hfz23_0, hfz23_1, hfz23_2⟩ := uZ3 BK101) | (go_at_call 25; (with_reducible refine (impl_IsPuzzle.calls a0_0 a0_1 _ _ l0_2 false _ ?side1 ?side2 A2.out).mono ?_); (case side1 => repeat (exact (Kd.C_below HR0_2.out HB.out))); (case side2 => exact HC0_2.out); rintro e w24 ⟨rfl, hb⟩; replace BK101 := uB BK101 hb; replace HB := uS hb; (try clear hb)))
  go_ret3
  exact ⟨uA, by exact uW⟩
def spec_RangeOfSolutions.f (k : Nat) (a0_0 : Int) (a0_1 : Int) (l0_2 : List (S46)) : Option (Int × Int × Bool) := (spec_pzGood.f k a0_0 a0_1 l0_2).bind fun t102 => (if t102 = true then ((spec_pzAll.f k a0_0 a0_1 l0_2).bind fun t103 => (if (t103.length : Int) = 0 then (some (0, 0, false)) else (if 0 < (t103.length : Int) then (if 0 ≤ (wrap64 ((t103.length : Int) - 1)) then (if (wrap64 ((t103.length : Int) - 1)) < (t103.length : Int) then (some (rd t103 0, rd t103 (wrap64 ((t103.length : Int) - 1)), true)) else (none)) else (none)) else (none)))) else (some (0, 0, false)))
theorem spec_RangeOfSolutions.calls (k : Nat) (a0_0 : Int) (a0_1 : Int) (A0_2 : Option Addr) (c0_2 : Nat) (l0_2 : List (S46)) (r1 : Int) (r2 : Int) (r3 : Bool) (w : World) (hr0_2 : Kd.C k46 w A0_2 l0_2.length l0_2) (hc0_2 : l0_2.length ≤ c0_2) (h : spec_RangeOfSolutions.f k a0_0 a0_1 l0_2 = some (r1, r2, r3)) :
  Calls Tryz.prog 13 #[.agg #[.int .i64 a0_0, .int .i64 a0_1, .slice A0_2 l0_2.length c0_2]] w fun e w' => e = .returned (.tuple #[.int .i64 r1, .int .i64 r2, .bool r3]) ∧ Below w.heap.size w w' := by
 have hu28 := Tryz.underlying28
 have hu25 := Tryz.underlying25
 have HR0_2 := am hr0_2
 have HC0_2 := am hc0_2
 clear hr0_2 hc0_2
 have HB := am (Below.refl w.heap.size w)
 have H := h
 clear h
 unfold spec_RangeOfSolutions.f at H
 obtain ⟨t102, A20, H⟩ := bH H
 have A2 := am A20
 clear A20
 by_cases c3 : t102 = true
 ·subst c3
  rw [if_pos rfl] at H
  obtain ⟨t103, A40, H⟩ := bH H
  have A4 := am A40
  clear A40
  by_cases c5 : (t103.length : Int) = 0
  ·rw [if_pos c5] at H
   have c5b0 : ((t103.length : Int) == 0) = true := beq_iff_eq.mpr c5
   have c5b1 : ((t103.length : Int) != 0) = false := bne_eq_false_iff_eq.mpr c5
   clear c5
   simp only [Option.some.injEq, Prod.mk.injEq] at H
   obtain ⟨rfl, rfl, rfl⟩ := H
   go_enter Tryz.func13, Tryz.ntmps13
   go_wp2_with (first | ((with_reducible refine gate_dst (N := 1) rfl ?_); refine uX (N := 1) (cs := #[.int .i64 a0_0, .int .i64 a0_1, .slice A0_2 l0_2.length c0_2]) (t := 28) ?_; intro gb101 hg w6 hbox hb; have BK101 := am (hbox); have GW101 := uE hg; have GE101 := GW101; replace HB := uS hb; clear hb hbox hg; obtain ⟨hcz7_0, hcz7_1, hcz7_2, hfz7_0, hfz7_1, hfz7_2⟩ := uZ3 BK101) | (go_at_call 38; (with_reducible refine (spec_pzGood.calls k a0_0 a0_1 _ _ l0_2 true _ ?side1 ?side2 A2.out).mono ?_); (case side1 => repeat (exact (Kd.C_below HR0_2.out HB.out))); (case side2 => exact HC0_2.out); rintro e w8 ⟨rfl, hb⟩; replace BK101 := uB BK101 hb; replace HB := uS hb; (try clear hb); obtain ⟨hcz9_0, hcz9_1, hcz9_2, hfz9_0, hfz9_1, hfz9_2⟩ := uZ3 BK101) | (go_at_call 39; (with_reducible refine (spec_pzAll.calls k a0_0 a0_1 _ _ l0_2 t103 _ ?side1 ?side2 A4.out).mono ?_); (case side1 => repeat (exact (Kd.C_below HR0_2.out HB.out))); (case side2 => exact HC0_2.out); rintro e w10 ⟨v104, rfl, ho0, hb⟩; have HO105 := am (Kd.R_lower ho0 (below_size uW)); replace BK101 := uB BK101 hb; replace HB := uS hb; (try clear hb); (try clear ho0); obtain ⟨Ao11, co11, eo11⟩ := Kd.R_slice HO105.out; subst eo11))
   go_ret3
   exact ⟨uA, by exact uW⟩
  ·rw [if_neg c5] at H
   have c5b0 : ((t103.length : Int) == 0) = false := beq_eq_false_iff_ne.mpr c5
   have c5b1 : ((t103.length : Int) != 0) = true := bne_iff_ne.mpr c5
   have c5b2 : ¬ (t103 = []) := fun h_ => c5 (by rw [h_]; rfl)
   by_cases c12 : 0 < (t103.length : Int)
   ·rw [if_pos c12] at H
    have c12b0 : decide (0 < (t103.length : Int)) = true := decide_eq_true c12
    have c12b1 : decide (0 < t103.length) = true := decide_eq_true (by omega)
    clear c12
    obtain ⟨ji13, hji13⟩ : ∃ j_ : Int, (wrap64 ((t103.length : Int) - 1)) = j_ := ⟨_, rfl⟩
    replace H : (if 0 ≤ (ji13) then (if (ji13) < (t103.length : Int) then (some (rd t103 0, rd t103 (ji13), true)) else (none)) else (none)) = some (r1, r2, r3) := by (rw [hji13] at H; exact H)
    (skip)
    (skip)
    have hji13w : (IntKind.i64.wrap ((t103.length : Int) - 1)) = ji13 := (i64_w _).trans hji13
    by_cases c14 : 0 ≤ (ji13)
    ·rw [if_pos c14] at H
     have c14b0 : decide (0 ≤ (ji13)) = true := decide_eq_true c14
     clear c14
     by_cases c15 : (ji13) < (t103.length : Int)
     ·rw [if_pos c15] at H
      have c15b0 : decide ((ji13) < (t103.length : Int)) = true := decide_eq_true c15
      clear c15
      simp only [Option.some.injEq, Prod.mk.injEq] at H
      obtain ⟨rfl, rfl, rfl⟩ := H
      go_enter Tryz.func13, Tryz.ntmps13
      go_wp2_with (first | ((with_reducible refine gate_dst (N := 1) rfl ?_); refine uX (N := 1) (cs := #[.int .i64 a0_0, .int .i64 a0_1, .slice A0_2 l0_2.length c0_2]) (t := 28) ?_; intro gb101 hg w16 hbox hb; have BK101 := am (hbox); have GW101 := uE hg; have GE101 := GW101; replace HB := uS hb; clear hb hbox hg; obtain ⟨hcz17_0, hcz17_1, hcz17_2, hfz17_0, hfz17_1, hfz17_2⟩ := uZ3 BK101) | (go_at_call 38; (with_reducible refine (spec_pzGood.calls k a0_0 a0_1 _ _ l0_2 true _ ?side1 ?side2 A2.out).mono ?_); (case side1 => repeat (exact (Kd.C_below HR0_2.out HB.out))); (case side2 => exact HC0_2.out); rintro e w18 ⟨rfl, hb⟩; replace BK101 := uB BK101 hb; replace HB := uS hb; (try clear hb); obtain ⟨hcz19_0, hcz19_1, hcz19_2, hfz19_0, hfz19_1, hfz19_2⟩ := uZ3 BK101) | (go_at_call 39; (with_reducible refine (spec_pzAll.calls k a0_0 a0_1 _ _ l0_2 t103 _ ?side1 ?side2 A4.out).mono ?_); (case side1 => repeat (exact (Kd.C_below HR0_2.out HB.out))); (case side2 => exact HC0_2.out); rintro e w20 ⟨v104, rfl, ho0, hb⟩; have HO105 := am (Kd.R_lower ho0 (below_size uW)); replace BK101 := uB BK101 hb; replace HB := uS hb; (try clear hb); (try clear ho0); obtain ⟨Ao21, co21, eo21⟩ := Kd.R_slice HO105.out; subst eo21; have p106 : 0 ≤ (0 : Int) := (by omega); have q106 : 0 < (t103.length : Int) := of_decide_eq_true (by (with_reducible assumption)); obtain ⟨ad106, e106, hx106_0⟩ := Kd.at_int (Kd.R_reads' HO105.out).2.2 0 p106 q106; cases e106; have qi106 : (0 < t103.length) = True := eq_true (by omega); (try rw [show ((0 : Int)).toNat = 0 from rfl] at hx106_0); (try rw [Addr.add_zero'] at hx106_0); replace p106 := eq_true p106; replace q106 := eq_true q106; have p107 : 0 ≤ ((ji13) : Int) := of_decide_eq_true (by (with_reducible assumption)); have q107 : (ji13) < (t103.length : Int) := of_decide_eq_true (by (with_reducible assumption)); obtain ⟨ad107, e107, hx107_0⟩ := Kd.at_int (Kd.R_reads' HO105.out).2.2 (ji13) p107 q107; obtain rfl : ad106 = ad107 := (by injection e107); replace p107 := eq_true p107; replace q107 := eq_true q107))
      repeat (go_quiet (fail); try go_wp2_with (fail))
      go_ret3
      exact ⟨by rfl, by exact uW⟩
     ·rw [if_neg c15] at H
      exact absurd H (by simp)
    ·rw [if_neg c14] at H
     exact absurd H (by simp)
   ·rw [if_neg c12] at H
    exact absurd H (by simp)
 ·replace c3 := Bool.eq_false_iff.mpr c3
  subst c3
  rw [if_neg (show ¬ (false = true) by decide)] at H
  simp only [Option.some.injEq, Prod.mk.injEq] at H
  obtain ⟨rfl, rfl, rfl⟩ := H
  go_enter Tryz.func13, Tryz.ntmps13
  go_wp2_with (first | ((with_reducible refine gate_dst (N := 1) rfl ?_); refine uX (N := 1) (cs := #[.int .i64 a0_0, .int .i64 a0_1, .slice A0_2 l0_2.length c0_2]) (t := 28) ?_; intro gb101 hg w22 hbox hb; have BK101 := am (hbox); have GW101 := uE hg; have GE101 := GW101; replace HB := uS hb; clear hb hbox hg; obtain ⟨hcz23_0, hcz23_1, hcz23_2, hfz23_0, hfz23_1, hfz23_2⟩ := uZ3 BK101) | (go_at_call 38; (with_reducible refine (spec_pzGood.calls k a0_0 a0_1 _ _ l0_2 false _ ?side1 ?side2 A2.out).mono ?_); (case side1 => repeat (exact (Kd.C_below HR0_2.out HB.out))); (case side2 => exact HC0_2.out); rintro e w24 ⟨rfl, hb⟩; replace BK101 := uB BK101 hb; replace HB := uS hb; (try clear hb)))
  go_ret3
  exact ⟨uA, by exact uW⟩
def impl_IsSolved.f (a0_0 : Int) (a0_1 : Int) (l0_2 : List (S46)) : Option (Bool × Bool) := (impl_IsPuzzle.f a0_0 a0_1 l0_2).bind fun t102 => (if t102 = true then ((impl_solutions.f a0_0 a0_1 l0_2).bind fun t103 => (some (((t103.length : Int) == 1), true))) else (some (false, false)))
theorem impl_IsSolved.calls (a0_0 : Int) (a0_1 : Int) (A0_2 : Option Addr) (c0_2 : Nat) (l0_2 : List (S46)) (r1 : Bool) (r2 : Bool) (w : World) (hr0_2 : Kd.C k46 w A0_2 l0_2.length l0_2) (hc0_2 : l0_2.length ≤ c0_2) (h : impl_IsSolved.f a0_0 a0_1 l0_2 = some (r1, r2)) :
  Calls Tryz.prog 14 #[.agg #[.int .i64 a0_0, .int .i64 a0_1, .slice A0_2 l0_2.length c0_2]] w fun e w' => e = .returned (.tuple #[.bool r1, .bool r2]) ∧ Below w.heap.size w w' := by
 have hu28 := Tryz.underlying28
 have hu25 := Tryz.underlying25
 have HR0_2 := am hr0_2
 have HC0_2 := am hc0_2
 clear hr0_2 hc0_2
 have HB := am (Below.refl w.heap.size w)
 have H := h
 clear h
 unfold impl_IsSolved.f at H
 obtain ⟨t102, A20, H⟩ := bH H
 have A2 := am A20
 clear A20
 by_cases c3 : t102 = true
 ·subst c3
  rw [if_pos rfl] at H
  obtain ⟨t103, A40, H⟩ := bH H
  have A4 := am A40
  clear A40
  simp only [Option.some.injEq, Prod.mk.injEq] at H
  obtain ⟨rfl, rfl⟩ := H
  go_enter Tryz.func14, Tryz.ntmps14
  go_wp2_with (first | ((with_reducible refine gate_dst (N := 1) rfl ?_); refine uX (N := 1) (cs := #[.int .i64 a0_0, .int .i64 a0_1, .slice A0_2 l0_2.length c0_2]) (t := 28) ?_; intro gb101 hg w5 hbox hb; have BK101 := am (hbox); have GW101 := uE hg; have GE101 := GW101; replace HB := uS hb; clear hb hbox hg; obtain ⟨hcz6_0, hcz6_1, hcz6_2, hfz6_0, hfz6_1, hfz6_2⟩ := uZ3 BK101) | ((with_reducible refine gate_callee (f := 25) rfl ?_); refine uGo (some 5) Tryz.func25 #[.agg #[.int .i64 a0_0, .int .i64 a0_1, .slice A0_2 l0_2.length c0_2]] ?_; (with_reducible refine (impl_IsPuzzle.calls a0_0 a0_1 _ _ l0_2 true _ ?side1 ?side2 A2.out).mono ?_); (case side1 => repeat (exact (Kd.C_below HR0_2.out HB.out))); (case side2 => exact HC0_2.out); rintro e w7 ⟨rfl, hb⟩; refine ⟨_, rfl, ?_⟩; replace BK101 := uB BK101 hb; replace HB := uS hb; (try clear hb); obtain ⟨hcz8_0, hcz8_1, hcz8_2, hfz8_0, hfz8_1, hfz8_2⟩ := uZ3 BK101) | ((with_reducible refine gate_callee (f := 37) rfl ?_); refine uGo (some 11) Tryz.func37 #[.agg #[.int .i64 a0_0, .int .i64 a0_1], .slice A0_2 l0_2.length c0_2] ?_; (with_reducible refine (impl_solutions.calls a0_0 a0_1 _ _ l0_2 t103 _ ?side1 ?side2 A4.out).mono ?_); (case side1 => repeat (exact (Kd.C_below HR0_2.out HB.out))); (case side2 => exact HC0_2.out); rintro e w9 ⟨v104, rfl, ho0, hb⟩; refine ⟨_, rfl, ?_⟩; have HO105 := am (Kd.R_lower ho0 (below_size uW)); replace BK101 := uB BK101 hb; replace HB := uS hb; (try clear hb); (try clear ho0); obtain ⟨Ao10, co10, eo10⟩ := Kd.R_slice HO105.out; subst eo10))
  go_ret2
  exact ⟨uA, by exact uW⟩
 ·replace c3 := Bool.eq_false_iff.mpr c3
  subst c3
  rw [if_neg (show ¬ (false = true) by decide)] at H
  simp only [Option.some.injEq, Prod.mk.injEq] at H
  obtain ⟨rfl, rfl⟩ := H
  go_enter Tryz.func14, Tryz.ntmps14
  go_wp2_with (first | ((with_reducible refine gate_dst (N := 1) rfl ?_); refine uX (N := 1) (cs := #[.int .i64 a0_0, .int .i64 a0_1, .slice A0_2 l0_2.length c0_2]) (t := 28) ?_; intro gb101 hg w11 hbox hb; have BK101 := am (hbox); have GW101 := uE hg; have GE101 := GW101; replace HB := uS hb; clear hb hbox hg; obtain ⟨hcz12_0, hcz12_1, hcz12_2, hfz12_0, hfz12_1, hfz12_2⟩ := uZ3 BK101) | ((with_reducible refine gate_callee (f := 25) rfl ?_); refine uGo (some 5) Tryz.func25 #[.agg #[.int .i64 a0_0, .int .i64 a0_1, .slice A0_2 l0_2.length c0_2]] ?_; (with_reducible refine (impl_IsPuzzle.calls a0_0 a0_1 _ _ l0_2 false _ ?side1 ?side2 A2.out).mono ?_); (case side1 => repeat (exact (Kd.C_below HR0_2.out HB.out))); (case side2 => exact HC0_2.out); rintro e w13 ⟨rfl, hb⟩; refine ⟨_, rfl, ?_⟩; replace BK101 := uB BK101 hb; replace HB := uS hb; (try clear hb)))
  go_ret2
  exact ⟨uA, by exact uW⟩
def spec_pzSolved.f (k : Nat) (a0_0 : Int) (a0_1 : Int) (l1 : List (S46)) : Option (Bool) := (spec_pzAll.f k a0_0 a0_1 l1).bind fun t102 => (some ((t102.length : Int) == 1))
theorem spec_pzSolved.calls (k : Nat) (a0_0 : Int) (a0_1 : Int) (A1 : Option Addr) (c1 : Nat) (l1 : List (S46)) (r : Bool) (w : World) (hr1 : Kd.C k46 w A1 l1.length l1) (hc1 : l1.length ≤ c1) (h : spec_pzSolved.f k a0_0 a0_1 l1 = some r) :
  Calls Tryz.prog 40 #[.agg #[.int .i64 a0_0, .int .i64 a0_1], .slice A1 l1.length c1] w fun e w' => e = .returned (.bool r) ∧ Below w.heap.size w w' := by
 have hu25 := Tryz.underlying25
 have HR1 := am hr1
 have HC1 := am hc1
 clear hr1 hc1
 have HB := am (Below.refl w.heap.size w)
 have H := h
 clear h
 unfold spec_pzSolved.f at H
 obtain ⟨t102, A30, H⟩ := bH H
 have A3 := am A30
 clear A30
 obtain rfl := Option.some.inj H
 go_enter Tryz.func40, Tryz.ntmps40
 go_wp2_with (first | ((with_reducible refine gate_dst (N := 2) rfl ?_); refine uX (N := 2) (cs := #[.int .i64 a0_0, .int .i64 a0_1]) (t := 25) ?_; intro gb101 hg w4 hbox hb; have BK101 := am (hbox); have GW101 := uE hg; have GE101 := GW101; replace HB := uS hb; clear hb hbox hg; obtain ⟨hcz5_0, hcz5_1, hfz5_0, hfz5_1⟩ := uZ2 BK101) | ((with_reducible refine gate_callee (f := 39) rfl ?_); refine uGo (some 7) Tryz.func39 #[.agg #[.int .i64 a0_0, .int .i64 a0_1], .slice A1 l1.length c1] ?_; (with_reducible refine (spec_pzAll.calls k a0_0 a0_1 _ _ l1 t102 _ ?side1 ?side2 A3.out).mono ?_); (case side1 => repeat (exact (Kd.C_below HR1.out HB.out))); (case side2 => exact HC1.out); rintro e w6 ⟨v103, rfl, ho0, hb⟩; refine ⟨_, rfl, ?_⟩; have HO104 := am (Kd.R_lower ho0 (below_size uW)); replace BK101 := uB BK101 hb; replace HB := uS hb; (try clear hb); (try clear ho0); obtain ⟨Ao7, co7, eo7⟩ := Kd.R_slice HO104.out; subst eo7))
 go_ret
 exact ⟨uA, by exact uW⟩
def spec_IsSolved.f (k : Nat) (a0_0 : Int) (a0_1 : Int) (l0_2 : List (S46)) : Option (Bool × Bool) := (spec_pzGood.f k a0_0 a0_1 l0_2).bind fun t102 => (if t102 = true then ((spec_pzSolved.f k a0_0 a0_1 l0_2).bind fun t103 => (some (t103, true))) else (some (false, false)))
theorem spec_IsSolved.calls (k : Nat) (a0_0 : Int) (a0_1 : Int) (A0_2 : Option Addr) (c0_2 : Nat) (l0_2 : List (S46)) (r1 : Bool) (r2 : Bool) (w : World) (hr0_2 : Kd.C k46 w A0_2 l0_2.length l0_2) (hc0_2 : l0_2.length ≤ c0_2) (h : spec_IsSolved.f k a0_0 a0_1 l0_2 = some (r1, r2)) :
  Calls Tryz.prog 15 #[.agg #[.int .i64 a0_0, .int .i64 a0_1, .slice A0_2 l0_2.length c0_2]] w fun e w' => e = .returned (.tuple #[.bool r1, .bool r2]) ∧ Below w.heap.size w w' := by
 have hu28 := Tryz.underlying28
 have hu25 := Tryz.underlying25
 have HR0_2 := am hr0_2
 have HC0_2 := am hc0_2
 clear hr0_2 hc0_2
 have HB := am (Below.refl w.heap.size w)
 have H := h
 clear h
 unfold spec_IsSolved.f at H
 obtain ⟨t102, A20, H⟩ := bH H
 have A2 := am A20
 clear A20
 by_cases c3 : t102 = true
 ·subst c3
  rw [if_pos rfl] at H
  obtain ⟨t103, A40, H⟩ := bH H
  have A4 := am A40
  clear A40
  simp only [Option.some.injEq, Prod.mk.injEq] at H
  obtain ⟨rfl, rfl⟩ := H
  go_enter Tryz.func15, Tryz.ntmps15
  go_wp2_with (first | ((with_reducible refine gate_dst (N := 1) rfl ?_); refine uX (N := 1) (cs := #[.int .i64 a0_0, .int .i64 a0_1, .slice A0_2 l0_2.length c0_2]) (t := 28) ?_; intro gb101 hg w5 hbox hb; have BK101 := am (hbox); have GW101 := uE hg; have GE101 := GW101; replace HB := uS hb; clear hb hbox hg; obtain ⟨hcz6_0, hcz6_1, hcz6_2, hfz6_0, hfz6_1, hfz6_2⟩ := uZ3 BK101) | ((with_reducible refine gate_callee (f := 38) rfl ?_); refine uGo (some 5) Tryz.func38 #[.agg #[.int .i64 a0_0, .int .i64 a0_1, .slice A0_2 l0_2.length c0_2]] ?_; (with_reducible refine (spec_pzGood.calls k a0_0 a0_1 _ _ l0_2 true _ ?side1 ?side2 A2.out).mono ?_); (case side1 => repeat (exact (Kd.C_below HR0_2.out HB.out))); (case side2 => exact HC0_2.out); rintro e w7 ⟨rfl, hb⟩; refine ⟨_, rfl, ?_⟩; replace BK101 := uB BK101 hb; replace HB := uS hb; (try clear hb); obtain ⟨hcz8_0, hcz8_1, hcz8_2, hfz8_0, hfz8_1, hfz8_2⟩ := uZ3 BK101) | ((with_reducible refine gate_callee (f := 40) rfl ?_); refine uGo (some 11) Tryz.func40 #[.agg #[.int .i64 a0_0, .int .i64 a0_1], .slice A0_2 l0_2.length c0_2] ?_; (with_reducible refine (spec_pzSolved.calls k a0_0 a0_1 _ _ l0_2 t103 _ ?side1 ?side2 A4.out).mono ?_); (case side1 => repeat (exact (Kd.C_below HR0_2.out HB.out))); (case side2 => exact HC0_2.out); rintro e w9 ⟨rfl, hb⟩; refine ⟨_, rfl, ?_⟩; replace BK101 := uB BK101 hb; replace HB := uS hb; (try clear hb)))
  go_ret2
  exact ⟨uA, by exact uW⟩
 ·replace c3 := Bool.eq_false_iff.mpr c3
  subst c3
  rw [if_neg (show ¬ (false = true) by decide)] at H
  simp only [Option.some.injEq, Prod.mk.injEq] at H
  obtain ⟨rfl, rfl⟩ := H
  go_enter Tryz.func15, Tryz.ntmps15
  go_wp2_with (first | ((with_reducible refine gate_dst (N := 1) rfl ?_); refine uX (N := 1) (cs := #[.int .i64 a0_0, .int .i64 a0_1, .slice A0_2 l0_2.length c0_2]) (t := 28) ?_; intro gb101 hg w10 hbox hb; have BK101 := am (hbox); have GW101 := uE hg; have GE101 := GW101; replace HB := uS hb; clear hb hbox hg; obtain ⟨hcz11_0, hcz11_1, hcz11_2, hfz11_0, hfz11_1, hfz11_2⟩ := uZ3 BK101) | ((with_reducible refine gate_callee (f := 38) rfl ?_); refine uGo (some 5) Tryz.func38 #[.agg #[.int .i64 a0_0, .int .i64 a0_1, .slice A0_2 l0_2.length c0_2]] ?_; (with_reducible refine (spec_pzGood.calls k a0_0 a0_1 _ _ l0_2 false _ ?side1 ?side2 A2.out).mono ?_); (case side1 => repeat (exact (Kd.C_below HR0_2.out HB.out))); (case side2 => exact HC0_2.out); rintro e w12 ⟨rfl, hb⟩; refine ⟨_, rfl, ?_⟩; replace BK101 := uB BK101 hb; replace HB := uS hb; (try clear hb)))
  go_ret2
  exact ⟨uA, by exact uW⟩
theorem R_behind {α : Type} {d : Kd α} {e : Nat} {w : World} {base : Nat} {ok : Nat → Prop} {g n c off : Nat} {xs : List α} (h : d.R e w base ok (.slice (some ⟨g, 0, none⟩) n c) xs) (vs : List Value) (ho : n * d.sz ≤ off) (hf : off + vs.length ≤ c * d.sz) :
  d.R e (w.setCells g off vs) base ok (.slice (some ⟨g, 0, none⟩) n c) xs ∧ w.grownBy (w.setCells g off vs) (some g) := by
 obtain ⟨s1, s2, s3, s4⟩ := setCells_same g vs off w
 have hfar : ∀ k', k' ≠ g → (w.setCells g off vs).heap[k']? = w.heap[k']? := fun k' hk' => setCells_far vs _ k' hk'
 refine ⟨?_, ⟨s1, s2, s3, by rw [s4]; exact Nat.le_refl _, fun k' _ hk' => hfar k' (fun he => hk' (by rw [he]))⟩⟩
 obtain ⟨hn, hnc, _⟩ := Kd.R_reads' h
 obtain ⟨hok, inner, hown, hr⟩ := h
 rcases hown.2 with ⟨hv, _⟩ | ⟨g', cap', cur, hv, hb, hh, hl, hcm, hcs, htake⟩
 ·cases hv
 injection hv with ha _ hc
 injection ha with ha
 injection ha with hg
 subst hg; subst hc
 obtain ⟨cur', h3, h4, h5⟩ := setCells_row vs off w cur hh (by rw [hcs]; exact hf)
 refine ⟨hok, inner, ⟨hown.1, .inr ⟨g, c, cur', by rw [hn], hb, h3, hl, hcm, by rw [h4, hcs], ?_⟩⟩, hr.imp_ (fun p q hp => d.M_move (fun k' hk' => hfar k' (fun he => hk'.2 (by rw [he]; rfl))) hp)⟩
 have hn' : xs.length * d.sz ≤ off := by rw [← hn]; exact ho
 have hcl : cur.toList.length = c * d.sz := by rw [← hcs]; exact Array.length_toList
 rw [← htake, h5, List.append_assoc, List.take_append_of_le_length (by rw [List.length_take, hcl]; omega), List.take_take, Nat.min_eq_left hn']
theorem R_cells {α : Type} {d : Kd α} {e : Nat} {w : World} {base : Nat} {ok : Nat → Prop} {g n c : Nat} {xs : List α} (h : d.R e w base ok (.slice (some ⟨g, 0, none⟩) n c) xs) (i : Nat) (hi : i < c * d.sz) : (w.cell? ⟨g, i, none⟩).isSome = true ∧ w.frozen? ⟨g, i, none⟩ = false := by
 obtain ⟨hok, inner, hown, hr⟩ := h
 rcases hown.2 with ⟨hv, _⟩ | ⟨g', cap', cur, hv, hb, hh, hl, hcm, hcs, htake⟩
 ·cases hv
 injection hv with ha _ hc
 injection ha with ha
 injection ha with hg
 subst hg; subst hc
 refine ⟨?_, blk_frozen hh _⟩
 rw [blk_cell hh, Array.getElem?_eq_getElem (by rw [hcs]; exact hi)]
 rfl
theorem clue_clear (w : World) (ty : TypeId) (b o c : Nat) (hc : ∀ j, j < 3 → (w.cell? ⟨b, o + j, none⟩).isSome = true) (hf : ∀ j, j < 3 → w.frozen? ⟨b, o + j, none⟩ = false) :
  (Builtin.clear_ #[26] ty #[.slice (some ⟨b, o, none⟩) 1 c]).run Tryz.prog w = .ok (.tuple #[]) (w.setCells b o [.int .i64 0, .int .i64 0, .int .i64 0]) := by
 have hv : ∀ w, (zeroValue 46).run Tryz.prog w = .ok (.agg #[.int .i64 0, .int .i64 0, .int .i64 0]) w := fun w => by kernel_rfl
 have hst := run_storeCells_cells (P := Tryz.prog) b o [.int .i64 0, .int .i64 0, .int .i64 0] 0 w (by simpa using hc) (by simpa using hf) (by intro v hv'; simp at hv'; rw [hv']; rfl)
 have hzc : (Builtin.zeroCells (Value.agg #[.int .i64 0, .int .i64 0, .int .i64 0]).cells 1).toList = [.int .i64 0, .int .i64 0, .int .i64 0] := by kernel_rfl
 simp only [Nat.add_zero] at hst
 simp [Builtin.clear_, run_underlying Tryz.underlying26, hv, hzc, hst]
theorem clue_delete (base : Nat) (ok : Nat → Prop) (g n c q : Nat) (xs : List S46) (w0 w : World) (HO : Kd.R k46 46 w base ok (.slice (some ⟨g, 0, none⟩) n c) xs) (hq : q < n) (HB : Below base w0 w) (hbase : base ≤ w.heap.size) (hn : n ≤ 5864062014805) :
  Calls Tryz.prog 68 #[.slice (some ⟨g, 0, none⟩) n c, .int .i64 (q : Int), .int .i64 ((q : Int) + 1)] w fun e w' => e = .returned (.slice (some ⟨g, 0, none⟩) (n - 1) c) ∧ Kd.R k46 46 w' base ok (.slice (some ⟨g, 0, none⟩) (n - 1) c) (xs.eraseIdx q) ∧ Below base w0 w' := by
 have hu := Tryz.underlying46
 have hnc : n ≤ c := (Kd.R_reads' HO).2.1
 have h1 : ((q : Int) == (q : Int) + 1) = false := by rw [beq_eq_false_iff_ne]; omega
 obtain ⟨i0, hi0, _, hsz, _⟩ := info_parts info46
 have HOa := am HO
 have HBa := am HB
 have hsl := cut_from (P := Tryz.prog) 26 46 .i64 Tryz.underlying26 hi0 3 hsz (some ⟨g, 0, none⟩) n c ((q : Int) + 1) (by omega) (by omega)
 have hto := cut_to (P := Tryz.prog) 26 46 .i64 Tryz.underlying26 hi0 (some ⟨g, 0, none⟩) n c (q : Int) (by omega) (by omega) hnc
 rw [show ((q : Int) + 1).toNat = q + 1 by omega] at hsl
 rw [Int.toNat_natCast] at hto
 obtain ⟨A12, hA12⟩ : ∃ A1, A1 = (if c = q + 1 then some ⟨g, 0, none⟩ else (some (⟨g, 0, none⟩ : Addr)).map (·.add ((q + 1) * 3))) := ⟨_, rfl⟩
 obtain ⟨c12, hc12⟩ : ∃ c1, c1 = c - (q + 1) := ⟨_, rfl⟩
 obtain ⟨m12, hm12⟩ : ∃ m1, m1 = n - (q + 1) := ⟨_, rfl⟩
 rw [← hA12, ← hc12, ← hm12] at hsl
 have KA := am hA12
 have KM := am hm12
 clear HO HB hA12 hc12 hm12 hi0 hsz
 go_enter Tryz.func68, Tryz.ntmps68
 go_wp2
 go_region_law (refine Kd.R_delete_step k46 (w0 := w0) base rfl (.tmp 22) (.tmp 25) 26 46 rfl Tryz.underlying26 (by kernel_rfl) (n := n) (k := q) (c := c) (g := g) (xs := xs) (ok := ok) rfl rfl KA.out KM.out HOa.out hq (below_drew1 HBa.out) hbase ?_; intro w1 HO1 HB1 hg1)
 have HOb := am HO1
 have HBb := am HB1
 have hcl : ∀ ty, (Builtin.clear_ #[26] ty #[.slice (some ⟨g, (n - 1) * 3, none⟩) 1 (c - (n - 1))]).run Tryz.prog w1 = .ok (.tuple #[]) (w1.setCells g ((n - 1) * 3) [.int .i64 0, .int .i64 0, .int .i64 0]) := fun ty => clue_clear w1 ty g ((n - 1) * 3) (c - (n - 1)) (fun j hj => (R_cells HO1 ((n - 1) * 3 + j) (by show _ < c * 3; omega)).1) (fun j hj => (R_cells HO1 ((n - 1) * 3 + j) (by show _ < c * 3; omega)).2)
 have hz : n - (n - 1) = 1 := by omega
 have hcn : ¬ (c = n - 1) := by omega
 have hbase2 : base ≤ w1.heap.size := Nat.le_trans hbase hg1.size
 have hn1 : ((n - 1 : Nat) : Int) = (n : Int) - 1 := by omega
 clear HO1 HB1 hg1
 go_wp2_with (simp only [hcl])
 go_ret
 obtain ⟨r1, r2⟩ := R_behind HOb.out [.int .i64 0, .int .i64 0, .int .i64 0] (off := (n - 1) * 3) (Nat.le_refl _) (by show _ + 3 ≤ c * 3; omega)
 exact ⟨rfl, r1, HBb.out.grown r2 (Nat.le_trans hbase2 (Nat.le_refl _)) (fun k hk => by injection hk with hk; subst hk; exact Kd.R_base HOb.out _ rfl)⟩
def impl_withoutClue.f (l0 : List (S46)) (a1 : Int) : Option ((List (S46))) := if 0 ≤ a1 ∧ a1 < (l0.length : Int) ∧ l0.length < 5864062014805 then some (l0.eraseIdx a1.toNat) else none
theorem impl_withoutClue.calls (A0 : Option Addr) (c0 : Nat) (l0 : List (S46)) (a1 : Int) (r : List (S46)) (w : World) (hr0 : Kd.C k46 w A0 l0.length l0) (hc0 : l0.length ≤ c0) (h : impl_withoutClue.f l0 a1 = some r) :
  Calls Tryz.prog 41 #[.slice A0 l0.length c0, .int .i64 a1] w fun e w' => ∃ v0_ : Value, e = .returned (v0_) ∧ Kd.R k46 46 w' w.heap.size (fun _ => True) v0_ r ∧ Below w.heap.size w w' := by
 unfold impl_withoutClue.f at h
 by_cases hc : 0 ≤ a1 ∧ a1 < (l0.length : Int) ∧ l0.length < 5864062014805
 ·rw [if_pos hc] at h
  obtain rfl := Option.some.inj h
  clear h
  obtain ⟨h0, h1, h2⟩ := hc
  obtain ⟨q, rfl⟩ := Int.eq_ofNat_of_zero_le h0
  have key := fun W hr => impl_Clue_69.calls A0 c0 l0 l0 W hr hc0 (by unfold impl_Clue_69.f; rw [if_pos h2])
  have KY := am (key w hr0)
  clear key hr0
  go_enter Tryz.func41, Tryz.ntmps41
  go_wp2_with fail
  refine KY.out.mono ?_
  rintro e w1 ⟨v, rfl, HO, hb⟩
  obtain ⟨g, c, rfl, hbg, hgl, _⟩ := Kd.R_form HO (by omega)
  go_wp2_with fail
  refine (clue_delete w.heap.size (fun _ => True) g l0.length c q l0 w w1 HO (by omega) hb hb.size (by omega)).mono ?_
  rintro e w2 ⟨rfl, HO2, hb2⟩
  go_wp2
  go_ret
  exact ⟨_, rfl, by simpa using HO2, hb2⟩
 ·rw [if_neg hc] at h
  cases h
def impl_NeedlessClues.l0 : Nat → Int → List Int → Int → Int → Int → Int → List (S46) → Option (List Int × Bool)
 | 0, _, _, _, _, _, _, _ => none
 | k + 1, x4, x5, x18, x19, x102000, x102001, x102002 => if x19 < x18 then ((impl_withoutClue.f x102002 x19).bind fun t106 => ((impl_solutions.f x102000 x102001 t106).bind fun t109 => (if (t109.length : Int) = x4 then (if x5.length < 17592186044416 then (impl_NeedlessClues.l0 k x4 (x5 ++ [x19]) x18 (wrap64 (x19 + 1)) x102000 x102001 x102002) else (none)) else (impl_NeedlessClues.l0 k x4 x5 x18 (wrap64 (x19 + 1)) x102000 x102001 x102002)))) else (some (x5, true))
def impl_NeedlessClues.f (k : Nat) (a0_0 : Int) (a0_1 : Int) (l0_2 : List (S46)) : Option (List Int × Bool) := (impl_IsPuzzle.f a0_0 a0_1 l0_2).bind fun t102 => (if t102 = true then ((impl_solutions.f a0_0 a0_1 l0_2).bind fun t103 => (impl_NeedlessClues.l0 k (t103.length : Int) ([] : List Int) (l0_2.length : Int) 0 a0_0 a0_1 l0_2)) else (some (([] : List Int), false)))
def impl_NeedlessClues.T8 : Bool × List (List Nat × List Nat) := (true, [([], []), ([0], [0]), ([], []), ([2], [2]), ([], []), ([3, 4], [3, 4]), ([1, 5, 5], [1, 5]), ([6], [6]), ([], []), ([7, 8], [7, 8])])
def impl_NeedlessClues.B8 : List Nat := [0, 1, 0, 4, 0, 28, 63, 127, 0, 511]
theorem impl_NeedlessClues.tab8 : rtab .any (opsOf Tryz.f16 8) = impl_NeedlessClues.T8 := by kernel_rfl
theorem impl_NeedlessClues.bits8 : waitsOk impl_NeedlessClues.T8.2 impl_NeedlessClues.B8 = true := by kernel_rfl
theorem impl_NeedlessClues.calls (k : Nat) (a0_0 : Int) (a0_1 : Int) (A0_2 : Option Addr) (c0_2 : Nat) (l0_2 : List (S46)) (r1 : List Int) (r2 : Bool) (w : World) (hr0_2 : Kd.C k46 w A0_2 l0_2.length l0_2) (hc0_2 : l0_2.length ≤ c0_2) (h : impl_NeedlessClues.f k a0_0 a0_1 l0_2 = some (r1, r2)) :
  Calls Tryz.prog 16 #[.agg #[.int .i64 a0_0, .int .i64 a0_1, .slice A0_2 l0_2.length c0_2]] w fun e w' => ∃ v0_ : Value, e = .returned (.tuple #[v0_, .bool r2]) ∧ Kd.R (Kd.int .i64) 3 w' w.heap.size (fun _ => True) v0_ r1 ∧ Below w.heap.size w w' := by
 have hu28 := Tryz.underlying28
 have hu25 := Tryz.underlying25
 have HR0_2 := am hr0_2
 have HC0_2 := am hc0_2
 clear hr0_2 hc0_2
 have HB := am (Below.refl w.heap.size w)
 have H := h
 clear h
 unfold impl_NeedlessClues.f at H
 obtain ⟨t102, A20, H⟩ := bH H
 have A2 := am A20
 clear A20
 by_cases c3 : t102 = true
 ·subst c3
  rw [if_pos rfl] at H
  obtain ⟨t103, A40, H⟩ := bH H
  have A4 := am A40
  clear A40
  have H' := am H
  clear H
  go_enter Tryz.func16, Tryz.ntmps16
  go_wp2_with (first | ((with_reducible refine gate_dst (N := 1) rfl ?_); refine uX (N := 1) (cs := #[.int .i64 a0_0, .int .i64 a0_1, .slice A0_2 l0_2.length c0_2]) (t := 28) ?_; intro gb101 hg w5 hbox hb; have BK101 := am (hbox); have GW101 := uE hg; have GE101 := GW101; replace HB := uS hb; clear hb hbox hg; obtain ⟨hcz6_0, hcz6_1, hcz6_2, hfz6_0, hfz6_1, hfz6_2⟩ := uZ3 BK101) | ((with_reducible refine gate_callee (f := 25) rfl ?_); refine uGo (some 8) Tryz.func25 #[.agg #[.int .i64 a0_0, .int .i64 a0_1, .slice A0_2 l0_2.length c0_2]] ?_; (with_reducible refine (impl_IsPuzzle.calls a0_0 a0_1 _ _ l0_2 true _ ?side1 ?side2 A2.out).mono ?_); (case side1 => repeat (exact (Kd.C_below HR0_2.out HB.out))); (case side2 => exact HC0_2.out); rintro e w7 ⟨rfl, hb⟩; refine ⟨_, rfl, ?_⟩; replace BK101 := uB BK101 hb; replace HB := uS hb; (try clear hb); obtain ⟨hcz8_0, hcz8_1, hcz8_2, hfz8_0, hfz8_1, hfz8_2⟩ := uZ3 BK101) | ((with_reducible refine gate_callee (f := 37) rfl ?_); refine uGo (some 14) Tryz.func37 #[.agg #[.int .i64 a0_0, .int .i64 a0_1], .slice A0_2 l0_2.length c0_2] ?_; (with_reducible refine (impl_solutions.calls a0_0 a0_1 _ _ l0_2 t103 _ ?side1 ?side2 A4.out).mono ?_); (case side1 => repeat (exact (Kd.C_below HR0_2.out HB.out))); (case side2 => exact HC0_2.out); rintro e w9 ⟨v104, rfl, ho0, hb⟩; refine ⟨_, rfl, ?_⟩; have HO105 := am (Kd.R_lower ho0 (below_size uW)); replace BK101 := uB BK101 hb; replace HB := uS hb; (try clear hb); (try clear ho0); obtain ⟨Ao10, co10, eo10⟩ := Kd.R_slice HO105.out; subst eo10; obtain ⟨hcz11_0, hcz11_1, hcz11_2, hfz11_0, hfz11_1, hfz11_2⟩ := uZ3 BK101))
  go_loopg [5, 19] k (fun kq v5 v19 w' => ∃ (x5_1 : List Int) (x19_1 : Int), v19 = .int .i64 x19_1 ∧ Aside0 (impl_NeedlessClues.l0 kq (t103.length : Int) x5_1 (l0_2.length : Int) x19_1 a0_0 a0_1 l0_2 = some (r1, r2)) ∧ Aside0 (kq ≤ k) ∧ Aside0 (Kd.R (Kd.int .i64) 3 w' w.heap.size (fun _ => True) v5 x5_1) ∧ Aside0 (w'.heap[gb101]? = some (.cells #[.int .i64 a0_0, .int .i64 a0_1, (.slice A0_2 l0_2.length c0_2)] 28 (0, 0))) ∧ Aside0 (Below w.heap.size w w'))
  case atStart => exact ⟨(([] : List Int)), (0), (by rfl), H', ⟨Nat.le_refl _⟩, ⟨uN⟩, ⟨by (with_reducible skip); exact BK101.out⟩, ⟨by exact uW⟩⟩
  case round =>
   clear H'
   try clear hcz11_0
   try clear hcz11_1
   try clear hcz11_2
   try clear hcz6_0
   try clear hcz6_1
   try clear hcz6_2
   try clear hcz8_0
   try clear hcz8_1
   try clear hcz8_2
   try clear hfz11_0
   try clear hfz11_1
   try clear hfz11_2
   try clear hfz6_0
   try clear hfz6_1
   try clear hfz6_2
   try clear hfz8_0
   try clear hfz8_1
   try clear hfz8_2
   obtain ⟨x5_1, x19_1, rfl, HA, HK1, HO_5, BK101, HB⟩ := hrel
   cases gk with
   | zero => exact absurd HA.out (by simp [impl_NeedlessClues.l0])
   | succ k1 =>
    have H := HA.out
    clear HA
    simp only [impl_NeedlessClues.l0] at H
    by_cases c12 : x19_1 < (l0_2.length : Int)
    ·rw [if_pos c12] at H
     have c12b0 : decide (x19_1 < (l0_2.length : Int)) = true := decide_eq_true c12
     clear c12
     obtain ⟨t106, A130, H⟩ := bH H
     have A13 := am A130
     clear A130
     obtain ⟨t109, A140, H⟩ := bH H
     have A14 := am A140
     clear A140
     by_cases c15 : (t109.length : Int) = (t103.length : Int)
     ·rw [if_pos c15] at H
      have c15b0 : ((t109.length : Int) == (t103.length : Int)) = true := beq_iff_eq.mpr c15
      have c15b1 : ((t109.length : Int) != (t103.length : Int)) = false := bne_eq_false_iff_eq.mpr c15
      have c15b2 : (t109.length == t103.length) = true := by (simp at c15 ⊢; omega)
      clear c15
      by_cases c16 : x5_1.length < 17592186044416
      ·rw [if_pos c16] at H
       have LMc16 := am c16
       clear c16
       obtain ⟨y112, hy112⟩ : ∃ y_ : List Int, y_ = (x5_1 ++ [x19_1]) := ⟨_, rfl⟩
       replace H : (impl_NeedlessClues.l0 k1 (t103.length : Int) y112 (l0_2.length : Int) (wrap64 (x19_1 + 1)) a0_0 a0_1 l0_2) = some (r1, r2) := by (rw [hy112]; with_reducible exact H)
       have Ny112 := am hy112
       clear hy112
       have H' := am H
       clear H
       try go_wp2
       replace HO_5 := am (Kd.R_drew HO_5.out)
       replace BK101 := am (blk_drew BK101.out)
       replace HB := am (below_drew1 HB.out)
       refine start_ (n := 10) (S := fun w' => w'.cell? ⟨gb101, 0, none⟩ = some (.int .i64 a0_0) ∧ w'.cell? ⟨gb101, 1, none⟩ = some (.int .i64 a0_1) ∧ w'.cell? ⟨gb101, 2, none⟩ = some (.slice A0_2 l0_2.length c0_2)) (ds := []) #[false, false, false, false, false, false, false, false, false, false] (by kernel_rfl) rfl rfl ⟨uT BK101 0, uT BK101 1, uT BK101 2⟩ (fun hHeld => ?_); refine with_tabW impl_NeedlessClues.tab8 impl_NeedlessClues.bits8 (fun HT_ HW_ => ?_)
       generalize wr.drew = w17 at HO_5 BK101 HB hHeld ⊢
       refine uPu (i := 0) (N := some 22) #[true, false, false, false, false, false, false, false, false, false] ?_
       refine uPu (i := 2) (N := some 24) #[true, false, true, false, false, false, false, false, false, false] ?_
       refine uPu (i := 4) (N := some 26) #[true, false, true, false, true, false, false, false, false, false] ?_
       refine uPu (i := 8) (N := some 30) #[true, false, true, false, true, false, false, false, true, false] ?_
       refine uTk (i := 1) (N := some 23) #[true, true, true, false, true, false, false, false, true, false] hHeld ?_
       refine uTk (i := 3) (N := some 25) #[true, true, true, true, true, false, false, false, true, false] hHeld ?_
       refine uOn (i := 5) (N := some 27) #[true, true, true, true, true, true, false, false, true, false] (fun K hK => ?_)
       refine uGs Tryz.func41 #[.slice A0_2 l0_2.length c0_2, .int .i64 x19_1] ?_
       with_reducible refine (impl_withoutClue.calls _ _ l0_2 x19_1 t106 _ ?side1 ?side2 A13.out).mono ?_
       (case side1 => repeat (exact (Kd.C_below HR0_2.out HB.out)))
       (case side2 => exact HC0_2.out)
       rintro e w18 ⟨v107, rfl, ho0, hb⟩
       refine ⟨_, rfl, ?_⟩
       have HO108 := am (Kd.R_lower ho0 (below_size uW))
       replace HO_5 := am (Kd.R_below (uR HO_5) hb)
       replace BK101 := uB BK101 hb
       replace HB := uS hb
       (try clear hb)
       (skip)
       (skip)
       (skip)
       (try clear ho0)
       obtain ⟨Ao19, co19, eo19⟩ := Kd.R_slice HO108.out
       (subst eo19)
       refine hK.out _ _ ⟨uT BK101 0, uT BK101 1, uT BK101 2⟩ (fun hHeld => ?_)
       clear hK K
       refine uNo (some 27) ?_
       refine uOn (i := 6) (N := some 28) #[true, true, true, true, true, true, true, false, true, false] (fun K hK => ?_)
       refine uGs Tryz.func37 #[.agg #[.int .i64 a0_0, .int .i64 a0_1], .slice Ao19 t106.length co19] ?_
       with_reducible refine (impl_solutions.calls a0_0 a0_1 _ _ t106 t109 _ ?side1 ?side2 A14.out).mono ?_
       (case side1 => repeat (exact (Kd.R_reads' HO108.out).2.2))
       (case side2 => exact (Kd.R_reads' HO108.out).2.1)
       rintro e w20 ⟨v110, rfl, ho0, hb⟩
       refine ⟨_, rfl, ?_⟩
       have HO111 := am (Kd.R_lower (Kd.R_new' ho0 (Kd.R_lt (uR HO_5))) (below_size uW))
       replace HO_5 := am (Kd.R_elder' (uR HO_5) (Kd.R_base ho0) hb)
       replace HO108 := am (Kd.R_below (uR HO108) hb)
       replace BK101 := uB BK101 hb
       replace HB := uS hb
       (try clear hb)
       (skip)
       (skip)
       (skip)
       (try clear ho0)
       obtain ⟨Ao21, co21, eo21⟩ := Kd.R_slice HO111.out
       (subst eo21)
       refine hK.out _ _ ⟨uT BK101 0, uT BK101 1, uT BK101 2⟩ (fun hHeld => ?_)
       clear hK K
       refine uNo (some 28) ?_
       refine uPu (i := 7) (N := some 29) #[true, true, true, true, true, true, true, true, true, false] ?_
       refine uPu (i := 9) (N := some 31) #[true, true, true, true, true, true, true, true, true, true] ?_
       refine done_ (done_of HT_.out (by kernel_rfl)) ?_
       try go_wp2_with (((with_reducible refine gate_builtin (b := .append) (xs := #[.tmp 32, .tmp 34]) rfl ?_); at_builtin; refine Kd.R_append (Kd.int .i64) (w0 := w) w.heap.size rfl (.tmp 32) (.tmp 34) 30 3 (.int .i64 0) 8 rfl Tryz.underlying30 info3 rfl (by decide) (by omega) u5 x5_1 x19_1 [.int .i64 x19_1] (fun k_ => some k_ ≠ (.slice Ao21 t109.length co21 : Value).ownBlock) (fun _ => False) rfl rfl ?aP (fun _ hk => hk.elim) ?aF ?aO ?aB ?aS ?aL ?_; (case aP => exact rfl); (case aB => exact uW); (case aF => exact (fun k_ hk => Kd.fresh' (Kd.R_lt (uR HO111)) k_ hk)); (case aO => exact (by (with_reducible skip); exact Kd.R_mono HO_5.out (fun _ hk => hk.2))); (case aS => exact (below_size uW)); (case aL => have := LMc16.out; omega); intro v113 w22 ho hb hg hat; rw [← Ny112.out] at ho; have HO114 := am (ho); replace BK101 := am (blk_grown (uP BK101) hg (Kd.R_ne HO_5.out BK101.out (by decide))); replace HO108 := am (Kd.R_over' (uR HO108) (Kd.R_typed (uR HO_5)) (by decide) hg); replace HO111 := am (Kd.R_after (ok := (fun _ => True)) (uR HO111) hg hat); replace HB := am (hb); clear HO_5; clear ho hb hg hat))
       go_roundg k1
       case measure => have := HK1.out; omega
       case rel => exact ⟨(y112), (wrap64 (x19_1 + 1)), (by rfl), H', ⟨by have := HK1.out; omega⟩, ⟨by (with_reducible skip); exact Kd.R_mono HO114.out (fun _ hk => trivial)⟩, ⟨by (with_reducible skip); exact BK101.out⟩, ⟨by exact uW⟩⟩
      ·rw [if_neg c16] at H
       exact absurd H (by simp)
     ·rw [if_neg c15] at H
      have c15b0 : ((t109.length : Int) == (t103.length : Int)) = false := beq_eq_false_iff_ne.mpr c15
      have c15b1 : ((t109.length : Int) != (t103.length : Int)) = true := bne_iff_ne.mpr c15
      have c15b2 : (t109.length == t103.length) = false := by (simp at c15 ⊢; omega)
      have H' := am H
      clear H
      try go_wp2
      replace HO_5 := am (Kd.R_drew HO_5.out)
      replace BK101 := am (blk_drew BK101.out)
      replace HB := am (below_drew1 HB.out)
      refine start_ (n := 10) (S := fun w' => w'.cell? ⟨gb101, 0, none⟩ = some (.int .i64 a0_0) ∧ w'.cell? ⟨gb101, 1, none⟩ = some (.int .i64 a0_1) ∧ w'.cell? ⟨gb101, 2, none⟩ = some (.slice A0_2 l0_2.length c0_2)) (ds := []) #[false, false, false, false, false, false, false, false, false, false] (by kernel_rfl) rfl rfl ⟨uT BK101 0, uT BK101 1, uT BK101 2⟩ (fun hHeld => ?_); refine with_tabW impl_NeedlessClues.tab8 impl_NeedlessClues.bits8 (fun HT_ HW_ => ?_)
      generalize wr.drew = w23 at HO_5 BK101 HB hHeld ⊢
      refine uPu (i := 0) (N := some 22) #[true, false, false, false, false, false, false, false, false, false] ?_
      refine uPu (i := 2) (N := some 24) #[true, false, true, false, false, false, false, false, false, false] ?_
      refine uPu (i := 4) (N := some 26) #[true, false, true, false, true, false, false, false, false, false] ?_
      refine uPu (i := 8) (N := some 30) #[true, false, true, false, true, false, false, false, true, false] ?_
      refine uTk (i := 1) (N := some 23) #[true, true, true, false, true, false, false, false, true, false] hHeld ?_
      refine uTk (i := 3) (N := some 25) #[true, true, true, true, true, false, false, false, true, false] hHeld ?_
      refine uOn (i := 5) (N := some 27) #[true, true, true, true, true, true, false, false, true, false] (fun K hK => ?_)
      refine uGs Tryz.func41 #[.slice A0_2 l0_2.length c0_2, .int .i64 x19_1] ?_
      with_reducible refine (impl_withoutClue.calls _ _ l0_2 x19_1 t106 _ ?side1 ?side2 A13.out).mono ?_
      (case side1 => repeat (exact (Kd.C_below HR0_2.out HB.out)))
      (case side2 => exact HC0_2.out)
      rintro e w24 ⟨v107, rfl, ho0, hb⟩
      refine ⟨_, rfl, ?_⟩
      have HO108 := am (Kd.R_lower ho0 (below_size uW))
      replace HO_5 := am (Kd.R_below (uR HO_5) hb)
      replace BK101 := uB BK101 hb
      replace HB := uS hb
      (try clear hb)
      (skip)
      (skip)
      (skip)
      (try clear ho0)
      obtain ⟨Ao25, co25, eo25⟩ := Kd.R_slice HO108.out
      (subst eo25)
      refine hK.out _ _ ⟨uT BK101 0, uT BK101 1, uT BK101 2⟩ (fun hHeld => ?_)
      clear hK K
      refine uNo (some 27) ?_
      refine uOn (i := 6) (N := some 28) #[true, true, true, true, true, true, true, false, true, false] (fun K hK => ?_)
      refine uGs Tryz.func37 #[.agg #[.int .i64 a0_0, .int .i64 a0_1], .slice Ao25 t106.length co25] ?_
      with_reducible refine (impl_solutions.calls a0_0 a0_1 _ _ t106 t109 _ ?side1 ?side2 A14.out).mono ?_
      (case side1 => repeat (exact (Kd.R_reads' HO108.out).2.2))
      (case side2 => exact (Kd.R_reads' HO108.out).2.1)
      rintro e w26 ⟨v110, rfl, ho0, hb⟩
      refine ⟨_, rfl, ?_⟩
      have HO111 := am (Kd.R_lower (Kd.R_new' ho0 (Kd.R_lt (uR HO_5))) (below_size uW))
      replace HO_5 := am (Kd.R_elder' (uR HO_5) (Kd.R_base ho0) hb)
      replace HO108 := am (Kd.R_below (uR HO108) hb)
      replace BK101 := uB BK101 hb
      replace HB := uS hb
      (try clear hb)
      (skip)
      (skip)
      (skip)
      (try clear ho0)
      obtain ⟨Ao27, co27, eo27⟩ := Kd.R_slice HO111.out
      (subst eo27)
      refine hK.out _ _ ⟨uT BK101 0, uT BK101 1, uT BK101 2⟩ (fun hHeld => ?_)
      clear hK K
      refine uNo (some 28) ?_
      refine uPu (i := 7) (N := some 29) #[true, true, true, true, true, true, true, true, true, false] ?_
      refine uPu (i := 9) (N := some 31) #[true, true, true, true, true, true, true, true, true, true] ?_
      refine done_ (done_of HT_.out (by kernel_rfl)) ?_
      try go_wp2
      go_roundg k1
      case measure => have := HK1.out; omega
      case rel => exact ⟨(x5_1), (wrap64 (x19_1 + 1)), (by rfl), H', ⟨by have := HK1.out; omega⟩, ⟨by (with_reducible skip); exact Kd.R_mono HO_5.out (fun _ hk => trivial)⟩, ⟨by (with_reducible skip); exact BK101.out⟩, ⟨by exact uW⟩⟩
    ·rw [if_neg c12] at H
     have c12b0 : decide (x19_1 < (l0_2.length : Int)) = false := decide_eq_false c12
     clear c12
     simp only [Option.some.injEq, Prod.mk.injEq] at H
     obtain ⟨rfl, rfl⟩ := H
     go_wp2
     go_ret2
     exact ⟨_, uA, by (with_reducible skip); exact HO_5.out, by exact uW⟩
 ·replace c3 := Bool.eq_false_iff.mpr c3
  subst c3
  rw [if_neg (show ¬ (false = true) by decide)] at H
  simp only [Option.some.injEq, Prod.mk.injEq] at H
  obtain ⟨rfl, rfl⟩ := H
  go_enter Tryz.func16, Tryz.ntmps16
  go_wp2_with (first | ((with_reducible refine gate_dst (N := 1) rfl ?_); refine uX (N := 1) (cs := #[.int .i64 a0_0, .int .i64 a0_1, .slice A0_2 l0_2.length c0_2]) (t := 28) ?_; intro gb101 hg w28 hbox hb; have BK101 := am (hbox); have GW101 := uE hg; have GE101 := GW101; replace HB := uS hb; clear hb hbox hg; obtain ⟨hcz29_0, hcz29_1, hcz29_2, hfz29_0, hfz29_1, hfz29_2⟩ := uZ3 BK101) | ((with_reducible refine gate_callee (f := 25) rfl ?_); refine uGo (some 8) Tryz.func25 #[.agg #[.int .i64 a0_0, .int .i64 a0_1, .slice A0_2 l0_2.length c0_2]] ?_; (with_reducible refine (impl_IsPuzzle.calls a0_0 a0_1 _ _ l0_2 false _ ?side1 ?side2 A2.out).mono ?_); (case side1 => repeat (exact (Kd.C_below HR0_2.out HB.out))); (case side2 => exact HC0_2.out); rintro e w30 ⟨rfl, hb⟩; refine ⟨_, rfl, ?_⟩; replace BK101 := uB BK101 hb; replace HB := uS hb; (try clear hb)))
  go_ret2
  exact ⟨_, uA, uN, by exact uW⟩
def spec_PuzzleText.f (k : Nat) (a0_0 : Int) (a0_1 : Int) (l0_2 : List (S46)) : Option (ByteArray × Bool) := (spec_pzGood.f k a0_0 a0_1 l0_2).bind fun t102 => (if t102 = true then ((spec_pzText.f k a0_0 a0_1 l0_2).bind fun t103 => (some (t103, true))) else (some ((⟨#[]⟩ : ByteArray), false)))
theorem spec_PuzzleText.calls (k : Nat) (a0_0 : Int) (a0_1 : Int) (A0_2 : Option Addr) (c0_2 : Nat) (l0_2 : List (S46)) (r1 : ByteArray) (r2 : Bool) (w : World) (hr0_2 : Kd.C k46 w A0_2 l0_2.length l0_2) (hc0_2 : l0_2.length ≤ c0_2) (h : spec_PuzzleText.f k a0_0 a0_1 l0_2 = some (r1, r2)) :
  Calls Tryz.prog 23 #[.agg #[.int .i64 a0_0, .int .i64 a0_1, .slice A0_2 l0_2.length c0_2]] w fun e w' => e = .returned (.tuple #[.string r1, .bool r2]) ∧ Below w.heap.size w w' := by
 have hu28 := Tryz.underlying28
 have HR0_2 := am hr0_2
 have HC0_2 := am hc0_2
 clear hr0_2 hc0_2
 have HB := am (Below.refl w.heap.size w)
 have H := h
 clear h
 unfold spec_PuzzleText.f at H
 obtain ⟨t102, A20, H⟩ := bH H
 have A2 := am A20
 clear A20
 by_cases c3 : t102 = true
 ·subst c3
  rw [if_pos rfl] at H
  obtain ⟨t103, A40, H⟩ := bH H
  have A4 := am A40
  clear A40
  simp only [Option.some.injEq, Prod.mk.injEq] at H
  obtain ⟨rfl, rfl⟩ := H
  go_enter Tryz.func23, Tryz.ntmps23
  go_wp2_with (first | ((with_reducible refine gate_dst (N := 1) rfl ?_); refine uX (N := 1) (cs := #[.int .i64 a0_0, .int .i64 a0_1, .slice A0_2 l0_2.length c0_2]) (t := 28) ?_; intro gb101 hg w5 hbox hb; have BK101 := am (hbox); have GW101 := uE hg; have GE101 := GW101; replace HB := uS hb; clear hb hbox hg; obtain ⟨hcz6_0, hcz6_1, hcz6_2, hfz6_0, hfz6_1, hfz6_2⟩ := uZ3 BK101) | ((with_reducible refine gate_callee (f := 38) rfl ?_); refine uGo (some 5) Tryz.func38 #[.agg #[.int .i64 a0_0, .int .i64 a0_1, .slice A0_2 l0_2.length c0_2]] ?_; (with_reducible refine (spec_pzGood.calls k a0_0 a0_1 _ _ l0_2 true _ ?side1 ?side2 A2.out).mono ?_); (case side1 => repeat (exact (Kd.C_below HR0_2.out HB.out))); (case side2 => exact HC0_2.out); rintro e w7 ⟨rfl, hb⟩; refine ⟨_, rfl, ?_⟩; replace BK101 := uB BK101 hb; replace HB := uS hb; (try clear hb); obtain ⟨hcz8_0, hcz8_1, hcz8_2, hfz8_0, hfz8_1, hfz8_2⟩ := uZ3 BK101) | ((with_reducible refine gate_callee (f := 44) rfl ?_); refine uGo (some 8) Tryz.func44 #[.agg #[.int .i64 a0_0, .int .i64 a0_1, .slice A0_2 l0_2.length c0_2]] ?_; (with_reducible refine (spec_pzText.calls k a0_0 a0_1 _ _ l0_2 t103 _ ?side1 ?side2 A4.out).mono ?_); (case side1 => repeat (exact (Kd.C_below HR0_2.out HB.out))); (case side2 => exact HC0_2.out); rintro e w9 ⟨rfl, hb⟩; refine ⟨_, rfl, ?_⟩; replace BK101 := uB BK101 hb; replace HB := uS hb; (try clear hb)))
  go_ret2
  exact ⟨uA, by exact uW⟩
 ·replace c3 := Bool.eq_false_iff.mpr c3
  subst c3
  rw [if_neg (show ¬ (false = true) by decide)] at H
  simp only [Option.some.injEq, Prod.mk.injEq] at H
  obtain ⟨rfl, rfl⟩ := H
  go_enter Tryz.func23, Tryz.ntmps23
  go_wp2_with (first | ((with_reducible refine gate_dst (N := 1) rfl ?_); refine uX (N := 1) (cs := #[.int .i64 a0_0, .int .i64 a0_1, .slice A0_2 l0_2.length c0_2]) (t := 28) ?_; intro gb101 hg w10 hbox hb; have BK101 := am (hbox); have GW101 := uE hg; have GE101 := GW101; replace HB := uS hb; clear hb hbox hg; obtain ⟨hcz11_0, hcz11_1, hcz11_2, hfz11_0, hfz11_1, hfz11_2⟩ := uZ3 BK101) | ((with_reducible refine gate_callee (f := 38) rfl ?_); refine uGo (some 5) Tryz.func38 #[.agg #[.int .i64 a0_0, .int .i64 a0_1, .slice A0_2 l0_2.length c0_2]] ?_; (with_reducible refine (spec_pzGood.calls k a0_0 a0_1 _ _ l0_2 false _ ?side1 ?side2 A2.out).mono ?_); (case side1 => repeat (exact (Kd.C_below HR0_2.out HB.out))); (case side2 => exact HC0_2.out); rintro e w12 ⟨rfl, hb⟩; refine ⟨_, rfl, ?_⟩; replace BK101 := uB BK101 hb; replace HB := uS hb; (try clear hb)))
  go_ret2
  exact ⟨uA, by exact uW⟩
def laws_aSame.l0 : Nat → List Int → List Int → Int → Int → Option (Bool)
 | 0, _, _, _, _ => none
 | k + 1, x0, x1, x12, x13 => if x13 < x12 then (if 0 ≤ x13 then (if x13 < (x0.length : Int) then (if x13 < (x1.length : Int) then (if (rd x0 x13) = (rd x1 x13) then (laws_aSame.l0 k x0 x1 x12 (wrap64 (x13 + 1))) else (some false)) else (none)) else (none)) else (none)) else (some true)
def laws_aSame.f (k : Nat) (l0 : List Int) (l1 : List Int) : Option (Bool) := if (l0.length : Int) = (l1.length : Int) then (laws_aSame.l0 k l0 l1 (l0.length : Int) 0) else (some false)
theorem laws_aSame.calls (k : Nat) (A0 : Option Addr) (c0 : Nat) (l0 : List Int) (A1 : Option Addr) (c1 : Nat) (l1 : List Int) (r : Bool) (w : World) (hr0 : Kd.C (Kd.int .i64) w A0 l0.length l0) (hc0 : l0.length ≤ c0) (hr1 : Kd.C (Kd.int .i64) w A1 l1.length l1) (hc1 : l1.length ≤ c1) (h : laws_aSame.f k l0 l1 = some r) :
  Calls Tryz.prog 24 #[.slice A0 l0.length c0, .slice A1 l1.length c1] w fun e w' => e = .returned (.bool r) ∧ Drawn0 w w' := by
 have HR0 := am hr0
 have HC0 := am hc0
 clear hr0 hc0
 have HR1 := am hr1
 have HC1 := am hc1
 clear hr1 hc1
 have H := h
 clear h
 unfold laws_aSame.f at H
 by_cases c3 : (l0.length : Int) = (l1.length : Int)
 ·rw [if_pos c3] at H
  have c3b0 : ((l0.length : Int) == (l1.length : Int)) = true := beq_iff_eq.mpr c3
  have c3b1 : ((l0.length : Int) != (l1.length : Int)) = false := bne_eq_false_iff_eq.mpr c3
  have c3b2 : (l0.length == l1.length) = true := by (simp at c3 ⊢; omega)
  clear c3
  have H' := am H
  clear H
  go_enter Tryz.func24, Tryz.ntmps24
  go_wp2
  go_loopg [13] k (fun kq v13 w' => ∃ (x13_1 : Int), v13 = .int .i64 x13_1 ∧ Aside0 (laws_aSame.l0 kq l0 l1 (l0.length : Int) x13_1 = some r) ∧ Aside0 (kq ≤ k) ∧ Drawn0 w w')
  case atStart => exact ⟨(0), (by rfl), H', ⟨Nat.le_refl _⟩, by repeat (exact Drawn0.refl _)⟩
  case round =>
   clear H'
   try clear c3b0
   try clear c3b1
   try clear c3b2
   obtain ⟨x13_1, rfl, HA, HK1, ⟨m1, rfl⟩⟩ := hrel
   cases gk with
   | zero => exact absurd HA.out (by simp [laws_aSame.l0])
   | succ k1 =>
    have H := HA.out
    clear HA
    simp only [laws_aSame.l0] at H
    by_cases c4 : x13_1 < (l0.length : Int)
    ·rw [if_pos c4] at H
     have c4b0 : decide (x13_1 < (l0.length : Int)) = true := decide_eq_true c4
     clear c4
     by_cases c5 : 0 ≤ x13_1
     ·rw [if_pos c5] at H
      have c5b0 : decide (0 ≤ x13_1) = true := decide_eq_true c5
      clear c5
      by_cases c6 : x13_1 < (l0.length : Int)
      ·rw [if_pos c6] at H
       have c6b0 : decide (x13_1 < (l0.length : Int)) = true := decide_eq_true c6
       clear c6
       by_cases c7 : x13_1 < (l1.length : Int)
       ·rw [if_pos c7] at H
        have c7b0 : decide (x13_1 < (l1.length : Int)) = true := decide_eq_true c7
        clear c7
        by_cases c8 : (rd l0 x13_1) = (rd l1 x13_1)
        ·rw [if_pos c8] at H
         have c8b0 : ((rd l0 x13_1) == (rd l1 x13_1)) = true := beq_iff_eq.mpr c8
         have c8b1 : ((rd l0 x13_1) != (rd l1 x13_1)) = false := bne_eq_false_iff_eq.mpr c8
         clear c8
         have H' := am H
         clear H
         have p101 : 0 ≤ (x13_1 : Int) := of_decide_eq_true (by (with_reducible assumption))
         have q101 : x13_1 < (l0.length : Int) := of_decide_eq_true (by (with_reducible assumption))
         obtain ⟨ad101, e101, hx101_0⟩ := Kd.at_int HR0.out x13_1 p101 q101
         cases e101
         replace p101 := eq_true p101
         replace q101 := eq_true q101
         have p102 : 0 ≤ (x13_1 : Int) := of_decide_eq_true (by (with_reducible assumption))
         have q102 : x13_1 < (l1.length : Int) := of_decide_eq_true (by (with_reducible assumption))
         obtain ⟨ad102, e102, hx102_0⟩ := Kd.at_int HR1.out x13_1 p102 q102
         cases e102
         replace p102 := eq_true p102
         replace q102 := eq_true q102
         go_wp2
         repeat (go_quiet (fail); try go_wp2)
         go_roundg k1
         case measure => have := HK1.out; omega
         case rel => exact ⟨(wrap64 (x13_1 + 1)), (by rfl), H', ⟨by have := HK1.out; omega⟩, by repeat (first | exact Drawn0.refl _ | apply Drawn0.step)⟩
        ·rw [if_neg c8] at H
         have c8b0 : ((rd l0 x13_1) == (rd l1 x13_1)) = false := beq_eq_false_iff_ne.mpr c8
         have c8b1 : ((rd l0 x13_1) != (rd l1 x13_1)) = true := bne_iff_ne.mpr c8
         obtain rfl := Option.some.inj H
         have p101 : 0 ≤ (x13_1 : Int) := of_decide_eq_true (by (with_reducible assumption))
         have q101 : x13_1 < (l0.length : Int) := of_decide_eq_true (by (with_reducible assumption))
         obtain ⟨ad101, e101, hx101_0⟩ := Kd.at_int HR0.out x13_1 p101 q101
         cases e101
         replace p101 := eq_true p101
         replace q101 := eq_true q101
         have p102 : 0 ≤ (x13_1 : Int) := of_decide_eq_true (by (with_reducible assumption))
         have q102 : x13_1 < (l1.length : Int) := of_decide_eq_true (by (with_reducible assumption))
         obtain ⟨ad102, e102, hx102_0⟩ := Kd.at_int HR1.out x13_1 p102 q102
         cases e102
         replace p102 := eq_true p102
         replace q102 := eq_true q102
         go_wp2
         repeat (go_quiet (fail); try go_wp2)
         go_ret
         exact ⟨by rfl, by repeat (first | exact Drawn0.refl _ | apply Drawn0.step)⟩
       ·rw [if_neg c7] at H
        exact absurd H (by simp)
      ·rw [if_neg c6] at H
       exact absurd H (by simp)
     ·rw [if_neg c5] at H
      exact absurd H (by simp)
    ·rw [if_neg c4] at H
     have c4b0 : decide (x13_1 < (l0.length : Int)) = false := decide_eq_false c4
     clear c4
     obtain rfl := Option.some.inj H
     go_wp2
     go_ret
     exact ⟨by rfl, by repeat (first | exact Drawn0.refl _ | apply Drawn0.step)⟩
 ·rw [if_neg c3] at H
  have c3b0 : ((l0.length : Int) == (l1.length : Int)) = false := beq_eq_false_iff_ne.mpr c3
  have c3b1 : ((l0.length : Int) != (l1.length : Int)) = true := bne_iff_ne.mpr c3
  have c3b2 : (l0.length == l1.length) = false := by (simp at c3 ⊢; omega)
  obtain rfl := Option.some.inj H
  go_enter Tryz.func24, Tryz.ntmps24
  go_wp2
  go_ret
  exact ⟨by rfl, by repeat (exact Drawn0.refl _)⟩
def spec_IsPuzzle.f (k : Nat) (a0_0 : Int) (a0_1 : Int) (l0_2 : List (S46)) : Option (Bool) := (spec_pzGood.f k a0_0 a0_1 l0_2).bind fun t102 => (some t102)
theorem spec_IsPuzzle.calls (k : Nat) (a0_0 : Int) (a0_1 : Int) (A0_2 : Option Addr) (c0_2 : Nat) (l0_2 : List (S46)) (r : Bool) (w : World) (hr0_2 : Kd.C k46 w A0_2 l0_2.length l0_2) (hc0_2 : l0_2.length ≤ c0_2) (h : spec_IsPuzzle.f k a0_0 a0_1 l0_2 = some r) :
  Calls Tryz.prog 26 #[.agg #[.int .i64 a0_0, .int .i64 a0_1, .slice A0_2 l0_2.length c0_2]] w fun e w' => e = .returned (.bool r) ∧ Below w.heap.size w w' := by
 have hu28 := Tryz.underlying28
 have HR0_2 := am hr0_2
 have HC0_2 := am hc0_2
 clear hr0_2 hc0_2
 have HB := am (Below.refl w.heap.size w)
 have H := h
 clear h
 unfold spec_IsPuzzle.f at H
 obtain ⟨t102, A20, H⟩ := bH H
 have A2 := am A20
 clear A20
 obtain rfl := Option.some.inj H
 go_enter Tryz.func26, Tryz.ntmps26
 go_wp2_with (first | ((with_reducible refine gate_dst (N := 1) rfl ?_); refine uX (N := 1) (cs := #[.int .i64 a0_0, .int .i64 a0_1, .slice A0_2 l0_2.length c0_2]) (t := 28) ?_; intro gb101 hg w3 hbox hb; have BK101 := am (hbox); have GW101 := uE hg; have GE101 := GW101; replace HB := uS hb; clear hb hbox hg; obtain ⟨hcz4_0, hcz4_1, hcz4_2, hfz4_0, hfz4_1, hfz4_2⟩ := uZ3 BK101) | ((with_reducible refine gate_callee (f := 38) rfl ?_); refine uGo (some 4) Tryz.func38 #[.agg #[.int .i64 a0_0, .int .i64 a0_1, .slice A0_2 l0_2.length c0_2]] ?_; (with_reducible refine (spec_pzGood.calls k a0_0 a0_1 _ _ l0_2 t102 _ ?side1 ?side2 A2.out).mono ?_); (case side1 => repeat (exact (Kd.C_below HR0_2.out HB.out))); (case side2 => exact HC0_2.out); rintro e w5 ⟨rfl, hb⟩; refine ⟨_, rfl, ?_⟩; replace BK101 := uB BK101 hb; replace HB := uS hb; (try clear hb)))
 go_ret
 exact ⟨uA, by exact uW⟩
def impl_HousesOf.f (a0_0 : Int) (a0_1 : Int) : Option (Int × Bool) := (impl_IsStreet.f a0_0 a0_1).bind fun t102 => (if t102 = true then ((impl_housesOf.f a0_0 a0_1).bind fun t103 => (some (t103, true))) else (some (0, false)))
theorem impl_HousesOf.calls (a0_0 : Int) (a0_1 : Int) (r1 : Int) (r2 : Bool) (w : World) (h : impl_HousesOf.f a0_0 a0_1 = some (r1, r2)) :
  Calls Tryz.prog 27 #[.agg #[.int .i64 a0_0, .int .i64 a0_1]] w fun e w' => e = .returned (.tuple #[.int .i64 r1, .bool r2]) ∧ Below w.heap.size w w' := by
 have hu25 := Tryz.underlying25
 have HB := am (Below.refl w.heap.size w)
 have H := h
 clear h
 unfold impl_HousesOf.f at H
 obtain ⟨t102, A20, H⟩ := bH H
 have A2 := am A20
 clear A20
 by_cases c3 : t102 = true
 ·subst c3
  rw [if_pos rfl] at H
  obtain ⟨t103, A40, H⟩ := bH H
  have A4 := am A40
  clear A40
  simp only [Option.some.injEq, Prod.mk.injEq] at H
  obtain ⟨rfl, rfl⟩ := H
  go_enter Tryz.func27, Tryz.ntmps27
  go_wp2_with (first | ((with_reducible refine gate_dst (N := 1) rfl ?_); refine uX (N := 1) (cs := #[.int .i64 a0_0, .int .i64 a0_1]) (t := 25) ?_; intro gb101 hg w5 hbox hb; have BK101 := am (hbox); have GW101 := uE hg; have GE101 := GW101; replace HB := uS hb; clear hb hbox hg; obtain ⟨hcz6_0, hcz6_1, hfz6_0, hfz6_1⟩ := uZ2 BK101) | ((with_reducible refine gate_callee (f := 49) rfl ?_); refine uGo (some 5) Tryz.func49 #[.agg #[.int .i64 a0_0, .int .i64 a0_1]] ?_; (with_reducible refine (impl_IsStreet.calls a0_0 a0_1 true _ A2.out).mono ?_); rintro e w7 ⟨rfl, hb⟩; refine ⟨_, rfl, ?_⟩; replace BK101 := uB BK101 hb; replace HB := uS hb; (try clear hb); obtain ⟨hcz8_0, hcz8_1, hfz8_0, hfz8_1⟩ := uZ2 BK101) | ((with_reducible refine gate_callee (f := 50) rfl ?_); refine uGo (some 8) Tryz.func50 #[.agg #[.int .i64 a0_0, .int .i64 a0_1]] ?_; (with_reducible refine (impl_housesOf.calls a0_0 a0_1 t103 _ A4.out).mono ?_); rintro e w9 ⟨rfl, hb⟩; refine ⟨_, rfl, ?_⟩; replace BK101 := uB BK101 hb; replace HB := uS hb; (try clear hb)))
  go_ret2
  exact ⟨uA, by exact uW⟩
 ·replace c3 := Bool.eq_false_iff.mpr c3
  subst c3
  rw [if_neg (show ¬ (false = true) by decide)] at H
  simp only [Option.some.injEq, Prod.mk.injEq] at H
  obtain ⟨rfl, rfl⟩ := H
  go_enter Tryz.func27, Tryz.ntmps27
  go_wp2_with (first | ((with_reducible refine gate_dst (N := 1) rfl ?_); refine uX (N := 1) (cs := #[.int .i64 a0_0, .int .i64 a0_1]) (t := 25) ?_; intro gb101 hg w10 hbox hb; have BK101 := am (hbox); have GW101 := uE hg; have GE101 := GW101; replace HB := uS hb; clear hb hbox hg; obtain ⟨hcz11_0, hcz11_1, hfz11_0, hfz11_1⟩ := uZ2 BK101) | ((with_reducible refine gate_callee (f := 49) rfl ?_); refine uGo (some 5) Tryz.func49 #[.agg #[.int .i64 a0_0, .int .i64 a0_1]] ?_; (with_reducible refine (impl_IsStreet.calls a0_0 a0_1 false _ A2.out).mono ?_); rintro e w12 ⟨rfl, hb⟩; refine ⟨_, rfl, ?_⟩; replace BK101 := uB BK101 hb; replace HB := uS hb; (try clear hb)))
  go_ret2
  exact ⟨uA, by exact uW⟩
def laws_aRises.l0 : Nat → List Int → Int → Option (Bool)
 | 0, _, _ => none
 | k + 1, x0, x3 => if x3 < (x0.length : Int) then (if 0 ≤ (wrap64 (x3 - 1)) then (if (wrap64 (x3 - 1)) < (x0.length : Int) then (if 0 ≤ x3 then (if (rd x0 (wrap64 (x3 - 1))) ≥ (rd x0 x3) then (some false) else (laws_aRises.l0 k x0 (wrap64 (x3 + 1)))) else (none)) else (none)) else (none)) else (some true)
def laws_aRises.f (k : Nat) (l0 : List Int) : Option (Bool) := laws_aRises.l0 k l0 1
theorem laws_aRises.calls (k : Nat) (A0 : Option Addr) (c0 : Nat) (l0 : List Int) (r : Bool) (w : World) (hr0 : Kd.C (Kd.int .i64) w A0 l0.length l0) (hc0 : l0.length ≤ c0) (h : laws_aRises.f k l0 = some r) :
  Calls Tryz.prog 28 #[.slice A0 l0.length c0] w fun e w' => e = .returned (.bool r) ∧ Drawn0 w w' := by
 have HR0 := am hr0
 have HC0 := am hc0
 clear hr0 hc0
 have H := h
 clear h
 unfold laws_aRises.f at H
 have H' := am H
 clear H
 go_enter Tryz.func28, Tryz.ntmps28
 go_wp2
 go_loopg [3] k (fun kq v3 w' => ∃ (x3_1 : Int), v3 = .int .i64 x3_1 ∧ Aside0 (laws_aRises.l0 kq l0 x3_1 = some r) ∧ Aside0 (kq ≤ k) ∧ Drawn0 w w')
 case atStart => exact ⟨(1), (by rfl), H', ⟨Nat.le_refl _⟩, by repeat (exact Drawn0.refl _)⟩
 case round =>
  clear H'
  obtain ⟨x3_1, rfl, HA, HK1, ⟨m1, rfl⟩⟩ := hrel
  cases gk with
  | zero => exact absurd HA.out (by simp [laws_aRises.l0])
  | succ k1 =>
   have H := HA.out
   clear HA
   simp only [laws_aRises.l0] at H
   by_cases c2 : x3_1 < (l0.length : Int)
   ·rw [if_pos c2] at H
    have c2b0 : decide (x3_1 < (l0.length : Int)) = true := decide_eq_true c2
    clear c2
    obtain ⟨ji3, hji3⟩ : ∃ j_ : Int, (wrap64 (x3_1 - 1)) = j_ := ⟨_, rfl⟩
    replace H : (if 0 ≤ (ji3) then (if (ji3) < (l0.length : Int) then (if 0 ≤ x3_1 then (if (rd l0 (ji3)) ≥ (rd l0 x3_1) then (some false) else (laws_aRises.l0 k1 l0 (wrap64 (x3_1 + 1)))) else (none)) else (none)) else (none)) = some r := by (rw [hji3] at H; exact H)
    have hji3w : (IntKind.i64.wrap (x3_1 - 1)) = ji3 := (i64_w _).trans hji3
    by_cases c4 : 0 ≤ (ji3)
    ·rw [if_pos c4] at H
     have c4b0 : decide (0 ≤ (ji3)) = true := decide_eq_true c4
     clear c4
     by_cases c5 : (ji3) < (l0.length : Int)
     ·rw [if_pos c5] at H
      have c5b0 : decide ((ji3) < (l0.length : Int)) = true := decide_eq_true c5
      clear c5
      by_cases c6 : 0 ≤ x3_1
      ·rw [if_pos c6] at H
       have c6b0 : decide (0 ≤ x3_1) = true := decide_eq_true c6
       clear c6
       by_cases c7 : (rd l0 (ji3)) ≥ (rd l0 x3_1)
       ·rw [if_pos c7] at H
        have c7b0 : decide ((rd l0 x3_1) ≤ (rd l0 (ji3))) = true := decide_eq_true c7
        clear c7
        obtain rfl := Option.some.inj H
        have p101 : 0 ≤ ((ji3) : Int) := of_decide_eq_true (by (with_reducible assumption))
        have q101 : (ji3) < (l0.length : Int) := of_decide_eq_true (by (with_reducible assumption))
        obtain ⟨ad101, e101, hx101_0⟩ := Kd.at_int HR0.out (ji3) p101 q101
        cases e101
        replace p101 := eq_true p101
        replace q101 := eq_true q101
        have p102 : 0 ≤ (x3_1 : Int) := of_decide_eq_true (by (with_reducible assumption))
        have q102 : x3_1 < (l0.length : Int) := of_decide_eq_true (by (with_reducible assumption))
        obtain ⟨ad102, e102, hx102_0⟩ := Kd.at_int HR0.out x3_1 p102 q102
        obtain rfl : ad101 = ad102 := (by injection e102)
        replace p102 := eq_true p102
        replace q102 := eq_true q102
        go_wp2
        repeat (go_quiet (fail); try go_wp2)
        go_ret
        exact ⟨by rfl, by repeat (first | exact Drawn0.refl _ | apply Drawn0.step)⟩
       ·rw [if_neg c7] at H
        have c7b0 : decide ((rd l0 x3_1) ≤ (rd l0 (ji3))) = false := decide_eq_false c7
        clear c7
        have H' := am H
        clear H
        have p101 : 0 ≤ ((ji3) : Int) := of_decide_eq_true (by (with_reducible assumption))
        have q101 : (ji3) < (l0.length : Int) := of_decide_eq_true (by (with_reducible assumption))
        obtain ⟨ad101, e101, hx101_0⟩ := Kd.at_int HR0.out (ji3) p101 q101
        cases e101
        replace p101 := eq_true p101
        replace q101 := eq_true q101
        have p102 : 0 ≤ (x3_1 : Int) := of_decide_eq_true (by (with_reducible assumption))
        have q102 : x3_1 < (l0.length : Int) := of_decide_eq_true (by (with_reducible assumption))
        obtain ⟨ad102, e102, hx102_0⟩ := Kd.at_int HR0.out x3_1 p102 q102
        obtain rfl : ad101 = ad102 := (by injection e102)
        replace p102 := eq_true p102
        replace q102 := eq_true q102
        go_wp2
        repeat (go_quiet (fail); try go_wp2)
        go_roundg k1
        case measure => have := HK1.out; omega
        case rel => exact ⟨(wrap64 (x3_1 + 1)), (by rfl), H', ⟨by have := HK1.out; omega⟩, by repeat (first | exact Drawn0.refl _ | apply Drawn0.step)⟩
      ·rw [if_neg c6] at H
       exact absurd H (by simp)
     ·rw [if_neg c5] at H
      exact absurd H (by simp)
    ·rw [if_neg c4] at H
     exact absurd H (by simp)
   ·rw [if_neg c2] at H
    have c2b0 : decide (x3_1 < (l0.length : Int)) = false := decide_eq_false c2
    clear c2
    obtain rfl := Option.some.inj H
    go_wp2
    go_ret
    exact ⟨by rfl, by repeat (first | exact Drawn0.refl _ | apply Drawn0.step)⟩
def impl_isHouse.f (a0_0 : Int) (a0_1 : Int) (a1 : Int) : Option (Bool) := (impl_IsStreet.f a0_0 a0_1).bind fun t102 => (if t102 = true then ((impl_housesOf.f a0_0 a0_1).bind fun t103 => ((impl_within.f a1 1 t103).bind fun t104 => (some t104))) else (some false))
theorem impl_isHouse.calls (a0_0 : Int) (a0_1 : Int) (a1 : Int) (r : Bool) (w : World) (h : impl_isHouse.f a0_0 a0_1 a1 = some r) :
  Calls Tryz.prog 51 #[.agg #[.int .i64 a0_0, .int .i64 a0_1], .int .i64 a1] w fun e w' => e = .returned (.bool r) ∧ Below w.heap.size w w' := by
 have hu25 := Tryz.underlying25
 have HB := am (Below.refl w.heap.size w)
 have H := h
 clear h
 unfold impl_isHouse.f at H
 obtain ⟨t102, A30, H⟩ := bH H
 have A3 := am A30
 clear A30
 by_cases c4 : t102 = true
 ·subst c4
  rw [if_pos rfl] at H
  obtain ⟨t103, A50, H⟩ := bH H
  have A5 := am A50
  clear A50
  obtain ⟨t104, A60, H⟩ := bH H
  have A6 := am A60
  clear A60
  obtain rfl := Option.some.inj H
  go_enter Tryz.func51, Tryz.ntmps51
  go_wp2_with (first | ((with_reducible refine gate_dst (N := 2) rfl ?_); refine uX (N := 2) (cs := #[.int .i64 a0_0, .int .i64 a0_1]) (t := 25) ?_; intro gb101 hg w7 hbox hb; have BK101 := am (hbox); have GW101 := uE hg; have GE101 := GW101; replace HB := uS hb; clear hb hbox hg; obtain ⟨hcz8_0, hcz8_1, hfz8_0, hfz8_1⟩ := uZ2 BK101) | ((with_reducible refine gate_callee (f := 49) rfl ?_); refine uGo (some 6) Tryz.func49 #[.agg #[.int .i64 a0_0, .int .i64 a0_1]] ?_; (with_reducible refine (impl_IsStreet.calls a0_0 a0_1 true _ A3.out).mono ?_); rintro e w9 ⟨rfl, hb⟩; refine ⟨_, rfl, ?_⟩; replace BK101 := uB BK101 hb; replace HB := uS hb; (try clear hb); obtain ⟨hcz10_0, hcz10_1, hfz10_0, hfz10_1⟩ := uZ2 BK101) | (go_at_call 50; (with_reducible refine (impl_housesOf.calls a0_0 a0_1 t103 _ A5.out).mono ?_); rintro e w11 ⟨rfl, hb⟩; replace BK101 := uB BK101 hb; replace HB := uS hb; (try clear hb)) | (go_at_call 53; (with_reducible refine (impl_within.calls a1 1 t103 t104 _ A6.out).mono ?_); rintro e w' ⟨rfl, ⟨nd, rfl⟩⟩))
  go_ret
  exact ⟨uA, by exact uW⟩
 ·replace c4 := Bool.eq_false_iff.mpr c4
  subst c4
  rw [if_neg (show ¬ (false = true) by decide)] at H
  obtain rfl := Option.some.inj H
  go_enter Tryz.func51, Tryz.ntmps51
  go_wp2_with (first | ((with_reducible refine gate_dst (N := 2) rfl ?_); refine uX (N := 2) (cs := #[.int .i64 a0_0, .int .i64 a0_1]) (t := 25) ?_; intro gb101 hg w12 hbox hb; have BK101 := am (hbox); have GW101 := uE hg; have GE101 := GW101; replace HB := uS hb; clear hb hbox hg; obtain ⟨hcz13_0, hcz13_1, hfz13_0, hfz13_1⟩ := uZ2 BK101) | ((with_reducible refine gate_callee (f := 49) rfl ?_); refine uGo (some 6) Tryz.func49 #[.agg #[.int .i64 a0_0, .int .i64 a0_1]] ?_; (with_reducible refine (impl_IsStreet.calls a0_0 a0_1 false _ A3.out).mono ?_); rintro e w14 ⟨rfl, hb⟩; refine ⟨_, rfl, ?_⟩; replace BK101 := uB BK101 hb; replace HB := uS hb; (try clear hb)))
  go_ret
  exact ⟨uA, by exact uW⟩
theorem eqA25 (d : Nat) (w : World) (x0 y0 : Int) (x1 y1 : Int) :
  (Op.equalIn (d + 2) 25 (.agg #[.int .i64 x0, .int .i64 x1]) (.agg #[.int .i64 y0, .int .i64 y1])).run Tryz.prog w = .ok (x0 == y0 && (x1 == y1)) w := by
 refine eqA_of Tryz.underlying25 (by kernel_rfl) ?_
 refine eqf_cons (by rfl) (by go_simp; rfl) (by go_simp; rfl) (by go_simp) ?_
 exact eqf_last (by rfl) (by go_simp; rfl) (by go_simp; rfl) (by go_simp)
def impl_DoesFit.f (a0_0 : Int) (a0_1 : Int) (a1_0 : Int) (a1_1 : Int) (a1_2 : Int) (a2 : Int) : Option (Bool × Bool) := (impl_isHiddenStreet.f a0_0 a0_1).bind fun t103 => (if t103 = true then ((impl_isClue.f a1_0 a1_1 a1_2).bind fun t104 => (if t104 = true then ((impl_isHouse.f a0_0 a0_1 a2).bind fun t105 => (if t105 = true then ((impl_doesFit.f a0_0 a0_1 a1_0 a1_1 a1_2 a2).bind fun t106 => (some (t106, true))) else (some (false, false)))) else (some (false, false)))) else (some (false, false)))
theorem impl_DoesFit.calls (a0_0 : Int) (a0_1 : Int) (a1_0 : Int) (a1_1 : Int) (a1_2 : Int) (a2 : Int) (r1 : Bool) (r2 : Bool) (w : World) (h : impl_DoesFit.f a0_0 a0_1 a1_0 a1_1 a1_2 a2 = some (r1, r2)) :
  Calls Tryz.prog 29 #[.agg #[.int .i64 a0_0, .int .i64 a0_1], .agg #[.int .i64 a1_0, .int .i64 a1_1, .int .i64 a1_2], .int .i64 a2] w fun e w' => e = .returned (.tuple #[.bool r1, .bool r2]) ∧ Below w.heap.size w w' := by
 have hu25 := Tryz.underlying25
 have hu46 := Tryz.underlying46
 have HB := am (Below.refl w.heap.size w)
 have H := h
 clear h
 unfold impl_DoesFit.f at H
 obtain ⟨t103, A40, H⟩ := bH H
 have A4 := am A40
 clear A40
 by_cases c5 : t103 = true
 ·subst c5
  rw [if_pos rfl] at H
  obtain ⟨t104, A60, H⟩ := bH H
  have A6 := am A60
  clear A60
  by_cases c7 : t104 = true
  ·subst c7
   rw [if_pos rfl] at H
   obtain ⟨t105, A80, H⟩ := bH H
   have A8 := am A80
   clear A80
   by_cases c9 : t105 = true
   ·subst c9
    rw [if_pos rfl] at H
    obtain ⟨t106, A100, H⟩ := bH H
    have A10 := am A100
    clear A100
    simp only [Option.some.injEq, Prod.mk.injEq] at H
    obtain ⟨rfl, rfl⟩ := H
    go_enter Tryz.func29, Tryz.ntmps29
    go_wp2_with (first | ((with_reducible refine gate_dst (N := 3) rfl ?_); refine uX (N := 3) (cs := #[.int .i64 a0_0, .int .i64 a0_1]) (t := 25) ?_; intro gb101 hg w11 hbox hb; have BK101 := am (hbox); have GW101 := uE hg; have GE101 := GW101; replace HB := uS hb; clear hb hbox hg) | ((with_reducible refine gate_dst (N := 4) rfl ?_); refine uX (N := 4) (cs := #[.int .i64 a1_0, .int .i64 a1_1, .int .i64 a1_2]) (t := 46) ?_; intro gb102 hg w12 hbox hb; have BK102 := am (hbox); have GW102 := uE hg; have GE102 := GW102; have NB101_102 := uL BK101 hg; have NB102_101 := uY NB101_102; replace BK101 := uB BK101 hb; replace HB := uS hb; clear hb hbox hg; have hnb13 := NB101_102.out; have hnc13 := NB102_101.out; obtain ⟨hcz14_0, hcz14_1, hfz14_0, hfz14_1⟩ := uZ2 BK101) | ((with_reducible refine gate_callee (f := 45) rfl ?_); refine uGo (some 9) Tryz.func45 #[.agg #[.int .i64 a0_0, .int .i64 a0_1]] ?_; (with_reducible refine (impl_isHiddenStreet.calls a0_0 a0_1 true _ A4.out).mono ?_); rintro e w15 ⟨rfl, hb⟩; refine ⟨_, rfl, ?_⟩; replace BK101 := uB BK101 hb; replace BK102 := uB BK102 hb; replace HB := uS hb; (try clear hb); obtain ⟨hcz16_0, hcz16_1, hcz16_2, hfz16_0, hfz16_1, hfz16_2⟩ := uZ3 BK102) | (go_at_call 48; (with_reducible refine (impl_isClue.calls a1_0 a1_1 a1_2 true _ A6.out).mono ?_); rintro e w17 ⟨rfl, hb⟩; replace BK101 := uB BK101 hb; replace BK102 := uB BK102 hb; replace HB := uS hb; (try clear hb); obtain ⟨hcz18_0, hcz18_1, hfz18_0, hfz18_1⟩ := uZ2 BK101) | (go_at_call 51; (with_reducible refine (impl_isHouse.calls a0_0 a0_1 a2 true _ A8.out).mono ?_); rintro e w19 ⟨rfl, hb⟩; replace BK101 := uB BK101 hb; replace BK102 := uB BK102 hb; replace HB := uS hb; (try clear hb); obtain ⟨hcz20_0, hcz20_1, hfz20_0, hfz20_1⟩ := uZ2 BK101; obtain ⟨hcz21_0, hcz21_1, hcz21_2, hfz21_0, hfz21_1, hfz21_2⟩ := uZ3 BK102) | ((with_reducible refine gate_callee (f := 52) rfl ?_); refine uGo (some 25) Tryz.func52 #[.agg #[.int .i64 a0_0, .int .i64 a0_1], .agg #[.int .i64 a1_0, .int .i64 a1_1, .int .i64 a1_2], .int .i64 a2] ?_; (with_reducible refine (impl_doesFit.calls a0_0 a0_1 a1_0 a1_1 a1_2 a2 t106 _ A10.out).mono ?_); rintro e w22 ⟨rfl, hb⟩; refine ⟨_, rfl, ?_⟩; replace BK101 := uB BK101 hb; replace BK102 := uB BK102 hb; replace HB := uS hb; (try clear hb)))
    go_ret2
    exact ⟨uA, by exact uW⟩
   ·replace c9 := Bool.eq_false_iff.mpr c9
    subst c9
    rw [if_neg (show ¬ (false = true) by decide)] at H
    simp only [Option.some.injEq, Prod.mk.injEq] at H
    obtain ⟨rfl, rfl⟩ := H
    go_enter Tryz.func29, Tryz.ntmps29
    go_wp2_with (first | ((with_reducible refine gate_dst (N := 3) rfl ?_); refine uX (N := 3) (cs := #[.int .i64 a0_0, .int .i64 a0_1]) (t := 25) ?_; intro gb101 hg w23 hbox hb; have BK101 := am (hbox); have GW101 := uE hg; have GE101 := GW101; replace HB := uS hb; clear hb hbox hg) | ((with_reducible refine gate_dst (N := 4) rfl ?_); refine uX (N := 4) (cs := #[.int .i64 a1_0, .int .i64 a1_1, .int .i64 a1_2]) (t := 46) ?_; intro gb102 hg w24 hbox hb; have BK102 := am (hbox); have GW102 := uE hg; have GE102 := GW102; have NB101_102 := uL BK101 hg; have NB102_101 := uY NB101_102; replace BK101 := uB BK101 hb; replace HB := uS hb; clear hb hbox hg; have hnb25 := NB101_102.out; have hnc25 := NB102_101.out; obtain ⟨hcz26_0, hcz26_1, hfz26_0, hfz26_1⟩ := uZ2 BK101) | ((with_reducible refine gate_callee (f := 45) rfl ?_); refine uGo (some 9) Tryz.func45 #[.agg #[.int .i64 a0_0, .int .i64 a0_1]] ?_; (with_reducible refine (impl_isHiddenStreet.calls a0_0 a0_1 true _ A4.out).mono ?_); rintro e w27 ⟨rfl, hb⟩; refine ⟨_, rfl, ?_⟩; replace BK101 := uB BK101 hb; replace BK102 := uB BK102 hb; replace HB := uS hb; (try clear hb); obtain ⟨hcz28_0, hcz28_1, hcz28_2, hfz28_0, hfz28_1, hfz28_2⟩ := uZ3 BK102) | (go_at_call 48; (with_reducible refine (impl_isClue.calls a1_0 a1_1 a1_2 true _ A6.out).mono ?_); rintro e w29 ⟨rfl, hb⟩; replace BK101 := uB BK101 hb; replace BK102 := uB BK102 hb; replace HB := uS hb; (try clear hb); obtain ⟨hcz30_0, hcz30_1, hfz30_0, hfz30_1⟩ := uZ2 BK101) | (go_at_call 51; (with_reducible refine (impl_isHouse.calls a0_0 a0_1 a2 false _ A8.out).mono ?_); rintro e w31 ⟨rfl, hb⟩; replace BK101 := uB BK101 hb; replace BK102 := uB BK102 hb; replace HB := uS hb; (try clear hb)))
    go_ret2
    exact ⟨uA, by exact uW⟩
  ·replace c7 := Bool.eq_false_iff.mpr c7
   subst c7
   rw [if_neg (show ¬ (false = true) by decide)] at H
   simp only [Option.some.injEq, Prod.mk.injEq] at H
   obtain ⟨rfl, rfl⟩ := H
   go_enter Tryz.func29, Tryz.ntmps29
   go_wp2_with (first | ((with_reducible refine gate_dst (N := 3) rfl ?_); refine uX (N := 3) (cs := #[.int .i64 a0_0, .int .i64 a0_1]) (t := 25) ?_; intro gb101 hg w32 hbox hb; have BK101 := am (hbox); have GW101 := uE hg; have GE101 := GW101; replace HB := uS hb; clear hb hbox hg) | ((with_reducible refine gate_dst (N := 4) rfl ?_); refine uX (N := 4) (cs := #[.int .i64 a1_0, .int .i64 a1_1, .int .i64 a1_2]) (t := 46) ?_; intro gb102 hg w33 hbox hb; have BK102 := am (hbox); have GW102 := uE hg; have GE102 := GW102; have NB101_102 := uL BK101 hg; have NB102_101 := uY NB101_102; replace BK101 := uB BK101 hb; replace HB := uS hb; clear hb hbox hg; have hnb34 := NB101_102.out; have hnc34 := NB102_101.out; obtain ⟨hcz35_0, hcz35_1, hfz35_0, hfz35_1⟩ := uZ2 BK101) | ((with_reducible refine gate_callee (f := 45) rfl ?_); refine uGo (some 9) Tryz.func45 #[.agg #[.int .i64 a0_0, .int .i64 a0_1]] ?_; (with_reducible refine (impl_isHiddenStreet.calls a0_0 a0_1 true _ A4.out).mono ?_); rintro e w36 ⟨rfl, hb⟩; refine ⟨_, rfl, ?_⟩; replace BK101 := uB BK101 hb; replace BK102 := uB BK102 hb; replace HB := uS hb; (try clear hb); obtain ⟨hcz37_0, hcz37_1, hcz37_2, hfz37_0, hfz37_1, hfz37_2⟩ := uZ3 BK102) | (go_at_call 48; (with_reducible refine (impl_isClue.calls a1_0 a1_1 a1_2 false _ A6.out).mono ?_); rintro e w38 ⟨rfl, hb⟩; replace BK101 := uB BK101 hb; replace BK102 := uB BK102 hb; replace HB := uS hb; (try clear hb)))
   go_ret2
   exact ⟨uA, by exact uW⟩
 ·replace c5 := Bool.eq_false_iff.mpr c5
  subst c5
  rw [if_neg (show ¬ (false = true) by decide)] at H
  simp only [Option.some.injEq, Prod.mk.injEq] at H
  obtain ⟨rfl, rfl⟩ := H
  go_enter Tryz.func29, Tryz.ntmps29
  go_wp2_with (first | ((with_reducible refine gate_dst (N := 3) rfl ?_); refine uX (N := 3) (cs := #[.int .i64 a0_0, .int .i64 a0_1]) (t := 25) ?_; intro gb101 hg w39 hbox hb; have BK101 := am (hbox); have GW101 := uE hg; have GE101 := GW101; replace HB := uS hb; clear hb hbox hg) | ((with_reducible refine gate_dst (N := 4) rfl ?_); refine uX (N := 4) (cs := #[.int .i64 a1_0, .int .i64 a1_1, .int .i64 a1_2]) (t := 46) ?_; intro gb102 hg w40 hbox hb; have BK102 := am (hbox); have GW102 := uE hg; have GE102 := GW102; have NB101_102 := uL BK101 hg; have NB102_101 := uY NB101_102; replace BK101 := uB BK101 hb; replace HB := uS hb; clear hb hbox hg; have hnb41 := NB101_102.out; have hnc41 := NB102_101.out; obtain ⟨hcz42_0, hcz42_1, hfz42_0, hfz42_1⟩ := uZ2 BK101) | ((with_reducible refine gate_callee (f := 45) rfl ?_); refine uGo (some 9) Tryz.func45 #[.agg #[.int .i64 a0_0, .int .i64 a0_1]] ?_; (with_reducible refine (impl_isHiddenStreet.calls a0_0 a0_1 false _ A4.out).mono ?_); rintro e w43 ⟨rfl, hb⟩; refine ⟨_, rfl, ?_⟩; replace BK101 := uB BK101 hb; replace BK102 := uB BK102 hb; replace HB := uS hb; (try clear hb)))
  go_ret2
  exact ⟨uA, by exact uW⟩
def impl_DropClue.f (a0_0 : Int) (a0_1 : Int) (l0_2 : List (S46)) (a1 : Int) : Option (Int × Int × (List (S46)) × Bool) := (impl_IsPuzzle.f a0_0 a0_1 l0_2).bind fun t103 => (if t103 = true then ((impl_within.f a1 0 (wrap64 ((l0_2.length : Int) - 1))).bind fun t104 => (if t104 = true then ((impl_withoutClue.f l0_2 a1).bind fun t105 => (some (a0_0, a0_1, t105, true))) else (some (0, 0, ([] : List (S46)), false)))) else (some (0, 0, ([] : List (S46)), false)))
def impl_DropClue.T3 : Bool × List (List Nat × List Nat) := (true, [([], []), ([0], [0]), ([], []), ([2], [2]), ([], []), ([3, 4], [3, 4]), ([1, 5], [1, 5]), ([6, 5, 0, 1, 2, 3, 4, 5, 6], [6]), ([7, 0, 1, 2, 3, 4, 5, 6, 7], [])])
def impl_DropClue.B3 : List Nat := [0, 1, 0, 4, 0, 28, 63, 127, 255]
theorem impl_DropClue.tab3 : rtab .any (opsOf Tryz.f30 3) = impl_DropClue.T3 := by kernel_rfl
theorem impl_DropClue.bits3 : waitsOk impl_DropClue.T3.2 impl_DropClue.B3 = true := by kernel_rfl
theorem impl_DropClue.calls (a0_0 : Int) (a0_1 : Int) (A0_2 : Option Addr) (c0_2 : Nat) (l0_2 : List (S46)) (a1 : Int) (r1 : Int) (r2 : Int) (r3 : List (S46)) (r4 : Bool) (w : World) (hr0_2 : Kd.C k46 w A0_2 l0_2.length l0_2) (hc0_2 : l0_2.length ≤ c0_2) (h : impl_DropClue.f a0_0 a0_1 l0_2 a1 = some (r1, r2, r3, r4)) :
  Calls Tryz.prog 30 #[.agg #[.int .i64 a0_0, .int .i64 a0_1, .slice A0_2 l0_2.length c0_2], .int .i64 a1] w fun e w' => ∃ v2_ : Value, e = .returned (.tuple #[.agg #[.int .i64 r1, .int .i64 r2, v2_], .bool r4]) ∧ Kd.R k46 46 w' w.heap.size (fun _ => True) v2_ r3 ∧ Below w.heap.size w w' := by
 have hu28 := Tryz.underlying28
 have hu25 := Tryz.underlying25
 have HR0_2 := am hr0_2
 have HC0_2 := am hc0_2
 clear hr0_2 hc0_2
 have HB := am (Below.refl w.heap.size w)
 have H := h
 clear h
 unfold impl_DropClue.f at H
 obtain ⟨t103, A30, H⟩ := bH H
 have A3 := am A30
 clear A30
 by_cases c4 : t103 = true
 ·subst c4
  rw [if_pos rfl] at H
  obtain ⟨t104, A50, H⟩ := bH H
  have A5 := am A50
  clear A50
  by_cases c6 : t104 = true
  ·subst c6
   rw [if_pos rfl] at H
   obtain ⟨t105, A70, H⟩ := bH H
   have A7 := am A70
   clear A70
   simp only [Option.some.injEq, Prod.mk.injEq] at H
   obtain ⟨rfl, rfl, rfl, rfl⟩ := H
   go_enter Tryz.func30, Tryz.ntmps30
   try go_wp2_with (first | ((with_reducible refine gate_dst (N := 2) rfl ?_); (try (refine gate_guard (by rfl) ?_; dsimp only)); refine uX (N := 2) (cs := #[.int .i64 a0_0, .int .i64 a0_1, .slice A0_2 l0_2.length c0_2]) (t := 28) ?_; intro gb101 hg w8 hbox hb; have BK101 := am (hbox); have GW101 := uE hg; have GE101 := GW101; replace HB := uS hb; clear hb hbox hg) | ((with_reducible refine gate_dst (N := 4) rfl ?_); (try (refine gate_guard (by rfl) ?_; dsimp only)); refine uX (N := 4) (cs := #[.int .i64 0, .int .i64 0, .slice none 0 0]) (t := 28) ?_; intro gb102 hg w9 hbox hb; have BK102 := am (hbox); have GW102 := uE hg; have GE102 := GW102; have NB101_102 := uL BK101 hg; have NB102_101 := uY NB101_102; replace BK101 := uB BK101 hb; replace HB := uS hb; clear hb hbox hg; have hnb10 := NB101_102.out; have hnc10 := NB102_101.out; obtain ⟨hcz11_0, hcz11_1, hcz11_2, hfz11_0, hfz11_1, hfz11_2⟩ := uZ3 BK101) | ((with_reducible refine gate_callee (f := 25) rfl ?_); refine uGo (some 7) Tryz.func25 #[.agg #[.int .i64 a0_0, .int .i64 a0_1, .slice A0_2 l0_2.length c0_2]] ?_; (with_reducible refine (impl_IsPuzzle.calls a0_0 a0_1 _ _ l0_2 true _ ?side1 ?side2 A3.out).mono ?_); (case side1 => repeat (exact (Kd.C_below HR0_2.out HB.out))); (case side2 => exact HC0_2.out); rintro e w12 ⟨rfl, hb⟩; refine ⟨_, rfl, ?_⟩; replace BK101 := uB BK101 hb; replace BK102 := uB BK102 hb; replace HB := uS hb; (try clear hb); obtain ⟨hcz13_0, hcz13_1, hcz13_2, hfz13_0, hfz13_1, hfz13_2⟩ := uZ3 BK101) | (go_at_call 53; (with_reducible refine (impl_within.calls a1 0 (wrap64 ((l0_2.length : Int) - 1)) true _ A5.out).mono ?_); rintro e w' ⟨rfl, ⟨nd, rfl⟩⟩; (try (rw [drewN_self w12]; generalize hq_ : World.drewN w12 _ = w12; have n0_ : Aside0 (w12.heap[gb101]? = some (.cells #[.int .i64 a0_0, .int .i64 a0_1, .slice A0_2 l0_2.length c0_2] 28 (0, 0))) := ⟨by rw [← hq_]; exact (uP BK101)⟩; have n1_ : Aside0 (w12.heap[gb102]? = some (.cells #[.int .i64 0, .int .i64 0, .slice none 0 0] 28 (0, 0))) := ⟨by rw [← hq_]; exact (uP BK102)⟩; have n2_ : Aside0 (Below w.heap.size w w12) := ⟨by rw [← hq_]; exact uW⟩; clear BK101 BK102 HB hq_; have BK101 := n0_; have BK102 := n1_; have HB := n2_; clear n0_ n1_ n2_))))
   replace BK101 := am (blk_drew BK101.out)
   replace BK102 := am (blk_drew BK102.out)
   replace HB := am (below_drew1 HB.out)
   refine start_ (n := 9) (S := fun w' => w'.cell? ⟨gb101, 0, none⟩ = some (.int .i64 a0_0) ∧ w'.cell? ⟨gb101, 1, none⟩ = some (.int .i64 a0_1) ∧ w'.cell? ⟨gb101, 2, none⟩ = some (.slice A0_2 l0_2.length c0_2)) (ds := []) #[false, false, false, false, false, false, false, false, false] (by kernel_rfl) rfl rfl ⟨uT BK101 0, uT BK101 1, uT BK101 2⟩ (fun hHeld => ?_); refine with_tabW impl_DropClue.tab3 impl_DropClue.bits3 (fun HT_ HW_ => ?_)
   generalize w12.drew = w14 at BK101 BK102 HB hHeld ⊢
   refine uPu (i := 0) (N := some 19) #[true, false, false, false, false, false, false, false, false] ?_
   refine uPu (i := 2) (N := some 21) #[true, false, true, false, false, false, false, false, false] ?_
   refine uPu (i := 4) (N := some 23) #[true, false, true, false, true, false, false, false, false] ?_
   refine uTk (i := 1) (N := some 20) #[true, true, true, false, true, false, false, false, false] hHeld ?_
   refine uTk (i := 3) (N := some 22) #[true, true, true, true, true, false, false, false, false] hHeld ?_
   refine uOn (i := 5) (N := some 24) #[true, true, true, true, true, true, false, false, false] (fun K hK => ?_)
   refine uGs Tryz.func41 #[.slice A0_2 l0_2.length c0_2, .int .i64 a1] ?_
   with_reducible refine (impl_withoutClue.calls _ _ l0_2 a1 t105 _ ?side1 ?side2 A7.out).mono ?_
   (case side1 => repeat (exact (Kd.C_below HR0_2.out HB.out)))
   (case side2 => exact HC0_2.out)
   rintro e w15 ⟨v106, rfl, ho0, hb⟩
   refine ⟨_, rfl, ?_⟩
   have HO107 := am (Kd.R_lower ho0 (below_size uW))
   replace BK101 := uB BK101 hb
   replace BK102 := uB BK102 hb
   replace HB := uS hb
   (try clear hb)
   (skip)
   (skip)
   (skip)
   (try clear ho0)
   obtain ⟨Ao16, co16, eo16⟩ := Kd.R_slice HO107.out
   (subst eo16)
   refine hK.out _ _ ⟨uT BK101 0, uT BK101 1, uT BK101 2⟩ (fun hHeld => ?_)
   clear hK K
   refine uNo (some 24) ?_
   refine uPu (i := 6) (N := some 25) #[true, true, true, true, true, true, true, false, false] ?_
   refine uOn (i := 7) (N := none) #[true, true, true, true, true, true, true, true, false] (fun K hK => ?_)
   have hs17 : w15.cell? ⟨gb102, 0, none⟩ = some (.int .i64 0) := uT BK102 0
   have hfs17 := blk_frozen BK102.out 0
   have hns17_0 := NB101_102.out
   have hms17_0 := NB102_101.out
   have hs18 : w15.cell? ⟨gb102, 1, none⟩ = some (.int .i64 0) := uT BK102 1
   have hfs18 := blk_frozen BK102.out 1
   have hns18_0 := NB101_102.out
   have hms18_0 := NB102_101.out
   have hs19 : w15.cell? ⟨gb102, 2, none⟩ = some (.slice none 0 0) := uT BK102 2
   have hfs19 := blk_frozen BK102.out 2
   have hns19_0 := NB101_102.out
   have hms19_0 := NB102_101.out
   refine skip_ (w1 := ?_) (by rfl) rfl ?_ ?_
   rotate_left
   ·go_simp
    rfl
   refine hK.out _ _ ⟨((cell_far (p := ⟨gb102, _, none⟩) NB101_102.out _).trans (((cell_far (p := ⟨gb102, _, none⟩) NB101_102.out _).trans (((cell_far (p := ⟨gb102, _, none⟩) NB101_102.out _).trans (hHeld.1)))))), ((cell_far (p := ⟨gb102, _, none⟩) NB101_102.out _).trans (((cell_far (p := ⟨gb102, _, none⟩) NB101_102.out _).trans (((cell_far (p := ⟨gb102, _, none⟩) NB101_102.out _).trans (hHeld.2.1)))))), ((cell_far (p := ⟨gb102, _, none⟩) NB101_102.out _).trans (((cell_far (p := ⟨gb102, _, none⟩) NB101_102.out _).trans (((cell_far (p := ⟨gb102, _, none⟩) NB101_102.out _).trans (hHeld.2.2))))))⟩ (fun hHeld => ?_)
   clear hK K
   refine uPu (i := 8) (N := some 5) #[true, true, true, true, true, true, true, true, true] ?_
   refine done_ (done_of HT_.out (by kernel_rfl)) ?_
   try go_wp2
   refine bodyPost_ret (results_ct rfl _ _ gb102 28 #[.int .i64 a0_0, .int .i64 a0_1, .slice Ao16 t105.length co16] (0, 0) _ rfl (by refine blk_put (cs := #[.int .i64 a0_0, .int .i64 a0_1, .slice none 0 0]) ?_ 2 _ rfl; refine blk_put (cs := #[.int .i64 a0_0, .int .i64 0, .slice none 0 0]) ?_ 1 _ rfl; refine blk_put (cs := #[.int .i64 0, .int .i64 0, .slice none 0 0]) ?_ 0 _ rfl; exact (uP BK102)) Tryz.underlying28 rfl (by kernel_rfl)) rfl ?_
   exact ⟨_, uA, by (with_reducible skip); exact Kd.R_mono (Kd.R_far (p := ⟨gb102, 2, none⟩) (Kd.R_far (p := ⟨gb102, 1, none⟩) (Kd.R_far (p := ⟨gb102, 0, none⟩) (Kd.R_types HO107.out BK102.out (by decide)) (fun _ hk => hk.2) (.int .i64 a0_0)) (fun _ hk => hk.2) (.int .i64 a0_1)) (fun _ hk => hk.2) (.slice Ao16 t105.length co16)) (fun _ hk => trivial), by exact uW⟩
  ·replace c6 := Bool.eq_false_iff.mpr c6
   subst c6
   rw [if_neg (show ¬ (false = true) by decide)] at H
   simp only [Option.some.injEq, Prod.mk.injEq] at H
   obtain ⟨rfl, rfl, rfl, rfl⟩ := H
   go_enter Tryz.func30, Tryz.ntmps30
   go_wp2_with (first | ((with_reducible refine gate_dst (N := 2) rfl ?_); (try (refine gate_guard (by rfl) ?_; dsimp only)); refine uX (N := 2) (cs := #[.int .i64 a0_0, .int .i64 a0_1, .slice A0_2 l0_2.length c0_2]) (t := 28) ?_; intro gb101 hg w20 hbox hb; have BK101 := am (hbox); have GW101 := uE hg; have GE101 := GW101; replace HB := uS hb; clear hb hbox hg) | ((with_reducible refine gate_dst (N := 4) rfl ?_); (try (refine gate_guard (by rfl) ?_; dsimp only)); refine uX (N := 4) (cs := #[.int .i64 0, .int .i64 0, .slice none 0 0]) (t := 28) ?_; intro gb102 hg w21 hbox hb; have BK102 := am (hbox); have GW102 := uE hg; have GE102 := GW102; have NB101_102 := uL BK101 hg; have NB102_101 := uY NB101_102; replace BK101 := uB BK101 hb; replace HB := uS hb; clear hb hbox hg; have hnb22 := NB101_102.out; have hnc22 := NB102_101.out; obtain ⟨hcz23_0, hcz23_1, hcz23_2, hfz23_0, hfz23_1, hfz23_2⟩ := uZ3 BK101) | ((with_reducible refine gate_callee (f := 25) rfl ?_); refine uGo (some 7) Tryz.func25 #[.agg #[.int .i64 a0_0, .int .i64 a0_1, .slice A0_2 l0_2.length c0_2]] ?_; (with_reducible refine (impl_IsPuzzle.calls a0_0 a0_1 _ _ l0_2 true _ ?side1 ?side2 A3.out).mono ?_); (case side1 => repeat (exact (Kd.C_below HR0_2.out HB.out))); (case side2 => exact HC0_2.out); rintro e w24 ⟨rfl, hb⟩; refine ⟨_, rfl, ?_⟩; replace BK101 := uB BK101 hb; replace BK102 := uB BK102 hb; replace HB := uS hb; (try clear hb); obtain ⟨hcz25_0, hcz25_1, hcz25_2, hfz25_0, hfz25_1, hfz25_2⟩ := uZ3 BK101) | (go_at_call 53; (with_reducible refine (impl_within.calls a1 0 (wrap64 ((l0_2.length : Int) - 1)) false _ A5.out).mono ?_); rintro e w' ⟨rfl, ⟨nd, rfl⟩⟩; (try (rw [drewN_self w24]; generalize hq_ : World.drewN w24 _ = w24; have n0_ : Aside0 (w24.heap[gb101]? = some (.cells #[.int .i64 a0_0, .int .i64 a0_1, .slice A0_2 l0_2.length c0_2] 28 (0, 0))) := ⟨by rw [← hq_]; exact (uP BK101)⟩; have n1_ : Aside0 (w24.heap[gb102]? = some (.cells #[.int .i64 0, .int .i64 0, .slice none 0 0] 28 (0, 0))) := ⟨by rw [← hq_]; exact (uP BK102)⟩; have n2_ : Aside0 (Below w.heap.size w w24) := ⟨by rw [← hq_]; exact uW⟩; clear BK101 BK102 HB hq_; have BK101 := n0_; have BK102 := n1_; have HB := n2_; clear n0_ n1_ n2_)); obtain ⟨hcz26_0, hcz26_1, hcz26_2, hfz26_0, hfz26_1, hfz26_2⟩ := uZ3 BK102))
   refine bodyPost_ret (results_ct rfl _ _ gb102 28 #[.int .i64 0, .int .i64 0, .slice none 0 0] (0, 0) _ rfl (by refine blk_put (cs := #[.int .i64 0, .int .i64 0, .slice none 0 0]) ?_ 2 _ rfl; refine blk_put (cs := #[.int .i64 0, .int .i64 0, .slice none 0 0]) ?_ 1 _ rfl; refine blk_put (cs := #[.int .i64 0, .int .i64 0, .slice none 0 0]) ?_ 0 _ rfl; exact (uP BK102)) Tryz.underlying28 rfl (by kernel_rfl)) rfl ?_
   exact ⟨_, uA, uN, by exact uW⟩
 ·replace c4 := Bool.eq_false_iff.mpr c4
  subst c4
  rw [if_neg (show ¬ (false = true) by decide)] at H
  simp only [Option.some.injEq, Prod.mk.injEq] at H
  obtain ⟨rfl, rfl, rfl, rfl⟩ := H
  go_enter Tryz.func30, Tryz.ntmps30
  go_wp2_with (first | ((with_reducible refine gate_dst (N := 2) rfl ?_); (try (refine gate_guard (by rfl) ?_; dsimp only)); refine uX (N := 2) (cs := #[.int .i64 a0_0, .int .i64 a0_1, .slice A0_2 l0_2.length c0_2]) (t := 28) ?_; intro gb101 hg w27 hbox hb; have BK101 := am (hbox); have GW101 := uE hg; have GE101 := GW101; replace HB := uS hb; clear hb hbox hg) | ((with_reducible refine gate_dst (N := 4) rfl ?_); (try (refine gate_guard (by rfl) ?_; dsimp only)); refine uX (N := 4) (cs := #[.int .i64 0, .int .i64 0, .slice none 0 0]) (t := 28) ?_; intro gb102 hg w28 hbox hb; have BK102 := am (hbox); have GW102 := uE hg; have GE102 := GW102; have NB101_102 := uL BK101 hg; have NB102_101 := uY NB101_102; replace BK101 := uB BK101 hb; replace HB := uS hb; clear hb hbox hg; have hnb29 := NB101_102.out; have hnc29 := NB102_101.out; obtain ⟨hcz30_0, hcz30_1, hcz30_2, hfz30_0, hfz30_1, hfz30_2⟩ := uZ3 BK101) | ((with_reducible refine gate_callee (f := 25) rfl ?_); refine uGo (some 7) Tryz.func25 #[.agg #[.int .i64 a0_0, .int .i64 a0_1, .slice A0_2 l0_2.length c0_2]] ?_; (with_reducible refine (impl_IsPuzzle.calls a0_0 a0_1 _ _ l0_2 false _ ?side1 ?side2 A3.out).mono ?_); (case side1 => repeat (exact (Kd.C_below HR0_2.out HB.out))); (case side2 => exact HC0_2.out); rintro e w31 ⟨rfl, hb⟩; refine ⟨_, rfl, ?_⟩; replace BK101 := uB BK101 hb; replace BK102 := uB BK102 hb; replace HB := uS hb; (try clear hb); obtain ⟨hcz32_0, hcz32_1, hcz32_2, hfz32_0, hfz32_1, hfz32_2⟩ := uZ3 BK102))
  refine bodyPost_ret (results_ct rfl _ _ gb102 28 #[.int .i64 0, .int .i64 0, .slice none 0 0] (0, 0) _ rfl (by refine blk_put (cs := #[.int .i64 0, .int .i64 0, .slice none 0 0]) ?_ 2 _ rfl; refine blk_put (cs := #[.int .i64 0, .int .i64 0, .slice none 0 0]) ?_ 1 _ rfl; refine blk_put (cs := #[.int .i64 0, .int .i64 0, .slice none 0 0]) ?_ 0 _ rfl; exact (uP BK102)) Tryz.underlying28 rfl (by kernel_rfl)) rfl ?_
  exact ⟨_, uA, uN, by exact uW⟩
def laws_aHas.l0 : Nat → Int → List Int → Int → Int → Option (Bool)
 | 0, _, _, _, _ => none
 | k + 1, x1, x7, x8, x9 => if x9 < x8 then (if 0 ≤ x9 then (if x9 < (x7.length : Int) then (if (rd x7 x9) = x1 then (some true) else (laws_aHas.l0 k x1 x7 x8 (wrap64 (x9 + 1)))) else (none)) else (none)) else (some false)
def laws_aHas.f (k : Nat) (l0 : List Int) (a1 : Int) : Option (Bool) := laws_aHas.l0 k a1 l0 (l0.length : Int) 0
theorem laws_aHas.calls (k : Nat) (A0 : Option Addr) (c0 : Nat) (l0 : List Int) (a1 : Int) (r : Bool) (w : World) (hr0 : Kd.C (Kd.int .i64) w A0 l0.length l0) (hc0 : l0.length ≤ c0) (h : laws_aHas.f k l0 a1 = some r) :
  Calls Tryz.prog 31 #[.slice A0 l0.length c0, .int .i64 a1] w fun e w' => e = .returned (.bool r) ∧ Drawn0 w w' := by
 have HR0 := am hr0
 have HC0 := am hc0
 clear hr0 hc0
 have H := h
 clear h
 unfold laws_aHas.f at H
 have H' := am H
 clear H
 go_enter Tryz.func31, Tryz.ntmps31
 go_wp2
 go_loopg [9] k (fun kq v9 w' => ∃ (x9_1 : Int), v9 = .int .i64 x9_1 ∧ Aside0 (laws_aHas.l0 kq a1 l0 (l0.length : Int) x9_1 = some r) ∧ Aside0 (kq ≤ k) ∧ Drawn0 w w')
 case atStart => exact ⟨(0), (by rfl), H', ⟨Nat.le_refl _⟩, by repeat (exact Drawn0.refl _)⟩
 case round =>
  clear H'
  obtain ⟨x9_1, rfl, HA, HK1, ⟨m1, rfl⟩⟩ := hrel
  cases gk with
  | zero => exact absurd HA.out (by simp [laws_aHas.l0])
  | succ k1 =>
   have H := HA.out
   clear HA
   simp only [laws_aHas.l0] at H
   by_cases c3 : x9_1 < (l0.length : Int)
   ·rw [if_pos c3] at H
    have c3b0 : decide (x9_1 < (l0.length : Int)) = true := decide_eq_true c3
    clear c3
    by_cases c4 : 0 ≤ x9_1
    ·rw [if_pos c4] at H
     have c4b0 : decide (0 ≤ x9_1) = true := decide_eq_true c4
     clear c4
     by_cases c5 : x9_1 < (l0.length : Int)
     ·rw [if_pos c5] at H
      have c5b0 : decide (x9_1 < (l0.length : Int)) = true := decide_eq_true c5
      clear c5
      by_cases c6 : (rd l0 x9_1) = a1
      ·rw [if_pos c6] at H
       have c6b0 : ((rd l0 x9_1) == a1) = true := beq_iff_eq.mpr c6
       have c6b1 : ((rd l0 x9_1) != a1) = false := bne_eq_false_iff_eq.mpr c6
       clear c6
       obtain rfl := Option.some.inj H
       have p101 : 0 ≤ (x9_1 : Int) := of_decide_eq_true (by (with_reducible assumption))
       have q101 : x9_1 < (l0.length : Int) := of_decide_eq_true (by (with_reducible assumption))
       obtain ⟨ad101, e101, hx101_0⟩ := Kd.at_int HR0.out x9_1 p101 q101
       cases e101
       replace p101 := eq_true p101
       replace q101 := eq_true q101
       go_wp2
       go_ret
       exact ⟨by rfl, by repeat (first | exact Drawn0.refl _ | apply Drawn0.step)⟩
      ·rw [if_neg c6] at H
       have c6b0 : ((rd l0 x9_1) == a1) = false := beq_eq_false_iff_ne.mpr c6
       have c6b1 : ((rd l0 x9_1) != a1) = true := bne_iff_ne.mpr c6
       have H' := am H
       clear H
       have p101 : 0 ≤ (x9_1 : Int) := of_decide_eq_true (by (with_reducible assumption))
       have q101 : x9_1 < (l0.length : Int) := of_decide_eq_true (by (with_reducible assumption))
       obtain ⟨ad101, e101, hx101_0⟩ := Kd.at_int HR0.out x9_1 p101 q101
       cases e101
       replace p101 := eq_true p101
       replace q101 := eq_true q101
       go_wp2
       go_roundg k1
       case measure => have := HK1.out; omega
       case rel => exact ⟨(wrap64 (x9_1 + 1)), (by rfl), H', ⟨by have := HK1.out; omega⟩, by repeat (first | exact Drawn0.refl _ | apply Drawn0.step)⟩
     ·rw [if_neg c5] at H
      exact absurd H (by simp)
    ·rw [if_neg c4] at H
     exact absurd H (by simp)
   ·rw [if_neg c3] at H
    have c3b0 : decide (x9_1 < (l0.length : Int)) = false := decide_eq_false c3
    clear c3
    obtain rfl := Option.some.inj H
    go_wp2
    go_ret
    exact ⟨by rfl, by repeat (first | exact Drawn0.refl _ | apply Drawn0.step)⟩
def strings_Join.f (l0 : List ByteArray) (a1 : ByteArray) : Option (ByteArray) := if (Lib.join (l0.map (·.data.toList)) a1.data.toList).length ≤ 140737488355328 then (if l0.length ≤ 140737488355328 then some ⟨(Lib.join (l0.map (·.data.toList)) a1.data.toList).toArray⟩ else none) else none
theorem strings_Join.calls (A0 : Option Addr) (c0 : Nat) (l0 : List ByteArray) (a1 : ByteArray) (r : ByteArray) (w : World) (hr0 : Kd.C Kd.string w A0 l0.length l0) (hc0 : l0.length ≤ c0) (h : strings_Join.f l0 a1 = some r) :
  Calls Tryz.prog 72 #[.slice A0 l0.length c0, .string a1] w fun e w' => e = .returned (.string r) ∧ Below w.heap.size w w' := by
 unfold strings_Join.f at h
 by_cases c1 : (Lib.join (l0.map (·.data.toList)) a1.data.toList).length ≤ 140737488355328
 ·rw [if_pos c1] at h
  by_cases c2 : l0.length ≤ 140737488355328
  ·rw [if_pos c2] at h
   obtain rfl := Option.some.inj h
   rcases l0 with _ | ⟨x, xs⟩
   ·refine (Tryz.strings_Join_none A0 c0 a1 w).mono ?_
    rintro e w' ⟨rfl, rfl⟩
    exact ⟨rfl, Below.refl _ _⟩
   ·obtain ⟨⟨bk, o, sp⟩, rfl, hcell⟩ := hr0.2.2 (by simp)
    have h0 : w.cell? ⟨bk, o, sp⟩ = some (.string x) := by
     obtain ⟨c, hc1, hc2, hc3⟩ := hcell 0 x rfl
     have hc2 : c = [.string x] := hc2
     have := hc3 0 (.string x) (by rw [hc2]; rfl)
     simpa [Addr.add] using this
    have hsp : sp = none := by
     unfold World.cell? at h0
     split at h0
     ·cases sp with
      | none => rfl
      | some q => simp at h0
     ·cases h0
    subst hsp
    refine (Tryz.strings_Join bk o c0 (x :: xs) a1 w (fun j y hj => ?_) (World.block_lt_of_cell? w _ h0) c2 hc0 c1).mono ?_
    ·obtain ⟨c, hc1, hc2, hc3⟩ := hcell j y hj
     have hc2 : c = [.string y] := hc2
     have := hc3 0 (.string y) (by rw [hc2]; rfl)
     have hsz : (Kd.string).sz = 1 := rfl
     rw [hsz] at this
     by_cases hj0 : j = 0
     ·subst hj0
      simpa [Addr.add] using this
     ·simpa [Addr.add, hj0] using this
    ·rintro e w' ⟨rfl, hb⟩
     exact ⟨rfl, hb⟩
  ·rw [if_neg c2] at h
   cases h
 ·rw [if_neg c1] at h
  cases h
def impl_joinNumbers.l0 : Nat → ByteArray → List ByteArray → List Int → Int → Int → Option (ByteArray)
 | 0, _, _, _, _, _ => none
 | k + 1, x1, x5, x11, x12, x13 => if x13 < x12 then (if 0 ≤ x13 then (if x13 < (x11.length : Int) then ((strconv_Itoa.f (rd x11 x13)).bind fun t105 => (if x13 < (x5.length : Int) then (impl_joinNumbers.l0 k x1 (x5.set (x13 : Int).toNat t105) x11 x12 (wrap64 (x13 + 1))) else (none))) else (none)) else (none)) else ((strings_Join.f x5 x1).bind fun t107 => (some t107))
def impl_joinNumbers.f (k : Nat) (l0 : List Int) (a1 : ByteArray) : Option (ByteArray) := if 0 ≤ (l0.length : Int) then (if ((l0.length : Int) : Int).toNat ≤ 17592186044416 then (impl_joinNumbers.l0 k a1 (List.replicate ((l0.length : Int) : Int).toNat (⟨#[]⟩ : ByteArray)) l0 (l0.length : Int) 0) else (none)) else (none)
theorem impl_joinNumbers.calls (k : Nat) (A0 : Option Addr) (c0 : Nat) (l0 : List Int) (a1 : ByteArray) (r : ByteArray) (w : World) (hr0 : Kd.C (Kd.int .i64) w A0 l0.length l0) (hc0 : l0.length ≤ c0) (hT : Tb w) (h : impl_joinNumbers.f k l0 a1 = some r) :
  Calls Tryz.prog 70 #[.slice A0 l0.length c0, .string a1] w fun e w' => e = .returned (.string r) ∧ Below w.heap.size w w' := by
 have HT0 := am hT
 clear hT
 have HR0 := am hr0
 have HC0 := am hc0
 clear hr0 hc0
 have HB := am (Below.refl w.heap.size w)
 have H := h
 clear h
 unfold impl_joinNumbers.f at H
 by_cases c3 : 0 ≤ (l0.length : Int)
 ·rw [if_pos c3] at H
  have c3b0 := eq_true c3
  have c3b1 : decide (0 ≤ (l0.length : Int)) = true := decide_eq_true c3
  clear c3
  by_cases c4 : ((l0.length : Int) : Int).toNat ≤ 17592186044416
  ·rw [if_pos c4] at H
   have c4b0 := eq_true c4
   have c4b1 : decide (((l0.length : Int) : Int).toNat ≤ 17592186044416) = true := decide_eq_true c4
   clear c4
   obtain ⟨y101, hy101⟩ : ∃ y_ : List ByteArray, y_ = (List.replicate ((l0.length : Int) : Int).toNat (⟨#[]⟩ : ByteArray)) := ⟨_, rfl⟩
   replace H : (impl_joinNumbers.l0 k a1 y101 l0 (l0.length : Int) 0) = some r := by (rw [hy101]; with_reducible exact H)
   have Ny101 := am hy101
   clear hy101
   have H' := am H
   clear H
   go_enter Tryz.func70, Tryz.ntmps70
   go_wp2_with (((with_reducible refine gate_dst (N := 10) rfl ?_); refine Kd.R_make Kd.string _ 9 rfl (N := 10) rfl 69 _ _ rfl (l0.length : Int) rfl rfl Tryz.underlying69 (.string ⟨#[]⟩) 16 info9 rfl (by decide) (by omega) (⟨#[]⟩ : ByteArray) (ok := fun _ => True) (okp := fun _ => True) rfl (fun _ hk => hk) trivial (of_decide_eq_true (by (with_reducible assumption))) (Nat.le_trans (Nat.mul_le_mul_right _ (of_decide_eq_true (by (with_reducible assumption)) : (l0.length : Int).toNat ≤ 17592186044416)) (by omega)) (Below.refl _ _) (Nat.le_refl _) ?_; intro v102 w5 ho6 hb hg_ hnew_; clear hg_ hnew_; (rw [← Ny101.out] at ho6); have HO103 := am (Kd.R_lower ho6 (below_size uW)); replace HB := uS hb; clear hb ho6))
   go_loopg [13] k (fun kq v13 w' => ∃ (x5_1 : List ByteArray) (x13_1 : Int), v13 = .int .i64 x13_1 ∧ Aside0 (impl_joinNumbers.l0 kq a1 x5_1 l0 (l0.length : Int) x13_1 = some r) ∧ Aside0 (kq ≤ k) ∧ Aside0 (Kd.R Kd.string 9 w' w.heap.size (fun _ => True) v102 x5_1) ∧ Aside0 (Below w.heap.size w w'))
   case atStart => exact ⟨(y101), (0), (by rfl), H', ⟨Nat.le_refl _⟩, ⟨by (with_reducible skip); exact HO103.out⟩, ⟨by exact uW⟩⟩
   case round =>
    clear H'
    try clear c3b0
    try clear c3b1
    try clear c4b0
    try clear c4b1
    obtain ⟨x5_1, x13_1, rfl, HA, HK1, HO_5, HB⟩ := hrel
    cases gk with
    | zero => exact absurd HA.out (by simp [impl_joinNumbers.l0])
    | succ k1 =>
     have H := HA.out
     clear HA
     simp only [impl_joinNumbers.l0] at H
     by_cases c7 : x13_1 < (l0.length : Int)
     ·rw [if_pos c7] at H
      have c7b0 : decide (x13_1 < (l0.length : Int)) = true := decide_eq_true c7
      clear c7
      by_cases c8 : 0 ≤ x13_1
      ·rw [if_pos c8] at H
       have c8b0 : decide (0 ≤ x13_1) = true := decide_eq_true c8
       clear c8
       by_cases c9 : x13_1 < (l0.length : Int)
       ·rw [if_pos c9] at H
        have c9b0 : decide (x13_1 < (l0.length : Int)) = true := decide_eq_true c9
        clear c9
        obtain ⟨t105, A100, H⟩ := bH H
        have A10 := am A100
        clear A100
        by_cases c11 : x13_1 < (x5_1.length : Int)
        ·rw [if_pos c11] at H
         have c11b0 : decide (x13_1 < (x5_1.length : Int)) = true := decide_eq_true c11
         clear c11
         obtain ⟨y106, hy106⟩ : ∃ y_ : List ByteArray, y_ = (x5_1.set (x13_1 : Int).toNat t105) := ⟨_, rfl⟩
         replace H : (impl_joinNumbers.l0 k1 a1 y106 l0 (l0.length : Int) (wrap64 (x13_1 + 1))) = some r := by (rw [hy106]; with_reducible exact H)
         have Ny106 := am hy106
         clear hy106
         have H' := am H
         clear H
         have p104 : 0 ≤ (x13_1 : Int) := of_decide_eq_true (by (with_reducible assumption))
         have q104 : x13_1 < (l0.length : Int) := of_decide_eq_true (by (with_reducible assumption))
         obtain ⟨ad104, e104, hx104_0⟩ := Kd.at_int HR0.out x13_1 p104 q104
         cases e104
         try replace hx104_0 := (HB.out.cell (World.block_lt_of_cell? w _ hx104_0)).trans hx104_0
         replace p104 := eq_true p104
         replace q104 := eq_true q104
         go_wp2_with (first | ((with_reducible refine gate_callee (f := 92) rfl ?_); refine uGo (some 21) Tryz.func92 #[.int .i64 (rd l0 x13_1)] ?_; (with_reducible refine (strconv_Itoa.calls (rd l0 x13_1) t105 _ ?side1 A10.out).mono ?_); (case side1 => exact Tb.below HT0.out uW); rintro e w13 ⟨rfl, hb⟩; refine ⟨_, rfl, ?_⟩; replace HO_5 := am (Kd.R_below (uR HO_5) hb); replace HB := uS hb; (try clear hb); have p12 : 0 ≤ (x13_1 : Int) := of_decide_eq_true (by (with_reducible assumption)); have q12 : (x13_1 : Int) < ((x5_1.length : Int) : Int) := of_decide_eq_true (by (with_reducible assumption)); obtain ⟨go12, co12, eo12, gb12, gl12, cl12, HG12⟩ := Kd.R_form HO_5.out (by omega); (cases eo12); have GB12 := am gb12; have GG12 := am HG12; clear gb12 gl12 HG12; obtain ⟨hx12_0, hf12_0⟩ := Kd.R_celln (⟨#[]⟩ : ByteArray) HO_5.out (x13_1 : Int) p12 q12; replace p12 := eq_true p12; replace q12 := eq_true q12; obtain ⟨hy14_, hz14_⟩ := Kd.R_celln (⟨#[]⟩ : ByteArray) HO_5.out (x13_1 : Int) (of_decide_eq_true (by (with_reducible assumption))) (of_decide_eq_true (by (with_reducible assumption))); have HP14 := Kd.R_putg HO_5.out (x13_1 : Int) t105) | ((with_reducible refine gate_store (t := 9) (p := 22) rfl ?_); refine store_event (t := 9) (p := 22) (v := ?vo_w15) (w1 := (w13.setCell ⟨go12, (x13_1 : Int).toNat, none⟩ (.string t105))) ?hg ?ho ?hn ?hr ?_; (case ho => rfl); (case hg => rfl); (case hn => rfl); (case hr => (go_simp; done)); intro w15 hw; have hg : w13.grownBy w15 (some go12) := (by rw [hw]; exact HP14.2); have hp_ : Kd.R Kd.string 9 w15 w.heap.size (fun _ => True) (.slice (some ⟨go12, 0, none⟩) x5_1.length co12) y106 := (by rw [hw, Ny106.out]; exact HP14.1); clear HP14; replace HO_5 := am (hp_); replace HB := am ((by rw [hw]; exact below_set (HB.out) GB12.out : Below w.heap.size w w15)); clear hg hw hp_))
         go_roundg k1
         case measure => have := HK1.out; omega
         case rel => exact ⟨(y106), (wrap64 (x13_1 + 1)), (by rfl), H', ⟨by have := HK1.out; omega⟩, ⟨by (with_reducible skip); exact HO_5.out⟩, ⟨by exact uW⟩⟩
        ·rw [if_neg c11] at H
         exact absurd H (by simp)
       ·rw [if_neg c9] at H
        exact absurd H (by simp)
      ·rw [if_neg c8] at H
       exact absurd H (by simp)
     ·rw [if_neg c7] at H
      have c7b0 : decide (x13_1 < (l0.length : Int)) = false := decide_eq_false c7
      clear c7
      obtain ⟨t107, A160, H⟩ := bH H
      have A16 := am A160
      clear A160
      obtain rfl := Option.some.inj H
      obtain ⟨Ao17, co17, eo17⟩ := Kd.R_slice HO_5.out
      subst eo17
      go_wp2_with (((with_reducible refine gate_callee (f := 72) rfl ?_); refine uGo (some 26) Tryz.func72 #[.slice Ao17 x5_1.length co17, .string a1] ?_; (with_reducible refine (strings_Join.calls _ _ x5_1 a1 t107 _ ?side1 ?side2 A16.out).mono ?_); (case side1 => repeat (exact (Kd.R_reads' HO_5.out).2.2)); (case side2 => exact (Kd.R_reads' HO_5.out).2.1); rintro e w18 ⟨rfl, hb⟩; refine ⟨_, rfl, ?_⟩; replace HO_5 := am (Kd.R_below (uR HO_5) hb); replace HB := uS hb; (try clear hb)))
      go_ret
      exact ⟨uA, by exact uW⟩
  ·rw [if_neg c4] at H
   exact absurd H (by simp)
 ·rw [if_neg c3] at H
  exact absurd H (by simp)
def impl_StreetText.f (a0_0 : Int) (a0_1 : Int) : Option (ByteArray × Bool) := (impl_IsStreet.f a0_0 a0_1).bind fun t102 => (if t102 = true then (if 0 ≤ a0_0 then (if a0_0 ≤ (wrap64 (a0_0 + 1)) then (if (wrap64 (a0_0 + 1)) ≤ 3 then ((strconv_Itoa.f a0_1).bind fun t103 => (if ((⟨#[114, 111, 117]⟩ : ByteArray).extract (a0_0 : Int).toNat ((wrap64 (a0_0 + 1)) : Int).toNat).size + t103.size ≤ 9223372036854775807 then (some (((⟨#[114, 111, 117]⟩ : ByteArray).extract (a0_0 : Int).toNat ((wrap64 (a0_0 + 1)) : Int).toNat) ++ t103, true)) else (none))) else (none)) else (none)) else (none)) else (some ((⟨#[]⟩ : ByteArray), false)))
def impl_StreetText.T3 : Bool × List (List Nat × List Nat) := (true, [([], []), ([0], [0]), ([], []), ([2], [2]), ([3], [3]), ([1, 4], [1, 4]), ([], []), ([6], [6]), ([7], [7]), ([5, 8], [5, 8]), ([9, 8, 0, 1, 2, 3, 4, 5, 6, 7, 8, 9], [9]), ([10, 0, 1, 2, 3, 4, 5, 6, 7, 8, 9, 10], [])])
def impl_StreetText.B3 : List Nat := [0, 1, 0, 4, 12, 31, 0, 64, 192, 511, 1023, 2047]
theorem impl_StreetText.tab3 : rtab .any (opsOf Tryz.f71 3) = impl_StreetText.T3 := by kernel_rfl
theorem impl_StreetText.bits3 : waitsOk impl_StreetText.T3.2 impl_StreetText.B3 = true := by kernel_rfl
theorem impl_StreetText.calls (a0_0 : Int) (a0_1 : Int) (r1 : ByteArray) (r2 : Bool) (w : World) (hT : Tb w) (h : impl_StreetText.f a0_0 a0_1 = some (r1, r2)) :
  Calls Tryz.prog 71 #[.agg #[.int .i64 a0_0, .int .i64 a0_1]] w fun e w' => e = .returned (.tuple #[.string r1, .bool r2]) ∧ Below w.heap.size w w' := by
 have hu25 := Tryz.underlying25
 have HT0 := am hT
 clear hT
 have HB := am (Below.refl w.heap.size w)
 have H := h
 clear h
 unfold impl_StreetText.f at H
 obtain ⟨t102, A20, H⟩ := bH H
 have A2 := am A20
 clear A20
 by_cases c3 : t102 = true
 ·subst c3
  rw [if_pos rfl] at H
  by_cases c4 : 0 ≤ a0_0
  ·rw [if_pos c4] at H
   have c4b0 := eq_true c4
   have c4b1 : decide (0 ≤ a0_0) = true := decide_eq_true c4
   clear c4
   by_cases c5 : a0_0 ≤ (wrap64 (a0_0 + 1))
   ·rw [if_pos c5] at H
    have c5b0 := eq_true c5
    have c5b1 : decide (a0_0 ≤ (wrap64 (a0_0 + 1))) = true := decide_eq_true c5
    by_cases c6 : (wrap64 (a0_0 + 1)) ≤ 3
    ·rw [if_pos c6] at H
     have c6b0 := eq_true c6
     have c6b1 : decide ((wrap64 (a0_0 + 1)) ≤ 3) = true := decide_eq_true c6
     obtain ⟨t103, A70, H⟩ := bH H
     have A7 := am A70
     clear A70
     by_cases c8 : ((⟨#[114, 111, 117]⟩ : ByteArray).extract (a0_0 : Int).toNat ((wrap64 (a0_0 + 1)) : Int).toNat).size + t103.size ≤ 9223372036854775807
     ·rw [if_pos c8] at H
      have c8b0 := eq_true c8
      have c8b1 : decide (((⟨#[114, 111, 117]⟩ : ByteArray).extract (a0_0 : Int).toNat ((wrap64 (a0_0 + 1)) : Int).toNat).size + t103.size ≤ 9223372036854775807) = true := decide_eq_true c8
      try have c8b2 : (9223372036854775807 < ((⟨#[114, 111, 117]⟩ : ByteArray).extract (a0_0 : Int).toNat ((wrap64 (a0_0 + 1)) : Int).toNat).size + t103.size) = False := eq_false (Nat.not_lt.2 c8)
      try have c8b3 : (9223372036854775807 < (wrap64 (a0_0 + 1)).toNat - a0_0.toNat + t103.size) = False := eq_false (by have h_ := c8; simp only [ByteArray.size_append, ByteArray.size_extract, show (⟨#[114, 111, 117]⟩ : ByteArray).size = 3 from rfl] at h_; omega)
      simp only [Option.some.injEq, Prod.mk.injEq] at H
      obtain ⟨rfl, rfl⟩ := H
      go_enter Tryz.func71, Tryz.ntmps71
      try go_wp2_with (first | ((with_reducible refine gate_dst (N := 1) rfl ?_); refine uX (N := 1) (cs := #[.int .i64 a0_0, .int .i64 a0_1]) (t := 25) ?_; intro gb101 hg w9 hbox hb; have BK101 := am (hbox); have GW101 := uE hg; have GE101 := GW101; replace HB := uS hb; clear hb hbox hg; obtain ⟨hcz10_0, hcz10_1, hfz10_0, hfz10_1⟩ := uZ2 BK101) | ((with_reducible refine gate_callee (f := 49) rfl ?_); refine uGo (some 5) Tryz.func49 #[.agg #[.int .i64 a0_0, .int .i64 a0_1]] ?_; (with_reducible refine (impl_IsStreet.calls a0_0 a0_1 true _ A2.out).mono ?_); rintro e w11 ⟨rfl, hb⟩; refine ⟨_, rfl, ?_⟩; replace BK101 := uB BK101 hb; replace HB := uS hb; (try clear hb)))
      replace BK101 := am (blk_drew BK101.out)
      replace HB := am (below_drew1 HB.out)
      refine start_ (n := 12) (S := fun w' => w'.cell? ⟨gb101, 0, none⟩ = some (.int .i64 a0_0) ∧ w'.cell? ⟨gb101, 1, none⟩ = some (.int .i64 a0_1)) (ds := []) #[false, false, false, false, false, false, false, false, false, false, false, false] (by kernel_rfl) rfl rfl ⟨uT BK101 0, uT BK101 1⟩ (fun hHeld => ?_); refine with_tabW impl_StreetText.tab3 impl_StreetText.bits3 (fun HT_ HW_ => ?_)
      generalize w11.drew = w12 at BK101 HB hHeld ⊢
      refine uPu (i := 0) (N := some 7) #[true, false, false, false, false, false, false, false, false, false, false, false] ?_
      refine uPu (i := 2) (N := some 9) #[true, false, true, false, false, false, false, false, false, false, false, false] ?_
      refine uPu (i := 6) (N := some 13) #[true, false, true, false, false, false, true, false, false, false, false, false] ?_
      refine uTk (i := 1) (N := some 8) #[true, true, true, false, false, false, true, false, false, false, false, false] hHeld ?_
      refine uTk (i := 3) (N := some 10) #[true, true, true, true, false, false, true, false, false, false, false, false] hHeld ?_
      refine uPu (i := 4) (N := some 11) #[true, true, true, true, true, false, true, false, false, false, false, false] ?_
      refine uPu (i := 5) (N := some 12) #[true, true, true, true, true, true, true, false, false, false, false, false] ?_
      refine uTk (i := 7) (N := some 14) #[true, true, true, true, true, true, true, true, false, false, false, false] hHeld ?_
      refine uOn (i := 8) (N := some 15) #[true, true, true, true, true, true, true, true, true, false, false, false] (fun K hK => ?_)
      refine uGs Tryz.func92 #[.int .i64 a0_1] ?_
      with_reducible refine (strconv_Itoa.calls a0_1 t103 _ ?side1 A7.out).mono ?_
      (case side1 => exact Tb.below HT0.out uW)
      rintro e w13 ⟨rfl, hb⟩
      refine ⟨_, rfl, ?_⟩
      replace BK101 := uB BK101 hb
      replace HB := uS hb
      (try clear hb)
      (skip)
      (skip)
      (skip)
      refine hK.out _ _ ⟨uT BK101 0, uT BK101 1⟩ (fun hHeld => ?_)
      clear hK K
      refine uNo (some 15) ?_
      refine uPu (i := 9) (N := some 16) #[true, true, true, true, true, true, true, true, true, true, false, false] ?_
      refine uPu (i := 10) (N := some 2) #[true, true, true, true, true, true, true, true, true, true, true, false] ?_
      refine uPu (i := 11) (N := some 3) #[true, true, true, true, true, true, true, true, true, true, true, true] ?_
      refine done_ (done_of HT_.out (by kernel_rfl)) ?_
      try go_wp2
      go_ret2
      exact ⟨uA, by exact uW⟩
     ·rw [if_neg c8] at H
      exact absurd H (by simp)
    ·rw [if_neg c6] at H
     exact absurd H (by simp)
   ·rw [if_neg c5] at H
    exact absurd H (by simp)
  ·rw [if_neg c4] at H
   exact absurd H (by simp)
 ·replace c3 := Bool.eq_false_iff.mpr c3
  subst c3
  rw [if_neg (show ¬ (false = true) by decide)] at H
  simp only [Option.some.injEq, Prod.mk.injEq] at H
  obtain ⟨rfl, rfl⟩ := H
  go_enter Tryz.func71, Tryz.ntmps71
  go_wp2_with (first | ((with_reducible refine gate_dst (N := 1) rfl ?_); refine uX (N := 1) (cs := #[.int .i64 a0_0, .int .i64 a0_1]) (t := 25) ?_; intro gb101 hg w14 hbox hb; have BK101 := am (hbox); have GW101 := uE hg; have GE101 := GW101; replace HB := uS hb; clear hb hbox hg; obtain ⟨hcz15_0, hcz15_1, hfz15_0, hfz15_1⟩ := uZ2 BK101) | ((with_reducible refine gate_callee (f := 49) rfl ?_); refine uGo (some 5) Tryz.func49 #[.agg #[.int .i64 a0_0, .int .i64 a0_1]] ?_; (with_reducible refine (impl_IsStreet.calls a0_0 a0_1 false _ A2.out).mono ?_); rintro e w16 ⟨rfl, hb⟩; refine ⟨_, rfl, ?_⟩; replace BK101 := uB BK101 hb; replace HB := uS hb; (try clear hb)))
  go_ret2
  exact ⟨uA, by exact uW⟩
def impl_puzzleText.l0 : Nat → List ByteArray → List (S46) → Int → Int → Int → Int → List (S46) → Option (ByteArray)
 | 0, _, _, _, _, _, _, _ => none
 | k + 1, x3, x13, x14, x15, x102000, x102001, x102002 => if x15 < x14 then (if 0 ≤ x15 then (if x15 < (x13.length : Int) then ((impl_joinNumbers.f k (([(rd_T46 x13 x15).f0, (rd_T46 x13 x15).f1, (rd_T46 x13 x15).f2] : List Int)) (⟨#[46]⟩ : ByteArray)).bind fun t110 => (if x15 < (x3.length : Int) then (impl_puzzleText.l0 k (x3.set (x15 : Int).toNat t110) x13 x14 (wrap64 (x15 + 1)) x102000 x102001 x102002) else (none))) else (none)) else (none)) else ((impl_StreetText.f x102000 x102001).bind fun bt112 => (if bt112.1.size + 1 ≤ 9223372036854775807 then ((strings_Join.f x3 (⟨#[44]⟩ : ByteArray)).bind fun t114 => (if (bt112.1 ++ (⟨#[59]⟩ : ByteArray)).size + t114.size ≤ 9223372036854775807 then (some ((bt112.1 ++ (⟨#[59]⟩ : ByteArray)) ++ t114)) else (none))) else (none)))
def impl_puzzleText.f (k : Nat) (a0_0 : Int) (a0_1 : Int) (l0_2 : List (S46)) : Option (ByteArray) := if 0 ≤ (l0_2.length : Int) then (if ((l0_2.length : Int) : Int).toNat ≤ 17592186044416 then (impl_puzzleText.l0 k (List.replicate ((l0_2.length : Int) : Int).toNat (⟨#[]⟩ : ByteArray)) l0_2 (l0_2.length : Int) 0 a0_0 a0_1 l0_2) else (none)) else (none)
theorem impl_puzzleText.calls (k : Nat) (a0_0 : Int) (a0_1 : Int) (A0_2 : Option Addr) (c0_2 : Nat) (l0_2 : List (S46)) (r : ByteArray) (w : World) (hr0_2 : Kd.C k46 w A0_2 l0_2.length l0_2) (hc0_2 : l0_2.length ≤ c0_2) (hT : Tb w) (h : impl_puzzleText.f k a0_0 a0_1 l0_2 = some r) :
  Calls Tryz.prog 43 #[.agg #[.int .i64 a0_0, .int .i64 a0_1, .slice A0_2 l0_2.length c0_2]] w fun e w' => e = .returned (.string r) ∧ Below w.heap.size w w' := by
 have hu28 := Tryz.underlying28
 have hu46 := Tryz.underlying46
 have hu25 := Tryz.underlying25
 have HT0 := am hT
 clear hT
 have HR0_2 := am hr0_2
 have HC0_2 := am hc0_2
 clear hr0_2 hc0_2
 have HB := am (Below.refl w.heap.size w)
 have H := h
 clear h
 unfold impl_puzzleText.f at H
 by_cases c2 : 0 ≤ (l0_2.length : Int)
 ·rw [if_pos c2] at H
  have c2b0 := eq_true c2
  have c2b1 : decide (0 ≤ (l0_2.length : Int)) = true := decide_eq_true c2
  clear c2
  by_cases c3 : ((l0_2.length : Int) : Int).toNat ≤ 17592186044416
  ·rw [if_pos c3] at H
   have c3b0 := eq_true c3
   have c3b1 : decide (((l0_2.length : Int) : Int).toNat ≤ 17592186044416) = true := decide_eq_true c3
   clear c3
   obtain ⟨y102, hy102⟩ : ∃ y_ : List ByteArray, y_ = (List.replicate ((l0_2.length : Int) : Int).toNat (⟨#[]⟩ : ByteArray)) := ⟨_, rfl⟩
   replace H : (impl_puzzleText.l0 k y102 l0_2 (l0_2.length : Int) 0 a0_0 a0_1 l0_2) = some r := by (rw [hy102]; with_reducible exact H)
   have Ny102 := am hy102
   clear hy102
   have H' := am H
   clear H
   go_enter Tryz.func43, Tryz.ntmps43
   go_wp2_with (first | ((with_reducible refine gate_dst (N := 1) rfl ?_); refine uX (N := 1) (cs := #[.int .i64 a0_0, .int .i64 a0_1, .slice A0_2 l0_2.length c0_2]) (t := 28) ?_; intro gb101 hg w4 hbox hb; have BK101 := am (hbox); have GW101 := uE hg; have GE101 := GW101; replace HB := uS hb; clear hb hbox hg; obtain ⟨hcz5_0, hcz5_1, hcz5_2, hfz5_0, hfz5_1, hfz5_2⟩ := uZ3 BK101) | ((with_reducible refine gate_dst (N := 11) rfl ?_); refine Kd.R_make Kd.string _ 9 rfl (N := 11) rfl 69 _ _ rfl (l0_2.length : Int) rfl rfl Tryz.underlying69 (.string ⟨#[]⟩) 16 info9 rfl (by decide) (by omega) (⟨#[]⟩ : ByteArray) (ok := fun _ => True) (okp := fun _ => True) rfl (fun _ hk => hk) trivial (of_decide_eq_true (by (with_reducible assumption))) (Nat.le_trans (Nat.mul_le_mul_right _ (of_decide_eq_true (by (with_reducible assumption)) : (l0_2.length : Int).toNat ≤ 17592186044416)) (by omega)) (Below.refl _ _) (Nat.le_refl _) ?_; intro v103 w6 ho7 hb hg_ hnew_; clear hg_ hnew_; (rw [← Ny102.out] at ho7); have HO104 := am (Kd.R_lower ho7 (below_size uW)); replace BK101 := uB BK101 hb; replace HB := uS hb; clear hb ho7; obtain ⟨hcz8_0, hcz8_1, hcz8_2, hfz8_0, hfz8_1, hfz8_2⟩ := uZ3 BK101))
   go_loopg [15] k (fun kq v15 w' => ∃ (x3_1 : List ByteArray) (x15_1 : Int), v15 = .int .i64 x15_1 ∧ Aside0 (impl_puzzleText.l0 kq x3_1 l0_2 (l0_2.length : Int) x15_1 a0_0 a0_1 l0_2 = some r) ∧ Aside0 (kq ≤ k) ∧ Aside0 (Kd.R Kd.string 9 w' w.heap.size (fun _ => True) v103 x3_1) ∧ Aside0 (w'.heap[gb101]? = some (.cells #[.int .i64 a0_0, .int .i64 a0_1, (.slice A0_2 l0_2.length c0_2)] 28 (0, 0))) ∧ Aside0 (Below w.heap.size w w'))
   case atStart => exact ⟨(y102), (0), (by rfl), H', ⟨Nat.le_refl _⟩, ⟨by (with_reducible skip); exact HO104.out⟩, ⟨by (with_reducible skip); exact BK101.out⟩, ⟨by exact uW⟩⟩
   case round =>
    clear H'
    try clear c2b0
    try clear c2b1
    try clear c3b0
    try clear c3b1
    try clear hcz5_0
    try clear hcz5_1
    try clear hcz5_2
    try clear hcz8_0
    try clear hcz8_1
    try clear hcz8_2
    try clear hfz5_0
    try clear hfz5_1
    try clear hfz5_2
    try clear hfz8_0
    try clear hfz8_1
    try clear hfz8_2
    obtain ⟨x3_1, x15_1, rfl, HA, HK1, HO_3, BK101, HB⟩ := hrel
    cases gk with
    | zero => exact absurd HA.out (by simp [impl_puzzleText.l0])
    | succ k1 =>
     have H := HA.out
     clear HA
     simp only [impl_puzzleText.l0] at H
     by_cases c9 : x15_1 < (l0_2.length : Int)
     ·rw [if_pos c9] at H
      have c9b0 : decide (x15_1 < (l0_2.length : Int)) = true := decide_eq_true c9
      clear c9
      by_cases c10 : 0 ≤ x15_1
      ·rw [if_pos c10] at H
       have c10b0 : decide (0 ≤ x15_1) = true := decide_eq_true c10
       clear c10
       by_cases c11 : x15_1 < (l0_2.length : Int)
       ·rw [if_pos c11] at H
        have c11b0 : decide (x15_1 < (l0_2.length : Int)) = true := decide_eq_true c11
        clear c11
        obtain ⟨y107, hy107⟩ : ∃ y_ : List Int, y_ = (([(rd_T46 l0_2 x15_1).f0, (rd_T46 l0_2 x15_1).f1, (rd_T46 l0_2 x15_1).f2] : List Int)) := ⟨_, rfl⟩
        replace H : ((impl_joinNumbers.f k1 y107 (⟨#[46]⟩ : ByteArray)).bind fun t110 => (if x15_1 < (x3_1.length : Int) then (impl_puzzleText.l0 k1 (x3_1.set (x15_1 : Int).toNat t110) l0_2 (l0_2.length : Int) (wrap64 (x15_1 + 1)) a0_0 a0_1 l0_2) else (none))) = some r := by (rw [hy107]; with_reducible exact H)
        have Ny107 := am hy107
        clear hy107
        obtain ⟨t110, A120, H⟩ := bH H
        have A12 := am A120
        clear A120
        by_cases c13 : x15_1 < (x3_1.length : Int)
        ·rw [if_pos c13] at H
         have c13b0 : decide (x15_1 < (x3_1.length : Int)) = true := decide_eq_true c13
         clear c13
         obtain ⟨y111, hy111⟩ : ∃ y_ : List ByteArray, y_ = (x3_1.set (x15_1 : Int).toNat t110) := ⟨_, rfl⟩
         replace H : (impl_puzzleText.l0 k1 y111 l0_2 (l0_2.length : Int) (wrap64 (x15_1 + 1)) a0_0 a0_1 l0_2) = some r := by (rw [hy111]; with_reducible exact H)
         have Ny111 := am hy111
         clear hy111
         have H' := am H
         clear H
         have p105 : 0 ≤ (x15_1 : Int) := of_decide_eq_true (by (with_reducible assumption))
         have q105 : x15_1 < (l0_2.length : Int) := of_decide_eq_true (by (with_reducible assumption))
         obtain ⟨ad105, e105, hx105_0, hx105_1, hx105_2⟩ := at_T46 HR0_2.out x15_1 p105 q105
         cases e105
         try replace hx105_0 := (HB.out.cell (World.block_lt_of_cell? w _ hx105_0)).trans hx105_0
         try replace hx105_1 := (HB.out.cell (World.block_lt_of_cell? w _ hx105_1)).trans hx105_1
         try replace hx105_2 := (HB.out.cell (World.block_lt_of_cell? w _ hx105_2)).trans hx105_2
         replace p105 := eq_true p105
         replace q105 := eq_true q105
         go_wp2_with (first | ((with_reducible refine gate_dst (N := 5) rfl ?_); refine uX (N := 5) (cs := #[.int .i64 0, .int .i64 0, .int .i64 0]) (t := 46) ?_; intro gb106 hg w15 hbox hb; have BK106 := am (hbox); have GW106 := uE hg; have GE106 := GW106; have NB101_106 := uL BK101 hg; have NB106_101 := uY NB101_106; replace HO_3 := am (Kd.R_below (uR HO_3) hb); replace BK101 := uB BK101 hb; replace HB := uS hb; clear hb hbox hg; have hnb16 := NB106_101.out; have hnc16 := NB101_106.out; obtain ⟨hcz17_0, hcz17_1, hcz17_2, hfz17_0, hfz17_1, hfz17_2⟩ := uZ3 BK106) | ((with_reducible refine gate_dst (N := 28) rfl ?_); refine Kd.R_lit (Kd.int .i64) _ 3 ?hg (N := 28) ?hd (xs := ([(rd_T46 l0_2 x15_1).f0, (rd_T46 l0_2 x15_1).f1, (rd_T46 l0_2 x15_1).f2] : List Int)) (inner := [.int .i64 ((rd_T46 l0_2 x15_1).f0), .int .i64 ((rd_T46 l0_2 x15_1).f1), .int .i64 ((rd_T46 l0_2 x15_1).f2)]) (ok := fun _ => True) (okp := fun _ => True) ?hr ?hp (fun _ hk => hk) trivial (Below.refl _ _) (Nat.le_refl _) (by simp) ?_; (case hd => rfl); (case hg => rfl); (case hr => (go_simp; done)); (case hp => exact (Reps.one (show Kd.M (Kd.int .i64) _ _ _ ((rd_T46 l0_2 x15_1).f0) [.int .i64 ((rd_T46 l0_2 x15_1).f0)] from rfl) (Reps.one (show Kd.M (Kd.int .i64) _ _ _ ((rd_T46 l0_2 x15_1).f1) [.int .i64 ((rd_T46 l0_2 x15_1).f1)] from rfl) (Reps.one (show Kd.M (Kd.int .i64) _ _ _ ((rd_T46 l0_2 x15_1).f2) [.int .i64 ((rd_T46 l0_2 x15_1).f2)] from rfl) (Reps.none _ _))))); intro v108 w18 ho19 hb hg_ hnew_; clear hg_ hnew_; (rw [← Ny107.out] at ho19); have HO109 := am (Kd.R_lower ho19 (below_size uW)); replace HO_3 := am (Kd.R_below (by (with_reducible skip); exact (Kd.R_mono (Kd.R_far (p := ⟨gb106, 2, none⟩) (Kd.R_far (p := ⟨gb106, 1, none⟩) (Kd.R_far (p := ⟨gb106, 0, none⟩) (Kd.R_types HO_3.out BK106.out (by decide)) (fun _ hk => hk.2) (.int .i64 ((rd_T46 l0_2 x15_1).f0))) (fun _ hk => hk.2) (.int .i64 ((rd_T46 l0_2 x15_1).f1))) (fun _ hk => hk.2) (.int .i64 ((rd_T46 l0_2 x15_1).f2))) (fun _ h_ => h_.1))) hb); replace BK101 := am (blk_below (g := gb101) (o := .cells #[.int .i64 a0_0, .int .i64 a0_1, .slice (some ad105) l0_2.length c0_2] 28 (0, 0)) (by refine blk_far ?_ NB101_106.out _; refine blk_far ?_ NB101_106.out _; refine blk_far ?_ NB101_106.out _; exact (uP BK101)) hb); replace BK106 := am (blk_below (g := gb106) (o := .cells #[.int .i64 ((rd_T46 l0_2 x15_1).f0), .int .i64 ((rd_T46 l0_2 x15_1).f1), .int .i64 ((rd_T46 l0_2 x15_1).f2)] 46 (0, 0)) (by refine blk_put (cs := #[.int .i64 ((rd_T46 l0_2 x15_1).f0), .int .i64 ((rd_T46 l0_2 x15_1).f1), .int .i64 0]) ?_ 2 _ rfl; refine blk_put (cs := #[.int .i64 ((rd_T46 l0_2 x15_1).f0), .int .i64 0, .int .i64 0]) ?_ 1 _ rfl; refine blk_put (cs := #[.int .i64 0, .int .i64 0, .int .i64 0]) ?_ 0 _ rfl; exact (uP BK106)) hb); replace HB := uS hb; clear hb ho19; obtain ⟨Ao20, co20, eo20⟩ := Kd.R_slice HO109.out; subst eo20) | ((with_reducible refine gate_callee (f := 70) rfl ?_); refine uGo (some 29) Tryz.func70 #[.slice Ao20 y107.length co20, .string (⟨#[46]⟩ : ByteArray)] ?_; (with_reducible refine (impl_joinNumbers.calls k1 _ _ y107 (⟨#[46]⟩ : ByteArray) t110 _ ?side1 ?side2 ?side3 A12.out).mono ?_); (case side1 => repeat (exact (Kd.R_reads' HO109.out).2.2)); (case side2 => exact (Kd.R_reads' HO109.out).2.1); (case side3 => exact Tb.below HT0.out uW); rintro e w21 ⟨rfl, hb⟩; refine ⟨_, rfl, ?_⟩; replace HO_3 := am (Kd.R_below (uR HO_3) hb); replace HO109 := am (Kd.R_below (uR HO109) hb); replace BK101 := uB BK101 hb; replace BK106 := uB BK106 hb; replace HB := uS hb; (try clear hb); have p14 : 0 ≤ (x15_1 : Int) := of_decide_eq_true (by (with_reducible assumption)); have q14 : (x15_1 : Int) < ((x3_1.length : Int) : Int) := of_decide_eq_true (by (with_reducible assumption)); obtain ⟨go14, co14, eo14, gb14, gl14, cl14, HG14⟩ := Kd.R_form HO_3.out (by omega); (cases eo14); have GB14 := am gb14; have GG14 := am HG14; clear gb14 gl14 HG14; obtain ⟨hx14_0, hf14_0⟩ := Kd.R_celln (⟨#[]⟩ : ByteArray) HO_3.out (x15_1 : Int) p14 q14; replace p14 := eq_true p14; replace q14 := eq_true q14; obtain ⟨hy22_, hz22_⟩ := Kd.R_celln (⟨#[]⟩ : ByteArray) HO_3.out (x15_1 : Int) (of_decide_eq_true (by (with_reducible assumption))) (of_decide_eq_true (by (with_reducible assumption))); have HP22 := Kd.R_putg HO_3.out (x15_1 : Int) t110) | ((with_reducible refine gate_store (t := 9) (p := 30) rfl ?_); refine store_event (t := 9) (p := 30) (v := ?vo_w23) (w1 := (w21.setCell ⟨go14, (x15_1 : Int).toNat, none⟩ (.string t110))) ?hg ?ho ?hn ?hr ?_; (case ho => rfl); (case hg => rfl); (case hn => rfl); (case hr => (go_simp; done)); intro w23 hw; have hg : w21.grownBy w23 (some go14) := (by rw [hw]; exact HP22.2); have hp_ : Kd.R Kd.string 9 w23 w.heap.size (fun _ => True) (.slice (some ⟨go14, 0, none⟩) x3_1.length co14) y111 := (by rw [hw, Ny111.out]; exact HP22.1); clear HP22; replace BK101 := am (blk_grown (uP BK101) hg (Kd.R_ne HO_3.out BK101.out (by decide))); replace BK106 := am (blk_grown (uP BK106) hg (Kd.R_ne HO_3.out BK106.out (by decide))); replace HO109 := am (Kd.R_over' (v := (.slice (some ⟨go14, 0, none⟩) x3_1.length co14)) (uR HO109) (Kd.R_typed HO_3.out) (by decide) hg); replace HO_3 := am (hp_); replace HB := am ((by rw [hw]; exact below_set (HB.out) GB14.out : Below w.heap.size w w23)); clear hg hw hp_))
         go_roundg k1
         case measure => have := HK1.out; omega
         case rel => exact ⟨(y111), (wrap64 (x15_1 + 1)), (by rfl), H', ⟨by have := HK1.out; omega⟩, ⟨by (with_reducible skip); exact HO_3.out⟩, ⟨by (with_reducible skip); exact BK101.out⟩, ⟨by exact uW⟩⟩
        ·rw [if_neg c13] at H
         exact absurd H (by simp)
       ·rw [if_neg c11] at H
        exact absurd H (by simp)
      ·rw [if_neg c10] at H
       exact absurd H (by simp)
     ·rw [if_neg c9] at H
      have c9b0 : decide (x15_1 < (l0_2.length : Int)) = false := decide_eq_false c9
      clear c9
      obtain ⟨⟨t112, t113⟩, A240, H⟩ := bH H
      dsimp only at H
      have A24 := am A240
      clear A240
      by_cases c25 : t112.size + 1 ≤ 9223372036854775807
      ·rw [if_pos c25] at H
       have c25b0 := eq_true c25
       have c25b1 : decide (t112.size + 1 ≤ 9223372036854775807) = true := decide_eq_true c25
       try have c25b2 : (9223372036854775807 < t112.size + 1) = False := eq_false (Nat.not_lt.2 c25)
       obtain ⟨t114, A260, H⟩ := bH H
       have A26 := am A260
       clear A260
       by_cases c27 : (t112 ++ (⟨#[59]⟩ : ByteArray)).size + t114.size ≤ 9223372036854775807
       ·rw [if_pos c27] at H
        have c27b0 := eq_true c27
        have c27b1 : decide ((t112 ++ (⟨#[59]⟩ : ByteArray)).size + t114.size ≤ 9223372036854775807) = true := decide_eq_true c27
        try have c27b2 : (9223372036854775807 < (t112 ++ (⟨#[59]⟩ : ByteArray)).size + t114.size) = False := eq_false (Nat.not_lt.2 c27)
        try have c27b3 : (9223372036854775807 < t112.size + 1 + t114.size) = False := eq_false (by have h_ := c27; simp only [ByteArray.size_append, ByteArray.size_extract, show (⟨#[59]⟩ : ByteArray).size = 1 from rfl] at h_; omega)
        obtain rfl := Option.some.inj H
        obtain ⟨hcz28_0, hcz28_1, hcz28_2, hfz28_0, hfz28_1, hfz28_2⟩ := uZ3 BK101
        go_wp2_with (first | ((with_reducible refine gate_callee (f := 71) rfl ?_); refine uGo (some 35) Tryz.func71 #[.agg #[.int .i64 a0_0, .int .i64 a0_1]] ?_; (with_reducible refine (impl_StreetText.calls a0_0 a0_1 t112 t113 _ ?side1 A24.out).mono ?_); (case side1 => exact Tb.below HT0.out uW); rintro e w29 ⟨rfl, hb⟩; refine ⟨_, rfl, ?_⟩; replace HO_3 := am (Kd.R_below (uR HO_3) hb); replace BK101 := uB BK101 hb; replace HB := uS hb; (try clear hb); obtain ⟨Ao30, co30, eo30⟩ := Kd.R_slice HO_3.out; subst eo30) | ((with_reducible refine gate_callee (f := 72) rfl ?_); refine uGo (some 41) Tryz.func72 #[.slice Ao30 x3_1.length co30, .string (⟨#[44]⟩ : ByteArray)] ?_; (with_reducible refine (strings_Join.calls _ _ x3_1 (⟨#[44]⟩ : ByteArray) t114 _ ?side1 ?side2 A26.out).mono ?_); (case side1 => repeat (exact (Kd.R_reads' HO_3.out).2.2)); (case side2 => exact (Kd.R_reads' HO_3.out).2.1); rintro e w31 ⟨rfl, hb⟩; refine ⟨_, rfl, ?_⟩; replace HO_3 := am (Kd.R_below (uR HO_3) hb); replace BK101 := uB BK101 hb; replace HB := uS hb; (try clear hb)))
        go_ret
        exact ⟨uA, by exact uW⟩
       ·rw [if_neg c27] at H
        exact absurd H (by simp)
      ·rw [if_neg c25] at H
       exact absurd H (by simp)
  ·rw [if_neg c3] at H
   exact absurd H (by simp)
 ·rw [if_neg c2] at H
  exact absurd H (by simp)
def impl_PuzzleText.f (k : Nat) (a0_0 : Int) (a0_1 : Int) (l0_2 : List (S46)) : Option (ByteArray × Bool) := (impl_IsPuzzle.f a0_0 a0_1 l0_2).bind fun t102 => (if t102 = true then ((impl_puzzleText.f k a0_0 a0_1 l0_2).bind fun t103 => (some (t103, true))) else (some ((⟨#[]⟩ : ByteArray), false)))
theorem impl_PuzzleText.calls (k : Nat) (a0_0 : Int) (a0_1 : Int) (A0_2 : Option Addr) (c0_2 : Nat) (l0_2 : List (S46)) (r1 : ByteArray) (r2 : Bool) (w : World) (hr0_2 : Kd.C k46 w A0_2 l0_2.length l0_2) (hc0_2 : l0_2.length ≤ c0_2) (hT : Tb w) (h : impl_PuzzleText.f k a0_0 a0_1 l0_2 = some (r1, r2)) :
  Calls Tryz.prog 22 #[.agg #[.int .i64 a0_0, .int .i64 a0_1, .slice A0_2 l0_2.length c0_2]] w fun e w' => e = .returned (.tuple #[.string r1, .bool r2]) ∧ Below w.heap.size w w' := by
 have hu28 := Tryz.underlying28
 have HT0 := am hT
 clear hT
 have HR0_2 := am hr0_2
 have HC0_2 := am hc0_2
 clear hr0_2 hc0_2
 have HB := am (Below.refl w.heap.size w)
 have H := h
 clear h
 unfold impl_PuzzleText.f at H
 obtain ⟨t102, A20, H⟩ := bH H
 have A2 := am A20
 clear A20
 by_cases c3 : t102 = true
 ·subst c3
  rw [if_pos rfl] at H
  obtain ⟨t103, A40, H⟩ := bH H
  have A4 := am A40
  clear A40
  simp only [Option.some.injEq, Prod.mk.injEq] at H
  obtain ⟨rfl, rfl⟩ := H
  go_enter Tryz.func22, Tryz.ntmps22
  go_wp2_with (first | ((with_reducible refine gate_dst (N := 1) rfl ?_); refine uX (N := 1) (cs := #[.int .i64 a0_0, .int .i64 a0_1, .slice A0_2 l0_2.length c0_2]) (t := 28) ?_; intro gb101 hg w5 hbox hb; have BK101 := am (hbox); have GW101 := uE hg; have GE101 := GW101; replace HB := uS hb; clear hb hbox hg; obtain ⟨hcz6_0, hcz6_1, hcz6_2, hfz6_0, hfz6_1, hfz6_2⟩ := uZ3 BK101) | ((with_reducible refine gate_callee (f := 25) rfl ?_); refine uGo (some 5) Tryz.func25 #[.agg #[.int .i64 a0_0, .int .i64 a0_1, .slice A0_2 l0_2.length c0_2]] ?_; (with_reducible refine (impl_IsPuzzle.calls a0_0 a0_1 _ _ l0_2 true _ ?side1 ?side2 A2.out).mono ?_); (case side1 => repeat (exact (Kd.C_below HR0_2.out HB.out))); (case side2 => exact HC0_2.out); rintro e w7 ⟨rfl, hb⟩; refine ⟨_, rfl, ?_⟩; replace BK101 := uB BK101 hb; replace HB := uS hb; (try clear hb); obtain ⟨hcz8_0, hcz8_1, hcz8_2, hfz8_0, hfz8_1, hfz8_2⟩ := uZ3 BK101) | ((with_reducible refine gate_callee (f := 43) rfl ?_); refine uGo (some 8) Tryz.func43 #[.agg #[.int .i64 a0_0, .int .i64 a0_1, .slice A0_2 l0_2.length c0_2]] ?_; (with_reducible refine (impl_puzzleText.calls k a0_0 a0_1 _ _ l0_2 t103 _ ?side1 ?side2 ?side3 A4.out).mono ?_); (case side1 => repeat (exact (Kd.C_below HR0_2.out HB.out))); (case side2 => exact HC0_2.out); (case side3 => exact Tb.below HT0.out uW); rintro e w9 ⟨rfl, hb⟩; refine ⟨_, rfl, ?_⟩; replace BK101 := uB BK101 hb; replace HB := uS hb; (try clear hb)))
  go_ret2
  exact ⟨uA, by exact uW⟩
 ·replace c3 := Bool.eq_false_iff.mpr c3
  subst c3
  rw [if_neg (show ¬ (false = true) by decide)] at H
  simp only [Option.some.injEq, Prod.mk.injEq] at H
  obtain ⟨rfl, rfl⟩ := H
  go_enter Tryz.func22, Tryz.ntmps22
  go_wp2_with (first | ((with_reducible refine gate_dst (N := 1) rfl ?_); refine uX (N := 1) (cs := #[.int .i64 a0_0, .int .i64 a0_1, .slice A0_2 l0_2.length c0_2]) (t := 28) ?_; intro gb101 hg w10 hbox hb; have BK101 := am (hbox); have GW101 := uE hg; have GE101 := GW101; replace HB := uS hb; clear hb hbox hg; obtain ⟨hcz11_0, hcz11_1, hcz11_2, hfz11_0, hfz11_1, hfz11_2⟩ := uZ3 BK101) | ((with_reducible refine gate_callee (f := 25) rfl ?_); refine uGo (some 5) Tryz.func25 #[.agg #[.int .i64 a0_0, .int .i64 a0_1, .slice A0_2 l0_2.length c0_2]] ?_; (with_reducible refine (impl_IsPuzzle.calls a0_0 a0_1 _ _ l0_2 false _ ?side1 ?side2 A2.out).mono ?_); (case side1 => repeat (exact (Kd.C_below HR0_2.out HB.out))); (case side2 => exact HC0_2.out); rintro e w12 ⟨rfl, hb⟩; refine ⟨_, rfl, ?_⟩; replace BK101 := uB BK101 hb; replace HB := uS hb; (try clear hb)))
  go_ret2
  exact ⟨uA, by exact uW⟩
def strings_Cut.f (a0 : ByteArray) (a1 : ByteArray) : Option (ByteArray × ByteArray × Bool) := if a0.size < 4294967281 then some (⟨(Lib.cut a0.data.toList a1.data.toList).1.toArray⟩, ⟨(Lib.cut a0.data.toList a1.data.toList).2.1.toArray⟩, (Lib.cut a0.data.toList a1.data.toList).2.2) else none
theorem strings_Cut.calls (a0 : ByteArray) (a1 : ByteArray) (r1 : ByteArray) (r2 : ByteArray) (r3 : Bool) (w : World) (hT : Tb w) (h : strings_Cut.f a0 a1 = some (r1, r2, r3)) :
  Calls Tryz.prog 54 #[.string a0, .string a1] w fun e w' => e = .returned (.tuple #[.string r1, .string r2, .bool r3]) ∧ Below w.heap.size w w' := by
 unfold strings_Cut.f at h
 by_cases c2 : a0.size < 4294967281
 ·rw [if_pos c2] at h
  obtain ⟨rfl, rfl, rfl⟩ : _ ∧ _ ∧ _ := by simpa using h
  obtain ⟨m, hm⟩ := hT.maxl
  refine (Tryz.strings_Cut a0 a1 m w c2 hm).mono ?_
  rintro e w' ⟨rfl, n, rfl⟩
  exact ⟨rfl, pw_below_drewN (Below.refl _ _) n⟩
 ·rw [if_neg c2] at h
  cases h
end Go.Proofs.YtijcdpnnjiamjaaGreatDoor.G
end
