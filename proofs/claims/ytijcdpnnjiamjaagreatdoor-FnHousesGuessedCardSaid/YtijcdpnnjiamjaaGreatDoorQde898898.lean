/- Texts of this seat's proofs: contracts of its functions and plain laws about them, with no condition beyond those that each theorem states. -/
import Derived.Test.YtijcdpnnjiamjaaGreatDoorQ15781164
import Derived.Test.YtijcdpnnjiamjaaGreatDoorQd3e38972
set_option maxHeartbeats 8000000
set_option maxRecDepth 100000
section
namespace Go.Proofs.YtijcdpnnjiamjaaGreatDoor.G
open Go.RowKit Go.Proofs.YtijcdpnnjiamjaaGreatDoorW.PrintWords Go.Proofs.YtijcdpnnjiamjaaGreatDoorW.PrintLast Go.Proofs.YtijcdpnnjiamjaaGreatDoorW.PrintMore
attribute [local go_sem] max2_int min2_int max_two min_two max_three min_three max_four min_four
set_option linter.unusedVariables false
set_option linter.unusedSimpArgs false
def spec_l1Cur_puzzle.l0 : Nat → List Int → Int → Int → Int → Int → List (S46) → Option (Int × Int × (List (S46)) × Int × Int)
 | 0, _, _, _, _, _, _ => none
 | k + 1, x1000, x1001, x1002, x110000, x110001, x110002 => (spec_l1Cur_pick.f x1000 x1001 x1002 2).bind fun bt125 => (if (x110002.length : Int) < (wrap64 (6 + bt125.1)) then (if x110002.length < 5864062014805 then (spec_l1Cur_puzzle.l0 k x1000 bt125.2.1 bt125.2.2 x110000 x110001 (x110002 ++ [(⟨3, 0, 5⟩ : S46)])) else (none)) else (some (x110000, x110001, x110002, bt125.2.1, bt125.2.2)))
def spec_l1Cur_puzzle.f (k : Nat) (s0_0 : List Int) (s0_1 : Int) (s0_2 : Int) : Option (Int × Int × (List (S46)) × Int × Int) := (spec_l1Cur_surePuzzle.f k s0_0 s0_1 s0_2 5).bind fun bt102 => ((spec_l1Cur_pick.f s0_0 bt102.2.2.2.1 bt102.2.2.2.2 12).bind fun bt110 => (if bt110.1 = 0 then ((spec_l1Cur_street.f s0_0 bt110.2.1 bt110.2.2).bind fun bt113 => (some (bt113.1, bt113.2.1, bt102.2.2.1, bt113.2.2.1, bt113.2.2.2))) else (if bt110.1 = 1 then ((spec_l1Cur_clue.f k s0_0 bt110.2.1 bt110.2.2).bind fun bt117 => (if bt102.2.2.1.length < 5864062014805 then (some (bt102.1, bt102.2.1, (bt102.2.2.1 ++ [(⟨bt117.1, bt117.2.1, bt117.2.2.1⟩ : S46)]), bt117.2.2.2.1, bt117.2.2.2.2)) else (none))) else (if bt110.1 = 2 then (spec_l1Cur_puzzle.l0 k s0_0 bt110.2.1 bt110.2.2 bt102.1 bt102.2.1 bt102.2.2.1) else (some (bt102.1, bt102.2.1, bt102.2.2.1, bt110.2.1, bt110.2.2))))))
def spec_l1Cur_puzzle.T6 : Bool × List (List Nat × List Nat) := (true, [([], []), ([0], [0]), ([], []), ([2], [2]), ([3], [3]), ([1, 4, 3], [1, 4]), ([0, 1, 2, 3, 4, 5], []), ([6, 5, 5, 0, 1, 2, 3, 4, 5], [5, 6])])
def spec_l1Cur_puzzle.B6 : List Nat := [0, 1, 0, 4, 12, 31, 63, 127]
theorem spec_l1Cur_puzzle.tab6 : rtab .any (opsOf Tryz.f62 6) = spec_l1Cur_puzzle.T6 := by kernel_rfl
theorem spec_l1Cur_puzzle.bits6 : waitsOk spec_l1Cur_puzzle.T6.2 spec_l1Cur_puzzle.B6 = true := by kernel_rfl
theorem spec_l1Cur_puzzle.calls (k : Nat) (g : Nat) (s0_0 : List Int) (s0_1 : Int) (s0_2 : Int) (r1 : Int) (r2 : Int) (r3 : List (S46)) (r4 : Int) (r5 : Int) (w0 w : World) (hI : IsS75 w0 w g s0_0 s0_1 s0_2) (hB : Below w0.heap.size w0 w) (h : spec_l1Cur_puzzle.f k s0_0 s0_1 s0_2 = some (r1, r2, r3, r4, r5)) :
  Calls Tryz.prog 62 #[.pointer (some ⟨g, 0, none⟩)] w fun e w' => ∃ v2_ : Value, e = .returned (.agg #[.int .i64 r1, .int .i64 r2, v2_]) ∧ Kd.R k46 46 w' w.heap.size (fun _ => True) v2_ r3 ∧ IsS75 w0 w' g s0_0 r4 r5 ∧ Below w0.heap.size w0 w' ∧ KeepBut w w' g none := by
 have hu28 := Tryz.underlying28
 have hu25 := Tryz.underlying25
 have hu46 := Tryz.underlying46
 have HI0 := am hI
 have HK := am (KeepBut.refl w g none)
 have HL := am hB.size
 clear hI
 have HW0 := am hB.size
 have HB := am hB
 clear hB
 have H := h
 clear h
 unfold spec_l1Cur_puzzle.f at H
 obtain ⟨⟨t102, t103, t104, t107, t108⟩, A20, H⟩ := bH H
 dsimp only at H
 have A2 := am A20
 clear A20
 obtain ⟨⟨t110, t111, t112⟩, A30, H⟩ := bH H
 dsimp only at H
 have A3 := am A30
 clear A30
 by_cases c4 : t110 = 0
 ·rw [if_pos c4] at H
  have c4b0 : (t110 == 0) = true := beq_iff_eq.mpr c4
  have c4b1 : (t110 != 0) = false := bne_eq_false_iff_eq.mpr c4
  clear c4
  obtain ⟨⟨t113, t114, t115, t116⟩, A50, H⟩ := bH H
  dsimp only at H
  have A5 := am A50
  clear A50
  simp only [Option.some.injEq, Prod.mk.injEq] at H
  obtain ⟨rfl, rfl, rfl, rfl, rfl⟩ := H
  go_enter Tryz.func62, Tryz.ntmps62
  go_wp2_with (first | ((with_reducible refine gate_dst (N := 2) rfl ?_); refine uX (N := 2) (cs := #[.int .i64 0, .int .i64 0, .slice none 0 0]) (t := 28) ?_; intro gb101 hg w6 hbox hb; have BK101 := am (hbox); have GW101 := am ((by rw [hg]; exact (keep_size (w := w) (g := g) (row := none) uV) : w.heap.size ≤ gb101)); have GE101 := am ((Nat.le_trans HW0.out (by rw [hg]; exact (keep_size (w := w) (g := g) (row := none) uV) : w.heap.size ≤ gb101) : w0.heap.size ≤ gb101)); have NB0_101 := am ((by rw [hg]; exact Nat.ne_of_lt (IsS75.lt (show IsS75 w0 _ g s0_0 s0_1 s0_2 from by exact uI)) : g ≠ gb101)); have NB101_0 := am ((by rw [hg]; exact Nat.ne_of_gt (IsS75.lt (show IsS75 w0 _ g s0_0 s0_1 s0_2 from by exact uI)) : gb101 ≠ g)); replace HI0 := am (IsS75.below uI hb); replace HK := am (KeepBut.trans uV (KeepBut.of_below hb g none) (.inl rfl)); replace HB := uS hb; clear hb hbox hg) | ((with_reducible refine gate_callee (f := 58) rfl ?_); refine uGo (some 5) Tryz.func58 #[.pointer (some ⟨g, 0, none⟩), .int .i64 5] ?_; (with_reducible refine (spec_l1Cur_surePuzzle.calls k g s0_0 s0_1 s0_2 5 t102 t103 t104 t107 t108 w0 _ ?side1 ?side2 A2.out).mono ?_); (case side1 => exact uI); (case side2 => exact uW); rintro e w7 ⟨v105, rfl, ho0, hi, hb, hk⟩; refine ⟨_, rfl, ?_⟩; have HO106 := am (Kd.R_lower ho0 (keep_size (w := w) (g := g) (row := none) uV)); replace BK101 := am (KeepBut.blk hk (uP BK101) NB101_0.out (by simp)); replace HK := am (KeepBut.trans uV hk (.inl rfl)); replace HB := am (hb); replace HI0 := am (hi); (try clear hb); (try clear hk); (try clear hi); (try clear ho0)) | ((with_reducible refine gate_dst (N := 3) rfl ?_); refine uX (N := 3) (cs := #[.int .i64 0, .int .i64 0, .slice none 0 0]) (t := 28) ?_; intro gb109 hg w8 hbox hb; have BK109 := am (hbox); have GW109 := am ((by rw [hg]; exact (keep_size (w := w) (g := g) (row := none) uV) : w.heap.size ≤ gb109)); have GE109 := am ((Nat.le_trans HW0.out (by rw [hg]; exact (keep_size (w := w) (g := g) (row := none) uV) : w.heap.size ≤ gb109) : w0.heap.size ≤ gb109)); have NB101_109 := uL BK101 hg; have NB109_101 := uY NB101_109; have NB0_109 := am ((by rw [hg]; exact Nat.ne_of_lt (IsS75.lt (show IsS75 w0 _ g s0_0 t107 t108 from by exact uI)) : g ≠ gb109)); have NB109_0 := am ((by rw [hg]; exact Nat.ne_of_gt (IsS75.lt (show IsS75 w0 _ g s0_0 t107 t108 from by exact uI)) : gb109 ≠ g)); replace HO106 := am (Kd.R_below (uR HO106) hb); replace HI0 := am (IsS75.below uI hb); replace BK101 := uB BK101 hb; replace HK := am (KeepBut.trans uV (KeepBut.of_below hb g none) (.inl rfl)); replace HB := uS hb; clear hb hbox hg; have hnb9 := NB109_101.out; have hnc9 := NB101_109.out; have hnb10 := NB109_0.out; have hnc10 := NB0_109.out; obtain ⟨hcz11_0, hcz11_1, hcz11_2, hfz11_0, hfz11_1, hfz11_2⟩ := uZ3 BK109; obtain ⟨Ao12, co12, eo12⟩ := Kd.R_slice HO106.out; subst eo12) | ((with_reducible refine gate_callee (f := 83) rfl ?_); refine uGo (some 7) Tryz.func83 #[.pointer (some ⟨g, 0, none⟩), .int .i64 12] ?_; (with_reducible refine (spec_l1Cur_pick.calls g s0_0 t107 t108 12 t110 t111 t112 w0 _ ?side1 ?side2 A3.out).mono ?_); (case side1 => exact uI); (case side2 => exact uW); rintro e w13 ⟨rfl, hi, hb, hk⟩; refine ⟨_, rfl, ?_⟩; replace BK101 := am (KeepBut.blk hk (g' := gb101) (o := .cells #[.int .i64 0, .int .i64 0, .slice none 0 0] 28 (0, 0)) (by refine blk_far ?_ NB101_109.out _; refine blk_far ?_ NB101_109.out _; refine blk_far ?_ NB101_109.out _; exact (uP BK101)) NB101_0.out (by simp)); replace HO106 := am (Kd.R_mono (Kd.R_keep (IsS75.apart (show IsS75 w0 _ g s0_0 t107 t108 from by exact uI) (by (with_reducible skip); exact (Kd.R_mono (Kd.R_far (p := ⟨gb109, 2, none⟩) (Kd.R_far (p := ⟨gb109, 1, none⟩) (Kd.R_far (p := ⟨gb109, 0, none⟩) (Kd.R_types HO106.out BK109.out (by decide)) (fun _ hk => hk.2) (.int .i64 t102)) (fun _ hk => hk.2) (.int .i64 t103)) (fun _ hk => hk.2) (.slice Ao12 t104.length co12)) (fun _ h_ => h_.1))) (by decide)) hk (fun _ h => h.2)) (fun _ h => h.1)); replace BK109 := am (KeepBut.blk hk (g' := gb109) (o := .cells #[.int .i64 t102, .int .i64 t103, .slice Ao12 t104.length co12] 28 (0, 0)) (by refine blk_put (cs := #[.int .i64 t102, .int .i64 t103, .slice none 0 0]) ?_ 2 _ rfl; refine blk_put (cs := #[.int .i64 t102, .int .i64 0, .slice none 0 0]) ?_ 1 _ rfl; refine blk_put (cs := #[.int .i64 0, .int .i64 0, .slice none 0 0]) ?_ 0 _ rfl; exact (uP BK109)) NB109_0.out (by simp)); replace HK := am (KeepBut.trans uV hk (.inl rfl)); replace HB := am (hb); replace HI0 := am (hi); (try clear hb); (try clear hk); (try clear hi)) | ((with_reducible refine gate_callee (f := 87) rfl ?_); refine uGo (some 11) Tryz.func87 #[.pointer (some ⟨g, 0, none⟩)] ?_; (with_reducible refine (spec_l1Cur_street.calls g s0_0 t111 t112 t113 t114 t115 t116 w0 _ ?side1 ?side2 A5.out).mono ?_); (case side1 => exact uI); (case side2 => exact uW); rintro e w14 ⟨rfl, hi, hb, hk⟩; refine ⟨_, rfl, ?_⟩; replace BK101 := am (KeepBut.blk hk (uP BK101) NB101_0.out (by simp)); replace HO106 := am (Kd.R_mono (Kd.R_keep (IsS75.apart (show IsS75 w0 _ g s0_0 t111 t112 from by exact uI) (uR HO106) (by decide)) hk (fun _ h => h.2)) (fun _ h => h.1)); replace BK109 := am (KeepBut.blk hk (uP BK109) NB109_0.out (by simp)); replace HK := am (KeepBut.trans uV hk (.inl rfl)); replace HB := am (hb); replace HI0 := am (hi); (try clear hb); (try clear hk); (try clear hi); obtain ⟨hcz15_0, hcz15_1, hcz15_2, hfz15_0, hfz15_1, hfz15_2⟩ := uZ3 BK109; have hnb16 := NB101_0.out; have hnc16 := NB0_101.out; obtain ⟨hcz17_0, hcz17_1, hcz17_2, hfz17_0, hfz17_1, hfz17_2⟩ := uZ3 BK101))
  refine bodyPost_ret (results_cell_row rfl _ _ gb101 28 #[.int .i64 t113, .int .i64 t114, .slice Ao12 t104.length co12] (0, 0) _ rfl (by refine blk_put (cs := #[.int .i64 t113, .int .i64 t114, .slice none 0 0]) ?_ 2 _ rfl; refine blk_put (cs := #[.int .i64 t113, .int .i64 0, .slice none 0 0]) ?_ 1 _ rfl; refine blk_put (cs := #[.int .i64 0, .int .i64 0, .slice none 0 0]) ?_ 0 _ rfl; refine blk_far ?_ NB101_109.out _; refine blk_far ?_ NB101_109.out _; exact (uP BK101)) Tryz.underlying28 rfl (by kernel_rfl)) rfl ?_
  exact ⟨_, uA, by (with_reducible skip); exact Kd.R_mono (Kd.R_far (p := ⟨gb101, 2, none⟩) (Kd.R_far (p := ⟨gb101, 1, none⟩) (Kd.R_far (p := ⟨gb101, 0, none⟩) (Kd.R_far (p := ⟨gb109, 1, none⟩) (Kd.R_far (p := ⟨gb109, 0, none⟩) (Kd.R_types (Kd.R_types HO106.out BK109.out (by decide)) BK101.out (by decide)) (fun _ hk => hk.1.2) (.int .i64 t113)) (fun _ hk => hk.1.2) (.int .i64 t114)) (fun _ hk => hk.2) (.int .i64 t113)) (fun _ hk => hk.2) (.int .i64 t114)) (fun _ hk => hk.2) (.slice Ao12 t104.length co12)) (fun _ hk => trivial), by exact uI, by exact uW, by exact uV⟩
 ·rw [if_neg c4] at H
  have c4b0 : (t110 == 0) = false := beq_eq_false_iff_ne.mpr c4
  have c4b1 : (t110 != 0) = true := bne_iff_ne.mpr c4
  by_cases c18 : t110 = 1
  ·rw [if_pos c18] at H
   have c18b0 : (t110 == 1) = true := beq_iff_eq.mpr c18
   have c18b1 : (t110 != 1) = false := bne_eq_false_iff_eq.mpr c18
   clear c18
   obtain ⟨⟨t117, t118, t119, t120, t121⟩, A190, H⟩ := bH H
   dsimp only at H
   have A19 := am A190
   clear A190
   by_cases c20 : t104.length < 5864062014805
   ·rw [if_pos c20] at H
    have LMc20 := am c20
    clear c20
    obtain ⟨y122, hy122⟩ : ∃ y_ : List (S46), y_ = (t104 ++ [(⟨t117, t118, t119⟩ : S46)]) := ⟨_, rfl⟩
    replace H : (some (t102, t103, y122, t120, t121)) = some (r1, r2, r3, r4, r5) := by (rw [hy122]; with_reducible exact H)
    have Ny122 := am hy122
    clear hy122
    simp only [Option.some.injEq, Prod.mk.injEq] at H
    obtain ⟨rfl, rfl, rfl, rfl, rfl⟩ := H
    go_enter Tryz.func62, Tryz.ntmps62
    try go_wp2_with (first | ((with_reducible refine gate_dst (N := 2) rfl ?_); refine uX (N := 2) (cs := #[.int .i64 0, .int .i64 0, .slice none 0 0]) (t := 28) ?_; intro gb101 hg w21 hbox hb; have BK101 := am (hbox); have GW101 := am ((by rw [hg]; exact (keep_size (w := w) (g := g) (row := none) uV) : w.heap.size ≤ gb101)); have GE101 := am ((Nat.le_trans HW0.out (by rw [hg]; exact (keep_size (w := w) (g := g) (row := none) uV) : w.heap.size ≤ gb101) : w0.heap.size ≤ gb101)); have NB0_101 := am ((by rw [hg]; exact Nat.ne_of_lt (IsS75.lt (show IsS75 w0 _ g s0_0 s0_1 s0_2 from by exact uI)) : g ≠ gb101)); have NB101_0 := am ((by rw [hg]; exact Nat.ne_of_gt (IsS75.lt (show IsS75 w0 _ g s0_0 s0_1 s0_2 from by exact uI)) : gb101 ≠ g)); replace HI0 := am (IsS75.below uI hb); replace HK := am (KeepBut.trans uV (KeepBut.of_below hb g none) (.inl rfl)); replace HB := uS hb; clear hb hbox hg) | ((with_reducible refine gate_callee (f := 58) rfl ?_); refine uGo (some 5) Tryz.func58 #[.pointer (some ⟨g, 0, none⟩), .int .i64 5] ?_; (with_reducible refine (spec_l1Cur_surePuzzle.calls k g s0_0 s0_1 s0_2 5 t102 t103 t104 t107 t108 w0 _ ?side1 ?side2 A2.out).mono ?_); (case side1 => exact uI); (case side2 => exact uW); rintro e w22 ⟨v105, rfl, ho0, hi, hb, hk⟩; refine ⟨_, rfl, ?_⟩; have HO106 := am (Kd.R_lower ho0 (keep_size (w := w) (g := g) (row := none) uV)); replace BK101 := am (KeepBut.blk hk (uP BK101) NB101_0.out (by simp)); replace HK := am (KeepBut.trans uV hk (.inl rfl)); replace HB := am (hb); replace HI0 := am (hi); (try clear hb); (try clear hk); (try clear hi); (try clear ho0)) | ((with_reducible refine gate_dst (N := 3) rfl ?_); refine uX (N := 3) (cs := #[.int .i64 0, .int .i64 0, .slice none 0 0]) (t := 28) ?_; intro gb109 hg w23 hbox hb; have BK109 := am (hbox); have GW109 := am ((by rw [hg]; exact (keep_size (w := w) (g := g) (row := none) uV) : w.heap.size ≤ gb109)); have GE109 := am ((Nat.le_trans HW0.out (by rw [hg]; exact (keep_size (w := w) (g := g) (row := none) uV) : w.heap.size ≤ gb109) : w0.heap.size ≤ gb109)); have NB101_109 := uL BK101 hg; have NB109_101 := uY NB101_109; have NB0_109 := am ((by rw [hg]; exact Nat.ne_of_lt (IsS75.lt (show IsS75 w0 _ g s0_0 t107 t108 from by exact uI)) : g ≠ gb109)); have NB109_0 := am ((by rw [hg]; exact Nat.ne_of_gt (IsS75.lt (show IsS75 w0 _ g s0_0 t107 t108 from by exact uI)) : gb109 ≠ g)); replace HO106 := am (Kd.R_below (uR HO106) hb); replace HI0 := am (IsS75.below uI hb); replace BK101 := uB BK101 hb; replace HK := am (KeepBut.trans uV (KeepBut.of_below hb g none) (.inl rfl)); replace HB := uS hb; clear hb hbox hg; have hnb24 := NB109_101.out; have hnc24 := NB101_109.out; have hnb25 := NB109_0.out; have hnc25 := NB0_109.out; obtain ⟨hcz26_0, hcz26_1, hcz26_2, hfz26_0, hfz26_1, hfz26_2⟩ := uZ3 BK109; obtain ⟨Ao27, co27, eo27⟩ := Kd.R_slice HO106.out; subst eo27) | ((with_reducible refine gate_callee (f := 83) rfl ?_); refine uGo (some 7) Tryz.func83 #[.pointer (some ⟨g, 0, none⟩), .int .i64 12] ?_; (with_reducible refine (spec_l1Cur_pick.calls g s0_0 t107 t108 12 t110 t111 t112 w0 _ ?side1 ?side2 A3.out).mono ?_); (case side1 => exact uI); (case side2 => exact uW); rintro e w28 ⟨rfl, hi, hb, hk⟩; refine ⟨_, rfl, ?_⟩; replace BK101 := am (KeepBut.blk hk (g' := gb101) (o := .cells #[.int .i64 0, .int .i64 0, .slice none 0 0] 28 (0, 0)) (by refine blk_far ?_ NB101_109.out _; refine blk_far ?_ NB101_109.out _; refine blk_far ?_ NB101_109.out _; exact (uP BK101)) NB101_0.out (by simp)); replace HO106 := am (Kd.R_mono (Kd.R_keep (IsS75.apart (show IsS75 w0 _ g s0_0 t107 t108 from by exact uI) (by (with_reducible skip); exact (Kd.R_mono (Kd.R_far (p := ⟨gb109, 2, none⟩) (Kd.R_far (p := ⟨gb109, 1, none⟩) (Kd.R_far (p := ⟨gb109, 0, none⟩) (Kd.R_types HO106.out BK109.out (by decide)) (fun _ hk => hk.2) (.int .i64 t102)) (fun _ hk => hk.2) (.int .i64 t103)) (fun _ hk => hk.2) (.slice Ao27 t104.length co27)) (fun _ h_ => h_.1))) (by decide)) hk (fun _ h => h.2)) (fun _ h => h.1)); replace BK109 := am (KeepBut.blk hk (g' := gb109) (o := .cells #[.int .i64 t102, .int .i64 t103, .slice Ao27 t104.length co27] 28 (0, 0)) (by refine blk_put (cs := #[.int .i64 t102, .int .i64 t103, .slice none 0 0]) ?_ 2 _ rfl; refine blk_put (cs := #[.int .i64 t102, .int .i64 0, .slice none 0 0]) ?_ 1 _ rfl; refine blk_put (cs := #[.int .i64 0, .int .i64 0, .slice none 0 0]) ?_ 0 _ rfl; exact (uP BK109)) NB109_0.out (by simp)); replace HK := am (KeepBut.trans uV hk (.inl rfl)); replace HB := am (hb); replace HI0 := am (hi); (try clear hb); (try clear hk); (try clear hi)))
    replace HO106 := am (Kd.R_drew HO106.out)
    replace BK101 := am (blk_drew BK101.out)
    replace BK109 := am (blk_drew BK109.out)
    replace HI0 := am (IsS75.drew HI0.out)
    replace HK := am (keep_drew HK.out)
    replace HB := am (below_drew1 HB.out)
    refine start_ (n := 8) (S := fun w' => w'.cell? ⟨gb109, 0, none⟩ = some (.int .i64 t102) ∧ w'.cell? ⟨gb109, 1, none⟩ = some (.int .i64 t103) ∧ w'.cell? ⟨gb109, 2, none⟩ = some (.slice Ao27 t104.length co27)) (ds := [7]) #[false, false, false, false, false, false, false, false] (by kernel_rfl) rfl rfl ⟨uT BK109 0, uT BK109 1, uT BK109 2⟩ (fun hHeld => ?_); refine with_tabW spec_l1Cur_puzzle.tab6 spec_l1Cur_puzzle.bits6 (fun HT_ HW_ => ?_)
    generalize w28.drew = w29 at HO106 BK101 BK109 HI0 HK HB hHeld ⊢
    refine uPu (i := 0) (N := some 15) #[true, false, false, false, false, false, false, false] ?_
    refine uPu (i := 2) (N := some 17) #[true, false, true, false, false, false, false, false] ?_
    refine uTk (i := 1) (N := some 16) #[true, true, true, false, false, false, false, false] hHeld ?_
    refine uOn (i := 3) (N := some 18) #[true, true, true, true, false, false, false, false] (fun K hK => ?_)
    refine uGs Tryz.func88 #[.pointer (some ⟨g, 0, none⟩)] ?_
    with_reducible refine (spec_l1Cur_clue.calls k g s0_0 t111 t112 t117 t118 t119 t120 t121 w0 _ ?side1 ?side2 A19.out).mono ?_
    (case side1 => exact uI)
    (case side2 => exact uW)
    rintro e w30 ⟨rfl, hi, hb, hk⟩
    refine ⟨_, rfl, ?_⟩
    replace BK101 := am (KeepBut.blk hk (uP BK101) NB101_0.out (by simp))
    replace HO106 := am (Kd.R_mono (Kd.R_keep (IsS75.apart (show IsS75 w0 _ g s0_0 t111 t112 from by exact uI) (uR HO106) (by decide)) hk (fun _ h => h.2)) (fun _ h => h.1))
    replace BK109 := am (KeepBut.blk hk (uP BK109) NB109_0.out (by simp))
    replace HK := am (KeepBut.trans uV hk (.inl rfl))
    replace HB := am (hb)
    replace HI0 := am (hi)
    (try clear hb)
    (skip)
    (try clear hk)
    (try clear hi)
    refine hK.out _ _ ⟨uT BK109 0, uT BK109 1, uT BK109 2⟩ (fun hHeld => ?_)
    clear hK K
    refine uNo (some 18) ?_
    refine uOn (i := 4) (N := some 19) #[true, true, true, true, true, false, false, false] (fun K hK => ?_)
    refine value_ (w1 := ?_) (v := ?_) (by rfl) rfl ?_ ?_
    rotate_left 2
    ·go_simp
     constructor
     ·rfl
     ·rfl
    refine hK.out _ _ ⟨(blk_cell (blk_alloc BK109.out _) 0).trans rfl, (blk_cell (blk_alloc BK109.out _) 1).trans rfl, (blk_cell (blk_alloc BK109.out _) 2).trans rfl⟩ (fun hHeld => ?_)
    clear hK K
    refine uNo (some 19) ?_
    refine uOn (i := 5) (N := some 20) #[true, true, true, true, true, true, false, false] (fun K hK => ?_)
    refine Kd.R_append_step k46 w.heap.size (by rfl) (.tmp 16) (.tmp 19) 26 46 (.agg #[(.int .i64 0), (.int .i64 0), (.int .i64 0)]) 24 rfl Tryz.underlying26 info46 rfl (by decide) (by omega) (.slice Ao27 t104.length co27) t104 (⟨t117, t118, t119⟩ : S46) [.int .i64 t117, .int .i64 t118, .int .i64 t119] (fun _ => True) (fun _ => False) rfl rfl ?aP (fun _ hk => hk.elim) ?aF ?aO (Below.refl _ _) ?aS ?aL ?_
    (case aP => exact k46_mkM _ _ _ (⟨t117, t118, t119⟩ : S46))
    (case aF => exact (fun _ _ => trivial))
    (case aO => exact (uR HO106))
    (case aS => exact (keep_size (w := w) (g := g) (row := none) uV))
    (case aL => have := LMc20.out; omega)
    intro v123 w31 ho hb hg hat
    rw [← Ny122.out] at ho
    have HO124 := am (ho)
    replace HI0 := am (IsS75.grown uI hg (IsS75.own_ne HI0.out HO106.out (by decide)))
    replace BK101 := am (blk_grown (uP BK101) hg (Kd.R_ne HO106.out BK101.out (by decide)))
    replace BK109 := am (blk_grown (uP BK109) hg (Kd.R_ne HO106.out BK109.out (by decide)))
    replace HB := am (below_weaken uW HL.out hb)
    replace HK := am (KeepBut.trans uV (KeepBut.of_grown hg g) (Kd.R_base2 HO106.out))
    clear HO106
    clear ho hb hg hat
    obtain ⟨Ao32, co32, eo32⟩ := Kd.R_slice HO124.out
    (subst eo32)
    refine hK.out _ _ ⟨uT BK109 0, uT BK109 1, uT BK109 2⟩ (fun hHeld => ?_)
    clear hK K
    refine uNo (some 20) ?_
    refine uPu (i := 6) (N := some 21) #[true, true, true, true, true, true, true, false] ?_
    refine last_ (i := 7) (N := none) #[true, true, true, true, true, true, true, true] rfl rfl (one_of HT_.out (by kernel_rfl)) (by decide) (fun K hK => ?_)
    have hs33 : w31.cell? ⟨gb109, 2, none⟩ = some (.slice Ao27 t104.length co27) := uT BK109 2
    have hfs33 := blk_frozen BK109.out 2
    have hns33_0 := NB101_109.out
    have hms33_0 := NB109_101.out
    refine skip_ (w1 := ?_) (by rfl) rfl ?_ ?_
    rotate_left
    ·go_simp
     rfl
    refine hK.out _ _ ?_
    clear hK K
    refine done_ (done_of HT_.out (by kernel_rfl)) ?_
    obtain ⟨hcz34_0, hcz34_1, hcz34_2, hfz34_0, hfz34_1, hfz34_2⟩ := uZ3 BK109
    have hnb35 := NB101_0.out
    have hnc35 := NB0_101.out
    obtain ⟨hcz36_0, hcz36_1, hcz36_2, hfz36_0, hfz36_1, hfz36_2⟩ := uZ3 BK101
    try go_wp2
    refine bodyPost_ret (results_cell_row rfl _ _ gb101 28 #[.int .i64 t102, .int .i64 t103, .slice Ao32 y122.length co32] (0, 0) _ rfl (by refine blk_put (cs := #[.int .i64 t102, .int .i64 t103, .slice none 0 0]) ?_ 2 _ rfl; refine blk_put (cs := #[.int .i64 t102, .int .i64 0, .slice none 0 0]) ?_ 1 _ rfl; refine blk_put (cs := #[.int .i64 0, .int .i64 0, .slice none 0 0]) ?_ 0 _ rfl; refine blk_far ?_ NB101_109.out _; exact (uP BK101)) Tryz.underlying28 rfl (by kernel_rfl)) rfl ?_
    exact ⟨_, uA, by (with_reducible skip); exact Kd.R_mono (Kd.R_far (p := ⟨gb101, 2, none⟩) (Kd.R_far (p := ⟨gb101, 1, none⟩) (Kd.R_far (p := ⟨gb101, 0, none⟩) (Kd.R_far (p := ⟨gb109, 2, none⟩) (Kd.R_types (Kd.R_types HO124.out BK109.out (by decide)) BK101.out (by decide)) (fun _ hk => hk.1.2) (.slice Ao32 y122.length co32)) (fun _ hk => hk.2) (.int .i64 t102)) (fun _ hk => hk.2) (.int .i64 t103)) (fun _ hk => hk.2) (.slice Ao32 y122.length co32)) (fun _ hk => trivial), by exact uI, by exact uW, by exact uV⟩
   ·rw [if_neg c20] at H
    exact absurd H (by simp)
  ·rw [if_neg c18] at H
   have c18b0 : (t110 == 1) = false := beq_eq_false_iff_ne.mpr c18
   have c18b1 : (t110 != 1) = true := bne_iff_ne.mpr c18
   by_cases c37 : t110 = 2
   ·rw [if_pos c37] at H
    have c37b0 : (t110 == 2) = true := beq_iff_eq.mpr c37
    have c37b1 : (t110 != 2) = false := bne_eq_false_iff_eq.mpr c37
    clear c37
    have H' := am H
    clear H
    go_enter Tryz.func62, Tryz.ntmps62
    go_wp2_with (first | ((with_reducible refine gate_dst (N := 2) rfl ?_); refine uX (N := 2) (cs := #[.int .i64 0, .int .i64 0, .slice none 0 0]) (t := 28) ?_; intro gb101 hg w38 hbox hb; have BK101 := am (hbox); have GW101 := am ((by rw [hg]; exact (keep_size (w := w) (g := g) (row := none) uV) : w.heap.size ≤ gb101)); have GE101 := am ((Nat.le_trans HW0.out (by rw [hg]; exact (keep_size (w := w) (g := g) (row := none) uV) : w.heap.size ≤ gb101) : w0.heap.size ≤ gb101)); have NB0_101 := am ((by rw [hg]; exact Nat.ne_of_lt (IsS75.lt (show IsS75 w0 _ g s0_0 s0_1 s0_2 from by exact uI)) : g ≠ gb101)); have NB101_0 := am ((by rw [hg]; exact Nat.ne_of_gt (IsS75.lt (show IsS75 w0 _ g s0_0 s0_1 s0_2 from by exact uI)) : gb101 ≠ g)); replace HI0 := am (IsS75.below uI hb); replace HK := am (KeepBut.trans uV (KeepBut.of_below hb g none) (.inl rfl)); replace HB := uS hb; clear hb hbox hg) | ((with_reducible refine gate_callee (f := 58) rfl ?_); refine uGo (some 5) Tryz.func58 #[.pointer (some ⟨g, 0, none⟩), .int .i64 5] ?_; (with_reducible refine (spec_l1Cur_surePuzzle.calls k g s0_0 s0_1 s0_2 5 t102 t103 t104 t107 t108 w0 _ ?side1 ?side2 A2.out).mono ?_); (case side1 => exact uI); (case side2 => exact uW); rintro e w39 ⟨v105, rfl, ho0, hi, hb, hk⟩; refine ⟨_, rfl, ?_⟩; have HO106 := am (Kd.R_lower ho0 (keep_size (w := w) (g := g) (row := none) uV)); replace BK101 := am (KeepBut.blk hk (uP BK101) NB101_0.out (by simp)); replace HK := am (KeepBut.trans uV hk (.inl rfl)); replace HB := am (hb); replace HI0 := am (hi); (try clear hb); (try clear hk); (try clear hi); (try clear ho0)) | ((with_reducible refine gate_dst (N := 3) rfl ?_); refine uX (N := 3) (cs := #[.int .i64 0, .int .i64 0, .slice none 0 0]) (t := 28) ?_; intro gb109 hg w40 hbox hb; have BK109 := am (hbox); have GW109 := am ((by rw [hg]; exact (keep_size (w := w) (g := g) (row := none) uV) : w.heap.size ≤ gb109)); have GE109 := am ((Nat.le_trans HW0.out (by rw [hg]; exact (keep_size (w := w) (g := g) (row := none) uV) : w.heap.size ≤ gb109) : w0.heap.size ≤ gb109)); have NB101_109 := uL BK101 hg; have NB109_101 := uY NB101_109; have NB0_109 := am ((by rw [hg]; exact Nat.ne_of_lt (IsS75.lt (show IsS75 w0 _ g s0_0 t107 t108 from by exact uI)) : g ≠ gb109)); have NB109_0 := am ((by rw [hg]; exact Nat.ne_of_gt (IsS75.lt (show IsS75 w0 _ g s0_0 t107 t108 from by exact uI)) : gb109 ≠ g)); replace HO106 := am (Kd.R_below (uR HO106) hb); replace HI0 := am (IsS75.below uI hb); replace BK101 := uB BK101 hb; replace HK := am (KeepBut.trans uV (KeepBut.of_below hb g none) (.inl rfl)); replace HB := uS hb; clear hb hbox hg; have hnb41 := NB109_101.out; have hnc41 := NB101_109.out; have hnb42 := NB109_0.out; have hnc42 := NB0_109.out; obtain ⟨hcz43_0, hcz43_1, hcz43_2, hfz43_0, hfz43_1, hfz43_2⟩ := uZ3 BK109; obtain ⟨Ao44, co44, eo44⟩ := Kd.R_slice HO106.out; subst eo44) | ((with_reducible refine gate_callee (f := 83) rfl ?_); refine uGo (some 7) Tryz.func83 #[.pointer (some ⟨g, 0, none⟩), .int .i64 12] ?_; (with_reducible refine (spec_l1Cur_pick.calls g s0_0 t107 t108 12 t110 t111 t112 w0 _ ?side1 ?side2 A3.out).mono ?_); (case side1 => exact uI); (case side2 => exact uW); rintro e w45 ⟨rfl, hi, hb, hk⟩; refine ⟨_, rfl, ?_⟩; replace BK101 := am (KeepBut.blk hk (g' := gb101) (o := .cells #[.int .i64 0, .int .i64 0, .slice none 0 0] 28 (0, 0)) (by refine blk_far ?_ NB101_109.out _; refine blk_far ?_ NB101_109.out _; refine blk_far ?_ NB101_109.out _; exact (uP BK101)) NB101_0.out (by simp)); replace HO106 := am (Kd.R_mono (Kd.R_keep (IsS75.apart (show IsS75 w0 _ g s0_0 t107 t108 from by exact uI) (by (with_reducible skip); exact (Kd.R_mono (Kd.R_far (p := ⟨gb109, 2, none⟩) (Kd.R_far (p := ⟨gb109, 1, none⟩) (Kd.R_far (p := ⟨gb109, 0, none⟩) (Kd.R_types HO106.out BK109.out (by decide)) (fun _ hk => hk.2) (.int .i64 t102)) (fun _ hk => hk.2) (.int .i64 t103)) (fun _ hk => hk.2) (.slice Ao44 t104.length co44)) (fun _ h_ => h_.1))) (by decide)) hk (fun _ h => h.2)) (fun _ h => h.1)); replace BK109 := am (KeepBut.blk hk (g' := gb109) (o := .cells #[.int .i64 t102, .int .i64 t103, .slice Ao44 t104.length co44] 28 (0, 0)) (by refine blk_put (cs := #[.int .i64 t102, .int .i64 t103, .slice none 0 0]) ?_ 2 _ rfl; refine blk_put (cs := #[.int .i64 t102, .int .i64 0, .slice none 0 0]) ?_ 1 _ rfl; refine blk_put (cs := #[.int .i64 0, .int .i64 0, .slice none 0 0]) ?_ 0 _ rfl; exact (uP BK109)) NB109_0.out (by simp)); replace HK := am (KeepBut.trans uV hk (.inl rfl)); replace HB := am (hb); replace HI0 := am (hi); (try clear hb); (try clear hk); (try clear hi)))
    go_loopg [] k (fun kq w' => ∃ (x1001_1 : Int) (x1002_1 : Int) (x110002_1 : List (S46)) (u110002 : Value), Aside0 (spec_l1Cur_puzzle.l0 kq s0_0 x1001_1 x1002_1 t102 t103 x110002_1 = some (r1, r2, r3, r4, r5)) ∧ Aside0 (kq ≤ k) ∧ Aside0 (Kd.R k46 46 w' w.heap.size (fun _ => True) u110002 x110002_1) ∧ Aside0 (w'.heap[gb101]? = some (.cells #[.int .i64 0, .int .i64 0, (.slice none 0 0)] 28 (0, 0))) ∧ Aside0 (w'.heap[gb109]? = some (.cells #[.int .i64 t102, .int .i64 t103, u110002] 28 (0, 0))) ∧ Aside0 (IsS75 w0 w' g s0_0 x1001_1 x1002_1) ∧ Aside0 (KeepBut w w' g none) ∧ Aside0 (Below w0.heap.size w0 w'))
    case atStart => exact ⟨(t111), (t112), (t104), (.slice Ao44 t104.length co44), H', ⟨Nat.le_refl _⟩, ⟨by (with_reducible skip); exact HO106.out⟩, ⟨by (with_reducible skip); exact BK101.out⟩, ⟨by (with_reducible skip); exact BK109.out⟩, ⟨by exact uI⟩, ⟨by exact uV⟩, ⟨by exact uW⟩⟩
    case round =>
     clear H'
     try clear c4
     try clear c4b0
     try clear c4b1
     try clear c18
     try clear c18b0
     try clear c18b1
     try clear c37b0
     try clear c37b1
     try clear hcz43_0
     try clear hcz43_1
     try clear hcz43_2
     try clear hfz43_0
     try clear hfz43_1
     try clear hfz43_2
     obtain ⟨x1001_1, x1002_1, x110002_1, u110002, HA, HK1, HO_110002, BK101, BK109, HI0, HK, HB⟩ := hrel
     cases gk with
     | zero => exact absurd HA.out (by simp [spec_l1Cur_puzzle.l0])
     | succ k1 =>
      have H := HA.out
      clear HA
      simp only [spec_l1Cur_puzzle.l0] at H
      obtain ⟨⟨t125, t126, t127⟩, A460, H⟩ := bH H
      dsimp only at H
      have A46 := am A460
      clear A460
      by_cases c47 : (x110002_1.length : Int) < (wrap64 (6 + t125))
      ·rw [if_pos c47] at H
       have c47b0 : decide ((x110002_1.length : Int) < (wrap64 (6 + t125))) = true := decide_eq_true c47
       clear c47
       by_cases c48 : x110002_1.length < 5864062014805
       ·rw [if_pos c48] at H
        have LMc48 := am c48
        clear c48
        obtain ⟨y128, hy128⟩ : ∃ y_ : List (S46), y_ = (x110002_1 ++ [(⟨3, 0, 5⟩ : S46)]) := ⟨_, rfl⟩
        replace H : (spec_l1Cur_puzzle.l0 k1 s0_0 t126 t127 t102 t103 y128) = some (r1, r2, r3, r4, r5) := by (rw [hy128]; with_reducible exact H)
        have Ny128 := am hy128
        clear hy128
        have H' := am H
        clear H
        try go_wp2
        replace HO_110002 := am (Kd.R_drew HO_110002.out)
        replace BK101 := am (blk_drew BK101.out)
        replace BK109 := am (blk_drew BK109.out)
        replace HI0 := am (IsS75.drew HI0.out)
        replace HK := am (keep_drew HK.out)
        replace HB := am (below_drew1 HB.out)
        obtain ⟨Ao50, co50, eo50⟩ := Kd.R_slice HO_110002.out
        (subst eo50)
        refine start_ (n := 7) (S := fun w' => w'.cell? ⟨gb109, 0, none⟩ = some (.int .i64 t102) ∧ w'.cell? ⟨gb109, 1, none⟩ = some (.int .i64 t103) ∧ w'.cell? ⟨gb109, 2, none⟩ = some (.slice Ao50 x110002_1.length co50)) (ds := []) #[false, false, false, false, false, false, false] (by kernel_rfl) rfl rfl ⟨uT BK109 0, uT BK109 1, uT BK109 2⟩ (fun hHeld => ?_)
        generalize wr.drew = w49 at HO_110002 BK101 BK109 HI0 HK HB hHeld ⊢
        refine pure_ (i := 0) (N := some 24) (v := ?_) (a' := ?_) #[true, false, false, false, false, false, false] rfl rfl (by kernel_rfl) (fun _ _ _ h => h) (Or.inl ⟨by rfl, ?_⟩) ?_ ?_
        rotate_left
        ·intro w'
         go_simp
         with_reducible rfl
        rotate_left
        ·simp only [Act.put, List.setIfInBounds_toArray, List.set_cons_zero, List.set_cons_succ, i64_w, i32_w]
         rfl
        refine pure_ (i := 3) (N := some 27) (v := ?_) (a' := ?_) #[true, false, false, true, false, false, false] rfl rfl (by kernel_rfl) (fun _ _ _ h => h) (Or.inl ⟨by rfl, ?_⟩) ?_ ?_
        rotate_left
        ·intro w'
         go_simp
         with_reducible rfl
        rotate_left
        ·simp only [Act.put, List.setIfInBounds_toArray, List.set_cons_zero, List.set_cons_succ, i64_w, i32_w]
         rfl
        refine take_ (i := 1) (N := some 25) (v := ?_) (a' := ?_) #[true, true, false, true, false, false, false] rfl rfl (by kernel_rfl) (fun _ _ _ h => h) (Or.inl ⟨by rfl, ?_⟩) hHeld ?_ ?_
        rotate_left
        ·rintro w' ⟨s0, s1, s2⟩
         go_simp
         with_reducible rfl
        rotate_left
        ·simp only [Act.put, List.setIfInBounds_toArray, List.set_cons_zero, List.set_cons_succ, i64_w, i32_w]
         rfl
        refine pure_ (i := 2) (N := some 26) (v := ?_) (a' := ?_) #[true, true, true, true, false, false, false] rfl rfl (by kernel_rfl) (fun _ _ _ h => h) (Or.inl ⟨by rfl, ?_⟩) ?_ ?_
        rotate_left
        ·intro w'
         go_simp
         with_reducible rfl
        rotate_left
        ·simp only [Act.put, List.setIfInBounds_toArray, List.set_cons_zero, List.set_cons_succ, i64_w, i32_w]
         rfl
        refine one_ (i := 4) (N := some 28) #[true, true, true, true, true, false, false] rfl rfl (by kernel_rfl) (by decide) (fun K hK => ?_)
        refine uGs Tryz.func83 #[.pointer (some ⟨g, 0, none⟩), .int .i64 2] ?_
        with_reducible refine (spec_l1Cur_pick.calls g s0_0 x1001_1 x1002_1 2 t125 t126 t127 w0 _ ?side1 ?side2 A46.out).mono ?_
        (case side1 => exact uI)
        (case side2 => exact uW)
        rintro e w51 ⟨rfl, hi, hb, hk⟩
        refine ⟨_, rfl, ?_⟩
        replace HO_110002 := am (Kd.R_mono (Kd.R_keep (IsS75.apart (show IsS75 w0 _ g s0_0 x1001_1 x1002_1 from by exact uI) (uR HO_110002) (by decide)) hk (fun _ h => h.2)) (fun _ h => h.1))
        replace BK101 := am (KeepBut.blk hk (uP BK101) NB101_0.out (by simp))
        replace BK109 := am (KeepBut.blk hk (uP BK109) NB109_0.out (by simp))
        replace HK := am (KeepBut.trans uV hk (.inl rfl))
        replace HB := am (hb)
        replace HI0 := am (hi)
        (try clear hb)
        (skip)
        (try clear hk)
        (try clear hi)
        refine hK.out _ _ ⟨uT BK109 0, uT BK109 1, uT BK109 2⟩ (fun hHeld => ?_)
        clear hK K
        refine uNo (some 28) ?_
        refine pure_ (i := 5) (N := some 29) (v := ?_) (a' := ?_) #[true, true, true, true, true, true, false] rfl rfl (by kernel_rfl) (fun _ _ _ h => h) (Or.inl ⟨by rfl, ?_⟩) ?_ ?_
        rotate_left
        ·intro w'
         go_simp
         with_reducible rfl
        rotate_left
        ·simp only [Act.put, List.setIfInBounds_toArray, List.set_cons_zero, List.set_cons_succ, i64_w, i32_w]
         rfl
        refine pure_ (i := 6) (N := some 30) (v := ?_) (a' := ?_) #[true, true, true, true, true, true, true] rfl rfl (by kernel_rfl) (fun _ _ _ h => h) (Or.inl ⟨by rfl, ?_⟩) ?_ ?_
        rotate_left
        ·intro w'
         go_simp
         with_reducible rfl
        rotate_left
        ·simp only [Act.put, List.setIfInBounds_toArray, List.set_cons_zero, List.set_cons_succ, i64_w, i32_w]
         rfl
        refine done_ (by kernel_rfl) ?_
        have hnb52 := NB109_101.out
        have hnc52 := NB101_109.out
        have hnb53 := NB109_0.out
        have hnc53 := NB0_109.out
        obtain ⟨hcz54_0, hcz54_1, hcz54_2, hfz54_0, hfz54_1, hfz54_2⟩ := uZ3 BK109
        try go_wp2_with (((with_reducible refine gate_builtin (b := .append) (xs := #[.tmp 32, .tmp 34]) rfl ?_); at_builtin; refine Kd.R_append k46 w.heap.size rfl (.tmp 32) (.tmp 34) 26 46 (.agg #[(.int .i64 0), (.int .i64 0), (.int .i64 0)]) 24 rfl Tryz.underlying26 info46 rfl (by decide) (by omega) (.slice Ao50 x110002_1.length co50) x110002_1 (⟨3, 0, 5⟩ : S46) [.int .i64 3, .int .i64 0, .int .i64 5] (fun _ => True) (fun _ => False) rfl rfl ?aP (fun _ hk => hk.elim) ?aF ?aO (Below.refl _ _) ?aS ?aL ?_; (case aP => exact k46_mkM _ _ _ (⟨3, 0, 5⟩ : S46)); (case aF => exact (fun _ _ => trivial)); (case aO => exact (uR HO_110002)); (case aS => exact (keep_size (w := w) (g := g) (row := none) uV)); (case aL => have := LMc48.out; omega); intro v129 w55 ho hb hg hat; rw [← Ny128.out] at ho; have HO130 := am (ho); replace BK101 := am (blk_grown (uP BK101) hg (Kd.R_ne HO_110002.out BK101.out (by decide))); replace BK109 := am (blk_grown (uP BK109) hg (Kd.R_ne HO_110002.out BK109.out (by decide))); replace HI0 := am (IsS75.grown uI hg (IsS75.own_ne HI0.out HO_110002.out (by decide))); replace HB := am (below_weaken uW HL.out hb); replace HK := am (KeepBut.trans uV (KeepBut.of_grown hg g) (Kd.R_base2 HO_110002.out)); clear HO_110002; clear ho hb hg hat; obtain ⟨Ao56, co56, eo56⟩ := Kd.R_slice HO130.out; subst eo56; obtain ⟨hcz57_0, hcz57_1, hcz57_2, hfz57_0, hfz57_1, hfz57_2⟩ := uZ3 BK109))
        go_roundg k1
        case measure => have := HK1.out; omega
        case rel => exact ⟨(t126), (t127), (y128), (.slice Ao56 y128.length co56), H', ⟨by have := HK1.out; omega⟩, ⟨by (with_reducible skip); exact Kd.R_mono (Kd.R_far (p := ⟨gb109, 2, none⟩) (Kd.R_types HO130.out BK109.out (by decide)) (fun _ hk => hk.2) (.slice Ao56 y128.length co56)) (fun _ hk => trivial)⟩, ⟨by refine blk_far ?_ NB101_109.out _; exact (uP BK101)⟩, ⟨by refine blk_put (cs := #[.int .i64 t102, .int .i64 t103, .slice Ao50 x110002_1.length co50]) ?_ 2 _ rfl; exact (uP BK109)⟩, ⟨by exact uI⟩, ⟨by exact uV⟩, ⟨by exact uW⟩⟩
       ·rw [if_neg c48] at H
        exact absurd H (by simp)
      ·rw [if_neg c47] at H
       have c47b0 : decide ((x110002_1.length : Int) < (wrap64 (6 + t125))) = false := decide_eq_false c47
       clear c47
       simp only [Option.some.injEq, Prod.mk.injEq] at H
       obtain ⟨rfl, rfl, rfl, rfl, rfl⟩ := H
       try go_wp2
       replace HO_110002 := am (Kd.R_drew HO_110002.out)
       replace BK101 := am (blk_drew BK101.out)
       replace BK109 := am (blk_drew BK109.out)
       replace HI0 := am (IsS75.drew HI0.out)
       replace HK := am (keep_drew HK.out)
       replace HB := am (below_drew1 HB.out)
       obtain ⟨Ao59, co59, eo59⟩ := Kd.R_slice HO_110002.out
       (subst eo59)
       refine start_ (n := 7) (S := fun w' => w'.cell? ⟨gb109, 0, none⟩ = some (.int .i64 t102) ∧ w'.cell? ⟨gb109, 1, none⟩ = some (.int .i64 t103) ∧ w'.cell? ⟨gb109, 2, none⟩ = some (.slice Ao59 x110002_1.length co59)) (ds := []) #[false, false, false, false, false, false, false] (by kernel_rfl) rfl rfl ⟨uT BK109 0, uT BK109 1, uT BK109 2⟩ (fun hHeld => ?_)
       generalize wr.drew = w58 at HO_110002 BK101 BK109 HI0 HK HB hHeld ⊢
       refine pure_ (i := 0) (N := some 24) (v := ?_) (a' := ?_) #[true, false, false, false, false, false, false] rfl rfl (by kernel_rfl) (fun _ _ _ h => h) (Or.inl ⟨by rfl, ?_⟩) ?_ ?_
       rotate_left
       ·intro w'
        go_simp
        with_reducible rfl
       rotate_left
       ·simp only [Act.put, List.setIfInBounds_toArray, List.set_cons_zero, List.set_cons_succ, i64_w, i32_w]
        rfl
       refine pure_ (i := 3) (N := some 27) (v := ?_) (a' := ?_) #[true, false, false, true, false, false, false] rfl rfl (by kernel_rfl) (fun _ _ _ h => h) (Or.inl ⟨by rfl, ?_⟩) ?_ ?_
       rotate_left
       ·intro w'
        go_simp
        with_reducible rfl
       rotate_left
       ·simp only [Act.put, List.setIfInBounds_toArray, List.set_cons_zero, List.set_cons_succ, i64_w, i32_w]
        rfl
       refine take_ (i := 1) (N := some 25) (v := ?_) (a' := ?_) #[true, true, false, true, false, false, false] rfl rfl (by kernel_rfl) (fun _ _ _ h => h) (Or.inl ⟨by rfl, ?_⟩) hHeld ?_ ?_
       rotate_left
       ·rintro w' ⟨s0, s1, s2⟩
        go_simp
        with_reducible rfl
       rotate_left
       ·simp only [Act.put, List.setIfInBounds_toArray, List.set_cons_zero, List.set_cons_succ, i64_w, i32_w]
        rfl
       refine pure_ (i := 2) (N := some 26) (v := ?_) (a' := ?_) #[true, true, true, true, false, false, false] rfl rfl (by kernel_rfl) (fun _ _ _ h => h) (Or.inl ⟨by rfl, ?_⟩) ?_ ?_
       rotate_left
       ·intro w'
        go_simp
        with_reducible rfl
       rotate_left
       ·simp only [Act.put, List.setIfInBounds_toArray, List.set_cons_zero, List.set_cons_succ, i64_w, i32_w]
        rfl
       refine one_ (i := 4) (N := some 28) #[true, true, true, true, true, false, false] rfl rfl (by kernel_rfl) (by decide) (fun K hK => ?_)
       refine uGs Tryz.func83 #[.pointer (some ⟨g, 0, none⟩), .int .i64 2] ?_
       with_reducible refine (spec_l1Cur_pick.calls g s0_0 x1001_1 x1002_1 2 t125 t126 t127 w0 _ ?side1 ?side2 A46.out).mono ?_
       (case side1 => exact uI)
       (case side2 => exact uW)
       rintro e w60 ⟨rfl, hi, hb, hk⟩
       refine ⟨_, rfl, ?_⟩
       replace HO_110002 := am (Kd.R_mono (Kd.R_keep (IsS75.apart (show IsS75 w0 _ g s0_0 x1001_1 x1002_1 from by exact uI) (uR HO_110002) (by decide)) hk (fun _ h => h.2)) (fun _ h => h.1))
       replace BK101 := am (KeepBut.blk hk (uP BK101) NB101_0.out (by simp))
       replace BK109 := am (KeepBut.blk hk (uP BK109) NB109_0.out (by simp))
       replace HK := am (KeepBut.trans uV hk (.inl rfl))
       replace HB := am (hb)
       replace HI0 := am (hi)
       (try clear hb)
       (skip)
       (try clear hk)
       (try clear hi)
       refine hK.out _ _ ⟨uT BK109 0, uT BK109 1, uT BK109 2⟩ (fun hHeld => ?_)
       clear hK K
       refine uNo (some 28) ?_
       refine pure_ (i := 5) (N := some 29) (v := ?_) (a' := ?_) #[true, true, true, true, true, true, false] rfl rfl (by kernel_rfl) (fun _ _ _ h => h) (Or.inl ⟨by rfl, ?_⟩) ?_ ?_
       rotate_left
       ·intro w'
        go_simp
        with_reducible rfl
       rotate_left
       ·simp only [Act.put, List.setIfInBounds_toArray, List.set_cons_zero, List.set_cons_succ, i64_w, i32_w]
        rfl
       refine pure_ (i := 6) (N := some 30) (v := ?_) (a' := ?_) #[true, true, true, true, true, true, true] rfl rfl (by kernel_rfl) (fun _ _ _ h => h) (Or.inl ⟨by rfl, ?_⟩) ?_ ?_
       rotate_left
       ·intro w'
        go_simp
        with_reducible rfl
       rotate_left
       ·simp only [Act.put, List.setIfInBounds_toArray, List.set_cons_zero, List.set_cons_succ, i64_w, i32_w]
        rfl
       refine done_ (by kernel_rfl) ?_
       have hnb61 := NB109_101.out
       have hnc61 := NB101_109.out
       have hnb62 := NB109_0.out
       have hnc62 := NB0_109.out
       obtain ⟨hcz63_0, hcz63_1, hcz63_2, hfz63_0, hfz63_1, hfz63_2⟩ := uZ3 BK109
       have hnb64 := NB101_0.out
       have hnc64 := NB0_101.out
       obtain ⟨hcz65_0, hcz65_1, hcz65_2, hfz65_0, hfz65_1, hfz65_2⟩ := uZ3 BK101
       try go_wp2
       refine bodyPost_ret (results_cell_row rfl _ _ gb101 28 #[.int .i64 t102, .int .i64 t103, .slice Ao59 x110002_1.length co59] (0, 0) _ rfl (by refine blk_put (cs := #[.int .i64 t102, .int .i64 t103, .slice none 0 0]) ?_ 2 _ rfl; refine blk_put (cs := #[.int .i64 t102, .int .i64 0, .slice none 0 0]) ?_ 1 _ rfl; refine blk_put (cs := #[.int .i64 0, .int .i64 0, .slice none 0 0]) ?_ 0 _ rfl; exact (uP BK101)) Tryz.underlying28 rfl (by kernel_rfl)) rfl ?_
       exact ⟨_, uA, by (with_reducible skip); exact Kd.R_mono (Kd.R_far (p := ⟨gb101, 2, none⟩) (Kd.R_far (p := ⟨gb101, 1, none⟩) (Kd.R_far (p := ⟨gb101, 0, none⟩) (Kd.R_types HO_110002.out BK101.out (by decide)) (fun _ hk => hk.2) (.int .i64 t102)) (fun _ hk => hk.2) (.int .i64 t103)) (fun _ hk => hk.2) (.slice Ao59 x110002_1.length co59)) (fun _ hk => trivial), by exact uI, by exact uW, by exact uV⟩
   ·rw [if_neg c37] at H
    have c37b0 : (t110 == 2) = false := beq_eq_false_iff_ne.mpr c37
    have c37b1 : (t110 != 2) = true := bne_iff_ne.mpr c37
    simp only [Option.some.injEq, Prod.mk.injEq] at H
    obtain ⟨rfl, rfl, rfl, rfl, rfl⟩ := H
    go_enter Tryz.func62, Tryz.ntmps62
    go_wp2_with (first | ((with_reducible refine gate_dst (N := 2) rfl ?_); refine uX (N := 2) (cs := #[.int .i64 0, .int .i64 0, .slice none 0 0]) (t := 28) ?_; intro gb101 hg w66 hbox hb; have BK101 := am (hbox); have GW101 := am ((by rw [hg]; exact (keep_size (w := w) (g := g) (row := none) uV) : w.heap.size ≤ gb101)); have GE101 := am ((Nat.le_trans HW0.out (by rw [hg]; exact (keep_size (w := w) (g := g) (row := none) uV) : w.heap.size ≤ gb101) : w0.heap.size ≤ gb101)); have NB0_101 := am ((by rw [hg]; exact Nat.ne_of_lt (IsS75.lt (show IsS75 w0 _ g s0_0 s0_1 s0_2 from by exact uI)) : g ≠ gb101)); have NB101_0 := am ((by rw [hg]; exact Nat.ne_of_gt (IsS75.lt (show IsS75 w0 _ g s0_0 s0_1 s0_2 from by exact uI)) : gb101 ≠ g)); replace HI0 := am (IsS75.below uI hb); replace HK := am (KeepBut.trans uV (KeepBut.of_below hb g none) (.inl rfl)); replace HB := uS hb; clear hb hbox hg) | ((with_reducible refine gate_callee (f := 58) rfl ?_); refine uGo (some 5) Tryz.func58 #[.pointer (some ⟨g, 0, none⟩), .int .i64 5] ?_; (with_reducible refine (spec_l1Cur_surePuzzle.calls k g s0_0 s0_1 s0_2 5 t102 t103 t104 t107 t108 w0 _ ?side1 ?side2 A2.out).mono ?_); (case side1 => exact uI); (case side2 => exact uW); rintro e w67 ⟨v105, rfl, ho0, hi, hb, hk⟩; refine ⟨_, rfl, ?_⟩; have HO106 := am (Kd.R_lower ho0 (keep_size (w := w) (g := g) (row := none) uV)); replace BK101 := am (KeepBut.blk hk (uP BK101) NB101_0.out (by simp)); replace HK := am (KeepBut.trans uV hk (.inl rfl)); replace HB := am (hb); replace HI0 := am (hi); (try clear hb); (try clear hk); (try clear hi); (try clear ho0)) | ((with_reducible refine gate_dst (N := 3) rfl ?_); refine uX (N := 3) (cs := #[.int .i64 0, .int .i64 0, .slice none 0 0]) (t := 28) ?_; intro gb109 hg w68 hbox hb; have BK109 := am (hbox); have GW109 := am ((by rw [hg]; exact (keep_size (w := w) (g := g) (row := none) uV) : w.heap.size ≤ gb109)); have GE109 := am ((Nat.le_trans HW0.out (by rw [hg]; exact (keep_size (w := w) (g := g) (row := none) uV) : w.heap.size ≤ gb109) : w0.heap.size ≤ gb109)); have NB101_109 := uL BK101 hg; have NB109_101 := uY NB101_109; have NB0_109 := am ((by rw [hg]; exact Nat.ne_of_lt (IsS75.lt (show IsS75 w0 _ g s0_0 t107 t108 from by exact uI)) : g ≠ gb109)); have NB109_0 := am ((by rw [hg]; exact Nat.ne_of_gt (IsS75.lt (show IsS75 w0 _ g s0_0 t107 t108 from by exact uI)) : gb109 ≠ g)); replace HO106 := am (Kd.R_below (uR HO106) hb); replace HI0 := am (IsS75.below uI hb); replace BK101 := uB BK101 hb; replace HK := am (KeepBut.trans uV (KeepBut.of_below hb g none) (.inl rfl)); replace HB := uS hb; clear hb hbox hg; have hnb69 := NB109_101.out; have hnc69 := NB101_109.out; have hnb70 := NB109_0.out; have hnc70 := NB0_109.out; obtain ⟨hcz71_0, hcz71_1, hcz71_2, hfz71_0, hfz71_1, hfz71_2⟩ := uZ3 BK109; obtain ⟨Ao72, co72, eo72⟩ := Kd.R_slice HO106.out; subst eo72) | ((with_reducible refine gate_callee (f := 83) rfl ?_); refine uGo (some 7) Tryz.func83 #[.pointer (some ⟨g, 0, none⟩), .int .i64 12] ?_; (with_reducible refine (spec_l1Cur_pick.calls g s0_0 t107 t108 12 t110 t111 t112 w0 _ ?side1 ?side2 A3.out).mono ?_); (case side1 => exact uI); (case side2 => exact uW); rintro e w73 ⟨rfl, hi, hb, hk⟩; refine ⟨_, rfl, ?_⟩; replace BK101 := am (KeepBut.blk hk (g' := gb101) (o := .cells #[.int .i64 0, .int .i64 0, .slice none 0 0] 28 (0, 0)) (by refine blk_far ?_ NB101_109.out _; refine blk_far ?_ NB101_109.out _; refine blk_far ?_ NB101_109.out _; exact (uP BK101)) NB101_0.out (by simp)); replace HO106 := am (Kd.R_mono (Kd.R_keep (IsS75.apart (show IsS75 w0 _ g s0_0 t107 t108 from by exact uI) (by (with_reducible skip); exact (Kd.R_mono (Kd.R_far (p := ⟨gb109, 2, none⟩) (Kd.R_far (p := ⟨gb109, 1, none⟩) (Kd.R_far (p := ⟨gb109, 0, none⟩) (Kd.R_types HO106.out BK109.out (by decide)) (fun _ hk => hk.2) (.int .i64 t102)) (fun _ hk => hk.2) (.int .i64 t103)) (fun _ hk => hk.2) (.slice Ao72 t104.length co72)) (fun _ h_ => h_.1))) (by decide)) hk (fun _ h => h.2)) (fun _ h => h.1)); replace BK109 := am (KeepBut.blk hk (g' := gb109) (o := .cells #[.int .i64 t102, .int .i64 t103, .slice Ao72 t104.length co72] 28 (0, 0)) (by refine blk_put (cs := #[.int .i64 t102, .int .i64 t103, .slice none 0 0]) ?_ 2 _ rfl; refine blk_put (cs := #[.int .i64 t102, .int .i64 0, .slice none 0 0]) ?_ 1 _ rfl; refine blk_put (cs := #[.int .i64 0, .int .i64 0, .slice none 0 0]) ?_ 0 _ rfl; exact (uP BK109)) NB109_0.out (by simp)); replace HK := am (KeepBut.trans uV hk (.inl rfl)); replace HB := am (hb); replace HI0 := am (hi); (try clear hb); (try clear hk); (try clear hi); obtain ⟨hcz74_0, hcz74_1, hcz74_2, hfz74_0, hfz74_1, hfz74_2⟩ := uZ3 BK109; have hnb75 := NB101_0.out; have hnc75 := NB0_101.out; obtain ⟨hcz76_0, hcz76_1, hcz76_2, hfz76_0, hfz76_1, hfz76_2⟩ := uZ3 BK101))
    refine bodyPost_ret (results_cell_row rfl _ _ gb101 28 #[.int .i64 t102, .int .i64 t103, .slice Ao72 t104.length co72] (0, 0) _ rfl (by refine blk_put (cs := #[.int .i64 t102, .int .i64 t103, .slice none 0 0]) ?_ 2 _ rfl; refine blk_put (cs := #[.int .i64 t102, .int .i64 0, .slice none 0 0]) ?_ 1 _ rfl; refine blk_put (cs := #[.int .i64 0, .int .i64 0, .slice none 0 0]) ?_ 0 _ rfl; exact (uP BK101)) Tryz.underlying28 rfl (by kernel_rfl)) rfl ?_
    exact ⟨_, uA, by (with_reducible skip); exact Kd.R_mono (Kd.R_far (p := ⟨gb101, 2, none⟩) (Kd.R_far (p := ⟨gb101, 1, none⟩) (Kd.R_far (p := ⟨gb101, 0, none⟩) (Kd.R_types HO106.out BK101.out (by decide)) (fun _ hk => hk.2) (.int .i64 t102)) (fun _ hk => hk.2) (.int .i64 t103)) (fun _ hk => hk.2) (.slice Ao72 t104.length co72)) (fun _ hk => trivial), by exact uI, by exact uW, by exact uV⟩
def spec_DrawIsPuzzle.f (k : Nat) (l0 : List Int) : Option (Int × Int × (List (S46))) := (spec_l1Cur_puzzle.f k l0 0 0).bind fun bt103 => (some (bt103.1, bt103.2.1, bt103.2.2.1))
theorem spec_DrawIsPuzzle.calls (k : Nat) (A0 : Option Addr) (c0 : Nat) (l0 : List Int) (r1 : Int) (r2 : Int) (r3 : List (S46)) (w : World) (hr0 : Kd.C (Kd.int .u8) w A0 l0.length l0) (hc0 : l0.length ≤ c0) (h : spec_DrawIsPuzzle.f k l0 = some (r1, r2, r3)) :
  Calls Tryz.prog 36 #[.slice A0 l0.length c0] w fun e w' => ∃ v2_ : Value, e = .returned (.agg #[.int .i64 r1, .int .i64 r2, v2_]) ∧ Kd.R k46 46 w' w.heap.size (fun _ => True) v2_ r3 ∧ Below w.heap.size w w' := by
 have hu28 := Tryz.underlying28
 have hu75 := Tryz.underlying75
 have HR0 := am hr0
 have HC0 := am hc0
 clear hr0 hc0
 have HB := am (Below.refl w.heap.size w)
 have H := h
 clear h
 unfold spec_DrawIsPuzzle.f at H
 obtain ⟨⟨t103, t104, t105, t108, t109⟩, A20, H⟩ := bH H
 dsimp only at H
 have A2 := am A20
 clear A20
 simp only [Option.some.injEq, Prod.mk.injEq] at H
 obtain ⟨rfl, rfl, rfl⟩ := H
 go_enter Tryz.func36, Tryz.ntmps36
 go_wp2_with (first | ((with_reducible refine gate_dst (N := 2) rfl ?_); refine uX (N := 2) (cs := #[.int .i64 0, .int .i64 0, .slice none 0 0]) (t := 28) ?_; intro gb101 hg w3 hbox hb; have BK101 := am (hbox); have GW101 := uE hg; have GE101 := GW101; replace HB := uS hb; clear hb hbox hg) | ((with_reducible refine gate_dst (N := 6) rfl ?_); refine uX (N := 6) (cs := #[.slice A0 l0.length c0, .int .i64 0, .int .u64 0]) (t := 75) ?_; intro gb102 hg w4 hbox hb; have BK102 := am (hbox); have GW102 := uE hg; have GE102 := GW102; have NB101_102 := uL BK101 hg; have NB102_101 := uY NB101_102; replace BK101 := uB BK101 hb; replace HB := uS hb; clear hb hbox hg) | ((with_reducible refine gate_callee (f := 62) rfl ?_); refine uGo (some 8) Tryz.func62 #[.pointer (some ⟨gb102, 0, none⟩)] ?_; (with_reducible refine (spec_l1Cur_puzzle.calls k gb102 l0 0 0 t103 t104 t105 t108 t109 w _ ?side1 ?side2 A2.out).mono ?_); (case side1 => exact ⟨_, _, by (with_reducible skip); exact BK102.out, GE102.out, HR0.out⟩); (case side2 => exact uW); rintro e w5 ⟨v106, rfl, ho0, hi, hb, hk⟩; refine ⟨_, rfl, ?_⟩; have HO107 := am (Kd.R_lower ho0 (below_size uW)); have HI102 := am (hi); replace BK101 := am (KeepBut.blk hk (uP BK101) NB101_102.out (by simp)); replace HB := am (hb); clear BK102; (try clear hb); (try clear hk); (try clear hi); (try clear ho0); have hnb6 := NB101_102.out; have hnc6 := NB102_101.out; obtain ⟨hcz7_0, hcz7_1, hcz7_2, hfz7_0, hfz7_1, hfz7_2⟩ := uZ3 BK101; obtain ⟨Ao8, co8, eo8⟩ := Kd.R_slice HO107.out; subst eo8))
 refine bodyPost_ret (results_cell_row rfl _ _ gb101 28 #[.int .i64 t103, .int .i64 t104, .slice Ao8 t105.length co8] (0, 0) _ rfl (by refine blk_put (cs := #[.int .i64 t103, .int .i64 t104, .slice none 0 0]) ?_ 2 _ rfl; refine blk_put (cs := #[.int .i64 t103, .int .i64 0, .slice none 0 0]) ?_ 1 _ rfl; refine blk_put (cs := #[.int .i64 0, .int .i64 0, .slice none 0 0]) ?_ 0 _ rfl; exact (uP BK101)) Tryz.underlying28 rfl (by kernel_rfl)) rfl ?_
 exact ⟨_, uA, by (with_reducible skip); exact Kd.R_mono (Kd.R_far (p := ⟨gb101, 2, none⟩) (Kd.R_far (p := ⟨gb101, 1, none⟩) (Kd.R_far (p := ⟨gb101, 0, none⟩) (Kd.R_types HO107.out BK101.out (by decide)) (fun _ hk => hk.2) (.int .i64 t103)) (fun _ hk => hk.2) (.int .i64 t104)) (fun _ hk => hk.2) (.slice Ao8 t105.length co8)) (fun _ hk => trivial), by exact uW⟩
def spec_DrawSolutions.f (k : Nat) (l0 : List Int) : Option (Int × Int × (List (S46))) := (spec_DrawIsPuzzle.f k l0).bind fun bt102 => (some (bt102.1, bt102.2.1, bt102.2.2))
theorem spec_DrawSolutions.calls (k : Nat) (A0 : Option Addr) (c0 : Nat) (l0 : List Int) (r1 : Int) (r2 : Int) (r3 : List (S46)) (w : World) (hr0 : Kd.C (Kd.int .u8) w A0 l0.length l0) (hc0 : l0.length ≤ c0) (h : spec_DrawSolutions.f k l0 = some (r1, r2, r3)) :
  Calls Tryz.prog 5 #[.slice A0 l0.length c0] w fun e w' => ∃ v2_ : Value, e = .returned (.agg #[.int .i64 r1, .int .i64 r2, v2_]) ∧ Kd.R k46 46 w' w.heap.size (fun _ => True) v2_ r3 ∧ Below w.heap.size w w' := by
 have hu28 := Tryz.underlying28
 have HR0 := am hr0
 have HC0 := am hc0
 clear hr0 hc0
 have HB := am (Below.refl w.heap.size w)
 have H := h
 clear h
 unfold spec_DrawSolutions.f at H
 obtain ⟨⟨t102, t103, t104⟩, A20, H⟩ := bH H
 dsimp only at H
 have A2 := am A20
 clear A20
 simp only [Option.some.injEq, Prod.mk.injEq] at H
 obtain ⟨rfl, rfl, rfl⟩ := H
 go_enter Tryz.func5, Tryz.ntmps5
 go_wp2_with (first | ((with_reducible refine gate_dst (N := 2) rfl ?_); refine uX (N := 2) (cs := #[.int .i64 0, .int .i64 0, .slice none 0 0]) (t := 28) ?_; intro gb101 hg w3 hbox hb; have BK101 := am (hbox); have GW101 := uE hg; have GE101 := GW101; replace HB := uS hb; clear hb hbox hg) | ((with_reducible refine gate_callee (f := 36) rfl ?_); refine uGo (some 4) Tryz.func36 #[.slice A0 l0.length c0] ?_; (with_reducible refine (spec_DrawIsPuzzle.calls k _ _ l0 t102 t103 t104 _ ?side1 ?side2 A2.out).mono ?_); (case side1 => repeat (exact (Kd.C_below HR0.out HB.out))); (case side2 => exact HC0.out); rintro e w4 ⟨v105, rfl, ho0, hb⟩; refine ⟨_, rfl, ?_⟩; have HO106 := am (Kd.R_lower ho0 (below_size uW)); replace BK101 := uB BK101 hb; replace HB := uS hb; (try clear hb); (try clear ho0); obtain ⟨hcz5_0, hcz5_1, hcz5_2, hfz5_0, hfz5_1, hfz5_2⟩ := uZ3 BK101; obtain ⟨Ao6, co6, eo6⟩ := Kd.R_slice HO106.out; subst eo6))
 refine bodyPost_ret (results_cell_row rfl _ _ gb101 28 #[.int .i64 t102, .int .i64 t103, .slice Ao6 t104.length co6] (0, 0) _ rfl (by refine blk_put (cs := #[.int .i64 t102, .int .i64 t103, .slice none 0 0]) ?_ 2 _ rfl; refine blk_put (cs := #[.int .i64 t102, .int .i64 0, .slice none 0 0]) ?_ 1 _ rfl; refine blk_put (cs := #[.int .i64 0, .int .i64 0, .slice none 0 0]) ?_ 0 _ rfl; exact (uP BK101)) Tryz.underlying28 rfl (by kernel_rfl)) rfl ?_
 exact ⟨_, uA, by (with_reducible skip); exact Kd.R_mono (Kd.R_far (p := ⟨gb101, 2, none⟩) (Kd.R_far (p := ⟨gb101, 1, none⟩) (Kd.R_far (p := ⟨gb101, 0, none⟩) (Kd.R_types HO106.out BK101.out (by decide)) (fun _ hk => hk.2) (.int .i64 t102)) (fun _ hk => hk.2) (.int .i64 t103)) (fun _ hk => hk.2) (.slice Ao6 t104.length co6)) (fun _ hk => trivial), by exact uW⟩
def impl_within.f (a0 : Int) (a1 : Int) (a2 : Int) : Option (Bool) := if a0 ≥ a1 then (some (decide (a0 ≤ a2))) else (some false)
theorem impl_within.calls (a0 : Int) (a1 : Int) (a2 : Int) (r : Bool) (w : World) (h : impl_within.f a0 a1 a2 = some r) :
  Calls Tryz.prog 53 #[.int .i64 a0, .int .i64 a1, .int .i64 a2] w fun e w' => e = .returned (.bool r) ∧ Drawn0 w w' := by
 have H := h
 clear h
 unfold impl_within.f at H
 by_cases c4 : a0 ≥ a1
 ·rw [if_pos c4] at H
  have c4b0 : decide (a1 ≤ a0) = true := decide_eq_true c4
  clear c4
  obtain rfl := Option.some.inj H
  go_enter Tryz.func53, Tryz.ntmps53
  go_wp2
  go_ret
  exact ⟨by rfl, by repeat (exact Drawn0.refl _)⟩
 ·rw [if_neg c4] at H
  have c4b0 : decide (a1 ≤ a0) = false := decide_eq_false c4
  clear c4
  obtain rfl := Option.some.inj H
  go_enter Tryz.func53, Tryz.ntmps53
  go_wp2
  go_ret
  exact ⟨by rfl, by repeat (exact Drawn0.refl _)⟩
def impl_IsStreet.f (a0_0 : Int) (a0_1 : Int) : Option (Bool) := (impl_within.f a0_0 0 2).bind fun t102 => (if t102 = true then ((impl_within.f a0_1 1 1000).bind fun t103 => (some t103)) else (some false))
theorem impl_IsStreet.calls (a0_0 : Int) (a0_1 : Int) (r : Bool) (w : World) (h : impl_IsStreet.f a0_0 a0_1 = some r) :
  Calls Tryz.prog 49 #[.agg #[.int .i64 a0_0, .int .i64 a0_1]] w fun e w' => e = .returned (.bool r) ∧ Below w.heap.size w w' := by
 have hu25 := Tryz.underlying25
 have HB := am (Below.refl w.heap.size w)
 have H := h
 clear h
 unfold impl_IsStreet.f at H
 obtain ⟨t102, A20, H⟩ := bH H
 have A2 := am A20
 clear A20
 by_cases c3 : t102 = true
 ·subst c3
  rw [if_pos rfl] at H
  obtain ⟨t103, A40, H⟩ := bH H
  have A4 := am A40
  clear A40
  obtain rfl := Option.some.inj H
  go_enter Tryz.func49, Tryz.ntmps49
  go_wp2_with (first | ((with_reducible refine gate_dst (N := 1) rfl ?_); refine uX (N := 1) (cs := #[.int .i64 a0_0, .int .i64 a0_1]) (t := 25) ?_; intro gb101 hg w5 hbox hb; have BK101 := am (hbox); have GW101 := uE hg; have GE101 := GW101; replace HB := uS hb; clear hb hbox hg; obtain ⟨hcz6_0, hcz6_1, hfz6_0, hfz6_1⟩ := uZ2 BK101) | ((with_reducible refine gate_callee (f := 53) rfl ?_); refine uGo (some 5) Tryz.func53 #[.int .i64 a0_0, .int .i64 0, .int .i64 2] ?_; (with_reducible refine (impl_within.calls a0_0 0 2 true _ A2.out).mono ?_); rintro e w' ⟨rfl, ⟨nd, rfl⟩⟩; refine ⟨_, rfl, ?_⟩) | (go_at_call 53; (with_reducible refine (impl_within.calls a0_1 1 1000 t103 _ A4.out).mono ?_); rintro e w' ⟨rfl, ⟨nd, rfl⟩⟩))
  go_ret
  exact ⟨uA, by exact uW⟩
 ·replace c3 := Bool.eq_false_iff.mpr c3
  subst c3
  rw [if_neg (show ¬ (false = true) by decide)] at H
  obtain rfl := Option.some.inj H
  go_enter Tryz.func49, Tryz.ntmps49
  go_wp2_with (first | ((with_reducible refine gate_dst (N := 1) rfl ?_); refine uX (N := 1) (cs := #[.int .i64 a0_0, .int .i64 a0_1]) (t := 25) ?_; intro gb101 hg w7 hbox hb; have BK101 := am (hbox); have GW101 := uE hg; have GE101 := GW101; replace HB := uS hb; clear hb hbox hg; obtain ⟨hcz8_0, hcz8_1, hfz8_0, hfz8_1⟩ := uZ2 BK101) | ((with_reducible refine gate_callee (f := 53) rfl ?_); refine uGo (some 5) Tryz.func53 #[.int .i64 a0_0, .int .i64 0, .int .i64 2] ?_; (with_reducible refine (impl_within.calls a0_0 0 2 false _ A2.out).mono ?_); rintro e w' ⟨rfl, ⟨nd, rfl⟩⟩; refine ⟨_, rfl, ?_⟩))
  go_ret
  exact ⟨uA, by exact uW⟩
def impl_isHiddenStreet.f (a0_0 : Int) (a0_1 : Int) : Option (Bool) := (impl_IsStreet.f a0_0 a0_1).bind fun t102 => (if t102 = true then (some (decide (a0_1 ≤ 20))) else (some false))
theorem impl_isHiddenStreet.calls (a0_0 : Int) (a0_1 : Int) (r : Bool) (w : World) (h : impl_isHiddenStreet.f a0_0 a0_1 = some r) :
  Calls Tryz.prog 45 #[.agg #[.int .i64 a0_0, .int .i64 a0_1]] w fun e w' => e = .returned (.bool r) ∧ Below w.heap.size w w' := by
 have hu25 := Tryz.underlying25
 have HB := am (Below.refl w.heap.size w)
 have H := h
 clear h
 unfold impl_isHiddenStreet.f at H
 obtain ⟨t102, A20, H⟩ := bH H
 have A2 := am A20
 clear A20
 by_cases c3 : t102 = true
 ·subst c3
  rw [if_pos rfl] at H
  obtain rfl := Option.some.inj H
  go_enter Tryz.func45, Tryz.ntmps45
  go_wp2_with (first | ((with_reducible refine gate_dst (N := 1) rfl ?_); refine uX (N := 1) (cs := #[.int .i64 a0_0, .int .i64 a0_1]) (t := 25) ?_; intro gb101 hg w4 hbox hb; have BK101 := am (hbox); have GW101 := uE hg; have GE101 := GW101; replace HB := uS hb; clear hb hbox hg; obtain ⟨hcz5_0, hcz5_1, hfz5_0, hfz5_1⟩ := uZ2 BK101) | ((with_reducible refine gate_callee (f := 49) rfl ?_); refine uGo (some 4) Tryz.func49 #[.agg #[.int .i64 a0_0, .int .i64 a0_1]] ?_; (with_reducible refine (impl_IsStreet.calls a0_0 a0_1 true _ A2.out).mono ?_); rintro e w6 ⟨rfl, hb⟩; refine ⟨_, rfl, ?_⟩; replace BK101 := uB BK101 hb; replace HB := uS hb; (try clear hb); obtain ⟨hcz7_0, hcz7_1, hfz7_0, hfz7_1⟩ := uZ2 BK101))
  go_ret
  exact ⟨uA, by exact uW⟩
 ·replace c3 := Bool.eq_false_iff.mpr c3
  subst c3
  rw [if_neg (show ¬ (false = true) by decide)] at H
  obtain rfl := Option.some.inj H
  go_enter Tryz.func45, Tryz.ntmps45
  go_wp2_with (first | ((with_reducible refine gate_dst (N := 1) rfl ?_); refine uX (N := 1) (cs := #[.int .i64 a0_0, .int .i64 a0_1]) (t := 25) ?_; intro gb101 hg w8 hbox hb; have BK101 := am (hbox); have GW101 := uE hg; have GE101 := GW101; replace HB := uS hb; clear hb hbox hg; obtain ⟨hcz9_0, hcz9_1, hfz9_0, hfz9_1⟩ := uZ2 BK101) | ((with_reducible refine gate_callee (f := 49) rfl ?_); refine uGo (some 4) Tryz.func49 #[.agg #[.int .i64 a0_0, .int .i64 a0_1]] ?_; (with_reducible refine (impl_IsStreet.calls a0_0 a0_1 false _ A2.out).mono ?_); rintro e w10 ⟨rfl, hb⟩; refine ⟨_, rfl, ?_⟩; replace BK101 := uB BK101 hb; replace HB := uS hb; (try clear hb)))
  go_ret
  exact ⟨uA, by exact uW⟩
def impl_isClue.f (a0_0 : Int) (a0_1 : Int) (a0_2 : Int) : Option (Bool) := if a0_0 = 0 then (if a0_1 = 0 then ((impl_within.f a0_2 0 1).bind fun t102 => (some t102)) else (some false)) else (if a0_0 = 1 then (if a0_1 = 0 then ((impl_within.f a0_2 0 20).bind fun t103 => (some t103)) else (some false)) else (if a0_0 = 2 then ((impl_within.f a0_1 2 9).bind fun t104 => (if t104 = true then ((impl_within.f a0_2 0 1).bind fun t105 => (some t105)) else (some false))) else (if a0_0 = 3 then (if a0_1 = 0 then ((impl_within.f a0_2 1 13).bind fun t106 => (some t106)) else (some false)) else (if a0_0 = 4 then ((impl_within.f a0_1 1 40).bind fun t107 => (if t107 = true then ((impl_within.f a0_2 0 1).bind fun t108 => (some t108)) else (some false))) else (if a0_0 = 5 then (if a0_1 = 0 then ((impl_within.f a0_2 0 40).bind fun t109 => (some t109)) else (some false)) else (some false))))))
theorem impl_isClue.calls (a0_0 : Int) (a0_1 : Int) (a0_2 : Int) (r : Bool) (w : World) (h : impl_isClue.f a0_0 a0_1 a0_2 = some r) :
  Calls Tryz.prog 48 #[.agg #[.int .i64 a0_0, .int .i64 a0_1, .int .i64 a0_2]] w fun e w' => e = .returned (.bool r) ∧ Below w.heap.size w w' := by
 have hu46 := Tryz.underlying46
 have HB := am (Below.refl w.heap.size w)
 have H := h
 clear h
 unfold impl_isClue.f at H
 by_cases c2 : a0_0 = 0
 ·rw [if_pos c2] at H
  have c2b0 : (a0_0 == 0) = true := beq_iff_eq.mpr c2
  have c2b1 : (a0_0 != 0) = false := bne_eq_false_iff_eq.mpr c2
  clear c2
  by_cases c3 : a0_1 = 0
  ·rw [if_pos c3] at H
   have c3b0 : (a0_1 == 0) = true := beq_iff_eq.mpr c3
   have c3b1 : (a0_1 != 0) = false := bne_eq_false_iff_eq.mpr c3
   clear c3
   obtain ⟨t102, A40, H⟩ := bH H
   have A4 := am A40
   clear A40
   obtain rfl := Option.some.inj H
   go_enter Tryz.func48, Tryz.ntmps48
   go_wp2_with (first | ((with_reducible refine gate_dst (N := 1) rfl ?_); refine uX (N := 1) (cs := #[.int .i64 a0_0, .int .i64 a0_1, .int .i64 a0_2]) (t := 46) ?_; intro gb101 hg w5 hbox hb; have BK101 := am (hbox); have GW101 := uE hg; have GE101 := GW101; replace HB := uS hb; clear hb hbox hg; obtain ⟨hcz6_0, hcz6_1, hcz6_2, hfz6_0, hfz6_1, hfz6_2⟩ := uZ3 BK101) | (go_at_call 53; (with_reducible refine (impl_within.calls a0_2 0 1 t102 _ A4.out).mono ?_); rintro e w' ⟨rfl, ⟨nd, rfl⟩⟩))
   go_ret
   exact ⟨uA, by exact uW⟩
  ·rw [if_neg c3] at H
   have c3b0 : (a0_1 == 0) = false := beq_eq_false_iff_ne.mpr c3
   have c3b1 : (a0_1 != 0) = true := bne_iff_ne.mpr c3
   obtain rfl := Option.some.inj H
   go_enter Tryz.func48, Tryz.ntmps48
   go_wp2_with (((with_reducible refine gate_dst (N := 1) rfl ?_); refine uX (N := 1) (cs := #[.int .i64 a0_0, .int .i64 a0_1, .int .i64 a0_2]) (t := 46) ?_; intro gb101 hg w7 hbox hb; have BK101 := am (hbox); have GW101 := uE hg; have GE101 := GW101; replace HB := uS hb; clear hb hbox hg; obtain ⟨hcz8_0, hcz8_1, hcz8_2, hfz8_0, hfz8_1, hfz8_2⟩ := uZ3 BK101))
   go_ret
   exact ⟨uA, by exact uW⟩
 ·rw [if_neg c2] at H
  have c2b0 : (a0_0 == 0) = false := beq_eq_false_iff_ne.mpr c2
  have c2b1 : (a0_0 != 0) = true := bne_iff_ne.mpr c2
  by_cases c9 : a0_0 = 1
  ·rw [if_pos c9] at H
   have c9b0 : (a0_0 == 1) = true := beq_iff_eq.mpr c9
   have c9b1 : (a0_0 != 1) = false := bne_eq_false_iff_eq.mpr c9
   clear c9
   by_cases c10 : a0_1 = 0
   ·rw [if_pos c10] at H
    have c10b0 : (a0_1 == 0) = true := beq_iff_eq.mpr c10
    have c10b1 : (a0_1 != 0) = false := bne_eq_false_iff_eq.mpr c10
    clear c10
    obtain ⟨t103, A110, H⟩ := bH H
    have A11 := am A110
    clear A110
    obtain rfl := Option.some.inj H
    go_enter Tryz.func48, Tryz.ntmps48
    go_wp2_with (first | ((with_reducible refine gate_dst (N := 1) rfl ?_); refine uX (N := 1) (cs := #[.int .i64 a0_0, .int .i64 a0_1, .int .i64 a0_2]) (t := 46) ?_; intro gb101 hg w12 hbox hb; have BK101 := am (hbox); have GW101 := uE hg; have GE101 := GW101; replace HB := uS hb; clear hb hbox hg; obtain ⟨hcz13_0, hcz13_1, hcz13_2, hfz13_0, hfz13_1, hfz13_2⟩ := uZ3 BK101) | (go_at_call 53; (with_reducible refine (impl_within.calls a0_2 0 20 t103 _ A11.out).mono ?_); rintro e w' ⟨rfl, ⟨nd, rfl⟩⟩))
    go_ret
    exact ⟨uA, by exact uW⟩
   ·rw [if_neg c10] at H
    have c10b0 : (a0_1 == 0) = false := beq_eq_false_iff_ne.mpr c10
    have c10b1 : (a0_1 != 0) = true := bne_iff_ne.mpr c10
    obtain rfl := Option.some.inj H
    go_enter Tryz.func48, Tryz.ntmps48
    go_wp2_with (((with_reducible refine gate_dst (N := 1) rfl ?_); refine uX (N := 1) (cs := #[.int .i64 a0_0, .int .i64 a0_1, .int .i64 a0_2]) (t := 46) ?_; intro gb101 hg w14 hbox hb; have BK101 := am (hbox); have GW101 := uE hg; have GE101 := GW101; replace HB := uS hb; clear hb hbox hg; obtain ⟨hcz15_0, hcz15_1, hcz15_2, hfz15_0, hfz15_1, hfz15_2⟩ := uZ3 BK101))
    go_ret
    exact ⟨uA, by exact uW⟩
  ·rw [if_neg c9] at H
   have c9b0 : (a0_0 == 1) = false := beq_eq_false_iff_ne.mpr c9
   have c9b1 : (a0_0 != 1) = true := bne_iff_ne.mpr c9
   by_cases c16 : a0_0 = 2
   ·rw [if_pos c16] at H
    have c16b0 : (a0_0 == 2) = true := beq_iff_eq.mpr c16
    have c16b1 : (a0_0 != 2) = false := bne_eq_false_iff_eq.mpr c16
    clear c16
    obtain ⟨t104, A170, H⟩ := bH H
    have A17 := am A170
    clear A170
    by_cases c18 : t104 = true
    ·subst c18
     rw [if_pos rfl] at H
     obtain ⟨t105, A190, H⟩ := bH H
     have A19 := am A190
     clear A190
     obtain rfl := Option.some.inj H
     go_enter Tryz.func48, Tryz.ntmps48
     go_wp2_with (first | ((with_reducible refine gate_dst (N := 1) rfl ?_); refine uX (N := 1) (cs := #[.int .i64 a0_0, .int .i64 a0_1, .int .i64 a0_2]) (t := 46) ?_; intro gb101 hg w20 hbox hb; have BK101 := am (hbox); have GW101 := uE hg; have GE101 := GW101; replace HB := uS hb; clear hb hbox hg; obtain ⟨hcz21_0, hcz21_1, hcz21_2, hfz21_0, hfz21_1, hfz21_2⟩ := uZ3 BK101) | ((with_reducible refine gate_callee (f := 53) rfl ?_); refine uGo (some 29) Tryz.func53 #[.int .i64 a0_1, .int .i64 2, .int .i64 9] ?_; (with_reducible refine (impl_within.calls a0_1 2 9 true _ A17.out).mono ?_); rintro e w' ⟨rfl, ⟨nd, rfl⟩⟩; refine ⟨_, rfl, ?_⟩) | (go_at_call 53; (with_reducible refine (impl_within.calls a0_2 0 1 t105 _ A19.out).mono ?_); rintro e w' ⟨rfl, ⟨nd, rfl⟩⟩))
     go_ret
     exact ⟨uA, by exact uW⟩
    ·replace c18 := Bool.eq_false_iff.mpr c18
     subst c18
     rw [if_neg (show ¬ (false = true) by decide)] at H
     obtain rfl := Option.some.inj H
     go_enter Tryz.func48, Tryz.ntmps48
     go_wp2_with (first | ((with_reducible refine gate_dst (N := 1) rfl ?_); refine uX (N := 1) (cs := #[.int .i64 a0_0, .int .i64 a0_1, .int .i64 a0_2]) (t := 46) ?_; intro gb101 hg w22 hbox hb; have BK101 := am (hbox); have GW101 := uE hg; have GE101 := GW101; replace HB := uS hb; clear hb hbox hg; obtain ⟨hcz23_0, hcz23_1, hcz23_2, hfz23_0, hfz23_1, hfz23_2⟩ := uZ3 BK101) | ((with_reducible refine gate_callee (f := 53) rfl ?_); refine uGo (some 29) Tryz.func53 #[.int .i64 a0_1, .int .i64 2, .int .i64 9] ?_; (with_reducible refine (impl_within.calls a0_1 2 9 false _ A17.out).mono ?_); rintro e w' ⟨rfl, ⟨nd, rfl⟩⟩; refine ⟨_, rfl, ?_⟩))
     go_ret
     exact ⟨uA, by exact uW⟩
   ·rw [if_neg c16] at H
    have c16b0 : (a0_0 == 2) = false := beq_eq_false_iff_ne.mpr c16
    have c16b1 : (a0_0 != 2) = true := bne_iff_ne.mpr c16
    by_cases c24 : a0_0 = 3
    ·rw [if_pos c24] at H
     have c24b0 : (a0_0 == 3) = true := beq_iff_eq.mpr c24
     have c24b1 : (a0_0 != 3) = false := bne_eq_false_iff_eq.mpr c24
     clear c24
     by_cases c25 : a0_1 = 0
     ·rw [if_pos c25] at H
      have c25b0 : (a0_1 == 0) = true := beq_iff_eq.mpr c25
      have c25b1 : (a0_1 != 0) = false := bne_eq_false_iff_eq.mpr c25
      clear c25
      obtain ⟨t106, A260, H⟩ := bH H
      have A26 := am A260
      clear A260
      obtain rfl := Option.some.inj H
      go_enter Tryz.func48, Tryz.ntmps48
      go_wp2_with (first | ((with_reducible refine gate_dst (N := 1) rfl ?_); refine uX (N := 1) (cs := #[.int .i64 a0_0, .int .i64 a0_1, .int .i64 a0_2]) (t := 46) ?_; intro gb101 hg w27 hbox hb; have BK101 := am (hbox); have GW101 := uE hg; have GE101 := GW101; replace HB := uS hb; clear hb hbox hg; obtain ⟨hcz28_0, hcz28_1, hcz28_2, hfz28_0, hfz28_1, hfz28_2⟩ := uZ3 BK101) | (go_at_call 53; (with_reducible refine (impl_within.calls a0_2 1 13 t106 _ A26.out).mono ?_); rintro e w' ⟨rfl, ⟨nd, rfl⟩⟩))
      go_ret
      exact ⟨uA, by exact uW⟩
     ·rw [if_neg c25] at H
      have c25b0 : (a0_1 == 0) = false := beq_eq_false_iff_ne.mpr c25
      have c25b1 : (a0_1 != 0) = true := bne_iff_ne.mpr c25
      obtain rfl := Option.some.inj H
      go_enter Tryz.func48, Tryz.ntmps48
      go_wp2_with (((with_reducible refine gate_dst (N := 1) rfl ?_); refine uX (N := 1) (cs := #[.int .i64 a0_0, .int .i64 a0_1, .int .i64 a0_2]) (t := 46) ?_; intro gb101 hg w29 hbox hb; have BK101 := am (hbox); have GW101 := uE hg; have GE101 := GW101; replace HB := uS hb; clear hb hbox hg; obtain ⟨hcz30_0, hcz30_1, hcz30_2, hfz30_0, hfz30_1, hfz30_2⟩ := uZ3 BK101))
      go_ret
      exact ⟨uA, by exact uW⟩
    ·rw [if_neg c24] at H
     have c24b0 : (a0_0 == 3) = false := beq_eq_false_iff_ne.mpr c24
     have c24b1 : (a0_0 != 3) = true := bne_iff_ne.mpr c24
     by_cases c31 : a0_0 = 4
     ·rw [if_pos c31] at H
      have c31b0 : (a0_0 == 4) = true := beq_iff_eq.mpr c31
      have c31b1 : (a0_0 != 4) = false := bne_eq_false_iff_eq.mpr c31
      clear c31
      obtain ⟨t107, A320, H⟩ := bH H
      have A32 := am A320
      clear A320
      by_cases c33 : t107 = true
      ·subst c33
       rw [if_pos rfl] at H
       obtain ⟨t108, A340, H⟩ := bH H
       have A34 := am A340
       clear A340
       obtain rfl := Option.some.inj H
       go_enter Tryz.func48, Tryz.ntmps48
       go_wp2_with (first | ((with_reducible refine gate_dst (N := 1) rfl ?_); refine uX (N := 1) (cs := #[.int .i64 a0_0, .int .i64 a0_1, .int .i64 a0_2]) (t := 46) ?_; intro gb101 hg w35 hbox hb; have BK101 := am (hbox); have GW101 := uE hg; have GE101 := GW101; replace HB := uS hb; clear hb hbox hg; obtain ⟨hcz36_0, hcz36_1, hcz36_2, hfz36_0, hfz36_1, hfz36_2⟩ := uZ3 BK101) | ((with_reducible refine gate_callee (f := 53) rfl ?_); refine uGo (some 49) Tryz.func53 #[.int .i64 a0_1, .int .i64 1, .int .i64 40] ?_; (with_reducible refine (impl_within.calls a0_1 1 40 true _ A32.out).mono ?_); rintro e w' ⟨rfl, ⟨nd, rfl⟩⟩; refine ⟨_, rfl, ?_⟩) | (go_at_call 53; (with_reducible refine (impl_within.calls a0_2 0 1 t108 _ A34.out).mono ?_); rintro e w' ⟨rfl, ⟨nd, rfl⟩⟩))
       go_ret
       exact ⟨uA, by exact uW⟩
      ·replace c33 := Bool.eq_false_iff.mpr c33
       subst c33
       rw [if_neg (show ¬ (false = true) by decide)] at H
       obtain rfl := Option.some.inj H
       go_enter Tryz.func48, Tryz.ntmps48
       go_wp2_with (first | ((with_reducible refine gate_dst (N := 1) rfl ?_); refine uX (N := 1) (cs := #[.int .i64 a0_0, .int .i64 a0_1, .int .i64 a0_2]) (t := 46) ?_; intro gb101 hg w37 hbox hb; have BK101 := am (hbox); have GW101 := uE hg; have GE101 := GW101; replace HB := uS hb; clear hb hbox hg; obtain ⟨hcz38_0, hcz38_1, hcz38_2, hfz38_0, hfz38_1, hfz38_2⟩ := uZ3 BK101) | ((with_reducible refine gate_callee (f := 53) rfl ?_); refine uGo (some 49) Tryz.func53 #[.int .i64 a0_1, .int .i64 1, .int .i64 40] ?_; (with_reducible refine (impl_within.calls a0_1 1 40 false _ A32.out).mono ?_); rintro e w' ⟨rfl, ⟨nd, rfl⟩⟩; refine ⟨_, rfl, ?_⟩))
       go_ret
       exact ⟨uA, by exact uW⟩
     ·rw [if_neg c31] at H
      have c31b0 : (a0_0 == 4) = false := beq_eq_false_iff_ne.mpr c31
      have c31b1 : (a0_0 != 4) = true := bne_iff_ne.mpr c31
      by_cases c39 : a0_0 = 5
      ·rw [if_pos c39] at H
       have c39b0 : (a0_0 == 5) = true := beq_iff_eq.mpr c39
       have c39b1 : (a0_0 != 5) = false := bne_eq_false_iff_eq.mpr c39
       clear c39
       by_cases c40 : a0_1 = 0
       ·rw [if_pos c40] at H
        have c40b0 : (a0_1 == 0) = true := beq_iff_eq.mpr c40
        have c40b1 : (a0_1 != 0) = false := bne_eq_false_iff_eq.mpr c40
        clear c40
        obtain ⟨t109, A410, H⟩ := bH H
        have A41 := am A410
        clear A410
        obtain rfl := Option.some.inj H
        go_enter Tryz.func48, Tryz.ntmps48
        go_wp2_with (first | ((with_reducible refine gate_dst (N := 1) rfl ?_); refine uX (N := 1) (cs := #[.int .i64 a0_0, .int .i64 a0_1, .int .i64 a0_2]) (t := 46) ?_; intro gb101 hg w42 hbox hb; have BK101 := am (hbox); have GW101 := uE hg; have GE101 := GW101; replace HB := uS hb; clear hb hbox hg; obtain ⟨hcz43_0, hcz43_1, hcz43_2, hfz43_0, hfz43_1, hfz43_2⟩ := uZ3 BK101) | (go_at_call 53; (with_reducible refine (impl_within.calls a0_2 0 40 t109 _ A41.out).mono ?_); rintro e w' ⟨rfl, ⟨nd, rfl⟩⟩))
        go_ret
        exact ⟨uA, by exact uW⟩
       ·rw [if_neg c40] at H
        have c40b0 : (a0_1 == 0) = false := beq_eq_false_iff_ne.mpr c40
        have c40b1 : (a0_1 != 0) = true := bne_iff_ne.mpr c40
        obtain rfl := Option.some.inj H
        go_enter Tryz.func48, Tryz.ntmps48
        go_wp2_with (((with_reducible refine gate_dst (N := 1) rfl ?_); refine uX (N := 1) (cs := #[.int .i64 a0_0, .int .i64 a0_1, .int .i64 a0_2]) (t := 46) ?_; intro gb101 hg w44 hbox hb; have BK101 := am (hbox); have GW101 := uE hg; have GE101 := GW101; replace HB := uS hb; clear hb hbox hg; obtain ⟨hcz45_0, hcz45_1, hcz45_2, hfz45_0, hfz45_1, hfz45_2⟩ := uZ3 BK101))
        go_ret
        exact ⟨uA, by exact uW⟩
      ·rw [if_neg c39] at H
       have c39b0 : (a0_0 == 5) = false := beq_eq_false_iff_ne.mpr c39
       have c39b1 : (a0_0 != 5) = true := bne_iff_ne.mpr c39
       obtain rfl := Option.some.inj H
       go_enter Tryz.func48, Tryz.ntmps48
       go_wp2_with (((with_reducible refine gate_dst (N := 1) rfl ?_); refine uX (N := 1) (cs := #[.int .i64 a0_0, .int .i64 a0_1, .int .i64 a0_2]) (t := 46) ?_; intro gb101 hg w46 hbox hb; have BK101 := am (hbox); have GW101 := uE hg; have GE101 := GW101; replace HB := uS hb; clear hb hbox hg; obtain ⟨hcz47_0, hcz47_1, hcz47_2, hfz47_0, hfz47_1, hfz47_2⟩ := uZ3 BK101))
       go_ret
       exact ⟨uA, by exact uW⟩
def clueOk (x : S46) : Bool := (impl_isClue.f x.f0 x.f1 x.f2).getD false
theorem isClue_some (x : S46) : impl_isClue.f x.f0 x.f1 x.f2 = some (clueOk x) := by
 unfold clueOk impl_isClue.f impl_within.f
 repeat' first | rfl | (simp only [Option.bind_some]) | split
theorem clue_bad (W : World) (x : S46) : Calls Tryz.prog 47 (#[clueV x] ++ #[]) W fun e w' => e = .returned (.bool (!clueOk x)) ∧ Below W.heap.size W w' := by
 have hu := Tryz.underlying46
 have key := fun W1 => impl_isClue.calls x.f0 x.f1 x.f2 (clueOk x) W1 (isClue_some x)
 show Calls Tryz.prog 47 #[.agg #[.int .i64 x.f0, .int .i64 x.f1, .int .i64 x.f2]] W _
 generalize x.f0 = a0 at key ⊢
 generalize x.f1 = a1 at key ⊢
 generalize x.f2 = a2 at key ⊢
 generalize clueOk x = b at key ⊢
 go_enter Tryz.func47, Tryz.ntmps47
 go_wp2_with (go_at_call 48; refine (key _).mono ?_; rintro e w' ⟨rfl, hb'⟩)
 go_ret
 exact ⟨rfl, Fun.below_box hb'⟩
def impl_IsPuzzle.f (a0_0 : Int) (a0_1 : Int) (l0_2 : List (S46)) : Option (Bool) :=
 (impl_isHiddenStreet.f a0_0 a0_1).bind fun t => if t = true then (if (l0_2.length : Int) ≤ 6 then some (!(l0_2.any fun x => !clueOk x)) else some false) else some false
theorem impl_IsPuzzle.calls (a0_0 : Int) (a0_1 : Int) (A0_2 : Option Addr) (c0_2 : Nat) (l0_2 : List (S46)) (r : Bool) (w : World) (hr0_2 : Kd.C k46 w A0_2 l0_2.length l0_2) (hc0_2 : l0_2.length ≤ c0_2) (h : impl_IsPuzzle.f a0_0 a0_1 l0_2 = some r) :
  Calls Tryz.prog 25 #[.agg #[.int .i64 a0_0, .int .i64 a0_1, .slice A0_2 l0_2.length c0_2]] w fun e w' => e = .returned (.bool r) ∧ Below w.heap.size w w' := by
 have hu39 := Tryz.underlying28
 have hu27 := Tryz.underlying25
 unfold impl_IsPuzzle.f at h
 obtain ⟨t, ht, h⟩ := Option.bind_eq_some_iff.1 h
 have HR := am hr0_2
 have HC := am hc0_2
 have eg := enters_of Tryz.func47 (by kernel_rfl) rfl
 have key := fun W => impl_isHiddenStreet.calls a0_0 a0_1 t W ht
 clear ht hr0_2 hc0_2
 by_cases c1 : t = true
 ·subst c1
  rw [if_pos rfl] at h
  by_cases c2 : (l0_2.length : Int) ≤ 6
  ·rw [if_pos c2] at h
   have c3 : decide ((l0_2.length : Int) ≤ 6) = true := decide_eq_true c2
   obtain rfl := Option.some.inj h
   clear h
   generalize hq : l0_2.any (fun x => !clueOk x) = q
   have HQ := am hq
   clear hq
   go_enter Tryz.func25, Tryz.ntmps25
   go_wp2_with fail
   refine (key _).mono ?_
   rintro e w1 ⟨rfl, hb1⟩
   obtain ⟨hc, hf⟩ := Fun.bcell hb1
   have hb2 := Fun.below_box hb1
   have c0 := (hc w.heap.size 2 (by simp)).trans (show _ = some (.slice A0_2 l0_2.length c0_2) by simp)
   clear hc hf hb1
   go_wp2_with fail
   refine (clue_containsFunc (fun x => !clueOk x) 47 #[] eg A0_2 c0_2 l0_2 _ (Kd.C_below HR.out hb2) HC.out (fun W x _ hW => (clue_bad W x).mono fun e w' h => ⟨h.1, hW.trans (h.2.mono hW.size)⟩)).mono ?_
   rintro e w2 ⟨rfl, hb3⟩
   go_wp2
   go_ret
   exact ⟨by rw [HQ.out]; rfl, hb2.trans (hb3.mono hb2.size)⟩
  ·rw [if_neg c2] at h
   have c3 : decide ((l0_2.length : Int) ≤ 6) = false := decide_eq_false c2
   obtain rfl := Option.some.inj h
   clear h
   go_enter Tryz.func25, Tryz.ntmps25
   go_wp2_with fail
   refine (key _).mono ?_
   rintro e w1 ⟨rfl, hb1⟩
   obtain ⟨hc, hf⟩ := Fun.bcell hb1
   have hb2 := Fun.below_box hb1
   have c0 := (hc w.heap.size 2 (by simp)).trans (show _ = some (.slice A0_2 l0_2.length c0_2) by simp)
   clear hc hf hb1
   go_wp2
   go_ret
   exact ⟨rfl, hb2⟩
 ·obtain rfl : t = false := by simpa using c1
  rw [if_neg c1] at h
  obtain rfl := Option.some.inj h
  clear c1 h
  go_enter Tryz.func25, Tryz.ntmps25
  go_wp2_with fail
  refine (key _).mono ?_
  rintro e w1 ⟨rfl, hb1⟩
  have hb2 := Fun.below_box hb1
  clear hb1
  go_wp2
  go_ret
  exact ⟨rfl, hb2⟩
def impl_Solutions.f (a0_0 : Int) (a0_1 : Int) (l0_2 : List (S46)) : Option (List Int × Bool) := (impl_IsPuzzle.f a0_0 a0_1 l0_2).bind fun t102 => (if t102 = true then ((impl_solutions.f a0_0 a0_1 l0_2).bind fun t103 => (some (t103, true))) else (some (([] : List Int), false)))
theorem impl_Solutions.calls (a0_0 : Int) (a0_1 : Int) (A0_2 : Option Addr) (c0_2 : Nat) (l0_2 : List (S46)) (r1 : List Int) (r2 : Bool) (w : World) (hr0_2 : Kd.C k46 w A0_2 l0_2.length l0_2) (hc0_2 : l0_2.length ≤ c0_2) (h : impl_Solutions.f a0_0 a0_1 l0_2 = some (r1, r2)) :
  Calls Tryz.prog 6 #[.agg #[.int .i64 a0_0, .int .i64 a0_1, .slice A0_2 l0_2.length c0_2]] w fun e w' => ∃ v0_ : Value, e = .returned (.tuple #[v0_, .bool r2]) ∧ Kd.R (Kd.int .i64) 3 w' w.heap.size (fun _ => True) v0_ r1 ∧ Below w.heap.size w w' := by
 have hu28 := Tryz.underlying28
 have hu25 := Tryz.underlying25
 have HR0_2 := am hr0_2
 have HC0_2 := am hc0_2
 clear hr0_2 hc0_2
 have HB := am (Below.refl w.heap.size w)
 have H := h
 clear h
 unfold impl_Solutions.f at H
 obtain ⟨t102, A20, H⟩ := bH H
 have A2 := am A20
 clear A20
 by_cases c3 : t102 = true
 ·subst c3
  rw [if_pos rfl] at H
  obtain ⟨t103, A40, H⟩ := bH H
  have A4 := am A40
  clear A40
  simp only [Option.some.injEq, Prod.mk.injEq] at H
  obtain ⟨rfl, rfl⟩ := H
  go_enter Tryz.func6, Tryz.ntmps6
  go_wp2_with (first | ((with_reducible refine gate_dst (N := 1) rfl ?_); refine uX (N := 1) (cs := #[.int .i64 a0_0, .int .i64 a0_1, .slice A0_2 l0_2.length c0_2]) (t := 28) ?_; intro gb101 hg w5 hbox hb; have BK101 := am (hbox); have GW101 := uE hg; have GE101 := GW101; replace HB := uS hb; clear hb hbox hg; obtain ⟨hcz6_0, hcz6_1, hcz6_2, hfz6_0, hfz6_1, hfz6_2⟩ := uZ3 BK101) | ((with_reducible refine gate_callee (f := 25) rfl ?_); refine uGo (some 5) Tryz.func25 #[.agg #[.int .i64 a0_0, .int .i64 a0_1, .slice A0_2 l0_2.length c0_2]] ?_; (with_reducible refine (impl_IsPuzzle.calls a0_0 a0_1 _ _ l0_2 true _ ?side1 ?side2 A2.out).mono ?_); (case side1 => repeat (exact (Kd.C_below HR0_2.out HB.out))); (case side2 => exact HC0_2.out); rintro e w7 ⟨rfl, hb⟩; refine ⟨_, rfl, ?_⟩; replace BK101 := uB BK101 hb; replace HB := uS hb; (try clear hb); obtain ⟨hcz8_0, hcz8_1, hcz8_2, hfz8_0, hfz8_1, hfz8_2⟩ := uZ3 BK101) | ((with_reducible refine gate_callee (f := 37) rfl ?_); refine uGo (some 11) Tryz.func37 #[.agg #[.int .i64 a0_0, .int .i64 a0_1], .slice A0_2 l0_2.length c0_2] ?_; (with_reducible refine (impl_solutions.calls a0_0 a0_1 _ _ l0_2 t103 _ ?side1 ?side2 A4.out).mono ?_); (case side1 => repeat (exact (Kd.C_below HR0_2.out HB.out))); (case side2 => exact HC0_2.out); rintro e w9 ⟨v104, rfl, ho0, hb⟩; refine ⟨_, rfl, ?_⟩; have HO105 := am (Kd.R_lower ho0 (below_size uW)); replace BK101 := uB BK101 hb; replace HB := uS hb; (try clear hb); (try clear ho0)))
  go_ret2
  exact ⟨_, uA, by (with_reducible skip); exact HO105.out, by exact uW⟩
 ·replace c3 := Bool.eq_false_iff.mpr c3
  subst c3
  rw [if_neg (show ¬ (false = true) by decide)] at H
  simp only [Option.some.injEq, Prod.mk.injEq] at H
  obtain ⟨rfl, rfl⟩ := H
  go_enter Tryz.func6, Tryz.ntmps6
  go_wp2_with (first | ((with_reducible refine gate_dst (N := 1) rfl ?_); refine uX (N := 1) (cs := #[.int .i64 a0_0, .int .i64 a0_1, .slice A0_2 l0_2.length c0_2]) (t := 28) ?_; intro gb101 hg w10 hbox hb; have BK101 := am (hbox); have GW101 := uE hg; have GE101 := GW101; replace HB := uS hb; clear hb hbox hg; obtain ⟨hcz11_0, hcz11_1, hcz11_2, hfz11_0, hfz11_1, hfz11_2⟩ := uZ3 BK101) | ((with_reducible refine gate_callee (f := 25) rfl ?_); refine uGo (some 5) Tryz.func25 #[.agg #[.int .i64 a0_0, .int .i64 a0_1, .slice A0_2 l0_2.length c0_2]] ?_; (with_reducible refine (impl_IsPuzzle.calls a0_0 a0_1 _ _ l0_2 false _ ?side1 ?side2 A2.out).mono ?_); (case side1 => repeat (exact (Kd.C_below HR0_2.out HB.out))); (case side2 => exact HC0_2.out); rintro e w12 ⟨rfl, hb⟩; refine ⟨_, rfl, ?_⟩; replace BK101 := uB BK101 hb; replace HB := uS hb; (try clear hb)))
  go_ret2
  exact ⟨_, uA, uN, by exact uW⟩
def spec_pzClue.f (a0_0 : Int) (a0_1 : Int) (a0_2 : Int) : Option (Bool) := if a0_0 = 0 then (if a0_1 = 0 then ((spec_l1In.f a0_2 0 1).bind fun t102 => (some t102)) else (some false)) else (if a0_0 = 1 then (if a0_1 = 0 then ((spec_l1In.f a0_2 0 20).bind fun t103 => (some t103)) else (some false)) else (if a0_0 = 2 then ((spec_l1In.f a0_1 2 9).bind fun t104 => (if t104 = true then ((spec_l1In.f a0_2 0 1).bind fun t105 => (some t105)) else (some false))) else (if a0_0 = 3 then (if a0_1 = 0 then ((spec_l1In.f a0_2 1 13).bind fun t106 => (some t106)) else (some false)) else (if a0_0 = 4 then ((spec_l1In.f a0_1 1 40).bind fun t107 => (if t107 = true then ((spec_l1In.f a0_2 0 1).bind fun t108 => (some t108)) else (some false))) else (if a0_0 = 5 then (if a0_1 = 0 then ((spec_l1In.f a0_2 0 40).bind fun t109 => (some t109)) else (some false)) else (some false))))))
theorem spec_pzClue.calls (a0_0 : Int) (a0_1 : Int) (a0_2 : Int) (r : Bool) (w : World) (h : spec_pzClue.f a0_0 a0_1 a0_2 = some r) :
  Calls Tryz.prog 65 #[.agg #[.int .i64 a0_0, .int .i64 a0_1, .int .i64 a0_2]] w fun e w' => e = .returned (.bool r) ∧ Below w.heap.size w w' := by
 have hu46 := Tryz.underlying46
 have HB := am (Below.refl w.heap.size w)
 have H := h
 clear h
 unfold spec_pzClue.f at H
 by_cases c2 : a0_0 = 0
 ·rw [if_pos c2] at H
  have c2b0 : (a0_0 == 0) = true := beq_iff_eq.mpr c2
  have c2b1 : (a0_0 != 0) = false := bne_eq_false_iff_eq.mpr c2
  clear c2
  by_cases c3 : a0_1 = 0
  ·rw [if_pos c3] at H
   have c3b0 : (a0_1 == 0) = true := beq_iff_eq.mpr c3
   have c3b1 : (a0_1 != 0) = false := bne_eq_false_iff_eq.mpr c3
   clear c3
   obtain ⟨t102, A40, H⟩ := bH H
   have A4 := am A40
   clear A40
   obtain rfl := Option.some.inj H
   go_enter Tryz.func65, Tryz.ntmps65
   go_wp2_with (first | ((with_reducible refine gate_dst (N := 1) rfl ?_); refine uX (N := 1) (cs := #[.int .i64 a0_0, .int .i64 a0_1, .int .i64 a0_2]) (t := 46) ?_; intro gb101 hg w5 hbox hb; have BK101 := am (hbox); have GW101 := uE hg; have GE101 := GW101; replace HB := uS hb; clear hb hbox hg; obtain ⟨hcz6_0, hcz6_1, hcz6_2, hfz6_0, hfz6_1, hfz6_2⟩ := uZ3 BK101) | (go_at_call 90; (with_reducible refine (spec_l1In.calls a0_2 0 1 t102 _ A4.out).mono ?_); rintro e w' ⟨rfl, ⟨nd, rfl⟩⟩))
   go_ret
   exact ⟨uA, by exact uW⟩
  ·rw [if_neg c3] at H
   have c3b0 : (a0_1 == 0) = false := beq_eq_false_iff_ne.mpr c3
   have c3b1 : (a0_1 != 0) = true := bne_iff_ne.mpr c3
   obtain rfl := Option.some.inj H
   go_enter Tryz.func65, Tryz.ntmps65
   go_wp2_with (((with_reducible refine gate_dst (N := 1) rfl ?_); refine uX (N := 1) (cs := #[.int .i64 a0_0, .int .i64 a0_1, .int .i64 a0_2]) (t := 46) ?_; intro gb101 hg w7 hbox hb; have BK101 := am (hbox); have GW101 := uE hg; have GE101 := GW101; replace HB := uS hb; clear hb hbox hg; obtain ⟨hcz8_0, hcz8_1, hcz8_2, hfz8_0, hfz8_1, hfz8_2⟩ := uZ3 BK101))
   go_ret
   exact ⟨uA, by exact uW⟩
 ·rw [if_neg c2] at H
  have c2b0 : (a0_0 == 0) = false := beq_eq_false_iff_ne.mpr c2
  have c2b1 : (a0_0 != 0) = true := bne_iff_ne.mpr c2
  by_cases c9 : a0_0 = 1
  ·rw [if_pos c9] at H
   have c9b0 : (a0_0 == 1) = true := beq_iff_eq.mpr c9
   have c9b1 : (a0_0 != 1) = false := bne_eq_false_iff_eq.mpr c9
   clear c9
   by_cases c10 : a0_1 = 0
   ·rw [if_pos c10] at H
    have c10b0 : (a0_1 == 0) = true := beq_iff_eq.mpr c10
    have c10b1 : (a0_1 != 0) = false := bne_eq_false_iff_eq.mpr c10
    clear c10
    obtain ⟨t103, A110, H⟩ := bH H
    have A11 := am A110
    clear A110
    obtain rfl := Option.some.inj H
    go_enter Tryz.func65, Tryz.ntmps65
    go_wp2_with (first | ((with_reducible refine gate_dst (N := 1) rfl ?_); refine uX (N := 1) (cs := #[.int .i64 a0_0, .int .i64 a0_1, .int .i64 a0_2]) (t := 46) ?_; intro gb101 hg w12 hbox hb; have BK101 := am (hbox); have GW101 := uE hg; have GE101 := GW101; replace HB := uS hb; clear hb hbox hg; obtain ⟨hcz13_0, hcz13_1, hcz13_2, hfz13_0, hfz13_1, hfz13_2⟩ := uZ3 BK101) | (go_at_call 90; (with_reducible refine (spec_l1In.calls a0_2 0 20 t103 _ A11.out).mono ?_); rintro e w' ⟨rfl, ⟨nd, rfl⟩⟩))
    go_ret
    exact ⟨uA, by exact uW⟩
   ·rw [if_neg c10] at H
    have c10b0 : (a0_1 == 0) = false := beq_eq_false_iff_ne.mpr c10
    have c10b1 : (a0_1 != 0) = true := bne_iff_ne.mpr c10
    obtain rfl := Option.some.inj H
    go_enter Tryz.func65, Tryz.ntmps65
    go_wp2_with (((with_reducible refine gate_dst (N := 1) rfl ?_); refine uX (N := 1) (cs := #[.int .i64 a0_0, .int .i64 a0_1, .int .i64 a0_2]) (t := 46) ?_; intro gb101 hg w14 hbox hb; have BK101 := am (hbox); have GW101 := uE hg; have GE101 := GW101; replace HB := uS hb; clear hb hbox hg; obtain ⟨hcz15_0, hcz15_1, hcz15_2, hfz15_0, hfz15_1, hfz15_2⟩ := uZ3 BK101))
    go_ret
    exact ⟨uA, by exact uW⟩
  ·rw [if_neg c9] at H
   have c9b0 : (a0_0 == 1) = false := beq_eq_false_iff_ne.mpr c9
   have c9b1 : (a0_0 != 1) = true := bne_iff_ne.mpr c9
   by_cases c16 : a0_0 = 2
   ·rw [if_pos c16] at H
    have c16b0 : (a0_0 == 2) = true := beq_iff_eq.mpr c16
    have c16b1 : (a0_0 != 2) = false := bne_eq_false_iff_eq.mpr c16
    clear c16
    obtain ⟨t104, A170, H⟩ := bH H
    have A17 := am A170
    clear A170
    by_cases c18 : t104 = true
    ·subst c18
     rw [if_pos rfl] at H
     obtain ⟨t105, A190, H⟩ := bH H
     have A19 := am A190
     clear A190
     obtain rfl := Option.some.inj H
     go_enter Tryz.func65, Tryz.ntmps65
     go_wp2_with (first | ((with_reducible refine gate_dst (N := 1) rfl ?_); refine uX (N := 1) (cs := #[.int .i64 a0_0, .int .i64 a0_1, .int .i64 a0_2]) (t := 46) ?_; intro gb101 hg w20 hbox hb; have BK101 := am (hbox); have GW101 := uE hg; have GE101 := GW101; replace HB := uS hb; clear hb hbox hg; obtain ⟨hcz21_0, hcz21_1, hcz21_2, hfz21_0, hfz21_1, hfz21_2⟩ := uZ3 BK101) | ((with_reducible refine gate_callee (f := 90) rfl ?_); refine uGo (some 29) Tryz.func90 #[.int .i64 a0_1, .int .i64 2, .int .i64 9] ?_; (with_reducible refine (spec_l1In.calls a0_1 2 9 true _ A17.out).mono ?_); rintro e w' ⟨rfl, ⟨nd, rfl⟩⟩; refine ⟨_, rfl, ?_⟩) | (go_at_call 90; (with_reducible refine (spec_l1In.calls a0_2 0 1 t105 _ A19.out).mono ?_); rintro e w' ⟨rfl, ⟨nd, rfl⟩⟩))
     go_ret
     exact ⟨uA, by exact uW⟩
    ·replace c18 := Bool.eq_false_iff.mpr c18
     subst c18
     rw [if_neg (show ¬ (false = true) by decide)] at H
     obtain rfl := Option.some.inj H
     go_enter Tryz.func65, Tryz.ntmps65
     go_wp2_with (first | ((with_reducible refine gate_dst (N := 1) rfl ?_); refine uX (N := 1) (cs := #[.int .i64 a0_0, .int .i64 a0_1, .int .i64 a0_2]) (t := 46) ?_; intro gb101 hg w22 hbox hb; have BK101 := am (hbox); have GW101 := uE hg; have GE101 := GW101; replace HB := uS hb; clear hb hbox hg; obtain ⟨hcz23_0, hcz23_1, hcz23_2, hfz23_0, hfz23_1, hfz23_2⟩ := uZ3 BK101) | ((with_reducible refine gate_callee (f := 90) rfl ?_); refine uGo (some 29) Tryz.func90 #[.int .i64 a0_1, .int .i64 2, .int .i64 9] ?_; (with_reducible refine (spec_l1In.calls a0_1 2 9 false _ A17.out).mono ?_); rintro e w' ⟨rfl, ⟨nd, rfl⟩⟩; refine ⟨_, rfl, ?_⟩))
     go_ret
     exact ⟨uA, by exact uW⟩
   ·rw [if_neg c16] at H
    have c16b0 : (a0_0 == 2) = false := beq_eq_false_iff_ne.mpr c16
    have c16b1 : (a0_0 != 2) = true := bne_iff_ne.mpr c16
    by_cases c24 : a0_0 = 3
    ·rw [if_pos c24] at H
     have c24b0 : (a0_0 == 3) = true := beq_iff_eq.mpr c24
     have c24b1 : (a0_0 != 3) = false := bne_eq_false_iff_eq.mpr c24
     clear c24
     by_cases c25 : a0_1 = 0
     ·rw [if_pos c25] at H
      have c25b0 : (a0_1 == 0) = true := beq_iff_eq.mpr c25
      have c25b1 : (a0_1 != 0) = false := bne_eq_false_iff_eq.mpr c25
      clear c25
      obtain ⟨t106, A260, H⟩ := bH H
      have A26 := am A260
      clear A260
      obtain rfl := Option.some.inj H
      go_enter Tryz.func65, Tryz.ntmps65
      go_wp2_with (first | ((with_reducible refine gate_dst (N := 1) rfl ?_); refine uX (N := 1) (cs := #[.int .i64 a0_0, .int .i64 a0_1, .int .i64 a0_2]) (t := 46) ?_; intro gb101 hg w27 hbox hb; have BK101 := am (hbox); have GW101 := uE hg; have GE101 := GW101; replace HB := uS hb; clear hb hbox hg; obtain ⟨hcz28_0, hcz28_1, hcz28_2, hfz28_0, hfz28_1, hfz28_2⟩ := uZ3 BK101) | (go_at_call 90; (with_reducible refine (spec_l1In.calls a0_2 1 13 t106 _ A26.out).mono ?_); rintro e w' ⟨rfl, ⟨nd, rfl⟩⟩))
      go_ret
      exact ⟨uA, by exact uW⟩
     ·rw [if_neg c25] at H
      have c25b0 : (a0_1 == 0) = false := beq_eq_false_iff_ne.mpr c25
      have c25b1 : (a0_1 != 0) = true := bne_iff_ne.mpr c25
      obtain rfl := Option.some.inj H
      go_enter Tryz.func65, Tryz.ntmps65
      go_wp2_with (((with_reducible refine gate_dst (N := 1) rfl ?_); refine uX (N := 1) (cs := #[.int .i64 a0_0, .int .i64 a0_1, .int .i64 a0_2]) (t := 46) ?_; intro gb101 hg w29 hbox hb; have BK101 := am (hbox); have GW101 := uE hg; have GE101 := GW101; replace HB := uS hb; clear hb hbox hg; obtain ⟨hcz30_0, hcz30_1, hcz30_2, hfz30_0, hfz30_1, hfz30_2⟩ := uZ3 BK101))
      go_ret
      exact ⟨uA, by exact uW⟩
    ·rw [if_neg c24] at H
     have c24b0 : (a0_0 == 3) = false := beq_eq_false_iff_ne.mpr c24
     have c24b1 : (a0_0 != 3) = true := bne_iff_ne.mpr c24
     by_cases c31 : a0_0 = 4
     ·rw [if_pos c31] at H
      have c31b0 : (a0_0 == 4) = true := beq_iff_eq.mpr c31
      have c31b1 : (a0_0 != 4) = false := bne_eq_false_iff_eq.mpr c31
      clear c31
      obtain ⟨t107, A320, H⟩ := bH H
      have A32 := am A320
      clear A320
      by_cases c33 : t107 = true
      ·subst c33
       rw [if_pos rfl] at H
       obtain ⟨t108, A340, H⟩ := bH H
       have A34 := am A340
       clear A340
       obtain rfl := Option.some.inj H
       go_enter Tryz.func65, Tryz.ntmps65
       go_wp2_with (first | ((with_reducible refine gate_dst (N := 1) rfl ?_); refine uX (N := 1) (cs := #[.int .i64 a0_0, .int .i64 a0_1, .int .i64 a0_2]) (t := 46) ?_; intro gb101 hg w35 hbox hb; have BK101 := am (hbox); have GW101 := uE hg; have GE101 := GW101; replace HB := uS hb; clear hb hbox hg; obtain ⟨hcz36_0, hcz36_1, hcz36_2, hfz36_0, hfz36_1, hfz36_2⟩ := uZ3 BK101) | ((with_reducible refine gate_callee (f := 90) rfl ?_); refine uGo (some 49) Tryz.func90 #[.int .i64 a0_1, .int .i64 1, .int .i64 40] ?_; (with_reducible refine (spec_l1In.calls a0_1 1 40 true _ A32.out).mono ?_); rintro e w' ⟨rfl, ⟨nd, rfl⟩⟩; refine ⟨_, rfl, ?_⟩) | (go_at_call 90; (with_reducible refine (spec_l1In.calls a0_2 0 1 t108 _ A34.out).mono ?_); rintro e w' ⟨rfl, ⟨nd, rfl⟩⟩))
       go_ret
       exact ⟨uA, by exact uW⟩
      ·replace c33 := Bool.eq_false_iff.mpr c33
       subst c33
       rw [if_neg (show ¬ (false = true) by decide)] at H
       obtain rfl := Option.some.inj H
       go_enter Tryz.func65, Tryz.ntmps65
       go_wp2_with (first | ((with_reducible refine gate_dst (N := 1) rfl ?_); refine uX (N := 1) (cs := #[.int .i64 a0_0, .int .i64 a0_1, .int .i64 a0_2]) (t := 46) ?_; intro gb101 hg w37 hbox hb; have BK101 := am (hbox); have GW101 := uE hg; have GE101 := GW101; replace HB := uS hb; clear hb hbox hg; obtain ⟨hcz38_0, hcz38_1, hcz38_2, hfz38_0, hfz38_1, hfz38_2⟩ := uZ3 BK101) | ((with_reducible refine gate_callee (f := 90) rfl ?_); refine uGo (some 49) Tryz.func90 #[.int .i64 a0_1, .int .i64 1, .int .i64 40] ?_; (with_reducible refine (spec_l1In.calls a0_1 1 40 false _ A32.out).mono ?_); rintro e w' ⟨rfl, ⟨nd, rfl⟩⟩; refine ⟨_, rfl, ?_⟩))
       go_ret
       exact ⟨uA, by exact uW⟩
     ·rw [if_neg c31] at H
      have c31b0 : (a0_0 == 4) = false := beq_eq_false_iff_ne.mpr c31
      have c31b1 : (a0_0 != 4) = true := bne_iff_ne.mpr c31
      by_cases c39 : a0_0 = 5
      ·rw [if_pos c39] at H
       have c39b0 : (a0_0 == 5) = true := beq_iff_eq.mpr c39
       have c39b1 : (a0_0 != 5) = false := bne_eq_false_iff_eq.mpr c39
       clear c39
       by_cases c40 : a0_1 = 0
       ·rw [if_pos c40] at H
        have c40b0 : (a0_1 == 0) = true := beq_iff_eq.mpr c40
        have c40b1 : (a0_1 != 0) = false := bne_eq_false_iff_eq.mpr c40
        clear c40
        obtain ⟨t109, A410, H⟩ := bH H
        have A41 := am A410
        clear A410
        obtain rfl := Option.some.inj H
        go_enter Tryz.func65, Tryz.ntmps65
        go_wp2_with (first | ((with_reducible refine gate_dst (N := 1) rfl ?_); refine uX (N := 1) (cs := #[.int .i64 a0_0, .int .i64 a0_1, .int .i64 a0_2]) (t := 46) ?_; intro gb101 hg w42 hbox hb; have BK101 := am (hbox); have GW101 := uE hg; have GE101 := GW101; replace HB := uS hb; clear hb hbox hg; obtain ⟨hcz43_0, hcz43_1, hcz43_2, hfz43_0, hfz43_1, hfz43_2⟩ := uZ3 BK101) | (go_at_call 90; (with_reducible refine (spec_l1In.calls a0_2 0 40 t109 _ A41.out).mono ?_); rintro e w' ⟨rfl, ⟨nd, rfl⟩⟩))
        go_ret
        exact ⟨uA, by exact uW⟩
       ·rw [if_neg c40] at H
        have c40b0 : (a0_1 == 0) = false := beq_eq_false_iff_ne.mpr c40
        have c40b1 : (a0_1 != 0) = true := bne_iff_ne.mpr c40
        obtain rfl := Option.some.inj H
        go_enter Tryz.func65, Tryz.ntmps65
        go_wp2_with (((with_reducible refine gate_dst (N := 1) rfl ?_); refine uX (N := 1) (cs := #[.int .i64 a0_0, .int .i64 a0_1, .int .i64 a0_2]) (t := 46) ?_; intro gb101 hg w44 hbox hb; have BK101 := am (hbox); have GW101 := uE hg; have GE101 := GW101; replace HB := uS hb; clear hb hbox hg; obtain ⟨hcz45_0, hcz45_1, hcz45_2, hfz45_0, hfz45_1, hfz45_2⟩ := uZ3 BK101))
        go_ret
        exact ⟨uA, by exact uW⟩
      ·rw [if_neg c39] at H
       have c39b0 : (a0_0 == 5) = false := beq_eq_false_iff_ne.mpr c39
       have c39b1 : (a0_0 != 5) = true := bne_iff_ne.mpr c39
       obtain rfl := Option.some.inj H
       go_enter Tryz.func65, Tryz.ntmps65
       go_wp2_with (((with_reducible refine gate_dst (N := 1) rfl ?_); refine uX (N := 1) (cs := #[.int .i64 a0_0, .int .i64 a0_1, .int .i64 a0_2]) (t := 46) ?_; intro gb101 hg w46 hbox hb; have BK101 := am (hbox); have GW101 := uE hg; have GE101 := GW101; replace HB := uS hb; clear hb hbox hg; obtain ⟨hcz47_0, hcz47_1, hcz47_2, hfz47_0, hfz47_1, hfz47_2⟩ := uZ3 BK101))
       go_ret
       exact ⟨uA, by exact uW⟩
mutual
def spec_pzGood.j0 : Nat → Bool → Int → Int → List (S46) → Option (Bool)
 | 0, _, _, _, _ => none
 | k + 1, x14, x102000, x102001, x102002 => if x14 = true then (some false) else (spec_pzGood.l0 k x102002 (x102002.length : Int) 0)
def spec_pzGood.l0 : Nat → List (S46) → Int → Int → Option (Bool)
 | 0, _, _, _ => none
 | k + 1, x16, x17, x18 => if x18 < x17 then (if 0 ≤ x18 then (if x18 < (x16.length : Int) then ((spec_pzClue.f ((rd_T46 x16 x18).f0) ((rd_T46 x16 x18).f1) ((rd_T46 x16 x18).f2)).bind fun t105 => (if t105 = true then (spec_pzGood.l0 k x16 x17 (wrap64 (x18 + 1))) else (some false))) else (none)) else (none)) else (some true)
end
def spec_pzGood.f (k : Nat) (a0_0 : Int) (a0_1 : Int) (l0_2 : List (S46)) : Option (Bool) := (spec_pzStreet.f a0_0 a0_1).bind fun t102 => (if t102 = true then (spec_pzGood.j0 k (decide ((l0_2.length : Int) > 6)) a0_0 a0_1 l0_2) else (spec_pzGood.j0 k true a0_0 a0_1 l0_2))
theorem spec_pzGood.mono_l : ∀ k, (∀ y0 y1 y2 y3, LeO (spec_pzGood.j0 k y0 y1 y2 y3) (spec_pzGood.j0 (k + 1) y0 y1 y2 y3)) ∧ (∀ y0 y1 y2, LeO (spec_pzGood.l0 k y0 y1 y2) (spec_pzGood.l0 (k + 1) y0 y1 y2))
 | 0 => ⟨fun _ _ _ _ r h => by simp [spec_pzGood.j0] at h, fun _ _ _ r h => by simp [spec_pzGood.l0] at h⟩
 | k + 1 => by
  obtain ⟨ih0, ih1⟩ := spec_pzGood.mono_l k
  refine ⟨?_, ?_⟩
  ·intro y0 y1 y2 y3
   unfold spec_pzGood.j0
   repeat' first | (with_reducible exact ih1 _ _ _) | (with_reducible exact LeO.refl _) | (with_reducible refine LeO.ite ?_ ?_)
  ·intro y0 y1 y2
   unfold spec_pzGood.l0
   repeat' first | (with_reducible exact ih1 _ _ _) | (with_reducible exact LeO.refl _) | (with_reducible refine LeO.ite ?_ ?_) | (with_reducible refine LeO.bind ?_ (fun _ => ?_))
theorem spec_pzGood.mono : ∀ a0 a1 a2 k, LeO (spec_pzGood.f k a0 a1 a2) (spec_pzGood.f (k + 1) a0 a1 a2) := by
 intro a0 a1 a2 k
 obtain ⟨ih0, ih1⟩ := spec_pzGood.mono_l k
 unfold spec_pzGood.f
 repeat' first | (with_reducible exact ih0 _ _ _ _) | (with_reducible exact LeO.refl _) | (with_reducible refine LeO.ite ?_ ?_) | (with_reducible refine LeO.bind ?_ (fun _ => ?_))
theorem spec_pzGood.calls (k : Nat) (a0_0 : Int) (a0_1 : Int) (A0_2 : Option Addr) (c0_2 : Nat) (l0_2 : List (S46)) (r : Bool) (w : World) (hr0_2 : Kd.C k46 w A0_2 l0_2.length l0_2) (hc0_2 : l0_2.length ≤ c0_2) (h : spec_pzGood.f k a0_0 a0_1 l0_2 = some r) :
  Calls Tryz.prog 38 #[.agg #[.int .i64 a0_0, .int .i64 a0_1, .slice A0_2 l0_2.length c0_2]] w fun e w' => e = .returned (.bool r) ∧ Below w.heap.size w w' := by
 have hu28 := Tryz.underlying28
 have hu25 := Tryz.underlying25
 have hu46 := Tryz.underlying46
 have HR0_2 := am hr0_2
 have HC0_2 := am hc0_2
 clear hr0_2 hc0_2
 have HB := am (Below.refl w.heap.size w)
 have H := h
 clear h
 unfold spec_pzGood.f at H
 have HC2 := am H
 clear H
 go_enter Tryz.func38, Tryz.ntmps38
 go_upto_region 1 with (((with_reducible refine gate_dst (N := 1) rfl ?_); (try (refine gate_guard (by rfl) ?_; dsimp only)); refine uX (N := 1) (cs := #[.int .i64 a0_0, .int .i64 a0_1, .slice A0_2 l0_2.length c0_2]) (t := 28) ?_; intro gb101 hg w3 hbox hb; have BK101 := am (hbox); have GW101 := uE hg; have GE101 := GW101; replace HB := uS hb; clear hb hbox hg))
 (skip)
 go_cut [14] (fun v14 wc => ∃ (kq : Nat) (x14_1 : Bool), v14 = .bool x14_1 ∧ Aside0 (spec_pzGood.j0 kq x14_1 a0_0 a0_1 l0_2 = some r) ∧ Aside0 (kq ≤ k) ∧ Aside0 (wc.heap[gb101]? = some (.cells #[.int .i64 a0_0, .int .i64 a0_1, (.slice A0_2 l0_2.length c0_2)] 28 (0, 0))) ∧ Aside0 (Below w.heap.size w wc))
 case first =>
  have H := HC2.out
  clear HC2
  obtain ⟨t102, A40, H⟩ := bH H
  have A4 := am A40
  clear A40
  by_cases c5 : t102 = true
  ·subst c5
   rw [if_pos rfl] at H
   have H' := am H
   clear H
   obtain ⟨hcz6_0, hcz6_1, hcz6_2, hfz6_0, hfz6_1, hfz6_2⟩ := uZ3 BK101
   go_wp2_with (((with_reducible refine gate_callee (f := 64) rfl ?_); refine uGo (some 7) Tryz.func64 #[.agg #[.int .i64 a0_0, .int .i64 a0_1]] ?_; (with_reducible refine (spec_pzStreet.calls a0_0 a0_1 true _ A4.out).mono ?_); rintro e w7 ⟨rfl, hb⟩; refine ⟨_, rfl, ?_⟩; replace BK101 := uB BK101 hb; replace HB := uS hb; (try clear hb); obtain ⟨hcz8_0, hcz8_1, hcz8_2, hfz8_0, hfz8_1, hfz8_2⟩ := uZ3 BK101))
   go_meet
   case rel => exact ⟨_, (decide ((l0_2.length : Int) > 6)), (by rfl), H', ⟨by omega⟩, ⟨by (with_reducible skip); exact BK101.out⟩, ⟨by exact uW⟩⟩
  ·replace c5 := Bool.eq_false_iff.mpr c5
   subst c5
   rw [if_neg (show ¬ (false = true) by decide)] at H
   have H' := am H
   clear H
   obtain ⟨hcz9_0, hcz9_1, hcz9_2, hfz9_0, hfz9_1, hfz9_2⟩ := uZ3 BK101
   go_wp2_with (((with_reducible refine gate_callee (f := 64) rfl ?_); refine uGo (some 7) Tryz.func64 #[.agg #[.int .i64 a0_0, .int .i64 a0_1]] ?_; (with_reducible refine (spec_pzStreet.calls a0_0 a0_1 false _ A4.out).mono ?_); rintro e w10 ⟨rfl, hb⟩; refine ⟨_, rfl, ?_⟩; replace BK101 := uB BK101 hb; replace HB := uS hb; (try clear hb)))
   go_meet
   case rel => exact ⟨_, (true), (by rfl), H', ⟨by omega⟩, ⟨by (with_reducible skip); exact BK101.out⟩, ⟨by exact uW⟩⟩
 case rest =>
  clear HC2
  obtain ⟨kq, x14_1, rfl, HA, HJ1, BK101, HB⟩ := hcut
  cases kq with
  | zero => exact absurd HA.out (by simp [spec_pzGood.j0])
  | succ kj1 =>
   have H := HA.out
   clear HA
   simp only [spec_pzGood.j0] at H
   by_cases c11 : x14_1 = true
   ·subst c11
    rw [if_pos rfl] at H
    obtain rfl := Option.some.inj H
    go_wp2
    go_ret
    exact ⟨uA, by exact uW⟩
   ·replace c11 := Bool.eq_false_iff.mpr c11
    subst c11
    rw [if_neg (show ¬ (false = true) by decide)] at H
    have H' := am H
    clear H
    obtain ⟨hcz12_0, hcz12_1, hcz12_2, hfz12_0, hfz12_1, hfz12_2⟩ := uZ3 BK101
    go_wp2
    go_loopg [18] kj1 (fun kq v18 w' => ∃ (x18_2 : Int), v18 = .int .i64 x18_2 ∧ Aside0 (spec_pzGood.l0 kq l0_2 (l0_2.length : Int) x18_2 = some r) ∧ Aside0 (kq ≤ kj1) ∧ Aside0 (w'.heap[gb101]? = some (.cells #[.int .i64 a0_0, .int .i64 a0_1, (.slice A0_2 l0_2.length c0_2)] 28 (0, 0))) ∧ Aside0 (Below w.heap.size w w'))
    case atStart => exact ⟨(0), (by rfl), H', ⟨Nat.le_refl _⟩, ⟨by (with_reducible skip); exact BK101.out⟩, ⟨by exact uW⟩⟩
    case round =>
     clear H'
     try clear hcz12_0
     try clear hcz12_1
     try clear hcz12_2
     try clear hfz12_0
     try clear hfz12_1
     try clear hfz12_2
     obtain ⟨x18_2, rfl, HA, HK2, BK101, HB⟩ := hrel
     cases gk with
     | zero => exact absurd HA.out (by simp [spec_pzGood.l0])
     | succ k2 =>
      have H := HA.out
      clear HA
      simp only [spec_pzGood.l0] at H
      by_cases c13 : x18_2 < (l0_2.length : Int)
      ·rw [if_pos c13] at H
       have c13b0 : decide (x18_2 < (l0_2.length : Int)) = true := decide_eq_true c13
       clear c13
       by_cases c14 : 0 ≤ x18_2
       ·rw [if_pos c14] at H
        have c14b0 : decide (0 ≤ x18_2) = true := decide_eq_true c14
        clear c14
        by_cases c15 : x18_2 < (l0_2.length : Int)
        ·rw [if_pos c15] at H
         have c15b0 : decide (x18_2 < (l0_2.length : Int)) = true := decide_eq_true c15
         clear c15
         obtain ⟨t105, A160, H⟩ := bH H
         have A16 := am A160
         clear A160
         by_cases c17 : t105 = true
         ·subst c17
          rw [if_pos rfl] at H
          have H' := am H
          clear H
          have p103 : 0 ≤ (x18_2 : Int) := of_decide_eq_true (by (with_reducible assumption))
          have q103 : x18_2 < (l0_2.length : Int) := of_decide_eq_true (by (with_reducible assumption))
          obtain ⟨ad103, e103, hx103_0, hx103_1, hx103_2⟩ := at_T46 HR0_2.out x18_2 p103 q103
          cases e103
          try replace hx103_0 := (HB.out.cell (World.block_lt_of_cell? w _ hx103_0)).trans hx103_0
          try replace hx103_1 := (HB.out.cell (World.block_lt_of_cell? w _ hx103_1)).trans hx103_1
          try replace hx103_2 := (HB.out.cell (World.block_lt_of_cell? w _ hx103_2)).trans hx103_2
          replace p103 := eq_true p103
          replace q103 := eq_true q103
          go_wp2_with (first | ((with_reducible refine gate_dst (N := 4) rfl ?_); (try (refine gate_guard (by rfl) ?_; dsimp only)); refine uX (N := 4) (cs := #[.int .i64 0, .int .i64 0, .int .i64 0]) (t := 46) ?_; intro gb104 hg w18 hbox hb; have BK104 := am (hbox); have GW104 := uE hg; have GE104 := GW104; have NB101_104 := uL BK101 hg; have NB104_101 := uY NB101_104; replace BK101 := uB BK101 hb; replace HB := uS hb; clear hb hbox hg; have hnb19 := NB104_101.out; have hnc19 := NB101_104.out; obtain ⟨hcz20_0, hcz20_1, hcz20_2, hfz20_0, hfz20_1, hfz20_2⟩ := uZ3 BK104) | ((with_reducible refine gate_callee (f := 65) rfl ?_); refine uGo (some 23) Tryz.func65 #[.agg #[.int .i64 ((rd_T46 l0_2 x18_2).f0), .int .i64 ((rd_T46 l0_2 x18_2).f1), .int .i64 ((rd_T46 l0_2 x18_2).f2)]] ?_; (with_reducible refine (spec_pzClue.calls ((rd_T46 l0_2 x18_2).f0) ((rd_T46 l0_2 x18_2).f1) ((rd_T46 l0_2 x18_2).f2) true _ A16.out).mono ?_); rintro e w21 ⟨rfl, hb⟩; refine ⟨_, rfl, ?_⟩; replace BK101 := am (blk_below (g := gb101) (o := .cells #[.int .i64 a0_0, .int .i64 a0_1, .slice (some ad103) l0_2.length c0_2] 28 (0, 0)) (by refine blk_far ?_ NB101_104.out _; refine blk_far ?_ NB101_104.out _; refine blk_far ?_ NB101_104.out _; exact (uP BK101)) hb); replace BK104 := am (blk_below (g := gb104) (o := .cells #[.int .i64 ((rd_T46 l0_2 x18_2).f0), .int .i64 ((rd_T46 l0_2 x18_2).f1), .int .i64 ((rd_T46 l0_2 x18_2).f2)] 46 (0, 0)) (by refine blk_put (cs := #[.int .i64 ((rd_T46 l0_2 x18_2).f0), .int .i64 ((rd_T46 l0_2 x18_2).f1), .int .i64 0]) ?_ 2 _ rfl; refine blk_put (cs := #[.int .i64 ((rd_T46 l0_2 x18_2).f0), .int .i64 0, .int .i64 0]) ?_ 1 _ rfl; refine blk_put (cs := #[.int .i64 0, .int .i64 0, .int .i64 0]) ?_ 0 _ rfl; exact (uP BK104)) hb); replace HB := uS hb; (try clear hb)))
          go_roundg k2
          case measure => have := HJ1.out; have := HK2.out; omega
          case rel => exact ⟨(wrap64 (x18_2 + 1)), (by rfl), H', ⟨by have := HJ1.out; have := HK2.out; omega⟩, ⟨by (with_reducible skip); exact BK101.out⟩, ⟨by exact uW⟩⟩
         ·replace c17 := Bool.eq_false_iff.mpr c17
          subst c17
          rw [if_neg (show ¬ (false = true) by decide)] at H
          obtain rfl := Option.some.inj H
          have p103 : 0 ≤ (x18_2 : Int) := of_decide_eq_true (by (with_reducible assumption))
          have q103 : x18_2 < (l0_2.length : Int) := of_decide_eq_true (by (with_reducible assumption))
          obtain ⟨ad103, e103, hx103_0, hx103_1, hx103_2⟩ := at_T46 HR0_2.out x18_2 p103 q103
          cases e103
          try replace hx103_0 := (HB.out.cell (World.block_lt_of_cell? w _ hx103_0)).trans hx103_0
          try replace hx103_1 := (HB.out.cell (World.block_lt_of_cell? w _ hx103_1)).trans hx103_1
          try replace hx103_2 := (HB.out.cell (World.block_lt_of_cell? w _ hx103_2)).trans hx103_2
          replace p103 := eq_true p103
          replace q103 := eq_true q103
          go_wp2_with (first | ((with_reducible refine gate_dst (N := 4) rfl ?_); (try (refine gate_guard (by rfl) ?_; dsimp only)); refine uX (N := 4) (cs := #[.int .i64 0, .int .i64 0, .int .i64 0]) (t := 46) ?_; intro gb104 hg w22 hbox hb; have BK104 := am (hbox); have GW104 := uE hg; have GE104 := GW104; have NB101_104 := uL BK101 hg; have NB104_101 := uY NB101_104; replace BK101 := uB BK101 hb; replace HB := uS hb; clear hb hbox hg; have hnb23 := NB104_101.out; have hnc23 := NB101_104.out; obtain ⟨hcz24_0, hcz24_1, hcz24_2, hfz24_0, hfz24_1, hfz24_2⟩ := uZ3 BK104) | ((with_reducible refine gate_callee (f := 65) rfl ?_); refine uGo (some 23) Tryz.func65 #[.agg #[.int .i64 ((rd_T46 l0_2 x18_2).f0), .int .i64 ((rd_T46 l0_2 x18_2).f1), .int .i64 ((rd_T46 l0_2 x18_2).f2)]] ?_; (with_reducible refine (spec_pzClue.calls ((rd_T46 l0_2 x18_2).f0) ((rd_T46 l0_2 x18_2).f1) ((rd_T46 l0_2 x18_2).f2) false _ A16.out).mono ?_); rintro e w25 ⟨rfl, hb⟩; refine ⟨_, rfl, ?_⟩; replace BK101 := am (blk_below (g := gb101) (o := .cells #[.int .i64 a0_0, .int .i64 a0_1, .slice (some ad103) l0_2.length c0_2] 28 (0, 0)) (by refine blk_far ?_ NB101_104.out _; refine blk_far ?_ NB101_104.out _; refine blk_far ?_ NB101_104.out _; exact (uP BK101)) hb); replace BK104 := am (blk_below (g := gb104) (o := .cells #[.int .i64 ((rd_T46 l0_2 x18_2).f0), .int .i64 ((rd_T46 l0_2 x18_2).f1), .int .i64 ((rd_T46 l0_2 x18_2).f2)] 46 (0, 0)) (by refine blk_put (cs := #[.int .i64 ((rd_T46 l0_2 x18_2).f0), .int .i64 ((rd_T46 l0_2 x18_2).f1), .int .i64 0]) ?_ 2 _ rfl; refine blk_put (cs := #[.int .i64 ((rd_T46 l0_2 x18_2).f0), .int .i64 0, .int .i64 0]) ?_ 1 _ rfl; refine blk_put (cs := #[.int .i64 0, .int .i64 0, .int .i64 0]) ?_ 0 _ rfl; exact (uP BK104)) hb); replace HB := uS hb; (try clear hb)))
          go_ret
          exact ⟨uA, by exact uW⟩
        ·rw [if_neg c15] at H
         exact absurd H (by simp)
       ·rw [if_neg c14] at H
        exact absurd H (by simp)
      ·rw [if_neg c13] at H
       have c13b0 : decide (x18_2 < (l0_2.length : Int)) = false := decide_eq_false c13
       clear c13
       obtain rfl := Option.some.inj H
       go_wp2
       go_ret
       exact ⟨uA, by exact uW⟩
def spec_pzFits.f (a0_0 : Int) (a0_1 : Int) (a1_0 : Int) (a1_1 : Int) (a1_2 : Int) (a2 : Int) : Option (Bool) := (spec_pzValue.f a0_0 a0_1 a1_0 a1_1 a2).bind fun t103 => (some (t103 == a1_2))
def spec_pzFits.T1 : Bool × List (List Nat × List Nat) := (true, [([], []), ([], []), ([1], [1]), ([], []), ([3], [3]), ([], []), ([0, 2, 4, 5], [0, 2, 4, 5]), ([], []), ([7], [7]), ([6, 8], [6, 8]), ([9, 6, 0, 1, 2, 3, 4, 5, 6, 7, 8, 9], [9])])
def spec_pzFits.B1 : List Nat := [0, 0, 2, 0, 8, 0, 63, 0, 128, 511, 1023]
theorem spec_pzFits.tab1 : rtab .any (opsOf Tryz.f67 1) = spec_pzFits.T1 := by kernel_rfl
theorem spec_pzFits.bits1 : waitsOk spec_pzFits.T1.2 spec_pzFits.B1 = true := by kernel_rfl
theorem spec_pzFits.calls (a0_0 : Int) (a0_1 : Int) (a1_0 : Int) (a1_1 : Int) (a1_2 : Int) (a2 : Int) (r : Bool) (w : World) (h : spec_pzFits.f a0_0 a0_1 a1_0 a1_1 a1_2 a2 = some r) :
  Calls Tryz.prog 67 #[.agg #[.int .i64 a0_0, .int .i64 a0_1], .agg #[.int .i64 a1_0, .int .i64 a1_1, .int .i64 a1_2], .int .i64 a2] w fun e w' => e = .returned (.bool r) ∧ Below w.heap.size w w' := by
 have hu25 := Tryz.underlying25
 have hu46 := Tryz.underlying46
 have HB := am (Below.refl w.heap.size w)
 have H := h
 clear h
 unfold spec_pzFits.f at H
 obtain ⟨t103, A40, H⟩ := bH H
 have A4 := am A40
 clear A40
 obtain rfl := Option.some.inj H
 go_enter Tryz.func67, Tryz.ntmps67
 try go_wp2_with (first | ((with_reducible refine gate_dst (N := 3) rfl ?_); refine uX (N := 3) (cs := #[.int .i64 a0_0, .int .i64 a0_1]) (t := 25) ?_; intro gb101 hg w5 hbox hb; have BK101 := am (hbox); have GW101 := uE hg; have GE101 := GW101; replace HB := uS hb; clear hb hbox hg) | ((with_reducible refine gate_dst (N := 4) rfl ?_); refine uX (N := 4) (cs := #[.int .i64 a1_0, .int .i64 a1_1, .int .i64 a1_2]) (t := 46) ?_; intro gb102 hg w6 hbox hb; have BK102 := am (hbox); have GW102 := uE hg; have GE102 := GW102; have NB101_102 := uL BK101 hg; have NB102_101 := uY NB101_102; replace BK101 := uB BK101 hb; replace HB := uS hb; clear hb hbox hg))
 replace BK101 := am (blk_drew BK101.out)
 replace BK102 := am (blk_drew BK102.out)
 replace HB := am (below_drew1 HB.out)
 refine start_ (n := 11) (S := fun w' => w'.cell? ⟨gb101, 0, none⟩ = some (.int .i64 a0_0) ∧ w'.cell? ⟨gb101, 1, none⟩ = some (.int .i64 a0_1) ∧ w'.cell? ⟨gb102, 0, none⟩ = some (.int .i64 a1_0) ∧ w'.cell? ⟨gb102, 1, none⟩ = some (.int .i64 a1_1) ∧ w'.cell? ⟨gb102, 2, none⟩ = some (.int .i64 a1_2)) (ds := []) #[false, false, false, false, false, false, false, false, false, false, false] (by kernel_rfl) rfl rfl ⟨uT BK101 0, uT BK101 1, uT BK102 0, uT BK102 1, uT BK102 2⟩ (fun hHeld => ?_); refine with_tabW spec_pzFits.tab1 spec_pzFits.bits1 (fun HT_ HW_ => ?_)
 generalize w6.drew = w7 at BK101 BK102 HB hHeld ⊢
 refine uPu (i := 1) (N := some 8) #[false, true, false, false, false, false, false, false, false, false, false] ?_
 refine uPu (i := 3) (N := some 10) #[false, true, false, true, false, false, false, false, false, false, false] ?_
 refine uPu (i := 5) (N := some 12) #[false, true, false, true, false, true, false, false, false, false, false] ?_
 refine uPu (i := 7) (N := some 14) #[false, true, false, true, false, true, false, true, false, false, false] ?_
 refine uTk (i := 0) (N := some 7) #[true, true, false, true, false, true, false, true, false, false, false] hHeld ?_
 refine uTk (i := 2) (N := some 9) #[true, true, true, true, false, true, false, true, false, false, false] hHeld ?_
 refine uTk (i := 4) (N := some 11) #[true, true, true, true, true, true, false, true, false, false, false] hHeld ?_
 refine uTk (i := 8) (N := some 15) #[true, true, true, true, true, true, false, true, true, false, false] hHeld ?_
 refine uOn (i := 6) (N := some 13) #[true, true, true, true, true, true, true, true, true, false, false] (fun K hK => ?_)
 refine uGs Tryz.func91 #[.agg #[.int .i64 a0_0, .int .i64 a0_1], .int .i64 a1_0, .int .i64 a1_1, .int .i64 a2] ?_
 with_reducible refine (spec_pzValue.calls a0_0 a0_1 a1_0 a1_1 a2 t103 _ A4.out).mono ?_
 rintro e w8 ⟨rfl, hb⟩
 refine ⟨_, rfl, ?_⟩
 replace BK101 := uB BK101 hb
 replace BK102 := uB BK102 hb
 replace HB := uS hb
 (try clear hb)
 (skip)
 (skip)
 (skip)
 refine hK.out _ _ ⟨uT BK101 0, uT BK101 1, uT BK102 0, uT BK102 1, uT BK102 2⟩ (fun hHeld => ?_)
 clear hK K
 refine uNo (some 13) ?_
 refine uPu (i := 9) (N := some 16) #[true, true, true, true, true, true, true, true, true, true, false] ?_
 refine uPu (i := 10) (N := some 6) #[true, true, true, true, true, true, true, true, true, true, true] ?_
 refine done_ (done_of HT_.out (by kernel_rfl)) ?_
 try go_wp2
 go_ret
 exact ⟨uA, by exact uW⟩
def spec_l1Split.l0 : Nat → ByteArray → Int → List ByteArray → Int → Int → Option (List ByteArray)
 | 0, _, _, _, _, _ => none
 | k + 1, x0, x1, x5, x6, x7 => if x7 < (x0.size : Int) then (if 0 ≤ x7 then (if (bt x0 x7) = x1 then (if 0 ≤ x6 then (if x6 ≤ x7 then (if x7 ≤ (x0.size : Int) then (if x5.length < 8796093022208 then (spec_l1Split.l0 k x0 x1 (x5 ++ [x0.extract (x6 : Int).toNat (x7 : Int).toNat]) (wrap64 (x7 + 1)) (wrap64 (x7 + 1))) else (none)) else (none)) else (none)) else (none)) else (spec_l1Split.l0 k x0 x1 x5 x6 (wrap64 (x7 + 1)))) else (none)) else (if 0 ≤ x6 then (if x6 ≤ (x0.size : Int) then (if x5.length < 8796093022208 then (some (x5 ++ [x0.extract (x6 : Int).toNat x0.size])) else (none)) else (none)) else (none))
def spec_l1Split.f (k : Nat) (a0 : ByteArray) (a1 : Int) : Option (List ByteArray) := spec_l1Split.l0 k a0 a1 ([] : List ByteArray) 0 0
theorem spec_l1Split.calls (k : Nat) (a0 : ByteArray) (a1 : Int) (r : List ByteArray) (w : World) (h : spec_l1Split.f k a0 a1 = some r) :
  Calls Tryz.prog 84 #[.string a0, .int .u8 a1] w fun e w' => ∃ v0_ : Value, e = .returned (v0_) ∧ Kd.R Kd.string 9 w' w.heap.size (fun _ => True) v0_ r ∧ Below w.heap.size w w' := by
 have HB := am (Below.refl w.heap.size w)
 have H := h
 clear h
 unfold spec_l1Split.f at H
 have H' := am H
 clear H
 go_enter Tryz.func84, Tryz.ntmps84
 go_wp2
 go_loopg [5, 6, 7] k (fun kq v5 v6 v7 w' => ∃ (x5_1 : List ByteArray) (x6_1 : Int) (x7_1 : Int), v6 = .int .i64 x6_1 ∧ v7 = .int .i64 x7_1 ∧ Aside0 (spec_l1Split.l0 kq a0 a1 x5_1 x6_1 x7_1 = some r) ∧ Aside0 (kq ≤ k) ∧ Aside0 (Kd.R Kd.string 9 w' w.heap.size (fun _ => True) v5 x5_1) ∧ Aside0 (Below w.heap.size w w'))
 case atStart => exact ⟨(([] : List ByteArray)), (0), (0), (by rfl), (by rfl), H', ⟨Nat.le_refl _⟩, ⟨uN⟩, ⟨by exact uW⟩⟩
 case round =>
  clear H'
  obtain ⟨x5_1, x6_1, x7_1, rfl, rfl, HA, HK1, HO_5, HB⟩ := hrel
  cases gk with
  | zero => exact absurd HA.out (by simp [spec_l1Split.l0])
  | succ k1 =>
   have H := HA.out
   clear HA
   simp only [spec_l1Split.l0] at H
   by_cases c3 : x7_1 < (a0.size : Int)
   ·rw [if_pos c3] at H
    have c3b0 : decide (x7_1 < (a0.size : Int)) = true := decide_eq_true c3
    clear c3
    by_cases c4 : 0 ≤ x7_1
    ·rw [if_pos c4] at H
     have c4b0 : decide (0 ≤ x7_1) = true := decide_eq_true c4
     clear c4
     by_cases c6 : (bt a0 x7_1) = a1
     ·rw [if_pos c6] at H
      have c6b0 : ((bt a0 x7_1) == a1) = true := beq_iff_eq.mpr c6
      have c6b1 : ((bt a0 x7_1) != a1) = false := bne_eq_false_iff_eq.mpr c6
      clear c6
      by_cases c7 : 0 ≤ x6_1
      ·rw [if_pos c7] at H
       have c7b0 := eq_true c7
       have c7b1 : decide (0 ≤ x6_1) = true := decide_eq_true c7
       clear c7
       by_cases c8 : x6_1 ≤ x7_1
       ·rw [if_pos c8] at H
        have c8b0 := eq_true c8
        have c8b1 : decide (x6_1 ≤ x7_1) = true := decide_eq_true c8
        clear c8
        by_cases c9 : x7_1 ≤ (a0.size : Int)
        ·rw [if_pos c9] at H
         have c9b0 := eq_true c9
         have c9b1 : decide (x7_1 ≤ (a0.size : Int)) = true := decide_eq_true c9
         clear c9
         by_cases c10 : x5_1.length < 8796093022208
         ·rw [if_pos c10] at H
          have LMc10 := am c10
          clear c10
          obtain ⟨y101, hy101⟩ : ∃ y_ : List ByteArray, y_ = (x5_1 ++ [a0.extract (x6_1 : Int).toNat (x7_1 : Int).toNat]) := ⟨_, rfl⟩
          replace H : (spec_l1Split.l0 k1 a0 a1 y101 (wrap64 (x7_1 + 1)) (wrap64 (x7_1 + 1))) = some r := by (rw [hy101]; with_reducible exact H)
          have Ny101 := am hy101
          clear hy101
          have H' := am H
          clear H
          have p5 : 0 ≤ (x7_1 : Int) := of_decide_eq_true (by (with_reducible assumption))
          have q5 : x7_1 < (a0.size : Int) := of_decide_eq_true (by (with_reducible assumption))
          have hx5 := bt_at a0 x7_1
          replace p5 := eq_true p5
          replace q5 := eq_true q5
          go_wp2_with (((with_reducible refine gate_builtin (b := .append) (xs := #[.tmp 19, .tmp 24]) rfl ?_); at_builtin; refine Kd.R_append Kd.string (w0 := w) w.heap.size rfl (.tmp 19) (.tmp 24) 69 9 (.string ⟨#[]⟩) 16 rfl Tryz.underlying69 info9 rfl (by decide) (by omega) u5 x5_1 (a0.extract (x6_1 : Int).toNat (x7_1 : Int).toNat) [.string (a0.extract (x6_1 : Int).toNat (x7_1 : Int).toNat)] (fun _ => True) (fun _ => False) rfl rfl ?aP (fun _ hk => hk.elim) ?aF ?aO ?aB ?aS ?aL ?_; (case aP => exact rfl); (case aB => exact uW); (case aF => exact (fun _ _ => trivial)); (case aO => exact (uR HO_5)); (case aS => exact (below_size uW)); (case aL => have := LMc10.out; omega); intro v102 w11 ho hb hg hat; rw [← Ny101.out] at ho; have HO103 := am (ho); replace HB := am (hb); clear HO_5; clear ho hb hg hat))
          go_roundg k1
          case measure => have := HK1.out; omega
          case rel => exact ⟨(y101), (wrap64 (x7_1 + 1)), (wrap64 (x7_1 + 1)), (by rfl), (by rfl), H', ⟨by have := HK1.out; omega⟩, ⟨by (with_reducible skip); exact HO103.out⟩, ⟨by exact uW⟩⟩
         ·rw [if_neg c10] at H
          exact absurd H (by simp)
        ·rw [if_neg c9] at H
         exact absurd H (by simp)
       ·rw [if_neg c8] at H
        exact absurd H (by simp)
      ·rw [if_neg c7] at H
       exact absurd H (by simp)
     ·rw [if_neg c6] at H
      have c6b0 : ((bt a0 x7_1) == a1) = false := beq_eq_false_iff_ne.mpr c6
      have c6b1 : ((bt a0 x7_1) != a1) = true := bne_iff_ne.mpr c6
      have H' := am H
      clear H
      have p5 : 0 ≤ (x7_1 : Int) := of_decide_eq_true (by (with_reducible assumption))
      have q5 : x7_1 < (a0.size : Int) := of_decide_eq_true (by (with_reducible assumption))
      have hx5 := bt_at a0 x7_1
      replace p5 := eq_true p5
      replace q5 := eq_true q5
      go_wp2
      go_roundg k1
      case measure => have := HK1.out; omega
      case rel => exact ⟨(x5_1), (x6_1), (wrap64 (x7_1 + 1)), (by rfl), (by rfl), H', ⟨by have := HK1.out; omega⟩, ⟨by (with_reducible skip); exact HO_5.out⟩, ⟨by exact uW⟩⟩
    ·rw [if_neg c4] at H
     exact absurd H (by simp)
   ·rw [if_neg c3] at H
    have c3b0 : decide (x7_1 < (a0.size : Int)) = false := decide_eq_false c3
    clear c3
    by_cases c12 : 0 ≤ x6_1
    ·rw [if_pos c12] at H
     have c12b0 := eq_true c12
     have c12b1 : decide (0 ≤ x6_1) = true := decide_eq_true c12
     clear c12
     by_cases c13 : x6_1 ≤ (a0.size : Int)
     ·rw [if_pos c13] at H
      have c13b0 := eq_true c13
      have c13b1 : decide (x6_1 ≤ (a0.size : Int)) = true := decide_eq_true c13
      clear c13
      by_cases c14 : x5_1.length < 8796093022208
      ·rw [if_pos c14] at H
       have LMc14 := am c14
       clear c14
       obtain ⟨y104, hy104⟩ : ∃ y_ : List ByteArray, y_ = (x5_1 ++ [a0.extract (x6_1 : Int).toNat a0.size]) := ⟨_, rfl⟩
       replace H : (some y104) = some r := by (rw [hy104]; with_reducible exact H)
       have Ny104 := am hy104
       clear hy104
       obtain rfl := Option.some.inj H
       go_wp2_with (((with_reducible refine gate_builtin (b := .append) (xs := #[.tmp 28, .tmp 32]) rfl ?_); at_builtin; refine Kd.R_append Kd.string (w0 := w) w.heap.size rfl (.tmp 28) (.tmp 32) 69 9 (.string ⟨#[]⟩) 16 rfl Tryz.underlying69 info9 rfl (by decide) (by omega) u5 x5_1 (a0.extract (x6_1 : Int).toNat a0.size) [.string (a0.extract (x6_1 : Int).toNat a0.size)] (fun _ => True) (fun _ => False) rfl rfl ?aP (fun _ hk => hk.elim) ?aF ?aO ?aB ?aS ?aL ?_; (case aP => exact rfl); (case aB => exact uW); (case aF => exact (fun _ _ => trivial)); (case aO => exact (uR HO_5)); (case aS => exact (below_size uW)); (case aL => have := LMc14.out; omega); intro v105 w15 ho hb hg hat; rw [← Ny104.out] at ho; have HO106 := am (ho); replace HB := am (hb); clear HO_5; clear ho hb hg hat))
       go_ret
       exact ⟨_, uA, by (with_reducible skip); exact HO106.out, by exact uW⟩
      ·rw [if_neg c14] at H
       exact absurd H (by simp)
     ·rw [if_neg c13] at H
      exact absurd H (by simp)
    ·rw [if_neg c12] at H
     exact absurd H (by simp)
mutual
def spec_l1Read.j0 : Nat → ByteArray → Bool → Option (Int)
 | 0, _, _ => none
 | k + 1, x0, x18 => if x18 = true then (some (-1)) else (spec_l1Read.l0 k x0 0 0)
def spec_l1Read.l0 : Nat → ByteArray → Int → Int → Option (Int)
 | 0, _, _, _ => none
 | k + 1, x0, x3, x4 => if x4 < (x0.size : Int) then (if 0 ≤ x4 then (if (bt x0 x4) < 48 then (some (-1)) else (if (bt x0 x4) > 57 then (some (-1)) else (spec_l1Read.l0 k x0 (wrap64 ((wrap64 (10 * x3)) + (((bt x0 x4) - 48) % 256))) (wrap64 (x4 + 1))))) else (none)) else (some x3)
end
def spec_l1Read.f (k : Nat) (a0 : ByteArray) : Option (Int) := (spec_l1In.f (a0.size : Int) 1 6).bind fun t101 => (if t101 = true then (if 0 < (a0.size : Int) then (if (bt a0 0) = 48 then (spec_l1Read.j0 k a0 (decide ((a0.size : Int) > 1))) else (spec_l1Read.j0 k a0 false)) else (none)) else (spec_l1Read.j0 k a0 true))
theorem spec_l1Read.calls (k : Nat) (a0 : ByteArray) (r : Int) (w : World) (h : spec_l1Read.f k a0 = some r) :
  Calls Tryz.prog 86 #[.string a0] w fun e w' => e = .returned (.int .i64 r) ∧ Drawn0 w w' := by
 have H := h
 clear h
 unfold spec_l1Read.f at H
 have HC2 := am H
 clear H
 go_enter Tryz.func86, Tryz.ntmps86
 go_upto_region 1 with (fail)
 go_cut [18] (fun v18 wc => ∃ (kq : Nat) (x18_1 : Bool), v18 = .bool x18_1 ∧ Aside0 (spec_l1Read.j0 kq a0 x18_1 = some r) ∧ Aside0 (kq ≤ k) ∧ Drawn0 w wc)
 case first =>
  have H := HC2.out
  clear HC2
  obtain ⟨t101, A30, H⟩ := bH H
  have A3 := am A30
  clear A30
  by_cases c4 : t101 = true
  ·subst c4
   rw [if_pos rfl] at H
   by_cases c5 : 0 < (a0.size : Int)
   ·rw [if_pos c5] at H
    have c5b0 : decide (0 < (a0.size : Int)) = true := decide_eq_true c5
    have c5b1 : decide (0 < a0.size) = true := decide_eq_true (by omega)
    clear c5
    (skip)
    by_cases c7 : (bt a0 0) = 48
    ·rw [if_pos c7] at H
     have c7b0 : ((bt a0 0) == 48) = true := beq_iff_eq.mpr c7
     have c7b1 : ((bt a0 0) != 48) = false := bne_eq_false_iff_eq.mpr c7
     clear c7
     have H' := am H
     clear H
     go_wp2_with (((with_reducible refine gate_callee (f := 90) rfl ?_); refine uGo (some 7) Tryz.func90 #[.int .i64 (a0.size : Int), .int .i64 1, .int .i64 6] ?_; (with_reducible refine (spec_l1In.calls (a0.size : Int) 1 6 true _ A3.out).mono ?_); rintro e w' ⟨rfl, ⟨nd, rfl⟩⟩; refine ⟨_, rfl, ?_⟩; have p6 : 0 ≤ (0 : Int) := (by omega); have q6 : 0 < a0.size := (by have : (0 : Int) < (a0.size : Int) := of_decide_eq_true (by (with_reducible assumption)); omega); have hx6 : ∀ h : 0 < a0.size, ((a0[0]'h).toNat : Int) = bt a0 0 := bt_at a0 0; clear p6; have qi6 : (0 < (a0.size : Int)) = True := eq_true (of_decide_eq_true (by (with_reducible assumption))); replace q6 := eq_true q6))
     go_meet
     case rel => exact ⟨_, (decide ((a0.size : Int) > 1)), (by rfl), H', ⟨by omega⟩, by repeat (first | exact Drawn0.refl _ | apply Drawn0.step)⟩
    ·rw [if_neg c7] at H
     have c7b0 : ((bt a0 0) == 48) = false := beq_eq_false_iff_ne.mpr c7
     have c7b1 : ((bt a0 0) != 48) = true := bne_iff_ne.mpr c7
     have H' := am H
     clear H
     go_wp2_with (((with_reducible refine gate_callee (f := 90) rfl ?_); refine uGo (some 7) Tryz.func90 #[.int .i64 (a0.size : Int), .int .i64 1, .int .i64 6] ?_; (with_reducible refine (spec_l1In.calls (a0.size : Int) 1 6 true _ A3.out).mono ?_); rintro e w' ⟨rfl, ⟨nd, rfl⟩⟩; refine ⟨_, rfl, ?_⟩; have p6 : 0 ≤ (0 : Int) := (by omega); have q6 : 0 < a0.size := (by have : (0 : Int) < (a0.size : Int) := of_decide_eq_true (by (with_reducible assumption)); omega); have hx6 : ∀ h : 0 < a0.size, ((a0[0]'h).toNat : Int) = bt a0 0 := bt_at a0 0; clear p6; have qi6 : (0 < (a0.size : Int)) = True := eq_true (of_decide_eq_true (by (with_reducible assumption))); replace q6 := eq_true q6))
     go_meet
     case rel => exact ⟨_, (false), (by rfl), H', ⟨by omega⟩, by repeat (first | exact Drawn0.refl _ | apply Drawn0.step)⟩
   ·rw [if_neg c5] at H
    exact absurd H (by simp)
  ·replace c4 := Bool.eq_false_iff.mpr c4
   subst c4
   rw [if_neg (show ¬ (false = true) by decide)] at H
   have H' := am H
   clear H
   go_wp2_with (((with_reducible refine gate_callee (f := 90) rfl ?_); refine uGo (some 7) Tryz.func90 #[.int .i64 (a0.size : Int), .int .i64 1, .int .i64 6] ?_; (with_reducible refine (spec_l1In.calls (a0.size : Int) 1 6 false _ A3.out).mono ?_); rintro e w' ⟨rfl, ⟨nd, rfl⟩⟩; refine ⟨_, rfl, ?_⟩))
   go_meet
   case rel => exact ⟨_, (true), (by rfl), H', ⟨by omega⟩, by repeat (first | exact Drawn0.refl _ | apply Drawn0.step)⟩
 case rest =>
  clear HC2
  obtain ⟨kq, x18_1, rfl, HA, HJ1, ⟨mc1, rfl⟩⟩ := hcut
  cases kq with
  | zero => exact absurd HA.out (by simp [spec_l1Read.j0])
  | succ kj1 =>
   have H := HA.out
   clear HA
   simp only [spec_l1Read.j0] at H
   by_cases c8 : x18_1 = true
   ·subst c8
    rw [if_pos rfl] at H
    obtain rfl := Option.some.inj H
    go_wp2
    go_ret
    exact ⟨by rfl, by repeat (first | exact Drawn0.refl _ | apply Drawn0.step)⟩
   ·replace c8 := Bool.eq_false_iff.mpr c8
    subst c8
    rw [if_neg (show ¬ (false = true) by decide)] at H
    have H' := am H
    clear H
    go_wp2
    go_loopg [3, 4] kj1 (fun kq v3 v4 w' => ∃ (x3_2 : Int) (x4_2 : Int), v3 = .int .i64 x3_2 ∧ v4 = .int .i64 x4_2 ∧ Aside0 (spec_l1Read.l0 kq a0 x3_2 x4_2 = some r) ∧ Aside0 (kq ≤ kj1) ∧ Drawn0 w w')
    case atStart => exact ⟨(0), (0), (by rfl), (by rfl), H', ⟨Nat.le_refl _⟩, by repeat (first | exact Drawn0.refl _ | apply Drawn0.step)⟩
    case round =>
     clear H'
     obtain ⟨x3_2, x4_2, rfl, rfl, HA, HK2, ⟨m2, rfl⟩⟩ := hrel
     cases gk with
     | zero => exact absurd HA.out (by simp [spec_l1Read.l0])
     | succ k2 =>
      have H := HA.out
      clear HA
      simp only [spec_l1Read.l0] at H
      by_cases c9 : x4_2 < (a0.size : Int)
      ·rw [if_pos c9] at H
       have c9b0 : decide (x4_2 < (a0.size : Int)) = true := decide_eq_true c9
       clear c9
       by_cases c10 : 0 ≤ x4_2
       ·rw [if_pos c10] at H
        have c10b0 : decide (0 ≤ x4_2) = true := decide_eq_true c10
        clear c10
        by_cases c12 : (bt a0 x4_2) < 48
        ·rw [if_pos c12] at H
         have c12b0 : decide ((bt a0 x4_2) < 48) = true := decide_eq_true c12
         clear c12
         obtain rfl := Option.some.inj H
         have p11 : 0 ≤ (x4_2 : Int) := of_decide_eq_true (by (with_reducible assumption))
         have q11 : x4_2 < (a0.size : Int) := of_decide_eq_true (by (with_reducible assumption))
         have hx11 := bt_at a0 x4_2
         replace p11 := eq_true p11
         replace q11 := eq_true q11
         go_wp2
         go_ret
         exact ⟨by rfl, by repeat (first | exact Drawn0.refl _ | apply Drawn0.step)⟩
        ·rw [if_neg c12] at H
         have c12b0 : decide ((bt a0 x4_2) < 48) = false := decide_eq_false c12
         clear c12
         by_cases c14 : (bt a0 x4_2) > 57
         ·rw [if_pos c14] at H
          have c14b0 : decide (57 < (bt a0 x4_2)) = true := decide_eq_true c14
          clear c14
          obtain rfl := Option.some.inj H
          have p11 : 0 ≤ (x4_2 : Int) := of_decide_eq_true (by (with_reducible assumption))
          have q11 : x4_2 < (a0.size : Int) := of_decide_eq_true (by (with_reducible assumption))
          have hx11 := bt_at a0 x4_2
          replace p11 := eq_true p11
          replace q11 := eq_true q11
          have p13 : 0 ≤ (x4_2 : Int) := of_decide_eq_true (by (with_reducible assumption))
          have q13 : x4_2 < (a0.size : Int) := of_decide_eq_true (by (with_reducible assumption))
          have hx13 := bt_at a0 x4_2
          replace p13 := eq_true p13
          replace q13 := eq_true q13
          go_wp2
          go_ret
          exact ⟨by rfl, by repeat (first | exact Drawn0.refl _ | apply Drawn0.step)⟩
         ·rw [if_neg c14] at H
          have c14b0 : decide (57 < (bt a0 x4_2)) = false := decide_eq_false c14
          clear c14
          have H' := am H
          clear H
          have p11 : 0 ≤ (x4_2 : Int) := of_decide_eq_true (by (with_reducible assumption))
          have q11 : x4_2 < (a0.size : Int) := of_decide_eq_true (by (with_reducible assumption))
          have hx11 := bt_at a0 x4_2
          replace p11 := eq_true p11
          replace q11 := eq_true q11
          have p13 : 0 ≤ (x4_2 : Int) := of_decide_eq_true (by (with_reducible assumption))
          have q13 : x4_2 < (a0.size : Int) := of_decide_eq_true (by (with_reducible assumption))
          have hx13 := bt_at a0 x4_2
          replace p13 := eq_true p13
          replace q13 := eq_true q13
          have p15 : 0 ≤ (x4_2 : Int) := of_decide_eq_true (by (with_reducible assumption))
          have q15 : x4_2 < (a0.size : Int) := of_decide_eq_true (by (with_reducible assumption))
          have hx15 := bt_at a0 x4_2
          replace p15 := eq_true p15
          replace q15 := eq_true q15
          go_wp2
          go_roundg k2
          case measure => have := HJ1.out; have := HK2.out; omega
          case rel => exact ⟨(wrap64 ((wrap64 (10 * x3_2)) + (((bt a0 x4_2) - 48) % 256))), (wrap64 (x4_2 + 1)), (by rfl), (by rfl), H', ⟨by have := HJ1.out; have := HK2.out; omega⟩, by repeat (first | exact Drawn0.refl _ | apply Drawn0.step)⟩
       ·rw [if_neg c10] at H
        exact absurd H (by simp)
      ·rw [if_neg c9] at H
       have c9b0 : decide (x4_2 < (a0.size : Int)) = false := decide_eq_false c9
       clear c9
       obtain rfl := Option.some.inj H
       go_wp2
       go_ret
       exact ⟨by rfl, by repeat (first | exact Drawn0.refl _ | apply Drawn0.step)⟩
def spec_nuParse.l0 : Nat → ByteArray → Int → Int → Int → Option (Int × Int × Bool)
 | 0, _, _, _, _ => none
 | k + 1, x0, x5, x105000, x105001 => if x5 < 3 then (if 0 < (x0.size : Int) then (if 0 ≤ x5 then (if (bt x0 0) = (bt (⟨#[114, 111, 117]⟩ : ByteArray) x5) then (spec_nuParse.l0 k x0 (wrap64 (x5 + 1)) x5 x105001) else (spec_nuParse.l0 k x0 (wrap64 (x5 + 1)) x105000 x105001)) else (none)) else (none)) else ((spec_nuGood.f x105000 x105001).bind fun t105 => (if t105 = true then (some (x105000, x105001, true)) else (some (0, 0, false))))
def spec_nuParse.f (k : Nat) (a0 : ByteArray) : Option (Int × Int × Bool) := (spec_l1In.f (a0.size : Int) 2 5).bind fun t102 => (if t102 = true then (if 1 ≤ (a0.size : Int) then ((spec_l1Read.f k (a0.extract 1 a0.size)).bind fun t103 => (spec_nuParse.l0 k a0 0 (-1) t103)) else (none)) else (some (0, 0, false)))
theorem spec_nuParse.calls (k : Nat) (a0 : ByteArray) (r1 : Int) (r2 : Int) (r3 : Bool) (w : World) (h : spec_nuParse.f k a0 = some (r1, r2, r3)) :
  Calls Tryz.prog 85 #[.string a0] w fun e w' => e = .returned (.tuple #[.agg #[.int .i64 r1, .int .i64 r2], .bool r3]) ∧ Below w.heap.size w w' := by
 have hu25 := Tryz.underlying25
 have HB := am (Below.refl w.heap.size w)
 have H := h
 clear h
 unfold spec_nuParse.f at H
 obtain ⟨t102, A20, H⟩ := bH H
 have A2 := am A20
 clear A20
 by_cases c3 : t102 = true
 ·subst c3
  rw [if_pos rfl] at H
  by_cases c4 : 1 ≤ (a0.size : Int)
  ·rw [if_pos c4] at H
   have c4b0 := eq_true c4
   have c4b1 : decide (1 ≤ (a0.size : Int)) = true := decide_eq_true c4
   clear c4
   obtain ⟨t103, A50, H⟩ := bH H
   have A5 := am A50
   clear A50
   have H' := am H
   clear H
   go_enter Tryz.func85, Tryz.ntmps85
   go_wp2_with (first | ((with_reducible refine gate_dst (N := 2) rfl ?_); refine uX (N := 2) (cs := #[.int .i64 0, .int .i64 0]) (t := 25) ?_; intro gb101 hg w6 hbox hb; have BK101 := am (hbox); have GW101 := uE hg; have GE101 := GW101; replace HB := uS hb; clear hb hbox hg) | (go_at_call 90; (with_reducible refine (spec_l1In.calls (a0.size : Int) 2 5 true _ A2.out).mono ?_); rintro e w' ⟨rfl, ⟨nd, rfl⟩⟩) | (go_at_call 86; (with_reducible refine (spec_l1Read.calls k (a0.extract 1 a0.size) t103 _ A5.out).mono ?_); rintro e w' ⟨rfl, ⟨nd, rfl⟩⟩) | ((with_reducible refine gate_dst (N := 4) rfl ?_); refine uX (N := 4) (cs := #[.int .i64 0, .int .i64 0]) (t := 25) ?_; intro gb104 hg w7 hbox hb; have BK104 := am (hbox); have GW104 := uE hg; have GE104 := GW104; have NB101_104 := uL BK101 hg; have NB104_101 := uY NB101_104; replace BK101 := uB BK101 hb; replace HB := uS hb; clear hb hbox hg; have hnb8 := NB104_101.out; have hnc8 := NB101_104.out; obtain ⟨hcz9_0, hcz9_1, hfz9_0, hfz9_1⟩ := uZ2 BK104))
   go_loopg [5] k (fun kq v5 w' => ∃ (x5_1 : Int) (x105000_1 : Int), v5 = .int .i64 x5_1 ∧ Aside0 (spec_nuParse.l0 kq a0 x5_1 x105000_1 t103 = some (r1, r2, r3)) ∧ Aside0 (kq ≤ k) ∧ Aside0 (w'.heap[gb101]? = some (.cells #[.int .i64 0, .int .i64 0] 25 (0, 0))) ∧ Aside0 (w'.heap[gb104]? = some (.cells #[.int .i64 x105000_1, .int .i64 t103] 25 (0, 0))) ∧ Aside0 (Below w.heap.size w w'))
   case atStart => exact ⟨(0), ((-1)), (by rfl), H', ⟨Nat.le_refl _⟩, ⟨by refine blk_far ?_ NB101_104.out _; refine blk_far ?_ NB101_104.out _; exact (uP BK101)⟩, ⟨by refine blk_put (cs := #[.int .i64 (-1), .int .i64 0]) ?_ 1 _ rfl; refine blk_put (cs := #[.int .i64 0, .int .i64 0]) ?_ 0 _ rfl; exact (uP BK104)⟩, ⟨by exact uW⟩⟩
   case round =>
    clear H'
    try clear c4b0
    try clear c4b1
    try clear hcz9_0
    try clear hcz9_1
    try clear hfz9_0
    try clear hfz9_1
    obtain ⟨x5_1, x105000_1, rfl, HA, HK1, BK101, BK104, HB⟩ := hrel
    cases gk with
    | zero => exact absurd HA.out (by simp [spec_nuParse.l0])
    | succ k1 =>
     have H := HA.out
     clear HA
     simp only [spec_nuParse.l0] at H
     by_cases c10 : x5_1 < 3
     ·rw [if_pos c10] at H
      have c10b0 : decide (x5_1 < 3) = true := decide_eq_true c10
      clear c10
      by_cases c11 : 0 < (a0.size : Int)
      ·rw [if_pos c11] at H
       have c11b0 : decide (0 < (a0.size : Int)) = true := decide_eq_true c11
       have c11b1 : decide (0 < a0.size) = true := decide_eq_true (by omega)
       clear c11
       by_cases c13 : 0 ≤ x5_1
       ·rw [if_pos c13] at H
        have c13b0 : decide (0 ≤ x5_1) = true := decide_eq_true c13
        clear c13
        by_cases c15 : (bt a0 0) = (bt (⟨#[114, 111, 117]⟩ : ByteArray) x5_1)
        ·rw [if_pos c15] at H
         have c15b0 : ((bt a0 0) == (bt (⟨#[114, 111, 117]⟩ : ByteArray) x5_1)) = true := beq_iff_eq.mpr c15
         have c15b1 : ((bt a0 0) != (bt (⟨#[114, 111, 117]⟩ : ByteArray) x5_1)) = false := bne_eq_false_iff_eq.mpr c15
         clear c15
         have H' := am H
         clear H
         have p12 : 0 ≤ (0 : Int) := (by omega)
         have q12 : 0 < a0.size := (by have : (0 : Int) < (a0.size : Int) := of_decide_eq_true (by (with_reducible assumption)); omega)
         have hx12 : ∀ h : 0 < a0.size, ((a0[0]'h).toNat : Int) = bt a0 0 := bt_at a0 0
         clear p12
         have qi12 : (0 < (a0.size : Int)) = True := eq_true (of_decide_eq_true (by (with_reducible assumption)))
         replace q12 := eq_true q12
         have p14 : 0 ≤ (x5_1 : Int) := of_decide_eq_true (by (with_reducible assumption))
         have q14 : x5_1 < (3 : Int) := of_decide_eq_true (by (with_reducible assumption))
         have hx14 := bt_at (⟨#[114, 111, 117]⟩ : ByteArray) x5_1
         replace p14 := eq_true p14
         replace q14 := eq_true q14
         have hnb16 := NB104_101.out
         have hnc16 := NB101_104.out
         obtain ⟨hcz17_0, hcz17_1, hfz17_0, hfz17_1⟩ := uZ2 BK104
         go_wp2
         repeat (go_quiet (fail); try go_wp2)
         go_roundg k1
         case measure => have := HK1.out; omega
         case rel => exact ⟨(wrap64 (x5_1 + 1)), (x5_1), (by rfl), H', ⟨by have := HK1.out; omega⟩, ⟨by refine blk_far ?_ NB101_104.out _; exact (uP BK101)⟩, ⟨by refine blk_put (cs := #[.int .i64 x105000_1, .int .i64 t103]) ?_ 0 _ rfl; exact (uP BK104)⟩, ⟨by exact uW⟩⟩
        ·rw [if_neg c15] at H
         have c15b0 : ((bt a0 0) == (bt (⟨#[114, 111, 117]⟩ : ByteArray) x5_1)) = false := beq_eq_false_iff_ne.mpr c15
         have c15b1 : ((bt a0 0) != (bt (⟨#[114, 111, 117]⟩ : ByteArray) x5_1)) = true := bne_iff_ne.mpr c15
         have H' := am H
         clear H
         have p12 : 0 ≤ (0 : Int) := (by omega)
         have q12 : 0 < a0.size := (by have : (0 : Int) < (a0.size : Int) := of_decide_eq_true (by (with_reducible assumption)); omega)
         have hx12 : ∀ h : 0 < a0.size, ((a0[0]'h).toNat : Int) = bt a0 0 := bt_at a0 0
         clear p12
         have qi12 : (0 < (a0.size : Int)) = True := eq_true (of_decide_eq_true (by (with_reducible assumption)))
         replace q12 := eq_true q12
         have p14 : 0 ≤ (x5_1 : Int) := of_decide_eq_true (by (with_reducible assumption))
         have q14 : x5_1 < (3 : Int) := of_decide_eq_true (by (with_reducible assumption))
         have hx14 := bt_at (⟨#[114, 111, 117]⟩ : ByteArray) x5_1
         replace p14 := eq_true p14
         replace q14 := eq_true q14
         go_wp2
         repeat (go_quiet (fail); try go_wp2)
         go_roundg k1
         case measure => have := HK1.out; omega
         case rel => exact ⟨(wrap64 (x5_1 + 1)), (x105000_1), (by rfl), H', ⟨by have := HK1.out; omega⟩, ⟨by (with_reducible repeat (refine bN ?_ _)); exact BK101.out⟩, ⟨by (with_reducible repeat (refine bN ?_ _)); exact BK104.out⟩, ⟨by exact uW⟩⟩
       ·rw [if_neg c13] at H
        exact absurd H (by simp)
      ·rw [if_neg c11] at H
       exact absurd H (by simp)
     ·rw [if_neg c10] at H
      have c10b0 : decide (x5_1 < 3) = false := decide_eq_false c10
      clear c10
      obtain ⟨t105, A180, H⟩ := bH H
      have A18 := am A180
      clear A180
      by_cases c19 : t105 = true
      ·subst c19
       rw [if_pos rfl] at H
       simp only [Option.some.injEq, Prod.mk.injEq] at H
       obtain ⟨rfl, rfl, rfl⟩ := H
       have hnb20 := NB104_101.out
       have hnc20 := NB101_104.out
       obtain ⟨hcz21_0, hcz21_1, hfz21_0, hfz21_1⟩ := uZ2 BK104
       go_wp2_with ((go_at_call 89; (with_reducible refine (spec_nuGood.calls x105000_1 t103 true _ A18.out).mono ?_); rintro e w22 ⟨rfl, hb⟩; replace BK101 := uB BK101 hb; replace BK104 := uB BK104 hb; replace HB := uS hb; (try clear hb); obtain ⟨hcz23_0, hcz23_1, hfz23_0, hfz23_1⟩ := uZ2 BK104; obtain ⟨hcz24_0, hcz24_1, hfz24_0, hfz24_1⟩ := uZ2 BK101))
       refine bodyPost_ret (results_ct rfl _ _ gb101 25 #[.int .i64 x105000_1, .int .i64 t103] (0, 0) _ rfl (by refine blk_put (cs := #[.int .i64 x105000_1, .int .i64 0]) ?_ 1 _ rfl; refine blk_put (cs := #[.int .i64 0, .int .i64 0]) ?_ 0 _ rfl; exact (uP BK101)) Tryz.underlying25 rfl (by kernel_rfl)) rfl ?_
       exact ⟨uA, by exact uW⟩
      ·replace c19 := Bool.eq_false_iff.mpr c19
       subst c19
       rw [if_neg (show ¬ (false = true) by decide)] at H
       simp only [Option.some.injEq, Prod.mk.injEq] at H
       obtain ⟨rfl, rfl, rfl⟩ := H
       have hnb25 := NB104_101.out
       have hnc25 := NB101_104.out
       obtain ⟨hcz26_0, hcz26_1, hfz26_0, hfz26_1⟩ := uZ2 BK104
       go_wp2_with ((go_at_call 89; (with_reducible refine (spec_nuGood.calls x105000_1 t103 false _ A18.out).mono ?_); rintro e w27 ⟨rfl, hb⟩; replace BK101 := uB BK101 hb; replace BK104 := uB BK104 hb; replace HB := uS hb; (try clear hb); obtain ⟨hcz28_0, hcz28_1, hfz28_0, hfz28_1⟩ := uZ2 BK101))
       refine bodyPost_ret (results_ct rfl _ _ gb101 25 #[.int .i64 0, .int .i64 0] (0, 0) _ rfl (by refine blk_put (cs := #[.int .i64 0, .int .i64 0]) ?_ 1 _ rfl; refine blk_put (cs := #[.int .i64 0, .int .i64 0]) ?_ 0 _ rfl; exact (uP BK101)) Tryz.underlying25 rfl (by kernel_rfl)) rfl ?_
       exact ⟨uA, by exact uW⟩
  ·rw [if_neg c4] at H
   exact absurd H (by simp)
 ·replace c3 := Bool.eq_false_iff.mpr c3
  subst c3
  rw [if_neg (show ¬ (false = true) by decide)] at H
  simp only [Option.some.injEq, Prod.mk.injEq] at H
  obtain ⟨rfl, rfl, rfl⟩ := H
  go_enter Tryz.func85, Tryz.ntmps85
  go_wp2_with (first | ((with_reducible refine gate_dst (N := 2) rfl ?_); refine uX (N := 2) (cs := #[.int .i64 0, .int .i64 0]) (t := 25) ?_; intro gb101 hg w29 hbox hb; have BK101 := am (hbox); have GW101 := uE hg; have GE101 := GW101; replace HB := uS hb; clear hb hbox hg) | (go_at_call 90; (with_reducible refine (spec_l1In.calls (a0.size : Int) 2 5 false _ A2.out).mono ?_); rintro e w' ⟨rfl, ⟨nd, rfl⟩⟩; obtain ⟨hcz30_0, hcz30_1, hfz30_0, hfz30_1⟩ := uZ2 BK101))
  refine bodyPost_ret (results_ct rfl _ _ gb101 25 #[.int .i64 0, .int .i64 0] (0, 0) _ rfl (by refine blk_put (cs := #[.int .i64 0, .int .i64 0]) ?_ 1 _ rfl; refine blk_put (cs := #[.int .i64 0, .int .i64 0]) ?_ 0 _ rfl; exact (uP BK101)) Tryz.underlying25 rfl (by kernel_rfl)) rfl ?_
  exact ⟨uA, by exact uW⟩
mutual
def spec_pzParse.j0 : Nat → ByteArray → List ByteArray → Bool → Option (Int × Int × (List (S46)) × Bool)
 | 0, _, _, _ => none
 | k + 1, x0, x4, x20 => if x20 = true then (some (0, 0, ([] : List (S46)), false)) else (if 0 < (x4.length : Int) then ((spec_nuParse.f k (rdOf ByteArray.empty x4 0)).bind fun bt106 => (if bt106.2.2 = true then (if 1 < (x4.length : Int) then (if ((rdOf ByteArray.empty x4 1).size : Int) > 0 then ((spec_l1Split.f k (rdOf ByteArray.empty x4 1) 44).bind fun t113 => (spec_pzParse.l0 k x0 t113 (t113.length : Int) 0 bt106.1 bt106.2.1 ([] : List (S46)))) else ((spec_pzGood.f k bt106.1 bt106.2.1 ([] : List (S46))).bind fun t131 => (if t131 = true then ((spec_pzText.f k bt106.1 bt106.2.1 ([] : List (S46))).bind fun t132 => (some (bt106.1, bt106.2.1, ([] : List (S46)), (t132.toList == x0.toList)))) else (some (bt106.1, bt106.2.1, ([] : List (S46)), false))))) else (none)) else (some (0, 0, ([] : List (S46)), false)))) else (none))
def spec_pzParse.l0 : Nat → ByteArray → List ByteArray → Int → Int → Int → Int → List (S46) → Option (Int × Int × (List (S46)) × Bool)
 | 0, _, _, _, _, _, _, _ => none
 | k + 1, x0, x42, x43, x44, x111000, x111001, x111002 => if x44 < x43 then (if 0 ≤ x44 then (if x44 < (x42.length : Int) then ((spec_l1Split.f k (rdOf ByteArray.empty x42 x44) 46).bind fun t119 => (if (t119.length : Int) = 3 then (if 0 < (t119.length : Int) then ((spec_l1Read.f k (rdOf ByteArray.empty t119 0)).bind fun t123 => (if 1 < (t119.length : Int) then ((spec_l1Read.f k (rdOf ByteArray.empty t119 1)).bind fun t125 => (if 2 < (t119.length : Int) then ((spec_l1Read.f k (rdOf ByteArray.empty t119 2)).bind fun t127 => (if x111002.length < 5864062014805 then (spec_pzParse.l0 k x0 x42 x43 (wrap64 (x44 + 1)) x111000 x111001 (x111002 ++ [(⟨t123, t125, t127⟩ : S46)])) else (none))) else (none))) else (none))) else (none)) else (some (0, 0, ([] : List (S46)), false)))) else (none)) else (none)) else ((spec_pzGood.f k x111000 x111001 x111002).bind fun t116 => (if t116 = true then ((spec_pzText.f k x111000 x111001 x111002).bind fun t117 => (some (x111000, x111001, x111002, (t117.toList == x0.toList)))) else (some (x111000, x111001, x111002, false))))
end
def spec_pzParse.f (k : Nat) (a0 : ByteArray) : Option (Int × Int × (List (S46)) × Bool) := (spec_l1Split.f k a0 59).bind fun t102 => (if (a0.size : Int) > 100 then (spec_pzParse.j0 k a0 t102 true) else (spec_pzParse.j0 k a0 t102 ((t102.length : Int) != 2)))
def spec_pzParse.T15 : Bool × List (List Nat × List Nat) := (true, [([], []), ([0], [0]), ([], []), ([2], [2]), ([3], [3]), ([4], [4]), ([], []), ([6], [6]), ([7], [7]), ([8, 5], [8]), ([], []), ([10], [10]), ([11], [11]), ([12, 9], [12]), ([5, 9, 13], [5, 9, 13]), ([14], [14]), ([1, 15, 13], [1, 15]), ([0, 1, 2, 3, 4, 5, 6, 7, 8, 9, 10, 11, 12, 13, 14, 15, 16], []), ([17, 16, 16, 0, 1, 2, 3, 4, 5, 6, 7, 8, 9, 10, 11, 12, 13, 14, 15, 16], [16, 17])])
def spec_pzParse.B15 : List Nat := [0, 1, 0, 4, 12, 28, 0, 64, 192, 508, 0, 1024, 3072, 8188, 16380, 32764, 65535, 131071, 262143]
theorem spec_pzParse.tab15 : rtab .any (opsOf Tryz.f61 15) = spec_pzParse.T15 := by kernel_rfl
theorem spec_pzParse.bits15 : waitsOk spec_pzParse.T15.2 spec_pzParse.B15 = true := by kernel_rfl
def spec_pzParse.T17 : Bool × List (List Nat × List Nat) := (true, [([], []), ([], []), ([1], [1]), ([2, 2], [2]), ([3], [3]), ([4, 3, 3], [3, 4]), ([3], [3]), ([5, 6, 3], [3, 5, 6]), ([3, 7], [3, 7]), ([0, 5, 0], [0]), ([8, 9, 0, 1, 2, 3, 4, 5, 6, 7, 8, 9], [8])])
def spec_pzParse.B17 : List Nat := [0, 0, 2, 6, 14, 30, 14, 126, 254, 63, 1023]
theorem spec_pzParse.tab17 : rtab .any (opsOf Tryz.f61 17) = spec_pzParse.T17 := by kernel_rfl
theorem spec_pzParse.bits17 : waitsOk spec_pzParse.T17.2 spec_pzParse.B17 = true := by kernel_rfl
theorem spec_pzParse.calls (k : Nat) (a0 : ByteArray) (r1 : Int) (r2 : Int) (r3 : List (S46)) (r4 : Bool) (w : World) (h : spec_pzParse.f k a0 = some (r1, r2, r3, r4)) :
  Calls Tryz.prog 61 #[.string a0] w fun e w' => ∃ v2_ : Value, e = .returned (.tuple #[.agg #[.int .i64 r1, .int .i64 r2, v2_], .bool r4]) ∧ Kd.R k46 46 w' w.heap.size (fun _ => True) v2_ r3 ∧ Below w.heap.size w w' := by
 have hu28 := Tryz.underlying28
 have hu25 := Tryz.underlying25
 have hu46 := Tryz.underlying46
 have HB := am (Below.refl w.heap.size w)
 have H := h
 clear h
 unfold spec_pzParse.f at H
 obtain ⟨t102, A20, H⟩ := bH H
 have A2 := am A20
 clear A20
 have HC3 := am H
 clear H
 go_enter Tryz.func61, Tryz.ntmps61
 go_upto_region 2 with (first | ((with_reducible refine gate_dst (N := 2) rfl ?_); (try (refine gate_guard (by rfl) ?_; dsimp only)); refine uX (N := 2) (cs := #[.int .i64 0, .int .i64 0, .slice none 0 0]) (t := 28) ?_; intro gb101 hg w4 hbox hb; have BK101 := am (hbox); have GW101 := uE hg; have GE101 := GW101; replace HB := uS hb; clear hb hbox hg) | ((with_reducible refine gate_callee (f := 84) rfl ?_); refine uGo (some 12) Tryz.func84 #[.string a0, .int .u8 59] ?_; (with_reducible refine (spec_l1Split.calls k a0 59 t102 _ A2.out).mono ?_); rintro e w5 ⟨v103, rfl, ho0, hb⟩; refine ⟨_, rfl, ?_⟩; have HO104 := am (Kd.R_lower ho0 (below_size uW)); replace BK101 := uB BK101 hb; replace HB := uS hb; (try clear hb); (try clear ho0)))
 (skip)
 go_cut [20] (fun v20 wc => ∃ (kq : Nat) (x20_2 : Bool), v20 = .bool x20_2 ∧ Aside0 (spec_pzParse.j0 kq a0 t102 x20_2 = some (r1, r2, r3, r4)) ∧ Aside0 (kq ≤ k) ∧ Aside0 (Kd.R Kd.string 9 wc w.heap.size (fun _ => True) v103 t102) ∧ Aside0 (wc.heap[gb101]? = some (.cells #[.int .i64 0, .int .i64 0, (.slice none 0 0)] 28 (0, 0))) ∧ Aside0 (Below w.heap.size w wc))
 case first =>
  have H := HC3.out
  clear HC3
  by_cases c6 : (a0.size : Int) > 100
  ·rw [if_pos c6] at H
   have c6b0 : decide (100 < (a0.size : Int)) = true := decide_eq_true c6
   have c6b1 : decide (100 < a0.size) = true := decide_eq_true (by omega)
   clear c6
   (skip)
   have H' := am H
   clear H
   go_wp2
   go_meet
   case rel => exact ⟨_, (true), (by rfl), H', ⟨by omega⟩, ⟨by (with_reducible skip); exact HO104.out⟩, ⟨by (with_reducible skip); exact BK101.out⟩, ⟨by exact uW⟩⟩
  ·rw [if_neg c6] at H
   have c6b0 : decide (100 < (a0.size : Int)) = false := decide_eq_false c6
   have c6b1 : decide (100 < a0.size) = false := decide_eq_false (by omega)
   clear c6
   (skip)
   have H' := am H
   clear H
   obtain ⟨Ao7, co7, eo7⟩ := Kd.R_slice HO104.out
   subst eo7
   go_wp2
   go_meet
   case rel => exact ⟨_, (((t102.length : Int) != 2)), (by rfl), H', ⟨by omega⟩, ⟨by (with_reducible skip); exact HO104.out⟩, ⟨by (with_reducible skip); exact BK101.out⟩, ⟨by exact uW⟩⟩
 case rest =>
  clear HC3
  obtain ⟨kq, x20_2, rfl, HA, HJ2, HO_4, BK101, HB⟩ := hcut
  cases kq with
  | zero => exact absurd HA.out (by simp [spec_pzParse.j0])
  | succ kj2 =>
   have H := HA.out
   clear HA
   simp only [spec_pzParse.j0] at H
   by_cases c8 : x20_2 = true
   ·subst c8
    rw [if_pos rfl] at H
    simp only [Option.some.injEq, Prod.mk.injEq] at H
    obtain ⟨rfl, rfl, rfl, rfl⟩ := H
    obtain ⟨hcz9_0, hcz9_1, hcz9_2, hfz9_0, hfz9_1, hfz9_2⟩ := uZ3 BK101
    go_wp2
    refine bodyPost_ret (results_ct rfl _ _ gb101 28 #[.int .i64 0, .int .i64 0, .slice none 0 0] (0, 0) _ rfl (by refine blk_put (cs := #[.int .i64 0, .int .i64 0, .slice none 0 0]) ?_ 2 _ rfl; refine blk_put (cs := #[.int .i64 0, .int .i64 0, .slice none 0 0]) ?_ 1 _ rfl; refine blk_put (cs := #[.int .i64 0, .int .i64 0, .slice none 0 0]) ?_ 0 _ rfl; exact (uP BK101)) Tryz.underlying28 rfl (by kernel_rfl)) rfl ?_
    exact ⟨_, uA, uN, by exact uW⟩
   ·replace c8 := Bool.eq_false_iff.mpr c8
    subst c8
    rw [if_neg (show ¬ (false = true) by decide)] at H
    by_cases c10 : 0 < (t102.length : Int)
    ·rw [if_pos c10] at H
     have c10b0 : decide (0 < (t102.length : Int)) = true := decide_eq_true c10
     have c10b1 : decide (0 < t102.length) = true := decide_eq_true (by omega)
     clear c10
     obtain ⟨⟨t106, t107, t108⟩, A110, H⟩ := bH H
     dsimp only at H
     have A11 := am A110
     clear A110
     by_cases c12 : t108 = true
     ·subst c12
      rw [if_pos rfl] at H
      by_cases c13 : 1 < (t102.length : Int)
      ·rw [if_pos c13] at H
       have c13b0 : decide (1 < (t102.length : Int)) = true := decide_eq_true c13
       have c13b1 : decide (1 < t102.length) = true := decide_eq_true (by omega)
       clear c13
       by_cases c14 : ((rdOf ByteArray.empty t102 1).size : Int) > 0
       ·rw [if_pos c14] at H
        have c14b0 : decide (0 < ((rdOf ByteArray.empty t102 1).size : Int)) = true := decide_eq_true c14
        have c14b1 : decide (0 < (rdOf ByteArray.empty t102 1).size) = true := decide_eq_true (by omega)
        clear c14
        obtain ⟨t113, A150, H⟩ := bH H
        have A15 := am A150
        clear A150
        have H' := am H
        clear H
        obtain ⟨Ao16, co16, eo16⟩ := Kd.R_slice HO_4.out
        subst eo16
        have p105 : 0 ≤ (0 : Int) := (by omega)
        have q105 : 0 < (t102.length : Int) := of_decide_eq_true (by (with_reducible assumption))
        obtain ⟨ad105, e105, hx105_0⟩ := Kd.at_string (Kd.R_reads' HO_4.out).2.2 0 p105 q105
        cases e105
        have qi105 : (0 < t102.length) = True := eq_true (by omega)
        (try rw [show ((0 : Int)).toNat = 0 from rfl] at hx105_0)
        (try rw [Addr.add_zero'] at hx105_0)
        replace p105 := eq_true p105
        replace q105 := eq_true q105
        go_wp2_with (first | ((with_reducible refine gate_callee (f := 85) rfl ?_); refine uGo (some 26) Tryz.func85 #[.string (rdOf ByteArray.empty t102 0)] ?_; (with_reducible refine (spec_nuParse.calls kj2 (rdOf ByteArray.empty t102 0) t106 t107 true _ A11.out).mono ?_); rintro e w17 ⟨rfl, hb⟩; refine ⟨_, rfl, ?_⟩; replace HO_4 := am (Kd.R_below (uR HO_4) hb); replace BK101 := uB BK101 hb; replace HB := uS hb; (try clear hb)) | ((with_reducible refine gate_dst (N := 5) rfl ?_); (try (refine gate_guard (by rfl) ?_; dsimp only)); refine uX (N := 5) (cs := #[.int .i64 0, .int .i64 0]) (t := 25) ?_; intro gb109 hg w18 hbox hb; have BK109 := am (hbox); have GW109 := uE hg; have GE109 := GW109; have NB101_109 := uL BK101 hg; have NB109_101 := uY NB101_109; replace HO_4 := am (Kd.R_below (uR HO_4) hb); replace BK101 := uB BK101 hb; replace HB := uS hb; clear hb hbox hg; have hnb19 := NB109_101.out; have hnc19 := NB101_109.out; obtain ⟨hcz20_0, hcz20_1, hfz20_0, hfz20_1⟩ := uZ2 BK109) | ((with_reducible refine gate_dst (N := 7) rfl ?_); (try (refine gate_guard (by rfl) ?_; dsimp only)); refine uX (N := 7) (cs := #[.int .i64 0, .int .i64 0, .slice none 0 0]) (t := 28) ?_; intro gb110 hg w21 hbox hb; have BK110 := am (hbox); have GW110 := uE hg; have GE110 := GW110; have NB101_110 := am ((by rw [hg]; exact Nat.ne_of_lt (blk_lt (g := gb101) (o := .cells #[.int .i64 0, .int .i64 0, .slice none 0 0] 28 (0, 0)) (by refine blk_far ?_ NB101_109.out _; refine blk_far ?_ NB101_109.out _; exact (uP BK101))) : gb101 ≠ gb110)); have NB110_101 := am ((by rw [hg]; exact Nat.ne_of_gt (blk_lt (g := gb101) (o := .cells #[.int .i64 0, .int .i64 0, .slice none 0 0] 28 (0, 0)) (by refine blk_far ?_ NB101_109.out _; refine blk_far ?_ NB101_109.out _; exact (uP BK101))) : gb110 ≠ gb101)); have NB109_110 := am ((by rw [hg]; exact Nat.ne_of_lt (blk_lt (g := gb109) (o := .cells #[.int .i64 t106, .int .i64 t107] 25 (0, 0)) (by refine blk_put (cs := #[.int .i64 t106, .int .i64 0]) ?_ 1 _ rfl; refine blk_put (cs := #[.int .i64 0, .int .i64 0]) ?_ 0 _ rfl; exact (uP BK109))) : gb109 ≠ gb110)); have NB110_109 := am ((by rw [hg]; exact Nat.ne_of_gt (blk_lt (g := gb109) (o := .cells #[.int .i64 t106, .int .i64 t107] 25 (0, 0)) (by refine blk_put (cs := #[.int .i64 t106, .int .i64 0]) ?_ 1 _ rfl; refine blk_put (cs := #[.int .i64 0, .int .i64 0]) ?_ 0 _ rfl; exact (uP BK109))) : gb110 ≠ gb109)); replace HO_4 := am (Kd.R_below (by (with_reducible skip); exact (Kd.R_mono (Kd.R_far (p := ⟨gb109, 1, none⟩) (Kd.R_far (p := ⟨gb109, 0, none⟩) (Kd.R_types HO_4.out BK109.out (by decide)) (fun _ hk => hk.2) (.int .i64 t106)) (fun _ hk => hk.2) (.int .i64 t107)) (fun _ h_ => h_.1))) hb); replace BK101 := am (blk_below (g := gb101) (o := .cells #[.int .i64 0, .int .i64 0, .slice none 0 0] 28 (0, 0)) (by refine blk_far ?_ NB101_109.out _; refine blk_far ?_ NB101_109.out _; exact (uP BK101)) hb); replace BK109 := am (blk_below (g := gb109) (o := .cells #[.int .i64 t106, .int .i64 t107] 25 (0, 0)) (by refine blk_put (cs := #[.int .i64 t106, .int .i64 0]) ?_ 1 _ rfl; refine blk_put (cs := #[.int .i64 0, .int .i64 0]) ?_ 0 _ rfl; exact (uP BK109)) hb); replace HB := uS hb; clear hb hbox hg; have hnb22 := NB110_101.out; have hnc22 := NB101_110.out; have hnb23 := NB110_109.out; have hnc23 := NB109_110.out; obtain ⟨hcz24_0, hcz24_1, hcz24_2, hfz24_0, hfz24_1, hfz24_2⟩ := uZ3 BK110; have p111 : 0 ≤ (1 : Int) := (by omega); have q111 : 1 < (t102.length : Int) := of_decide_eq_true (by (with_reducible assumption)); obtain ⟨ad111, e111, hx111_0⟩ := Kd.at_string (Kd.R_reads' HO_4.out).2.2 1 p111 q111; obtain rfl : ad105 = ad111 := (by injection e111); (try simp only [show (1 : Int).toNat = 1 from rfl, Nat.reduceMul, Nat.reduceEqDiff, Go.Addr.add, ↓reduceIte] at hx111_0); have qi111 : (1 < t102.length) = True := eq_true (by omega); have hn111_0 : ad105.block ≠ gb110 := Kd.own_blk (Kd.R_ne HO_4.out BK110.out (by decide)); have hn111_1 : ad105.block ≠ gb110 := Kd.own_blk (Kd.R_ne HO_4.out BK110.out (by decide)); have hn111_2 : ad105.block ≠ gb110 := Kd.own_blk (Kd.R_ne HO_4.out BK110.out (by decide)); replace hx111_0 := (cell_far (p := ⟨gb110, 0, none⟩) (by exact hn111_0) (.int .i64 t106)).trans hx111_0; replace hx111_0 := (cell_far (p := ⟨gb110, 1, none⟩) (by exact hn111_1) (.int .i64 t107)).trans hx111_0; replace hx111_0 := (cell_far (p := ⟨gb110, 2, none⟩) (by exact hn111_2) (.slice none 0 0)).trans hx111_0; clear hn111_0; clear hn111_1; clear hn111_2; replace p111 := eq_true p111; replace q111 := eq_true q111; have p112 : 0 ≤ (1 : Int) := (by omega); have q112 : 1 < (t102.length : Int) := of_decide_eq_true (by (with_reducible assumption)); obtain ⟨ad112, e112, hx112_0⟩ := Kd.at_string (Kd.R_reads' HO_4.out).2.2 1 p112 q112; obtain rfl : ad105 = ad112 := (by injection e112); (try simp only [show (1 : Int).toNat = 1 from rfl, Nat.reduceMul, Nat.reduceEqDiff, Go.Addr.add, ↓reduceIte] at hx112_0); have qi112 : (1 < t102.length) = True := eq_true (by omega); have hn112_0 : ad105.block ≠ gb110 := Kd.own_blk (Kd.R_ne HO_4.out BK110.out (by decide)); have hn112_1 : ad105.block ≠ gb110 := Kd.own_blk (Kd.R_ne HO_4.out BK110.out (by decide)); have hn112_2 : ad105.block ≠ gb110 := Kd.own_blk (Kd.R_ne HO_4.out BK110.out (by decide)); replace hx112_0 := (cell_far (p := ⟨gb110, 0, none⟩) (by exact hn112_0) (.int .i64 t106)).trans hx112_0; replace hx112_0 := (cell_far (p := ⟨gb110, 1, none⟩) (by exact hn112_1) (.int .i64 t107)).trans hx112_0; replace hx112_0 := (cell_far (p := ⟨gb110, 2, none⟩) (by exact hn112_2) (.slice none 0 0)).trans hx112_0; clear hn112_0; clear hn112_1; clear hn112_2; replace p112 := eq_true p112; replace q112 := eq_true q112) | ((with_reducible refine gate_callee (f := 84) rfl ?_); refine uGo (some 42) Tryz.func84 #[.string (rdOf ByteArray.empty t102 1), .int .u8 44] ?_; (with_reducible refine (spec_l1Split.calls kj2 (rdOf ByteArray.empty t102 1) 44 t113 _ A15.out).mono ?_); rintro e w25 ⟨v114, rfl, ho0, hb⟩; refine ⟨_, rfl, ?_⟩; have HO115 := am (Kd.R_lower (Kd.R_new' ho0 (Kd.R_lt (by (with_reducible skip); exact (Kd.R_mono (Kd.R_far (p := ⟨gb110, 2, none⟩) (Kd.R_far (p := ⟨gb110, 1, none⟩) (Kd.R_far (p := ⟨gb110, 0, none⟩) (Kd.R_types HO_4.out BK110.out (by decide)) (fun _ hk => hk.2) (.int .i64 t106)) (fun _ hk => hk.2) (.int .i64 t107)) (fun _ hk => hk.2) (.slice none 0 0)) (fun _ h_ => h_.1))))) (below_size uW)); replace HO_4 := am (Kd.R_elder' (by (with_reducible skip); exact (Kd.R_mono (Kd.R_far (p := ⟨gb110, 2, none⟩) (Kd.R_far (p := ⟨gb110, 1, none⟩) (Kd.R_far (p := ⟨gb110, 0, none⟩) (Kd.R_types HO_4.out BK110.out (by decide)) (fun _ hk => hk.2) (.int .i64 t106)) (fun _ hk => hk.2) (.int .i64 t107)) (fun _ hk => hk.2) (.slice none 0 0)) (fun _ h_ => h_.1))) (Kd.R_base ho0) hb); replace BK101 := am (blk_below (g := gb101) (o := .cells #[.int .i64 0, .int .i64 0, .slice none 0 0] 28 (0, 0)) (by refine blk_far ?_ NB101_110.out _; refine blk_far ?_ NB101_110.out _; refine blk_far ?_ NB101_110.out _; exact (uP BK101)) hb); replace BK109 := am (blk_below (g := gb109) (o := .cells #[.int .i64 t106, .int .i64 t107] 25 (0, 0)) (by refine blk_far ?_ NB109_110.out _; refine blk_far ?_ NB109_110.out _; refine blk_far ?_ NB109_110.out _; exact (uP BK109)) hb); replace BK110 := am (blk_below (g := gb110) (o := .cells #[.int .i64 t106, .int .i64 t107, .slice none 0 0] 28 (0, 0)) (by refine blk_put (cs := #[.int .i64 t106, .int .i64 t107, .slice none 0 0]) ?_ 2 _ rfl; refine blk_put (cs := #[.int .i64 t106, .int .i64 0, .slice none 0 0]) ?_ 1 _ rfl; refine blk_put (cs := #[.int .i64 0, .int .i64 0, .slice none 0 0]) ?_ 0 _ rfl; exact (uP BK110)) hb); replace HB := uS hb; (try clear hb); (try clear ho0); obtain ⟨Ao26, co26, eo26⟩ := Kd.R_slice HO115.out; subst eo26))
        go_loopg [44] kj2 (fun kq v44 w' => ∃ (x44_2 : Int) (x102000_2 : Int) (x102001_2 : Int) (x111002_2 : List (S46)) (u111002 : Value), v44 = .int .i64 x44_2 ∧ Aside0 (spec_pzParse.l0 kq a0 t113 (t113.length : Int) x44_2 t106 t107 x111002_2 = some (r1, r2, r3, r4)) ∧ Aside0 (kq ≤ kj2) ∧ Aside0 (Kd.R Kd.string 9 w' w.heap.size (fun _ => True) (.slice Ao26 t113.length co26) t113) ∧ Aside0 (Kd.R k46 46 w' w.heap.size (fun _ => True) u111002 x111002_2) ∧ Aside0 (w'.heap[gb101]? = some (.cells #[.int .i64 x102000_2, .int .i64 x102001_2, (.slice none 0 0)] 28 (0, 0))) ∧ Aside0 (w'.heap[gb109]? = some (.cells #[.int .i64 t106, .int .i64 t107] 25 (0, 0))) ∧ Aside0 (w'.heap[gb110]? = some (.cells #[.int .i64 t106, .int .i64 t107, u111002] 28 (0, 0))) ∧ Aside0 (Below w.heap.size w w'))
        case atStart => exact ⟨(0), (0), (0), (([] : List (S46))), (.slice none 0 0), (by rfl), H', ⟨Nat.le_refl _⟩, ⟨by (with_reducible skip); exact Kd.R_mono HO115.out (fun _ hk => trivial)⟩, ⟨uN⟩, ⟨by (with_reducible skip); exact BK101.out⟩, ⟨by (with_reducible skip); exact BK109.out⟩, ⟨by (with_reducible skip); exact BK110.out⟩, ⟨by exact uW⟩⟩
        case round =>
         clear H'
         try clear c10b0
         try clear c10b1
         try clear c13b0
         try clear c13b1
         try clear c14b0
         try clear c14b1
         try clear hcz20_0
         try clear hcz20_1
         try clear hcz24_0
         try clear hcz24_1
         try clear hcz24_2
         try clear hfz20_0
         try clear hfz20_1
         try clear hfz24_0
         try clear hfz24_1
         try clear hfz24_2
         try clear hx105_0
         try clear hx111_0
         try clear hx112_0
         try clear p105
         try clear p111
         try clear p112
         try clear q105
         try clear q111
         try clear q112
         obtain ⟨x44_2, x102000_2, x102001_2, x111002_2, u111002, rfl, HA, HK2, HO_42, HO_111002, BK101, BK109, BK110, HB⟩ := hrel
         cases gk with
         | zero => exact absurd HA.out (by simp [spec_pzParse.l0])
         | succ k2 =>
          have H := HA.out
          clear HA
          simp only [spec_pzParse.l0] at H
          by_cases c27 : x44_2 < (t113.length : Int)
          ·rw [if_pos c27] at H
           have c27b0 : decide (x44_2 < (t113.length : Int)) = true := decide_eq_true c27
           clear c27
           by_cases c28 : 0 ≤ x44_2
           ·rw [if_pos c28] at H
            have c28b0 : decide (0 ≤ x44_2) = true := decide_eq_true c28
            clear c28
            by_cases c29 : x44_2 < (t113.length : Int)
            ·rw [if_pos c29] at H
             have c29b0 : decide (x44_2 < (t113.length : Int)) = true := decide_eq_true c29
             clear c29
             obtain ⟨t119, A300, H⟩ := bH H
             have A30 := am A300
             clear A300
             by_cases c31 : (t119.length : Int) = 3
             ·rw [if_pos c31] at H
              have c31b0 : ((t119.length : Int) == 3) = true := beq_iff_eq.mpr c31
              have c31b1 : ((t119.length : Int) != 3) = false := bne_eq_false_iff_eq.mpr c31
              clear c31
              by_cases c32 : 0 < (t119.length : Int)
              ·rw [if_pos c32] at H
               have c32b0 : decide (0 < (t119.length : Int)) = true := decide_eq_true c32
               have c32b1 : decide (0 < t119.length) = true := decide_eq_true (by omega)
               clear c32
               obtain ⟨t123, A330, H⟩ := bH H
               have A33 := am A330
               clear A330
               by_cases c34 : 1 < (t119.length : Int)
               ·rw [if_pos c34] at H
                have c34b0 : decide (1 < (t119.length : Int)) = true := decide_eq_true c34
                have c34b1 : decide (1 < t119.length) = true := decide_eq_true (by omega)
                clear c34
                obtain ⟨t125, A350, H⟩ := bH H
                have A35 := am A350
                clear A350
                by_cases c36 : 2 < (t119.length : Int)
                ·rw [if_pos c36] at H
                 have c36b0 : decide (2 < (t119.length : Int)) = true := decide_eq_true c36
                 have c36b1 : decide (2 < t119.length) = true := decide_eq_true (by omega)
                 clear c36
                 obtain ⟨t127, A370, H⟩ := bH H
                 have A37 := am A370
                 clear A370
                 by_cases c38 : x111002_2.length < 5864062014805
                 ·rw [if_pos c38] at H
                  have LMc38 := am c38
                  clear c38
                  obtain ⟨y128, hy128⟩ : ∃ y_ : List (S46), y_ = (x111002_2 ++ [(⟨t123, t125, t127⟩ : S46)]) := ⟨_, rfl⟩
                  replace H : (spec_pzParse.l0 k2 a0 t113 (t113.length : Int) (wrap64 (x44_2 + 1)) t106 t107 y128) = some (r1, r2, r3, r4) := by (rw [hy128]; with_reducible exact H)
                  have Ny128 := am hy128
                  clear hy128
                  have H' := am H
                  clear H
                  have p118 : 0 ≤ (x44_2 : Int) := of_decide_eq_true (by (with_reducible assumption))
                  have q118 : x44_2 < (t113.length : Int) := of_decide_eq_true (by (with_reducible assumption))
                  obtain ⟨ad118, e118, hx118_0⟩ := Kd.at_string (Kd.R_reads' HO_42.out).2.2 x44_2 p118 q118
                  cases e118
                  replace p118 := eq_true p118
                  replace q118 := eq_true q118
                  try go_wp2_with (((with_reducible refine gate_callee (f := 84) rfl ?_); refine uGo (some 49) Tryz.func84 #[.string (rdOf ByteArray.empty t113 x44_2), .int .u8 46] ?_; (with_reducible refine (spec_l1Split.calls k2 (rdOf ByteArray.empty t113 x44_2) 46 t119 _ A30.out).mono ?_); rintro e w39 ⟨v120, rfl, ho0, hb⟩; refine ⟨_, rfl, ?_⟩; have HO121 := am (Kd.R_lower (Kd.R_new' ho0 (Kd.R_lt (uR HO_42))) (below_size uW)); replace HO_42 := am (Kd.R_elder' (uR HO_42) (Kd.R_base ho0) hb); replace HO_111002 := am (Kd.R_below (uR HO_111002) hb); replace BK101 := uB BK101 hb; replace BK109 := uB BK109 hb; replace BK110 := uB BK110 hb; replace HB := uS hb; (try clear hb); (try clear ho0); obtain ⟨Ao40, co40, eo40⟩ := Kd.R_slice HO121.out; subst eo40))
                  replace HO_42 := am (Kd.R_drew HO_42.out)
                  replace HO_111002 := am (Kd.R_drew HO_111002.out)
                  replace HO121 := am (Kd.R_drew HO121.out)
                  replace BK101 := am (blk_drew BK101.out)
                  replace BK109 := am (blk_drew BK109.out)
                  replace BK110 := am (blk_drew BK110.out)
                  replace HB := am (below_drew1 HB.out)
                  have p122 : 0 ≤ (0 : Int) := (by omega)
                  have q122 : 0 < (t119.length : Int) := of_decide_eq_true (by (with_reducible assumption))
                  obtain ⟨ad122, e122, hx122_0⟩ := Kd.at_string (Kd.R_reads' HO121.out).2.2 0 p122 q122
                  cases e122
                  have qi122 : (0 < t119.length) = True := eq_true (by omega)
                  (try rw [show ((0 : Int)).toNat = 0 from rfl] at hx122_0)
                  (try rw [Addr.add_zero'] at hx122_0)
                  replace p122 := eq_true p122
                  replace q122 := eq_true q122
                  have p124 : 0 ≤ (1 : Int) := (by omega)
                  have q124 : 1 < (t119.length : Int) := of_decide_eq_true (by (with_reducible assumption))
                  obtain ⟨ad124, e124, hx124_0⟩ := Kd.at_string (Kd.R_reads' HO121.out).2.2 1 p124 q124
                  obtain rfl : ad122 = ad124 := (by injection e124)
                  (try simp only [show (1 : Int).toNat = 1 from rfl, Nat.reduceMul, Nat.reduceEqDiff, Go.Addr.add, ↓reduceIte] at hx124_0)
                  have qi124 : (1 < t119.length) = True := eq_true (by omega)
                  (skip)
                  replace p124 := eq_true p124
                  replace q124 := eq_true q124
                  have p126 : 0 ≤ (2 : Int) := (by omega)
                  have q126 : 2 < (t119.length : Int) := of_decide_eq_true (by (with_reducible assumption))
                  obtain ⟨ad126, e126, hx126_0⟩ := Kd.at_string (Kd.R_reads' HO121.out).2.2 2 p126 q126
                  obtain rfl : ad122 = ad126 := (by injection e126)
                  (try simp only [show (2 : Int).toNat = 2 from rfl, Nat.reduceMul, Nat.reduceEqDiff, Go.Addr.add, ↓reduceIte] at hx126_0)
                  have qi126 : (2 < t119.length) = True := eq_true (by omega)
                  (skip)
                  replace p126 := eq_true p126
                  replace q126 := eq_true q126
                  refine start_ (n := 19) (S := fun w' => w'.cell? ⟨gb110, 0, none⟩ = some (.int .i64 t106) ∧ w'.cell? ⟨gb110, 1, none⟩ = some (.int .i64 t107) ∧ w'.cell? ⟨gb110, 2, none⟩ = some (u111002) ∧ w'.cell? ad122 = some (.string (rdOf ByteArray.empty t119 0)) ∧ w'.cell? ⟨ad122.block, ad122.off + 1, none⟩ = some (.string (rdOf ByteArray.empty t119 1)) ∧ w'.cell? ⟨ad122.block, ad122.off + 2, none⟩ = some (.string (rdOf ByteArray.empty t119 2))) (ds := [16, 18]) #[false, false, false, false, false, false, false, false, false, false, false, false, false, false, false, false, false, false, false] (by kernel_rfl) rfl rfl ⟨uT BK110 0, uT BK110 1, uT BK110 2, hx122_0, hx124_0, hx126_0⟩ (fun hHeld => ?_); refine with_tabW spec_pzParse.tab15 spec_pzParse.bits15 (fun HT_ HW_ => ?_)
                  generalize w39.drew = w41 at HO_42 HO_111002 HO121 BK101 BK109 BK110 HB hx122_0 hx124_0 hx126_0 hHeld ⊢
                  refine uPu (i := 0) (N := some 54) #[true, false, false, false, false, false, false, false, false, false, false, false, false, false, false, false, false, false, false] ?_
                  refine uPu (i := 2) (N := some 56) #[true, false, true, false, false, false, false, false, false, false, false, false, false, false, false, false, false, false, false] ?_
                  refine uPu (i := 3) (N := some 57) #[true, false, true, true, false, false, false, false, false, false, false, false, false, false, false, false, false, false, false] ?_
                  refine uPu (i := 6) (N := some 60) #[true, false, true, true, false, false, true, false, false, false, false, false, false, false, false, false, false, false, false] ?_
                  refine uPu (i := 7) (N := some 61) #[true, false, true, true, false, false, true, true, false, false, false, false, false, false, false, false, false, false, false] ?_
                  refine uPu (i := 10) (N := some 64) #[true, false, true, true, false, false, true, true, false, false, true, false, false, false, false, false, false, false, false] ?_
                  refine uPu (i := 11) (N := some 65) #[true, false, true, true, false, false, true, true, false, false, true, true, false, false, false, false, false, false, false] ?_
                  refine uTk (i := 1) (N := some 55) #[true, true, true, true, false, false, true, true, false, false, true, true, false, false, false, false, false, false, false] hHeld ?_
                  refine uTk (i := 4) (N := some 58) #[true, true, true, true, true, false, true, true, false, false, true, true, false, false, false, false, false, false, false] hHeld ?_
                  refine uTk (i := 8) (N := some 62) #[true, true, true, true, true, false, true, true, true, false, true, true, false, false, false, false, false, false, false] hHeld ?_
                  refine uTk (i := 12) (N := some 66) #[true, true, true, true, true, false, true, true, true, false, true, true, true, false, false, false, false, false, false] hHeld ?_
                  refine uOn (i := 5) (N := some 59) #[true, true, true, true, true, true, true, true, true, false, true, true, true, false, false, false, false, false, false] (fun K hK => ?_)
                  refine uGs Tryz.func86 #[.string (rdOf ByteArray.empty t119 0)] ?_
                  with_reducible refine (spec_l1Read.calls k2 (rdOf ByteArray.empty t119 0) t123 _ A33.out).mono ?_
                  rintro e w' ⟨rfl, ⟨nd, rfl⟩⟩
                  refine ⟨_, rfl, ?_⟩
                  refine hK.out _ _ ⟨uT BK110 0, uT BK110 1, uT BK110 2, hHeld.2.2.2.1, hHeld.2.2.2.2.1, hHeld.2.2.2.2.2⟩ (fun hHeld => ?_)
                  clear hK K
                  refine uNo (some 59) ?_
                  refine uOn (i := 9) (N := some 63) #[true, true, true, true, true, true, true, true, true, true, true, true, true, false, false, false, false, false, false] (fun K hK => ?_)
                  refine uGs Tryz.func86 #[.string (rdOf ByteArray.empty t119 1)] ?_
                  with_reducible refine (spec_l1Read.calls k2 (rdOf ByteArray.empty t119 1) t125 _ A35.out).mono ?_
                  rintro e w' ⟨rfl, ⟨nd, rfl⟩⟩
                  refine ⟨_, rfl, ?_⟩
                  refine hK.out _ _ ⟨uT BK110 0, uT BK110 1, uT BK110 2, hHeld.2.2.2.1, hHeld.2.2.2.2.1, hHeld.2.2.2.2.2⟩ (fun hHeld => ?_)
                  clear hK K
                  refine uNo (some 63) ?_
                  refine uOn (i := 13) (N := some 67) #[true, true, true, true, true, true, true, true, true, true, true, true, true, true, false, false, false, false, false] (fun K hK => ?_)
                  refine uGs Tryz.func86 #[.string (rdOf ByteArray.empty t119 2)] ?_
                  with_reducible refine (spec_l1Read.calls k2 (rdOf ByteArray.empty t119 2) t127 _ A37.out).mono ?_
                  rintro e w' ⟨rfl, ⟨nd, rfl⟩⟩
                  refine ⟨_, rfl, ?_⟩
                  refine hK.out _ _ ⟨uT BK110 0, uT BK110 1, uT BK110 2, hHeld.2.2.2.1, hHeld.2.2.2.2.1, hHeld.2.2.2.2.2⟩ (fun hHeld => ?_)
                  clear hK K
                  refine uNo (some 67) ?_
                  refine uPu (i := 14) (N := some 68) #[true, true, true, true, true, true, true, true, true, true, true, true, true, true, true, false, false, false, false] ?_
                  refine uOn (i := 15) (N := some 69) #[true, true, true, true, true, true, true, true, true, true, true, true, true, true, true, true, false, false, false] (fun K hK => ?_)
                  refine value_ (w1 := ?_) (v := ?_) (by rfl) rfl ?_ ?_
                  rotate_left 2
                  ·go_simp
                   constructor
                   ·rfl
                   ·rfl
                  refine hK.out _ _ ⟨(blk_cell (blk_alloc BK110.out _) 0).trans rfl, (blk_cell (blk_alloc BK110.out _) 1).trans rfl, (blk_cell (blk_alloc BK110.out _) 2).trans rfl, (World.cell?_alloc_lt _ _ _ (World.block_lt_of_cell? _ _ (hHeld.2.2.2.1))).trans (hHeld.2.2.2.1), (World.cell?_alloc_lt _ _ _ (World.block_lt_of_cell? _ _ (hHeld.2.2.2.2.1))).trans (hHeld.2.2.2.2.1), (World.cell?_alloc_lt _ _ _ (World.block_lt_of_cell? _ _ (hHeld.2.2.2.2.2))).trans (hHeld.2.2.2.2.2)⟩ (fun hHeld => ?_)
                  clear hK K
                  refine uNo (some 69) ?_
                  refine last_ (i := 16) (N := some 70) #[true, true, true, true, true, true, true, true, true, true, true, true, true, true, true, true, true, false, false] rfl rfl (one_of HT_.out (by kernel_rfl)) (by decide) (fun K hK => ?_)
                  refine Kd.R_append_step k46 (w0 := w) w.heap.size (by rfl) (.tmp 55) (.tmp 69) 26 46 (.agg #[(.int .i64 0), (.int .i64 0), (.int .i64 0)]) 24 rfl Tryz.underlying26 info46 rfl (by decide) (by omega) u111002 x111002_2 (⟨t123, t125, t127⟩ : S46) [.int .i64 t123, .int .i64 t125, .int .i64 t127] (fun _ => True) (fun _ => False) rfl rfl ?aP (fun _ hk => hk.elim) ?aF ?aO ?aB ?aS ?aL ?_
                  (case aP => exact k46_mkM _ _ _ (⟨t123, t125, t127⟩ : S46))
                  (case aB => exact uW)
                  (case aF => exact (fun _ _ => trivial))
                  (case aO => exact (uR HO_111002))
                  (case aS => exact (below_size uW))
                  (case aL => have := LMc38.out; omega)
                  intro v129 w42 ho hb hg hat
                  rw [← Ny128.out] at ho
                  have HO130 := am (ho)
                  replace HO_42 := am (Kd.R_over' (uR HO_42) (Kd.R_typed (uR HO_111002)) (by decide) hg)
                  replace BK101 := am (blk_grown (uP BK101) hg (Kd.R_ne HO_111002.out BK101.out (by decide)))
                  replace BK109 := am (blk_grown (uP BK109) hg (Kd.R_ne HO_111002.out BK109.out (by decide)))
                  replace BK110 := am (blk_grown (uP BK110) hg (Kd.R_ne HO_111002.out BK110.out (by decide)))
                  replace HO121 := am (Kd.R_over' (uR HO121) (Kd.R_typed (uR HO_111002)) (by decide) hg)
                  replace HB := am (hb)
                  clear HO_111002
                  clear ho hb hg hat
                  obtain ⟨Ao43, co43, eo43⟩ := Kd.R_slice HO130.out
                  (subst eo43)
                  refine hK.out _ _ ?_
                  clear hK K
                  refine uNo (some 70) ?_
                  refine uPu (i := 17) (N := some 71) #[true, true, true, true, true, true, true, true, true, true, true, true, true, true, true, true, true, true, false] ?_
                  refine last_ (i := 18) (N := none) #[true, true, true, true, true, true, true, true, true, true, true, true, true, true, true, true, true, true, true] rfl rfl (one_of HT_.out (by kernel_rfl)) (by decide) (fun K hK => ?_)
                  have hs44 : w42.cell? ⟨gb110, 2, none⟩ = some (u111002) := uT BK110 2
                  have hfs44 := blk_frozen BK110.out 2
                  have hns44_0 := NB101_110.out
                  have hns44_1 := NB109_110.out
                  have hms44_0 := NB110_101.out
                  have hms44_1 := NB110_109.out
                  refine skip_ (w1 := ?_) (by rfl) rfl ?_ ?_
                  rotate_left
                  ·go_simp
                   rfl
                  refine hK.out _ _ ?_
                  clear hK K
                  refine done_ (done_of HT_.out (by kernel_rfl)) ?_
                  try go_wp2
                  go_roundg k2
                  case measure => have := HJ2.out; have := HK2.out; omega
                  case rel => exact ⟨(wrap64 (x44_2 + 1)), (x102000_2), (x102001_2), (y128), (.slice Ao43 y128.length co43), (by rfl), H', ⟨by have := HJ2.out; have := HK2.out; omega⟩, ⟨by (with_reducible skip); exact Kd.R_mono (Kd.R_far (p := ⟨gb110, 2, none⟩) (Kd.R_types HO_42.out BK110.out (by decide)) (fun _ hk => hk.2) (.slice Ao43 y128.length co43)) (fun _ hk => trivial)⟩, ⟨by (with_reducible skip); exact Kd.R_mono (Kd.R_far (p := ⟨gb110, 2, none⟩) (Kd.R_types HO130.out BK110.out (by decide)) (fun _ hk => hk.2) (.slice Ao43 y128.length co43)) (fun _ hk => trivial)⟩, ⟨by refine blk_far ?_ NB101_110.out _; exact (uP BK101)⟩, ⟨by refine blk_far ?_ NB109_110.out _; exact (uP BK109)⟩, ⟨by refine blk_put (cs := #[.int .i64 t106, .int .i64 t107, u111002]) ?_ 2 _ rfl; exact (uP BK110)⟩, ⟨by exact uW⟩⟩
                 ·rw [if_neg c38] at H
                  exact absurd H (by simp)
                ·rw [if_neg c36] at H
                 exact absurd H (by simp)
               ·rw [if_neg c34] at H
                exact absurd H (by simp)
              ·rw [if_neg c32] at H
               exact absurd H (by simp)
             ·rw [if_neg c31] at H
              have c31b0 : ((t119.length : Int) == 3) = false := beq_eq_false_iff_ne.mpr c31
              have c31b1 : ((t119.length : Int) != 3) = true := bne_iff_ne.mpr c31
              simp only [Option.some.injEq, Prod.mk.injEq] at H
              obtain ⟨rfl, rfl, rfl, rfl⟩ := H
              have p118 : 0 ≤ (x44_2 : Int) := of_decide_eq_true (by (with_reducible assumption))
              have q118 : x44_2 < (t113.length : Int) := of_decide_eq_true (by (with_reducible assumption))
              obtain ⟨ad118, e118, hx118_0⟩ := Kd.at_string (Kd.R_reads' HO_42.out).2.2 x44_2 p118 q118
              cases e118
              replace p118 := eq_true p118
              replace q118 := eq_true q118
              go_wp2_with (((with_reducible refine gate_callee (f := 84) rfl ?_); refine uGo (some 49) Tryz.func84 #[.string (rdOf ByteArray.empty t113 x44_2), .int .u8 46] ?_; (with_reducible refine (spec_l1Split.calls k2 (rdOf ByteArray.empty t113 x44_2) 46 t119 _ A30.out).mono ?_); rintro e w45 ⟨v120, rfl, ho0, hb⟩; refine ⟨_, rfl, ?_⟩; have HO121 := am (Kd.R_lower (Kd.R_new' ho0 (Kd.R_lt (uR HO_42))) (below_size uW)); replace HO_42 := am (Kd.R_elder' (uR HO_42) (Kd.R_base ho0) hb); replace HO_111002 := am (Kd.R_below (uR HO_111002) hb); replace BK101 := uB BK101 hb; replace BK109 := uB BK109 hb; replace BK110 := uB BK110 hb; replace HB := uS hb; (try clear hb); (try clear ho0); obtain ⟨Ao46, co46, eo46⟩ := Kd.R_slice HO121.out; subst eo46; have hnb47 := NB101_109.out; have hnc47 := NB109_101.out; have hnb48 := NB101_110.out; have hnc48 := NB110_101.out; obtain ⟨hcz49_0, hcz49_1, hcz49_2, hfz49_0, hfz49_1, hfz49_2⟩ := uZ3 BK101))
              refine bodyPost_ret (results_ct rfl _ _ gb101 28 #[.int .i64 0, .int .i64 0, .slice none 0 0] (0, 0) _ rfl (by refine blk_put (cs := #[.int .i64 0, .int .i64 0, .slice none 0 0]) ?_ 2 _ rfl; refine blk_put (cs := #[.int .i64 0, .int .i64 x102001_2, .slice none 0 0]) ?_ 1 _ rfl; refine blk_put (cs := #[.int .i64 x102000_2, .int .i64 x102001_2, .slice none 0 0]) ?_ 0 _ rfl; exact (uP BK101)) Tryz.underlying28 rfl (by kernel_rfl)) rfl ?_
              exact ⟨_, uA, uN, by exact uW⟩
            ·rw [if_neg c29] at H
             exact absurd H (by simp)
           ·rw [if_neg c28] at H
            exact absurd H (by simp)
          ·rw [if_neg c27] at H
           have c27b0 : decide (x44_2 < (t113.length : Int)) = false := decide_eq_false c27
           clear c27
           obtain ⟨t116, A500, H⟩ := bH H
           have A50 := am A500
           clear A500
           by_cases c51 : t116 = true
           ·subst c51
            rw [if_pos rfl] at H
            obtain ⟨t117, A520, H⟩ := bH H
            have A52 := am A520
            clear A520
            simp only [Option.some.injEq, Prod.mk.injEq] at H
            obtain ⟨rfl, rfl, rfl, rfl⟩ := H
            try go_wp2
            replace HO_42 := am (Kd.R_drew HO_42.out)
            replace HO_111002 := am (Kd.R_drew HO_111002.out)
            replace BK101 := am (blk_drew BK101.out)
            replace BK109 := am (blk_drew BK109.out)
            replace BK110 := am (blk_drew BK110.out)
            replace HB := am (below_drew1 HB.out)
            obtain ⟨Ao54, co54, eo54⟩ := Kd.R_slice HO_111002.out
            (subst eo54)
            refine start_ (n := 11) (S := fun w' => w'.cell? ⟨gb110, 0, none⟩ = some (.int .i64 t106) ∧ w'.cell? ⟨gb110, 1, none⟩ = some (.int .i64 t107) ∧ w'.cell? ⟨gb110, 2, none⟩ = some (.slice Ao54 x111002_2.length co54)) (ds := []) #[false, false, false, false, false, false, false, false, false, false, false] (by kernel_rfl) rfl rfl ⟨uT BK110 0, uT BK110 1, uT BK110 2⟩ (fun hHeld => ?_); refine with_tabW spec_pzParse.tab17 spec_pzParse.bits17 (fun HT_ HW_ => ?_)
            generalize wr.drew = w53 at HO_42 HO_111002 BK101 BK109 BK110 HB hHeld ⊢
            refine uTk (i := 0) (N := some 73) #[true, false, false, false, false, false, false, false, false, false, false] hHeld ?_
            refine uTk (i := 1) (N := some 74) #[true, true, false, false, false, false, false, false, false, false, false] hHeld ?_
            refine uOn (i := 2) (N := some 75) #[true, true, true, false, false, false, false, false, false, false, false] (fun K hK => ?_)
            refine uGs Tryz.func38 #[.agg #[.int .i64 t106, .int .i64 t107, .slice Ao54 x111002_2.length co54]] ?_
            with_reducible refine (spec_pzGood.calls k2 t106 t107 _ _ x111002_2 true _ ?side1 ?side2 A50.out).mono ?_
            (case side1 => repeat (exact (Kd.R_reads' HO_111002.out).2.2))
            (case side2 => exact (Kd.R_reads' HO_111002.out).2.1)
            rintro e w55 ⟨rfl, hb⟩
            refine ⟨_, rfl, ?_⟩
            replace HO_42 := am (Kd.R_below (uR HO_42) hb)
            replace HO_111002 := am (Kd.R_below (uR HO_111002) hb)
            replace BK101 := uB BK101 hb
            replace BK109 := uB BK109 hb
            replace BK110 := uB BK110 hb
            replace HB := uS hb
            (try clear hb)
            (skip)
            (skip)
            (skip)
            refine hK.out _ _ ⟨uT BK110 0, uT BK110 1, uT BK110 2⟩ (fun hHeld => ?_)
            clear hK K
            refine uNo (some 75) ?_
            refine uPu (i := 3) (N := some 76) #[true, true, true, true, false, false, false, false, false, false, false] ?_
            refine uPu (i := 6) (N := some 79) #[true, true, true, true, false, false, true, false, false, false, false] ?_
            refine uTk (i := 4) (N := some 77) #[true, true, true, true, true, false, true, false, false, false, false] hHeld ?_
            refine uOn (i := 5) (N := some 78) #[true, true, true, true, true, true, true, false, false, false, false] (fun K hK => ?_)
            refine uGs Tryz.func44 #[.agg #[.int .i64 t106, .int .i64 t107, .slice Ao54 x111002_2.length co54]] ?_
            with_reducible refine (spec_pzText.calls k2 t106 t107 _ _ x111002_2 t117 _ ?side1 ?side2 A52.out).mono ?_
            (case side1 => repeat (exact (Kd.R_reads' HO_111002.out).2.2))
            (case side2 => exact (Kd.R_reads' HO_111002.out).2.1)
            rintro e w56 ⟨rfl, hb⟩
            refine ⟨_, rfl, ?_⟩
            replace HO_42 := am (Kd.R_below (uR HO_42) hb)
            replace HO_111002 := am (Kd.R_below (uR HO_111002) hb)
            replace BK101 := uB BK101 hb
            replace BK109 := uB BK109 hb
            replace BK110 := uB BK110 hb
            replace HB := uS hb
            (try clear hb)
            (skip)
            (skip)
            (skip)
            refine hK.out _ _ ⟨uT BK110 0, uT BK110 1, uT BK110 2⟩ (fun hHeld => ?_)
            clear hK K
            refine uNo (some 78) ?_
            refine uPu (i := 7) (N := some 80) #[true, true, true, true, true, true, true, true, false, false, false] ?_
            refine uPu (i := 8) (N := some 81) #[true, true, true, true, true, true, true, true, true, false, false] ?_
            refine uOn (i := 9) (N := none) #[true, true, true, true, true, true, true, true, true, true, false] (fun K hK => ?_)
            have hs57 : w56.cell? ⟨gb101, 0, none⟩ = some (.int .i64 x102000_2) := uT BK101 0
            have hfs57 := blk_frozen BK101.out 0
            have hns57_1 := NB109_101.out
            have hns57_2 := NB110_101.out
            have hms57_1 := NB101_109.out
            have hms57_2 := NB101_110.out
            have hs58 : w56.cell? ⟨gb101, 1, none⟩ = some (.int .i64 x102001_2) := uT BK101 1
            have hfs58 := blk_frozen BK101.out 1
            have hns58_1 := NB109_101.out
            have hns58_2 := NB110_101.out
            have hms58_1 := NB101_109.out
            have hms58_2 := NB101_110.out
            have hs59 : w56.cell? ⟨gb101, 2, none⟩ = some (.slice none 0 0) := uT BK101 2
            have hfs59 := blk_frozen BK101.out 2
            have hns59_1 := NB109_101.out
            have hns59_2 := NB110_101.out
            have hms59_1 := NB101_109.out
            have hms59_2 := NB101_110.out
            refine skip_ (w1 := ?_) (by rfl) rfl ?_ ?_
            rotate_left
            ·go_simp
             rfl
            refine hK.out _ _ ⟨((cell_far (p := ⟨gb101, _, none⟩) NB110_101.out _).trans (((cell_far (p := ⟨gb101, _, none⟩) NB110_101.out _).trans (((cell_far (p := ⟨gb101, _, none⟩) NB110_101.out _).trans (hHeld.1)))))), ((cell_far (p := ⟨gb101, _, none⟩) NB110_101.out _).trans (((cell_far (p := ⟨gb101, _, none⟩) NB110_101.out _).trans (((cell_far (p := ⟨gb101, _, none⟩) NB110_101.out _).trans (hHeld.2.1)))))), ((cell_far (p := ⟨gb101, _, none⟩) NB110_101.out _).trans (((cell_far (p := ⟨gb101, _, none⟩) NB110_101.out _).trans (((cell_far (p := ⟨gb101, _, none⟩) NB110_101.out _).trans (hHeld.2.2))))))⟩ (fun hHeld => ?_)
            clear hK K
            refine uPu (i := 10) (N := some 3) #[true, true, true, true, true, true, true, true, true, true, true] ?_
            refine done_ (done_of HT_.out (by kernel_rfl)) ?_
            try go_wp2
            refine bodyPost_ret (results_ct rfl _ _ gb101 28 #[.int .i64 t106, .int .i64 t107, .slice Ao54 x111002_2.length co54] (0, 0) _ rfl (by refine blk_put (cs := #[.int .i64 t106, .int .i64 t107, .slice none 0 0]) ?_ 2 _ rfl; refine blk_put (cs := #[.int .i64 t106, .int .i64 x102001_2, .slice none 0 0]) ?_ 1 _ rfl; refine blk_put (cs := #[.int .i64 x102000_2, .int .i64 x102001_2, .slice none 0 0]) ?_ 0 _ rfl; exact (uP BK101)) Tryz.underlying28 rfl (by kernel_rfl)) rfl ?_
            exact ⟨_, uA, by (with_reducible skip); exact Kd.R_mono (Kd.R_far (p := ⟨gb101, 2, none⟩) (Kd.R_far (p := ⟨gb101, 1, none⟩) (Kd.R_far (p := ⟨gb101, 0, none⟩) (Kd.R_types HO_111002.out BK101.out (by decide)) (fun _ hk => hk.2) (.int .i64 t106)) (fun _ hk => hk.2) (.int .i64 t107)) (fun _ hk => hk.2) (.slice Ao54 x111002_2.length co54)) (fun _ hk => trivial), by exact uW⟩
           ·replace c51 := Bool.eq_false_iff.mpr c51
            subst c51
            rw [if_neg (show ¬ (false = true) by decide)] at H
            simp only [Option.some.injEq, Prod.mk.injEq] at H
            obtain ⟨rfl, rfl, rfl, rfl⟩ := H
            try go_wp2
            replace HO_42 := am (Kd.R_drew HO_42.out)
            replace HO_111002 := am (Kd.R_drew HO_111002.out)
            replace BK101 := am (blk_drew BK101.out)
            replace BK109 := am (blk_drew BK109.out)
            replace BK110 := am (blk_drew BK110.out)
            replace HB := am (below_drew1 HB.out)
            obtain ⟨Ao61, co61, eo61⟩ := Kd.R_slice HO_111002.out
            (subst eo61)
            refine start_ (n := 11) (S := fun w' => w'.cell? ⟨gb110, 0, none⟩ = some (.int .i64 t106) ∧ w'.cell? ⟨gb110, 1, none⟩ = some (.int .i64 t107) ∧ w'.cell? ⟨gb110, 2, none⟩ = some (.slice Ao61 x111002_2.length co61)) (ds := []) #[false, false, false, false, false, false, false, false, false, false, false] (by kernel_rfl) rfl rfl ⟨uT BK110 0, uT BK110 1, uT BK110 2⟩ (fun hHeld => ?_); refine with_tabW spec_pzParse.tab17 spec_pzParse.bits17 (fun HT_ HW_ => ?_)
            generalize wr.drew = w60 at HO_42 HO_111002 BK101 BK109 BK110 HB hHeld ⊢
            refine uTk (i := 0) (N := some 73) #[true, false, false, false, false, false, false, false, false, false, false] hHeld ?_
            refine uTk (i := 1) (N := some 74) #[true, true, false, false, false, false, false, false, false, false, false] hHeld ?_
            refine uOn (i := 2) (N := some 75) #[true, true, true, false, false, false, false, false, false, false, false] (fun K hK => ?_)
            refine uGs Tryz.func38 #[.agg #[.int .i64 t106, .int .i64 t107, .slice Ao61 x111002_2.length co61]] ?_
            with_reducible refine (spec_pzGood.calls k2 t106 t107 _ _ x111002_2 false _ ?side1 ?side2 A50.out).mono ?_
            (case side1 => repeat (exact (Kd.R_reads' HO_111002.out).2.2))
            (case side2 => exact (Kd.R_reads' HO_111002.out).2.1)
            rintro e w62 ⟨rfl, hb⟩
            refine ⟨_, rfl, ?_⟩
            replace HO_42 := am (Kd.R_below (uR HO_42) hb)
            replace HO_111002 := am (Kd.R_below (uR HO_111002) hb)
            replace BK101 := uB BK101 hb
            replace BK109 := uB BK109 hb
            replace BK110 := uB BK110 hb
            replace HB := uS hb
            (try clear hb)
            (skip)
            (skip)
            (skip)
            refine hK.out _ _ ⟨uT BK110 0, uT BK110 1, uT BK110 2⟩ (fun hHeld => ?_)
            clear hK K
            refine uNo (some 75) ?_
            refine uPu (i := 3) (N := some 76) #[true, true, true, true, false, false, false, false, false, false, false] ?_
            refine pure_ (i := 4) (N := some 77) (v := undef) (a' := ?_) #[true, true, true, true, true, false, false, false, false, false, false] rfl rfl (any_of HT_.out (by kernel_rfl)) (fun _ _ _ h => h) (Or.inr ⟨by rfl, rfl⟩) ?_ ?_
            rotate_left
            ·simp only [Act.put, List.setIfInBounds_toArray, List.set_cons_zero, List.set_cons_succ, i64_w, i32_w]
             rfl
            refine pure_ (i := 5) (N := some 78) (v := undef) (a' := ?_) #[true, true, true, true, true, true, false, false, false, false, false] rfl rfl (any_of HT_.out (by kernel_rfl)) (fun _ _ _ h => h) (Or.inr ⟨by rfl, rfl⟩) ?_ ?_
            rotate_left
            ·simp only [Act.put, List.setIfInBounds_toArray, List.set_cons_zero, List.set_cons_succ, i64_w, i32_w]
             rfl
            refine pure_ (i := 6) (N := some 79) (v := undef) (a' := ?_) #[true, true, true, true, true, true, true, false, false, false, false] rfl rfl (any_of HT_.out (by kernel_rfl)) (fun _ _ _ h => h) (Or.inr ⟨by rfl, rfl⟩) ?_ ?_
            rotate_left
            ·simp only [Act.put, List.setIfInBounds_toArray, List.set_cons_zero, List.set_cons_succ, i64_w, i32_w]
             rfl
            refine pure_ (i := 7) (N := some 80) (v := undef) (a' := ?_) #[true, true, true, true, true, true, true, true, false, false, false] rfl rfl (any_of HT_.out (by kernel_rfl)) (fun _ _ _ h => h) (Or.inr ⟨by rfl, rfl⟩) ?_ ?_
            rotate_left
            ·simp only [Act.put, List.setIfInBounds_toArray, List.set_cons_zero, List.set_cons_succ, i64_w, i32_w]
             rfl
            refine uPu (i := 8) (N := some 81) #[true, true, true, true, true, true, true, true, true, false, false] ?_
            refine uOn (i := 9) (N := none) #[true, true, true, true, true, true, true, true, true, true, false] (fun K hK => ?_)
            have hs63 : w62.cell? ⟨gb101, 0, none⟩ = some (.int .i64 x102000_2) := uT BK101 0
            have hfs63 := blk_frozen BK101.out 0
            have hns63_1 := NB109_101.out
            have hns63_2 := NB110_101.out
            have hms63_1 := NB101_109.out
            have hms63_2 := NB101_110.out
            have hs64 : w62.cell? ⟨gb101, 1, none⟩ = some (.int .i64 x102001_2) := uT BK101 1
            have hfs64 := blk_frozen BK101.out 1
            have hns64_1 := NB109_101.out
            have hns64_2 := NB110_101.out
            have hms64_1 := NB101_109.out
            have hms64_2 := NB101_110.out
            have hs65 : w62.cell? ⟨gb101, 2, none⟩ = some (.slice none 0 0) := uT BK101 2
            have hfs65 := blk_frozen BK101.out 2
            have hns65_1 := NB109_101.out
            have hns65_2 := NB110_101.out
            have hms65_1 := NB101_109.out
            have hms65_2 := NB101_110.out
            refine skip_ (w1 := ?_) (by rfl) rfl ?_ ?_
            rotate_left
            ·go_simp
             rfl
            refine hK.out _ _ ⟨((cell_far (p := ⟨gb101, _, none⟩) NB110_101.out _).trans (((cell_far (p := ⟨gb101, _, none⟩) NB110_101.out _).trans (((cell_far (p := ⟨gb101, _, none⟩) NB110_101.out _).trans (hHeld.1)))))), ((cell_far (p := ⟨gb101, _, none⟩) NB110_101.out _).trans (((cell_far (p := ⟨gb101, _, none⟩) NB110_101.out _).trans (((cell_far (p := ⟨gb101, _, none⟩) NB110_101.out _).trans (hHeld.2.1)))))), ((cell_far (p := ⟨gb101, _, none⟩) NB110_101.out _).trans (((cell_far (p := ⟨gb101, _, none⟩) NB110_101.out _).trans (((cell_far (p := ⟨gb101, _, none⟩) NB110_101.out _).trans (hHeld.2.2))))))⟩ (fun hHeld => ?_)
            clear hK K
            refine uPu (i := 10) (N := some 3) #[true, true, true, true, true, true, true, true, true, true, true] ?_
            refine done_ (done_of HT_.out (by kernel_rfl)) ?_
            try go_wp2
            refine bodyPost_ret (results_ct rfl _ _ gb101 28 #[.int .i64 t106, .int .i64 t107, .slice Ao61 x111002_2.length co61] (0, 0) _ rfl (by refine blk_put (cs := #[.int .i64 t106, .int .i64 t107, .slice none 0 0]) ?_ 2 _ rfl; refine blk_put (cs := #[.int .i64 t106, .int .i64 x102001_2, .slice none 0 0]) ?_ 1 _ rfl; refine blk_put (cs := #[.int .i64 x102000_2, .int .i64 x102001_2, .slice none 0 0]) ?_ 0 _ rfl; exact (uP BK101)) Tryz.underlying28 rfl (by kernel_rfl)) rfl ?_
            exact ⟨_, uA, by (with_reducible skip); exact Kd.R_mono (Kd.R_far (p := ⟨gb101, 2, none⟩) (Kd.R_far (p := ⟨gb101, 1, none⟩) (Kd.R_far (p := ⟨gb101, 0, none⟩) (Kd.R_types HO_111002.out BK101.out (by decide)) (fun _ hk => hk.2) (.int .i64 t106)) (fun _ hk => hk.2) (.int .i64 t107)) (fun _ hk => hk.2) (.slice Ao61 x111002_2.length co61)) (fun _ hk => trivial), by exact uW⟩
       ·rw [if_neg c14] at H
        have c14b0 : decide (0 < ((rdOf ByteArray.empty t102 1).size : Int)) = false := decide_eq_false c14
        have c14b1 : decide (0 < (rdOf ByteArray.empty t102 1).size) = false := decide_eq_false (by omega)
        clear c14
        obtain ⟨t131, A660, H⟩ := bH H
        have A66 := am A660
        clear A660
        by_cases c67 : t131 = true
        ·subst c67
         rw [if_pos rfl] at H
         obtain ⟨t132, A680, H⟩ := bH H
         have A68 := am A680
         clear A680
         simp only [Option.some.injEq, Prod.mk.injEq] at H
         obtain ⟨rfl, rfl, rfl, rfl⟩ := H
         obtain ⟨Ao69, co69, eo69⟩ := Kd.R_slice HO_4.out
         subst eo69
         have p105 : 0 ≤ (0 : Int) := (by omega)
         have q105 : 0 < (t102.length : Int) := of_decide_eq_true (by (with_reducible assumption))
         obtain ⟨ad105, e105, hx105_0⟩ := Kd.at_string (Kd.R_reads' HO_4.out).2.2 0 p105 q105
         cases e105
         have qi105 : (0 < t102.length) = True := eq_true (by omega)
         (try rw [show ((0 : Int)).toNat = 0 from rfl] at hx105_0)
         (try rw [Addr.add_zero'] at hx105_0)
         replace p105 := eq_true p105
         replace q105 := eq_true q105
         try go_wp2_with (first | ((with_reducible refine gate_callee (f := 85) rfl ?_); refine uGo (some 26) Tryz.func85 #[.string (rdOf ByteArray.empty t102 0)] ?_; (with_reducible refine (spec_nuParse.calls kj2 (rdOf ByteArray.empty t102 0) t106 t107 true _ A11.out).mono ?_); rintro e w70 ⟨rfl, hb⟩; refine ⟨_, rfl, ?_⟩; replace HO_4 := am (Kd.R_below (uR HO_4) hb); replace BK101 := uB BK101 hb; replace HB := uS hb; (try clear hb)) | ((with_reducible refine gate_dst (N := 5) rfl ?_); (try (refine gate_guard (by rfl) ?_; dsimp only)); refine uX (N := 5) (cs := #[.int .i64 0, .int .i64 0]) (t := 25) ?_; intro gb109 hg w71 hbox hb; have BK109 := am (hbox); have GW109 := uE hg; have GE109 := GW109; have NB101_109 := uL BK101 hg; have NB109_101 := uY NB101_109; replace HO_4 := am (Kd.R_below (uR HO_4) hb); replace BK101 := uB BK101 hb; replace HB := uS hb; clear hb hbox hg; have hnb72 := NB109_101.out; have hnc72 := NB101_109.out; obtain ⟨hcz73_0, hcz73_1, hfz73_0, hfz73_1⟩ := uZ2 BK109) | ((with_reducible refine gate_dst (N := 7) rfl ?_); (try (refine gate_guard (by rfl) ?_; dsimp only)); refine uX (N := 7) (cs := #[.int .i64 0, .int .i64 0, .slice none 0 0]) (t := 28) ?_; intro gb110 hg w74 hbox hb; have BK110 := am (hbox); have GW110 := uE hg; have GE110 := GW110; have NB101_110 := am ((by rw [hg]; exact Nat.ne_of_lt (blk_lt (g := gb101) (o := .cells #[.int .i64 0, .int .i64 0, .slice none 0 0] 28 (0, 0)) (by refine blk_far ?_ NB101_109.out _; refine blk_far ?_ NB101_109.out _; exact (uP BK101))) : gb101 ≠ gb110)); have NB110_101 := am ((by rw [hg]; exact Nat.ne_of_gt (blk_lt (g := gb101) (o := .cells #[.int .i64 0, .int .i64 0, .slice none 0 0] 28 (0, 0)) (by refine blk_far ?_ NB101_109.out _; refine blk_far ?_ NB101_109.out _; exact (uP BK101))) : gb110 ≠ gb101)); have NB109_110 := am ((by rw [hg]; exact Nat.ne_of_lt (blk_lt (g := gb109) (o := .cells #[.int .i64 t106, .int .i64 t107] 25 (0, 0)) (by refine blk_put (cs := #[.int .i64 t106, .int .i64 0]) ?_ 1 _ rfl; refine blk_put (cs := #[.int .i64 0, .int .i64 0]) ?_ 0 _ rfl; exact (uP BK109))) : gb109 ≠ gb110)); have NB110_109 := am ((by rw [hg]; exact Nat.ne_of_gt (blk_lt (g := gb109) (o := .cells #[.int .i64 t106, .int .i64 t107] 25 (0, 0)) (by refine blk_put (cs := #[.int .i64 t106, .int .i64 0]) ?_ 1 _ rfl; refine blk_put (cs := #[.int .i64 0, .int .i64 0]) ?_ 0 _ rfl; exact (uP BK109))) : gb110 ≠ gb109)); replace HO_4 := am (Kd.R_below (by (with_reducible skip); exact (Kd.R_mono (Kd.R_far (p := ⟨gb109, 1, none⟩) (Kd.R_far (p := ⟨gb109, 0, none⟩) (Kd.R_types HO_4.out BK109.out (by decide)) (fun _ hk => hk.2) (.int .i64 t106)) (fun _ hk => hk.2) (.int .i64 t107)) (fun _ h_ => h_.1))) hb); replace BK101 := am (blk_below (g := gb101) (o := .cells #[.int .i64 0, .int .i64 0, .slice none 0 0] 28 (0, 0)) (by refine blk_far ?_ NB101_109.out _; refine blk_far ?_ NB101_109.out _; exact (uP BK101)) hb); replace BK109 := am (blk_below (g := gb109) (o := .cells #[.int .i64 t106, .int .i64 t107] 25 (0, 0)) (by refine blk_put (cs := #[.int .i64 t106, .int .i64 0]) ?_ 1 _ rfl; refine blk_put (cs := #[.int .i64 0, .int .i64 0]) ?_ 0 _ rfl; exact (uP BK109)) hb); replace HB := uS hb; clear hb hbox hg; have hnb75 := NB110_101.out; have hnc75 := NB101_110.out; have hnb76 := NB110_109.out; have hnc76 := NB109_110.out; obtain ⟨hcz77_0, hcz77_1, hcz77_2, hfz77_0, hfz77_1, hfz77_2⟩ := uZ3 BK110; have p111 : 0 ≤ (1 : Int) := (by omega); have q111 : 1 < (t102.length : Int) := of_decide_eq_true (by (with_reducible assumption)); obtain ⟨ad111, e111, hx111_0⟩ := Kd.at_string (Kd.R_reads' HO_4.out).2.2 1 p111 q111; obtain rfl : ad105 = ad111 := (by injection e111); (try simp only [show (1 : Int).toNat = 1 from rfl, Nat.reduceMul, Nat.reduceEqDiff, Go.Addr.add, ↓reduceIte] at hx111_0); have qi111 : (1 < t102.length) = True := eq_true (by omega); have hn111_0 : ad105.block ≠ gb110 := Kd.own_blk (Kd.R_ne HO_4.out BK110.out (by decide)); have hn111_1 : ad105.block ≠ gb110 := Kd.own_blk (Kd.R_ne HO_4.out BK110.out (by decide)); have hn111_2 : ad105.block ≠ gb110 := Kd.own_blk (Kd.R_ne HO_4.out BK110.out (by decide)); replace hx111_0 := (cell_far (p := ⟨gb110, 0, none⟩) (by exact hn111_0) (.int .i64 t106)).trans hx111_0; replace hx111_0 := (cell_far (p := ⟨gb110, 1, none⟩) (by exact hn111_1) (.int .i64 t107)).trans hx111_0; replace hx111_0 := (cell_far (p := ⟨gb110, 2, none⟩) (by exact hn111_2) (.slice none 0 0)).trans hx111_0; clear hn111_0; clear hn111_1; clear hn111_2; replace p111 := eq_true p111; replace q111 := eq_true q111))
         have n0_ : Aside0 (Kd.R Kd.string 9 (((w74.setCell ⟨gb110, 0, none⟩ (.int .i64 t106)).setCell ⟨gb110, 1, none⟩ (.int .i64 t107)).setCell ⟨gb110, 2, none⟩ (.slice none 0 0)) w.heap.size (fun _ => True) (.slice (some ad105) t102.length co69) t102) := ⟨by (with_reducible skip); exact Kd.R_mono (Kd.R_far (p := ⟨gb110, 2, none⟩) (Kd.R_far (p := ⟨gb110, 1, none⟩) (Kd.R_far (p := ⟨gb110, 0, none⟩) (Kd.R_types HO_4.out BK110.out (by decide)) (fun _ hk => hk.2) (.int .i64 t106)) (fun _ hk => hk.2) (.int .i64 t107)) (fun _ hk => hk.2) (.slice none 0 0)) (fun _ hk => trivial)⟩
         have n1_ : Aside0 ((((w74.setCell ⟨gb110, 0, none⟩ (.int .i64 t106)).setCell ⟨gb110, 1, none⟩ (.int .i64 t107)).setCell ⟨gb110, 2, none⟩ (.slice none 0 0)).heap[gb101]? = some (.cells #[.int .i64 0, .int .i64 0, .slice none 0 0] 28 (0, 0))) := ⟨by refine blk_far ?_ NB101_110.out _; refine blk_far ?_ NB101_110.out _; refine blk_far ?_ NB101_110.out _; exact (uP BK101)⟩
         have n2_ : Aside0 ((((w74.setCell ⟨gb110, 0, none⟩ (.int .i64 t106)).setCell ⟨gb110, 1, none⟩ (.int .i64 t107)).setCell ⟨gb110, 2, none⟩ (.slice none 0 0)).heap[gb109]? = some (.cells #[.int .i64 t106, .int .i64 t107] 25 (0, 0))) := ⟨by refine blk_far ?_ NB109_110.out _; refine blk_far ?_ NB109_110.out _; refine blk_far ?_ NB109_110.out _; exact (uP BK109)⟩
         have n3_ : Aside0 ((((w74.setCell ⟨gb110, 0, none⟩ (.int .i64 t106)).setCell ⟨gb110, 1, none⟩ (.int .i64 t107)).setCell ⟨gb110, 2, none⟩ (.slice none 0 0)).heap[gb110]? = some (.cells #[.int .i64 t106, .int .i64 t107, .slice none 0 0] 28 (0, 0))) := ⟨by refine blk_put (cs := #[.int .i64 t106, .int .i64 t107, .slice none 0 0]) ?_ 2 _ rfl; refine blk_put (cs := #[.int .i64 t106, .int .i64 0, .slice none 0 0]) ?_ 1 _ rfl; refine blk_put (cs := #[.int .i64 0, .int .i64 0, .slice none 0 0]) ?_ 0 _ rfl; exact (uP BK110)⟩
         have n4_ : Aside0 (Below w.heap.size w (((w74.setCell ⟨gb110, 0, none⟩ (.int .i64 t106)).setCell ⟨gb110, 1, none⟩ (.int .i64 t107)).setCell ⟨gb110, 2, none⟩ (.slice none 0 0))) := ⟨by exact uW⟩
         (try clear HO_4)
         (try clear BK101)
         (try clear BK109)
         (try clear BK110)
         (try clear HB)
         generalize (((w74.setCell ⟨gb110, 0, none⟩ (.int .i64 t106)).setCell ⟨gb110, 1, none⟩ (.int .i64 t107)).setCell ⟨gb110, 2, none⟩ (.slice none 0 0)) = w78 at n0_ n1_ n2_ n3_ n4_ ⊢
         have HO_4 := n0_
         have BK101 := n1_
         have BK109 := n2_
         have BK110 := n3_
         have HB := n4_
         clear n0_ n1_ n2_ n3_ n4_
         replace HO_4 := am (Kd.R_drew HO_4.out)
         replace BK101 := am (blk_drew BK101.out)
         replace BK109 := am (blk_drew BK109.out)
         replace BK110 := am (blk_drew BK110.out)
         replace HB := am (below_drew1 HB.out)
         refine start_ (n := 11) (S := fun w' => w'.cell? ⟨gb110, 0, none⟩ = some (.int .i64 t106) ∧ w'.cell? ⟨gb110, 1, none⟩ = some (.int .i64 t107) ∧ w'.cell? ⟨gb110, 2, none⟩ = some (.slice none 0 0)) (ds := []) #[false, false, false, false, false, false, false, false, false, false, false] (by kernel_rfl) rfl rfl ⟨uT BK110 0, uT BK110 1, uT BK110 2⟩ (fun hHeld => ?_); refine with_tabW spec_pzParse.tab17 spec_pzParse.bits17 (fun HT_ HW_ => ?_)
         generalize w78.drew = w79 at HO_4 BK101 BK109 BK110 HB hHeld ⊢
         refine uTk (i := 0) (N := some 73) #[true, false, false, false, false, false, false, false, false, false, false] hHeld ?_
         refine uTk (i := 1) (N := some 74) #[true, true, false, false, false, false, false, false, false, false, false] hHeld ?_
         refine uOn (i := 2) (N := some 75) #[true, true, true, false, false, false, false, false, false, false, false] (fun K hK => ?_)
         refine uGs Tryz.func38 #[.agg #[.int .i64 t106, .int .i64 t107, .slice none 0 0]] ?_
         refine (spec_pzGood.calls kj2 t106 t107 _ _ ([] : List (S46)) true _ ?side1 ?side2 A66.out).mono ?_
         (case side1 => exact Kd.C_nil _ _)
         (case side2 => exact Nat.le_refl _)
         rintro e w80 ⟨rfl, hb⟩
         refine ⟨_, rfl, ?_⟩
         replace HO_4 := am (Kd.R_below (uR HO_4) hb)
         replace BK101 := uB BK101 hb
         replace BK109 := uB BK109 hb
         replace BK110 := uB BK110 hb
         replace HB := uS hb
         (try clear hb)
         (skip)
         (skip)
         (skip)
         refine hK.out _ _ ⟨uT BK110 0, uT BK110 1, uT BK110 2⟩ (fun hHeld => ?_)
         clear hK K
         refine uNo (some 75) ?_
         refine uPu (i := 3) (N := some 76) #[true, true, true, true, false, false, false, false, false, false, false] ?_
         refine uPu (i := 6) (N := some 79) #[true, true, true, true, false, false, true, false, false, false, false] ?_
         refine uTk (i := 4) (N := some 77) #[true, true, true, true, true, false, true, false, false, false, false] hHeld ?_
         refine uOn (i := 5) (N := some 78) #[true, true, true, true, true, true, true, false, false, false, false] (fun K hK => ?_)
         refine uGs Tryz.func44 #[.agg #[.int .i64 t106, .int .i64 t107, .slice none 0 0]] ?_
         refine (spec_pzText.calls kj2 t106 t107 _ _ ([] : List (S46)) t132 _ ?side1 ?side2 A68.out).mono ?_
         (case side1 => exact Kd.C_nil _ _)
         (case side2 => exact Nat.le_refl _)
         rintro e w81 ⟨rfl, hb⟩
         refine ⟨_, rfl, ?_⟩
         replace HO_4 := am (Kd.R_below (uR HO_4) hb)
         replace BK101 := uB BK101 hb
         replace BK109 := uB BK109 hb
         replace BK110 := uB BK110 hb
         replace HB := uS hb
         (try clear hb)
         (skip)
         (skip)
         (skip)
         refine hK.out _ _ ⟨uT BK110 0, uT BK110 1, uT BK110 2⟩ (fun hHeld => ?_)
         clear hK K
         refine uNo (some 78) ?_
         refine uPu (i := 7) (N := some 80) #[true, true, true, true, true, true, true, true, false, false, false] ?_
         refine uPu (i := 8) (N := some 81) #[true, true, true, true, true, true, true, true, true, false, false] ?_
         refine uOn (i := 9) (N := none) #[true, true, true, true, true, true, true, true, true, true, false] (fun K hK => ?_)
         have hs82 : w81.cell? ⟨gb101, 0, none⟩ = some (.int .i64 0) := uT BK101 0
         have hfs82 := blk_frozen BK101.out 0
         have hns82_1 := NB109_101.out
         have hns82_2 := NB110_101.out
         have hms82_1 := NB101_109.out
         have hms82_2 := NB101_110.out
         have hs83 : w81.cell? ⟨gb101, 1, none⟩ = some (.int .i64 0) := uT BK101 1
         have hfs83 := blk_frozen BK101.out 1
         have hns83_1 := NB109_101.out
         have hns83_2 := NB110_101.out
         have hms83_1 := NB101_109.out
         have hms83_2 := NB101_110.out
         have hs84 : w81.cell? ⟨gb101, 2, none⟩ = some (.slice none 0 0) := uT BK101 2
         have hfs84 := blk_frozen BK101.out 2
         have hns84_1 := NB109_101.out
         have hns84_2 := NB110_101.out
         have hms84_1 := NB101_109.out
         have hms84_2 := NB101_110.out
         refine skip_ (w1 := ?_) (by rfl) rfl ?_ ?_
         rotate_left
         ·go_simp
          rfl
         refine hK.out _ _ ⟨((cell_far (p := ⟨gb101, _, none⟩) NB110_101.out _).trans (((cell_far (p := ⟨gb101, _, none⟩) NB110_101.out _).trans (((cell_far (p := ⟨gb101, _, none⟩) NB110_101.out _).trans (hHeld.1)))))), ((cell_far (p := ⟨gb101, _, none⟩) NB110_101.out _).trans (((cell_far (p := ⟨gb101, _, none⟩) NB110_101.out _).trans (((cell_far (p := ⟨gb101, _, none⟩) NB110_101.out _).trans (hHeld.2.1)))))), ((cell_far (p := ⟨gb101, _, none⟩) NB110_101.out _).trans (((cell_far (p := ⟨gb101, _, none⟩) NB110_101.out _).trans (((cell_far (p := ⟨gb101, _, none⟩) NB110_101.out _).trans (hHeld.2.2))))))⟩ (fun hHeld => ?_)
         clear hK K
         refine uPu (i := 10) (N := some 3) #[true, true, true, true, true, true, true, true, true, true, true] ?_
         refine done_ (done_of HT_.out (by kernel_rfl)) ?_
         try go_wp2
         refine bodyPost_ret (results_ct rfl _ _ gb101 28 #[.int .i64 t106, .int .i64 t107, .slice none 0 0] (0, 0) _ rfl (by refine blk_put (cs := #[.int .i64 t106, .int .i64 t107, .slice none 0 0]) ?_ 2 _ rfl; refine blk_put (cs := #[.int .i64 t106, .int .i64 0, .slice none 0 0]) ?_ 1 _ rfl; refine blk_put (cs := #[.int .i64 0, .int .i64 0, .slice none 0 0]) ?_ 0 _ rfl; exact (uP BK101)) Tryz.underlying28 rfl (by kernel_rfl)) rfl ?_
         exact ⟨_, uA, uN, by exact uW⟩
        ·replace c67 := Bool.eq_false_iff.mpr c67
         subst c67
         rw [if_neg (show ¬ (false = true) by decide)] at H
         simp only [Option.some.injEq, Prod.mk.injEq] at H
         obtain ⟨rfl, rfl, rfl, rfl⟩ := H
         obtain ⟨Ao85, co85, eo85⟩ := Kd.R_slice HO_4.out
         subst eo85
         have p105 : 0 ≤ (0 : Int) := (by omega)
         have q105 : 0 < (t102.length : Int) := of_decide_eq_true (by (with_reducible assumption))
         obtain ⟨ad105, e105, hx105_0⟩ := Kd.at_string (Kd.R_reads' HO_4.out).2.2 0 p105 q105
         cases e105
         have qi105 : (0 < t102.length) = True := eq_true (by omega)
         (try rw [show ((0 : Int)).toNat = 0 from rfl] at hx105_0)
         (try rw [Addr.add_zero'] at hx105_0)
         replace p105 := eq_true p105
         replace q105 := eq_true q105
         try go_wp2_with (first | ((with_reducible refine gate_callee (f := 85) rfl ?_); refine uGo (some 26) Tryz.func85 #[.string (rdOf ByteArray.empty t102 0)] ?_; (with_reducible refine (spec_nuParse.calls kj2 (rdOf ByteArray.empty t102 0) t106 t107 true _ A11.out).mono ?_); rintro e w86 ⟨rfl, hb⟩; refine ⟨_, rfl, ?_⟩; replace HO_4 := am (Kd.R_below (uR HO_4) hb); replace BK101 := uB BK101 hb; replace HB := uS hb; (try clear hb)) | ((with_reducible refine gate_dst (N := 5) rfl ?_); (try (refine gate_guard (by rfl) ?_; dsimp only)); refine uX (N := 5) (cs := #[.int .i64 0, .int .i64 0]) (t := 25) ?_; intro gb109 hg w87 hbox hb; have BK109 := am (hbox); have GW109 := uE hg; have GE109 := GW109; have NB101_109 := uL BK101 hg; have NB109_101 := uY NB101_109; replace HO_4 := am (Kd.R_below (uR HO_4) hb); replace BK101 := uB BK101 hb; replace HB := uS hb; clear hb hbox hg; have hnb88 := NB109_101.out; have hnc88 := NB101_109.out; obtain ⟨hcz89_0, hcz89_1, hfz89_0, hfz89_1⟩ := uZ2 BK109) | ((with_reducible refine gate_dst (N := 7) rfl ?_); (try (refine gate_guard (by rfl) ?_; dsimp only)); refine uX (N := 7) (cs := #[.int .i64 0, .int .i64 0, .slice none 0 0]) (t := 28) ?_; intro gb110 hg w90 hbox hb; have BK110 := am (hbox); have GW110 := uE hg; have GE110 := GW110; have NB101_110 := am ((by rw [hg]; exact Nat.ne_of_lt (blk_lt (g := gb101) (o := .cells #[.int .i64 0, .int .i64 0, .slice none 0 0] 28 (0, 0)) (by refine blk_far ?_ NB101_109.out _; refine blk_far ?_ NB101_109.out _; exact (uP BK101))) : gb101 ≠ gb110)); have NB110_101 := am ((by rw [hg]; exact Nat.ne_of_gt (blk_lt (g := gb101) (o := .cells #[.int .i64 0, .int .i64 0, .slice none 0 0] 28 (0, 0)) (by refine blk_far ?_ NB101_109.out _; refine blk_far ?_ NB101_109.out _; exact (uP BK101))) : gb110 ≠ gb101)); have NB109_110 := am ((by rw [hg]; exact Nat.ne_of_lt (blk_lt (g := gb109) (o := .cells #[.int .i64 t106, .int .i64 t107] 25 (0, 0)) (by refine blk_put (cs := #[.int .i64 t106, .int .i64 0]) ?_ 1 _ rfl; refine blk_put (cs := #[.int .i64 0, .int .i64 0]) ?_ 0 _ rfl; exact (uP BK109))) : gb109 ≠ gb110)); have NB110_109 := am ((by rw [hg]; exact Nat.ne_of_gt (blk_lt (g := gb109) (o := .cells #[.int .i64 t106, .int .i64 t107] 25 (0, 0)) (by refine blk_put (cs := #[.int .i64 t106, .int .i64 0]) ?_ 1 _ rfl; refine blk_put (cs := #[.int .i64 0, .int .i64 0]) ?_ 0 _ rfl; exact (uP BK109))) : gb110 ≠ gb109)); replace HO_4 := am (Kd.R_below (by (with_reducible skip); exact (Kd.R_mono (Kd.R_far (p := ⟨gb109, 1, none⟩) (Kd.R_far (p := ⟨gb109, 0, none⟩) (Kd.R_types HO_4.out BK109.out (by decide)) (fun _ hk => hk.2) (.int .i64 t106)) (fun _ hk => hk.2) (.int .i64 t107)) (fun _ h_ => h_.1))) hb); replace BK101 := am (blk_below (g := gb101) (o := .cells #[.int .i64 0, .int .i64 0, .slice none 0 0] 28 (0, 0)) (by refine blk_far ?_ NB101_109.out _; refine blk_far ?_ NB101_109.out _; exact (uP BK101)) hb); replace BK109 := am (blk_below (g := gb109) (o := .cells #[.int .i64 t106, .int .i64 t107] 25 (0, 0)) (by refine blk_put (cs := #[.int .i64 t106, .int .i64 0]) ?_ 1 _ rfl; refine blk_put (cs := #[.int .i64 0, .int .i64 0]) ?_ 0 _ rfl; exact (uP BK109)) hb); replace HB := uS hb; clear hb hbox hg; have hnb91 := NB110_101.out; have hnc91 := NB101_110.out; have hnb92 := NB110_109.out; have hnc92 := NB109_110.out; obtain ⟨hcz93_0, hcz93_1, hcz93_2, hfz93_0, hfz93_1, hfz93_2⟩ := uZ3 BK110; have p111 : 0 ≤ (1 : Int) := (by omega); have q111 : 1 < (t102.length : Int) := of_decide_eq_true (by (with_reducible assumption)); obtain ⟨ad111, e111, hx111_0⟩ := Kd.at_string (Kd.R_reads' HO_4.out).2.2 1 p111 q111; obtain rfl : ad105 = ad111 := (by injection e111); (try simp only [show (1 : Int).toNat = 1 from rfl, Nat.reduceMul, Nat.reduceEqDiff, Go.Addr.add, ↓reduceIte] at hx111_0); have qi111 : (1 < t102.length) = True := eq_true (by omega); have hn111_0 : ad105.block ≠ gb110 := Kd.own_blk (Kd.R_ne HO_4.out BK110.out (by decide)); have hn111_1 : ad105.block ≠ gb110 := Kd.own_blk (Kd.R_ne HO_4.out BK110.out (by decide)); have hn111_2 : ad105.block ≠ gb110 := Kd.own_blk (Kd.R_ne HO_4.out BK110.out (by decide)); replace hx111_0 := (cell_far (p := ⟨gb110, 0, none⟩) (by exact hn111_0) (.int .i64 t106)).trans hx111_0; replace hx111_0 := (cell_far (p := ⟨gb110, 1, none⟩) (by exact hn111_1) (.int .i64 t107)).trans hx111_0; replace hx111_0 := (cell_far (p := ⟨gb110, 2, none⟩) (by exact hn111_2) (.slice none 0 0)).trans hx111_0; clear hn111_0; clear hn111_1; clear hn111_2; replace p111 := eq_true p111; replace q111 := eq_true q111))
         have n0_ : Aside0 (Kd.R Kd.string 9 (((w90.setCell ⟨gb110, 0, none⟩ (.int .i64 t106)).setCell ⟨gb110, 1, none⟩ (.int .i64 t107)).setCell ⟨gb110, 2, none⟩ (.slice none 0 0)) w.heap.size (fun _ => True) (.slice (some ad105) t102.length co85) t102) := ⟨by (with_reducible skip); exact Kd.R_mono (Kd.R_far (p := ⟨gb110, 2, none⟩) (Kd.R_far (p := ⟨gb110, 1, none⟩) (Kd.R_far (p := ⟨gb110, 0, none⟩) (Kd.R_types HO_4.out BK110.out (by decide)) (fun _ hk => hk.2) (.int .i64 t106)) (fun _ hk => hk.2) (.int .i64 t107)) (fun _ hk => hk.2) (.slice none 0 0)) (fun _ hk => trivial)⟩
         have n1_ : Aside0 ((((w90.setCell ⟨gb110, 0, none⟩ (.int .i64 t106)).setCell ⟨gb110, 1, none⟩ (.int .i64 t107)).setCell ⟨gb110, 2, none⟩ (.slice none 0 0)).heap[gb101]? = some (.cells #[.int .i64 0, .int .i64 0, .slice none 0 0] 28 (0, 0))) := ⟨by refine blk_far ?_ NB101_110.out _; refine blk_far ?_ NB101_110.out _; refine blk_far ?_ NB101_110.out _; exact (uP BK101)⟩
         have n2_ : Aside0 ((((w90.setCell ⟨gb110, 0, none⟩ (.int .i64 t106)).setCell ⟨gb110, 1, none⟩ (.int .i64 t107)).setCell ⟨gb110, 2, none⟩ (.slice none 0 0)).heap[gb109]? = some (.cells #[.int .i64 t106, .int .i64 t107] 25 (0, 0))) := ⟨by refine blk_far ?_ NB109_110.out _; refine blk_far ?_ NB109_110.out _; refine blk_far ?_ NB109_110.out _; exact (uP BK109)⟩
         have n3_ : Aside0 ((((w90.setCell ⟨gb110, 0, none⟩ (.int .i64 t106)).setCell ⟨gb110, 1, none⟩ (.int .i64 t107)).setCell ⟨gb110, 2, none⟩ (.slice none 0 0)).heap[gb110]? = some (.cells #[.int .i64 t106, .int .i64 t107, .slice none 0 0] 28 (0, 0))) := ⟨by refine blk_put (cs := #[.int .i64 t106, .int .i64 t107, .slice none 0 0]) ?_ 2 _ rfl; refine blk_put (cs := #[.int .i64 t106, .int .i64 0, .slice none 0 0]) ?_ 1 _ rfl; refine blk_put (cs := #[.int .i64 0, .int .i64 0, .slice none 0 0]) ?_ 0 _ rfl; exact (uP BK110)⟩
         have n4_ : Aside0 (Below w.heap.size w (((w90.setCell ⟨gb110, 0, none⟩ (.int .i64 t106)).setCell ⟨gb110, 1, none⟩ (.int .i64 t107)).setCell ⟨gb110, 2, none⟩ (.slice none 0 0))) := ⟨by exact uW⟩
         (try clear HO_4)
         (try clear BK101)
         (try clear BK109)
         (try clear BK110)
         (try clear HB)
         generalize (((w90.setCell ⟨gb110, 0, none⟩ (.int .i64 t106)).setCell ⟨gb110, 1, none⟩ (.int .i64 t107)).setCell ⟨gb110, 2, none⟩ (.slice none 0 0)) = w94 at n0_ n1_ n2_ n3_ n4_ ⊢
         have HO_4 := n0_
         have BK101 := n1_
         have BK109 := n2_
         have BK110 := n3_
         have HB := n4_
         clear n0_ n1_ n2_ n3_ n4_
         replace HO_4 := am (Kd.R_drew HO_4.out)
         replace BK101 := am (blk_drew BK101.out)
         replace BK109 := am (blk_drew BK109.out)
         replace BK110 := am (blk_drew BK110.out)
         replace HB := am (below_drew1 HB.out)
         refine start_ (n := 11) (S := fun w' => w'.cell? ⟨gb110, 0, none⟩ = some (.int .i64 t106) ∧ w'.cell? ⟨gb110, 1, none⟩ = some (.int .i64 t107) ∧ w'.cell? ⟨gb110, 2, none⟩ = some (.slice none 0 0)) (ds := []) #[false, false, false, false, false, false, false, false, false, false, false] (by kernel_rfl) rfl rfl ⟨uT BK110 0, uT BK110 1, uT BK110 2⟩ (fun hHeld => ?_); refine with_tabW spec_pzParse.tab17 spec_pzParse.bits17 (fun HT_ HW_ => ?_)
         generalize w94.drew = w95 at HO_4 BK101 BK109 BK110 HB hHeld ⊢
         refine uTk (i := 0) (N := some 73) #[true, false, false, false, false, false, false, false, false, false, false] hHeld ?_
         refine uTk (i := 1) (N := some 74) #[true, true, false, false, false, false, false, false, false, false, false] hHeld ?_
         refine uOn (i := 2) (N := some 75) #[true, true, true, false, false, false, false, false, false, false, false] (fun K hK => ?_)
         refine uGs Tryz.func38 #[.agg #[.int .i64 t106, .int .i64 t107, .slice none 0 0]] ?_
         refine (spec_pzGood.calls kj2 t106 t107 _ _ ([] : List (S46)) false _ ?side1 ?side2 A66.out).mono ?_
         (case side1 => exact Kd.C_nil _ _)
         (case side2 => exact Nat.le_refl _)
         rintro e w96 ⟨rfl, hb⟩
         refine ⟨_, rfl, ?_⟩
         replace HO_4 := am (Kd.R_below (uR HO_4) hb)
         replace BK101 := uB BK101 hb
         replace BK109 := uB BK109 hb
         replace BK110 := uB BK110 hb
         replace HB := uS hb
         (try clear hb)
         (skip)
         (skip)
         (skip)
         refine hK.out _ _ ⟨uT BK110 0, uT BK110 1, uT BK110 2⟩ (fun hHeld => ?_)
         clear hK K
         refine uNo (some 75) ?_
         refine uPu (i := 3) (N := some 76) #[true, true, true, true, false, false, false, false, false, false, false] ?_
         refine pure_ (i := 4) (N := some 77) (v := undef) (a' := ?_) #[true, true, true, true, true, false, false, false, false, false, false] rfl rfl (any_of HT_.out (by kernel_rfl)) (fun _ _ _ h => h) (Or.inr ⟨by rfl, rfl⟩) ?_ ?_
         rotate_left
         ·simp only [Act.put, List.setIfInBounds_toArray, List.set_cons_zero, List.set_cons_succ, i64_w, i32_w]
          rfl
         refine pure_ (i := 5) (N := some 78) (v := undef) (a' := ?_) #[true, true, true, true, true, true, false, false, false, false, false] rfl rfl (any_of HT_.out (by kernel_rfl)) (fun _ _ _ h => h) (Or.inr ⟨by rfl, rfl⟩) ?_ ?_
         rotate_left
         ·simp only [Act.put, List.setIfInBounds_toArray, List.set_cons_zero, List.set_cons_succ, i64_w, i32_w]
          rfl
         refine pure_ (i := 6) (N := some 79) (v := undef) (a' := ?_) #[true, true, true, true, true, true, true, false, false, false, false] rfl rfl (any_of HT_.out (by kernel_rfl)) (fun _ _ _ h => h) (Or.inr ⟨by rfl, rfl⟩) ?_ ?_
         rotate_left
         ·simp only [Act.put, List.setIfInBounds_toArray, List.set_cons_zero, List.set_cons_succ, i64_w, i32_w]
          rfl
         refine pure_ (i := 7) (N := some 80) (v := undef) (a' := ?_) #[true, true, true, true, true, true, true, true, false, false, false] rfl rfl (any_of HT_.out (by kernel_rfl)) (fun _ _ _ h => h) (Or.inr ⟨by rfl, rfl⟩) ?_ ?_
         rotate_left
         ·simp only [Act.put, List.setIfInBounds_toArray, List.set_cons_zero, List.set_cons_succ, i64_w, i32_w]
          rfl
         refine uPu (i := 8) (N := some 81) #[true, true, true, true, true, true, true, true, true, false, false] ?_
         refine uOn (i := 9) (N := none) #[true, true, true, true, true, true, true, true, true, true, false] (fun K hK => ?_)
         have hs97 : w96.cell? ⟨gb101, 0, none⟩ = some (.int .i64 0) := uT BK101 0
         have hfs97 := blk_frozen BK101.out 0
         have hns97_1 := NB109_101.out
         have hns97_2 := NB110_101.out
         have hms97_1 := NB101_109.out
         have hms97_2 := NB101_110.out
         have hs98 : w96.cell? ⟨gb101, 1, none⟩ = some (.int .i64 0) := uT BK101 1
         have hfs98 := blk_frozen BK101.out 1
         have hns98_1 := NB109_101.out
         have hns98_2 := NB110_101.out
         have hms98_1 := NB101_109.out
         have hms98_2 := NB101_110.out
         have hs99 : w96.cell? ⟨gb101, 2, none⟩ = some (.slice none 0 0) := uT BK101 2
         have hfs99 := blk_frozen BK101.out 2
         have hns99_1 := NB109_101.out
         have hns99_2 := NB110_101.out
         have hms99_1 := NB101_109.out
         have hms99_2 := NB101_110.out
         refine skip_ (w1 := ?_) (by rfl) rfl ?_ ?_
         rotate_left
         ·go_simp
          rfl
         refine hK.out _ _ ⟨((cell_far (p := ⟨gb101, _, none⟩) NB110_101.out _).trans (((cell_far (p := ⟨gb101, _, none⟩) NB110_101.out _).trans (((cell_far (p := ⟨gb101, _, none⟩) NB110_101.out _).trans (hHeld.1)))))), ((cell_far (p := ⟨gb101, _, none⟩) NB110_101.out _).trans (((cell_far (p := ⟨gb101, _, none⟩) NB110_101.out _).trans (((cell_far (p := ⟨gb101, _, none⟩) NB110_101.out _).trans (hHeld.2.1)))))), ((cell_far (p := ⟨gb101, _, none⟩) NB110_101.out _).trans (((cell_far (p := ⟨gb101, _, none⟩) NB110_101.out _).trans (((cell_far (p := ⟨gb101, _, none⟩) NB110_101.out _).trans (hHeld.2.2))))))⟩ (fun hHeld => ?_)
         clear hK K
         refine uPu (i := 10) (N := some 3) #[true, true, true, true, true, true, true, true, true, true, true] ?_
         refine done_ (done_of HT_.out (by kernel_rfl)) ?_
         try go_wp2
         refine bodyPost_ret (results_ct rfl _ _ gb101 28 #[.int .i64 t106, .int .i64 t107, .slice none 0 0] (0, 0) _ rfl (by refine blk_put (cs := #[.int .i64 t106, .int .i64 t107, .slice none 0 0]) ?_ 2 _ rfl; refine blk_put (cs := #[.int .i64 t106, .int .i64 0, .slice none 0 0]) ?_ 1 _ rfl; refine blk_put (cs := #[.int .i64 0, .int .i64 0, .slice none 0 0]) ?_ 0 _ rfl; exact (uP BK101)) Tryz.underlying28 rfl (by kernel_rfl)) rfl ?_
         exact ⟨_, uA, uN, by exact uW⟩
      ·rw [if_neg c13] at H
       exact absurd H (by simp)
     ·replace c12 := Bool.eq_false_iff.mpr c12
      subst c12
      rw [if_neg (show ¬ (false = true) by decide)] at H
      simp only [Option.some.injEq, Prod.mk.injEq] at H
      obtain ⟨rfl, rfl, rfl, rfl⟩ := H
      obtain ⟨Ao100, co100, eo100⟩ := Kd.R_slice HO_4.out
      subst eo100
      have p105 : 0 ≤ (0 : Int) := (by omega)
      have q105 : 0 < (t102.length : Int) := of_decide_eq_true (by (with_reducible assumption))
      obtain ⟨ad105, e105, hx105_0⟩ := Kd.at_string (Kd.R_reads' HO_4.out).2.2 0 p105 q105
      cases e105
      have qi105 : (0 < t102.length) = True := eq_true (by omega)
      (try rw [show ((0 : Int)).toNat = 0 from rfl] at hx105_0)
      (try rw [Addr.add_zero'] at hx105_0)
      replace p105 := eq_true p105
      replace q105 := eq_true q105
      go_wp2_with (first | ((with_reducible refine gate_callee (f := 85) rfl ?_); refine uGo (some 26) Tryz.func85 #[.string (rdOf ByteArray.empty t102 0)] ?_; (with_reducible refine (spec_nuParse.calls kj2 (rdOf ByteArray.empty t102 0) t106 t107 false _ A11.out).mono ?_); rintro e w101 ⟨rfl, hb⟩; refine ⟨_, rfl, ?_⟩; replace HO_4 := am (Kd.R_below (uR HO_4) hb); replace BK101 := uB BK101 hb; replace HB := uS hb; (try clear hb)) | ((with_reducible refine gate_dst (N := 5) rfl ?_); (try (refine gate_guard (by rfl) ?_; dsimp only)); refine uX (N := 5) (cs := #[.int .i64 0, .int .i64 0]) (t := 25) ?_; intro gb109 hg w102 hbox hb; have BK109 := am (hbox); have GW109 := uE hg; have GE109 := GW109; have NB101_109 := uL BK101 hg; have NB109_101 := uY NB101_109; replace HO_4 := am (Kd.R_below (uR HO_4) hb); replace BK101 := uB BK101 hb; replace HB := uS hb; clear hb hbox hg; have hnb103 := NB109_101.out; have hnc103 := NB101_109.out; obtain ⟨hcz104_0, hcz104_1, hfz104_0, hfz104_1⟩ := uZ2 BK109; obtain ⟨hcz105_0, hcz105_1, hcz105_2, hfz105_0, hfz105_1, hfz105_2⟩ := uZ3 BK101))
      refine bodyPost_ret (results_ct rfl _ _ gb101 28 #[.int .i64 0, .int .i64 0, .slice none 0 0] (0, 0) _ rfl (by refine blk_put (cs := #[.int .i64 0, .int .i64 0, .slice none 0 0]) ?_ 2 _ rfl; refine blk_put (cs := #[.int .i64 0, .int .i64 0, .slice none 0 0]) ?_ 1 _ rfl; refine blk_put (cs := #[.int .i64 0, .int .i64 0, .slice none 0 0]) ?_ 0 _ rfl; refine blk_far ?_ NB101_109.out _; refine blk_far ?_ NB101_109.out _; exact (uP BK101)) Tryz.underlying28 rfl (by kernel_rfl)) rfl ?_
      exact ⟨_, uA, uN, by exact uW⟩
    ·rw [if_neg c10] at H
     exact absurd H (by simp)
def spec_ParsePuzzle.f (k : Nat) (a0 : ByteArray) : Option (Int × Int × (List (S46)) × Bool) := (spec_pzParse.f k a0).bind fun bt102 => (if bt102.2.2.2 = true then (some (bt102.1, bt102.2.1, bt102.2.2.1, true)) else (some (0, 0, ([] : List (S46)), false)))
theorem spec_ParsePuzzle.calls (k : Nat) (a0 : ByteArray) (r1 : Int) (r2 : Int) (r3 : List (S46)) (r4 : Bool) (w : World) (h : spec_ParsePuzzle.f k a0 = some (r1, r2, r3, r4)) :
  Calls Tryz.prog 35 #[.string a0] w fun e w' => ∃ v2_ : Value, e = .returned (.tuple #[.agg #[.int .i64 r1, .int .i64 r2, v2_], .bool r4]) ∧ Kd.R k46 46 w' w.heap.size (fun _ => True) v2_ r3 ∧ Below w.heap.size w w' := by
 have hu28 := Tryz.underlying28
 have HB := am (Below.refl w.heap.size w)
 have H := h
 clear h
 unfold spec_ParsePuzzle.f at H
 obtain ⟨⟨t102, t103, t104, t107⟩, A20, H⟩ := bH H
 dsimp only at H
 have A2 := am A20
 clear A20
 by_cases c3 : t107 = true
 ·subst c3
  rw [if_pos rfl] at H
  simp only [Option.some.injEq, Prod.mk.injEq] at H
  obtain ⟨rfl, rfl, rfl, rfl⟩ := H
  go_enter Tryz.func35, Tryz.ntmps35
  go_wp2_with (first | ((with_reducible refine gate_dst (N := 2) rfl ?_); refine uX (N := 2) (cs := #[.int .i64 0, .int .i64 0, .slice none 0 0]) (t := 28) ?_; intro gb101 hg w4 hbox hb; have BK101 := am (hbox); have GW101 := uE hg; have GE101 := GW101; replace HB := uS hb; clear hb hbox hg) | ((with_reducible refine gate_callee (f := 61) rfl ?_); refine uGo (some 8) Tryz.func61 #[.string a0] ?_; (with_reducible refine (spec_pzParse.calls k a0 t102 t103 t104 true _ A2.out).mono ?_); rintro e w5 ⟨v105, rfl, ho0, hb⟩; refine ⟨_, rfl, ?_⟩; have HO106 := am (Kd.R_lower ho0 (below_size uW)); replace BK101 := uB BK101 hb; replace HB := uS hb; (try clear hb); (try clear ho0)) | ((with_reducible refine gate_dst (N := 4) rfl ?_); refine uX (N := 4) (cs := #[.int .i64 0, .int .i64 0, .slice none 0 0]) (t := 28) ?_; intro gb108 hg w6 hbox hb; have BK108 := am (hbox); have GW108 := uE hg; have GE108 := GW108; have NB101_108 := uL BK101 hg; have NB108_101 := uY NB101_108; replace HO106 := am (Kd.R_below (uR HO106) hb); replace BK101 := uB BK101 hb; replace HB := uS hb; clear hb hbox hg; have hnb7 := NB108_101.out; have hnc7 := NB101_108.out; obtain ⟨hcz8_0, hcz8_1, hcz8_2, hfz8_0, hfz8_1, hfz8_2⟩ := uZ3 BK108; obtain ⟨Ao9, co9, eo9⟩ := Kd.R_slice HO106.out; subst eo9; obtain ⟨hcz10_0, hcz10_1, hcz10_2, hfz10_0, hfz10_1, hfz10_2⟩ := uZ3 BK101))
  refine bodyPost_ret (results_ct rfl _ _ gb101 28 #[.int .i64 t102, .int .i64 t103, .slice Ao9 t104.length co9] (0, 0) _ rfl (by refine blk_put (cs := #[.int .i64 t102, .int .i64 t103, .slice none 0 0]) ?_ 2 _ rfl; refine blk_put (cs := #[.int .i64 t102, .int .i64 0, .slice none 0 0]) ?_ 1 _ rfl; refine blk_put (cs := #[.int .i64 0, .int .i64 0, .slice none 0 0]) ?_ 0 _ rfl; refine blk_far ?_ NB101_108.out _; refine blk_far ?_ NB101_108.out _; refine blk_far ?_ NB101_108.out _; exact (uP BK101)) Tryz.underlying28 rfl (by kernel_rfl)) rfl ?_
  exact ⟨_, uA, by (with_reducible skip); exact Kd.R_mono (Kd.R_far (p := ⟨gb101, 2, none⟩) (Kd.R_far (p := ⟨gb101, 1, none⟩) (Kd.R_far (p := ⟨gb101, 0, none⟩) (Kd.R_far (p := ⟨gb108, 2, none⟩) (Kd.R_far (p := ⟨gb108, 1, none⟩) (Kd.R_far (p := ⟨gb108, 0, none⟩) (Kd.R_types (Kd.R_types HO106.out BK108.out (by decide)) BK101.out (by decide)) (fun _ hk => hk.1.2) (.int .i64 t102)) (fun _ hk => hk.1.2) (.int .i64 t103)) (fun _ hk => hk.1.2) (.slice Ao9 t104.length co9)) (fun _ hk => hk.2) (.int .i64 t102)) (fun _ hk => hk.2) (.int .i64 t103)) (fun _ hk => hk.2) (.slice Ao9 t104.length co9)) (fun _ hk => trivial), by exact uW⟩
 ·replace c3 := Bool.eq_false_iff.mpr c3
  subst c3
  rw [if_neg (show ¬ (false = true) by decide)] at H
  simp only [Option.some.injEq, Prod.mk.injEq] at H
  obtain ⟨rfl, rfl, rfl, rfl⟩ := H
  go_enter Tryz.func35, Tryz.ntmps35
  go_wp2_with (first | ((with_reducible refine gate_dst (N := 2) rfl ?_); refine uX (N := 2) (cs := #[.int .i64 0, .int .i64 0, .slice none 0 0]) (t := 28) ?_; intro gb101 hg w11 hbox hb; have BK101 := am (hbox); have GW101 := uE hg; have GE101 := GW101; replace HB := uS hb; clear hb hbox hg) | ((with_reducible refine gate_callee (f := 61) rfl ?_); refine uGo (some 8) Tryz.func61 #[.string a0] ?_; (with_reducible refine (spec_pzParse.calls k a0 t102 t103 t104 false _ A2.out).mono ?_); rintro e w12 ⟨v105, rfl, ho0, hb⟩; refine ⟨_, rfl, ?_⟩; have HO106 := am (Kd.R_lower ho0 (below_size uW)); replace BK101 := uB BK101 hb; replace HB := uS hb; (try clear hb); (try clear ho0)) | ((with_reducible refine gate_dst (N := 4) rfl ?_); refine uX (N := 4) (cs := #[.int .i64 0, .int .i64 0, .slice none 0 0]) (t := 28) ?_; intro gb108 hg w13 hbox hb; have BK108 := am (hbox); have GW108 := uE hg; have GE108 := GW108; have NB101_108 := uL BK101 hg; have NB108_101 := uY NB101_108; replace HO106 := am (Kd.R_below (uR HO106) hb); replace BK101 := uB BK101 hb; replace HB := uS hb; clear hb hbox hg; have hnb14 := NB108_101.out; have hnc14 := NB101_108.out; obtain ⟨hcz15_0, hcz15_1, hcz15_2, hfz15_0, hfz15_1, hfz15_2⟩ := uZ3 BK108; obtain ⟨Ao16, co16, eo16⟩ := Kd.R_slice HO106.out; subst eo16; obtain ⟨hcz17_0, hcz17_1, hcz17_2, hfz17_0, hfz17_1, hfz17_2⟩ := uZ3 BK101))
  refine bodyPost_ret (results_ct rfl _ _ gb101 28 #[.int .i64 0, .int .i64 0, .slice none 0 0] (0, 0) _ rfl (by refine blk_put (cs := #[.int .i64 0, .int .i64 0, .slice none 0 0]) ?_ 2 _ rfl; refine blk_put (cs := #[.int .i64 0, .int .i64 0, .slice none 0 0]) ?_ 1 _ rfl; refine blk_put (cs := #[.int .i64 0, .int .i64 0, .slice none 0 0]) ?_ 0 _ rfl; refine blk_far ?_ NB101_108.out _; refine blk_far ?_ NB101_108.out _; refine blk_far ?_ NB101_108.out _; exact (uP BK101)) Tryz.underlying28 rfl (by kernel_rfl)) rfl ?_
  exact ⟨_, uA, uN, by exact uW⟩
theorem eqA46 (d : Nat) (w : World) (x0 y0 : Int) (x1 y1 : Int) (x2 y2 : Int) :
  (Op.equalIn (d + 2) 46 (.agg #[.int .i64 x0, .int .i64 x1, .int .i64 x2]) (.agg #[.int .i64 y0, .int .i64 y1, .int .i64 y2])).run Tryz.prog w = .ok (x0 == y0 && (x1 == y1 && (x2 == y2))) w := by
 refine eqA_of Tryz.underlying46 (by kernel_rfl) ?_
 refine eqf_cons (by rfl) (by go_simp; rfl) (by go_simp; rfl) (by go_simp) ?_
 refine eqf_cons (by rfl) (by go_simp; rfl) (by go_simp; rfl) (by go_simp) ?_
 exact eqf_last (by rfl) (by go_simp; rfl) (by go_simp; rfl) (by go_simp)
end Go.Proofs.YtijcdpnnjiamjaaGreatDoor.G
end
