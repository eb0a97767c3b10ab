/- Texts of this seat's proofs: contracts of its functions and plain laws about them, with no condition beyond those that each theorem states. -/
import Derived.Test.YtmninaoedoonbaaQ5865e9cb
import Derived.Deep.RegionHeld3
import Derived.Shelf.Abstract
set_option maxHeartbeats 8000000
set_option maxRecDepth 100000
section
namespace Go.Proofs.Ytmninaoedoonbaa.G
open Go.RowKit Go.Proofs.YtmninaoedoonbaaW.PrintWords Go.Proofs.YtmninaoedoonbaaW.PrintLast Go.Proofs.YtmninaoedoonbaaW.PrintMore
attribute [local go_sem] max2_int min2_int max_two min_two max_three min_three max_four min_four
set_option linter.unusedVariables false
set_option linter.unusedSimpArgs false
def spec_l1Cur_parcels.l0 : Nat → List (S45) → List Int → Int → Int → Option ((List (S45)) × Int × Int)
 | 0, _, _, _, _ => none
 | k + 1, x3, x1000, x1001, x1002 => (spec_l1Cur_pick.f x1000 x1001 x1002 2).bind fun bt124 => (if (x3.length : Int) < (wrap64 (8 + bt124.1)) then (if x3.length < 8796093022208 then (spec_l1Cur_parcels.l0 k (x3 ++ [(⟨2, 5⟩ : S45)]) x1000 bt124.2.1 bt124.2.2) else (none)) else (some (x3, bt124.2.1, bt124.2.2)))
def spec_l1Cur_parcels.f (k : Nat) (s0_0 : List Int) (s0_1 : Int) (s0_2 : Int) : Option ((List (S45)) × Int × Int) := (spec_l1Cur_sureParcels.f k s0_0 s0_1 s0_2 5).bind fun bt101 => ((spec_l1Cur_pick.f s0_0 bt101.2.1 bt101.2.2 20).bind fun bt106 => (if bt106.1 = 0 then (some (([] : List (S45)), bt106.2.1, bt106.2.2)) else (if bt106.1 = 1 then ((spec_l1Cur_among.f s0_0 bt106.2.1 bt106.2.2 (([(-1), 0, 1, 100, 101, 4611686018427387904] : List Int))).bind fun bt112 => ((spec_l1Cur_among.f s0_0 bt112.2.1 bt112.2.2 (([(-1), 0, 1, 1000, 1001, 4611686018427387904] : List Int))).bind fun bt118 => (if bt101.1.length < 8796093022208 then (some ((bt101.1 ++ [(⟨bt112.1, bt118.1⟩ : S45)]), bt118.2.1, bt118.2.2)) else (none)))) else (if bt106.1 = 2 then (spec_l1Cur_parcels.l0 k bt101.1 s0_0 bt106.2.1 bt106.2.2) else (some (bt101.1, bt106.2.1, bt106.2.2))))))
theorem spec_l1Cur_parcels.calls (k : Nat) (g : Nat) (s0_0 : List Int) (s0_1 : Int) (s0_2 : Int) (r1 : List (S45)) (r2 : Int) (r3 : Int) (w0 w : World) (hI : IsS73 w0 w g s0_0 s0_1 s0_2) (hB : Below w0.heap.size w0 w) (h : spec_l1Cur_parcels.f k s0_0 s0_1 s0_2 = some (r1, r2, r3)) :
  Calls Try.prog 71 #[.pointer (some ⟨g, 0, none⟩)] w fun e w' => ∃ v0_ : Value, e = .returned (v0_) ∧ Kd.R k45 45 w' w.heap.size (fun _ => True) v0_ r1 ∧ IsS73 w0 w' g s0_0 r2 r3 ∧ Below w0.heap.size w0 w' ∧ KeepBut w w' g none := by
 have hu45 := Try.underlying45
 have HI0 := am hI
 have HK := am (KeepBut.refl w g none)
 have HL := am hB.size
 clear hI
 have HW0 := am hB.size
 have HB := am hB
 clear hB
 have H : ((spec_l1Cur_sureParcels.f k s0_0 s0_1 s0_2 5).bind fun bt101 => ((spec_l1Cur_pick.f s0_0 bt101.2.1 bt101.2.2 20).bind fun bt106 => (if bt106.1 = 0 then (some (([] : List (S45)), bt106.2.1, bt106.2.2)) else (if bt106.1 = 1 then ((spec_l1Cur_among.f s0_0 bt106.2.1 bt106.2.2 (([(-1), 0, 1, 100, 101, 4611686018427387904] : List Int))).bind fun bt112 => ((spec_l1Cur_among.f s0_0 bt112.2.1 bt112.2.2 (([(-1), 0, 1, 1000, 1001, 4611686018427387904] : List Int))).bind fun bt118 => (if bt101.1.length < 8796093022208 then (some ((bt101.1 ++ [(⟨bt112.1, bt118.1⟩ : S45)]), bt118.2.1, bt118.2.2)) else (none)))) else (if bt106.1 = 2 then (spec_l1Cur_parcels.l0 k bt101.1 s0_0 bt106.2.1 bt106.2.2) else (some (bt101.1, bt106.2.1, bt106.2.2))))))) = some (r1, r2, r3) := h
 clear h
 replace H := bH H
 obtain ⟨⟨t101, t104, t105⟩, A20, H⟩ := H
 replace H : ((spec_l1Cur_pick.f s0_0 t104 t105 20).bind fun bt106 => (if bt106.1 = 0 then (some (([] : List (S45)), bt106.2.1, bt106.2.2)) else (if bt106.1 = 1 then ((spec_l1Cur_among.f s0_0 bt106.2.1 bt106.2.2 (([(-1), 0, 1, 100, 101, 4611686018427387904] : List Int))).bind fun bt112 => ((spec_l1Cur_among.f s0_0 bt112.2.1 bt112.2.2 (([(-1), 0, 1, 1000, 1001, 4611686018427387904] : List Int))).bind fun bt118 => (if t101.length < 8796093022208 then (some ((t101 ++ [(⟨bt112.1, bt118.1⟩ : S45)]), bt118.2.1, bt118.2.2)) else (none)))) else (if bt106.1 = 2 then (spec_l1Cur_parcels.l0 k t101 s0_0 bt106.2.1 bt106.2.2) else (some (t101, bt106.2.1, bt106.2.2)))))) = some (r1, r2, r3) := H
 have A2 := am A20
 clear A20
 replace H := bH H
 obtain ⟨⟨t106, t107, t108⟩, A30, H⟩ := H
 replace H : (if t106 = 0 then (some (([] : List (S45)), t107, t108)) else (if t106 = 1 then ((spec_l1Cur_among.f s0_0 t107 t108 (([(-1), 0, 1, 100, 101, 4611686018427387904] : List Int))).bind fun bt112 => ((spec_l1Cur_among.f s0_0 bt112.2.1 bt112.2.2 (([(-1), 0, 1, 1000, 1001, 4611686018427387904] : List Int))).bind fun bt118 => (if t101.length < 8796093022208 then (some ((t101 ++ [(⟨bt112.1, bt118.1⟩ : S45)]), bt118.2.1, bt118.2.2)) else (none)))) else (if t106 = 2 then (spec_l1Cur_parcels.l0 k t101 s0_0 t107 t108) else (some (t101, t107, t108))))) = some (r1, r2, r3) := H
 have A3 := am A30
 clear A30
 by_cases c4 : t106 = 0
 ·rw [if_pos c4] at H
  have c4b0 : (t106 == 0) = true := beq_iff_eq.mpr c4
  have c4b1 : (t106 != 0) = false := bne_eq_false_iff_eq.mpr c4
  clear c4
  simp only [Option.some.injEq, Prod.mk.injEq] at H
  obtain ⟨rfl, rfl, rfl⟩ := H
  go_enter Try.func71, Try.ntmps71
  go_wp2_with (first | ((with_reducible refine gate_callee (f := 93) rfl ?_); refine uGo (some 5) Try.func93 #[.pointer (some ⟨g, 0, none⟩), .int .i64 5] ?_; (with_reducible refine (spec_l1Cur_sureParcels.calls k g s0_0 s0_1 s0_2 5 t101 t104 t105 w0 _ ?side1 ?side2 A2.out).mono ?_); (case side1 => exact uI); (case side2 => exact uW); rintro e w5 ⟨v102, rfl, ho0, hi, hb, hk⟩; refine ⟨_, rfl, ?_⟩; have HO103 := am (Kd.R_lower ho0 (keep_size (w := w) (g := g) (row := none) uV)); replace HK := am (KeepBut.trans uV hk (.inl rfl)); replace HB := am (hb); replace HI0 := am (hi); (try clear hb); (try clear hb2); (try clear hk); (try clear hi); (try clear ho0)) | ((with_reducible refine gate_callee (f := 94) rfl ?_); refine uGo (some 7) Try.func94 #[.pointer (some ⟨g, 0, none⟩), .int .i64 20] ?_; (with_reducible refine (spec_l1Cur_pick.calls g s0_0 t104 t105 20 t106 t107 t108 w0 _ ?side1 ?side2 A3.out).mono ?_); (case side1 => exact uI); (case side2 => exact uW); rintro e w6 ⟨rfl, hi, hb, hk⟩; refine ⟨_, rfl, ?_⟩; replace HO103 := am (Kd.R_mono (Kd.R_keep (IsS73.apart (show IsS73 w0 _ g s0_0 t104 t105 from by exact uI) (uR HO103) (by decide)) hk (fun _ h => h.2)) (fun _ h => h.1)); replace HK := am (KeepBut.trans uV hk (.inl rfl)); replace HB := am (hb); replace HI0 := am (hi); (try clear hb); (try clear hb2); (try clear hk); (try clear hi)))
  go_ret
  exact ⟨_, uA, uN, by exact uI, by exact uW, by exact uV⟩
 ·rw [if_neg c4] at H
  have c4b0 : (t106 == 0) = false := beq_eq_false_iff_ne.mpr c4
  have c4b1 : (t106 != 0) = true := bne_iff_ne.mpr c4
  by_cases c7 : t106 = 1
  ·rw [if_pos c7] at H
   have c7b0 : (t106 == 1) = true := beq_iff_eq.mpr c7
   have c7b1 : (t106 != 1) = false := bne_eq_false_iff_eq.mpr c7
   clear c7
   obtain ⟨y109, hy109⟩ : ∃ y_ : List Int, y_ = (([(-1), 0, 1, 100, 101, 4611686018427387904] : List Int)) := ⟨_, rfl⟩
   replace H : ((spec_l1Cur_among.f s0_0 t107 t108 y109).bind fun bt112 => ((spec_l1Cur_among.f s0_0 bt112.2.1 bt112.2.2 (([(-1), 0, 1, 1000, 1001, 4611686018427387904] : List Int))).bind fun bt118 => (if t101.length < 8796093022208 then (some ((t101 ++ [(⟨bt112.1, bt118.1⟩ : S45)]), bt118.2.1, bt118.2.2)) else (none)))) = some (r1, r2, r3) := by first | (rw [hy109]; with_reducible exact H) | (have H2_ := (Option.bind_some _ _).symm.trans H; rw [hy109]; with_reducible exact H2_) | (have H2_ := (Option.bind_some _ _).symm.trans H; with_reducible exact H2_) | with_reducible exact H | (rw [hy109]; exact H) | exact H
   have Ny109 := am hy109
   clear hy109
   replace H := bH H
   obtain ⟨⟨t112, t113, t114⟩, A80, H⟩ := H
   replace H : ((spec_l1Cur_among.f s0_0 t113 t114 (([(-1), 0, 1, 1000, 1001, 4611686018427387904] : List Int))).bind fun bt118 => (if t101.length < 8796093022208 then (some ((t101 ++ [(⟨t112, bt118.1⟩ : S45)]), bt118.2.1, bt118.2.2)) else (none))) = some (r1, r2, r3) := H
   have A8 := am A80
   clear A80
   obtain ⟨y115, hy115⟩ : ∃ y_ : List Int, y_ = (([(-1), 0, 1, 1000, 1001, 4611686018427387904] : List Int)) := ⟨_, rfl⟩
   replace H : ((spec_l1Cur_among.f s0_0 t113 t114 y115).bind fun bt118 => (if t101.length < 8796093022208 then (some ((t101 ++ [(⟨t112, bt118.1⟩ : S45)]), bt118.2.1, bt118.2.2)) else (none))) = some (r1, r2, r3) := by first | (rw [hy115]; with_reducible exact H) | (have H2_ := (Option.bind_some _ _).symm.trans H; rw [hy115]; with_reducible exact H2_) | (have H2_ := (Option.bind_some _ _).symm.trans H; with_reducible exact H2_) | with_reducible exact H | (rw [hy115]; exact H) | exact H
   have Ny115 := am hy115
   clear hy115
   replace H := bH H
   obtain ⟨⟨t118, t119, t120⟩, A90, H⟩ := H
   replace H : (if t101.length < 8796093022208 then (some ((t101 ++ [(⟨t112, t118⟩ : S45)]), t119, t120)) else (none)) = some (r1, r2, r3) := H
   have A9 := am A90
   clear A90
   by_cases c10 : t101.length < 8796093022208
   ·rw [if_pos c10] at H
    have LMc10 := am c10
    clear c10
    obtain ⟨y121, hy121⟩ : ∃ y_ : List (S45), y_ = (t101 ++ [(⟨t112, t118⟩ : S45)]) := ⟨_, rfl⟩
    replace H : (some (y121, t119, t120)) = some (r1, r2, r3) := by first | (rw [hy121]; with_reducible exact H) | (have H2_ := (Option.bind_some _ _).symm.trans H; rw [hy121]; with_reducible exact H2_) | (have H2_ := (Option.bind_some _ _).symm.trans H; with_reducible exact H2_) | with_reducible exact H | (rw [hy121]; exact H) | exact H
    have Ny121 := am hy121
    clear hy121
    simp only [Option.some.injEq, Prod.mk.injEq] at H
    obtain ⟨rfl, rfl, rfl⟩ := H
    go_enter Try.func71, Try.ntmps71
    go_wp2_with (first | ((with_reducible refine gate_callee (f := 93) rfl ?_); refine uGo (some 5) Try.func93 #[.pointer (some ⟨g, 0, none⟩), .int .i64 5] ?_; (with_reducible refine (spec_l1Cur_sureParcels.calls k g s0_0 s0_1 s0_2 5 t101 t104 t105 w0 _ ?side1 ?side2 A2.out).mono ?_); (case side1 => exact uI); (case side2 => exact uW); rintro e w11 ⟨v102, rfl, ho0, hi, hb, hk⟩; refine ⟨_, rfl, ?_⟩; have HO103 := am (Kd.R_lower ho0 (keep_size (w := w) (g := g) (row := none) uV)); replace HK := am (KeepBut.trans uV hk (.inl rfl)); replace HB := am (hb); replace HI0 := am (hi); (try clear hb); (try clear hb2); (try clear hk); (try clear hi); (try clear ho0)) | ((with_reducible refine gate_callee (f := 94) rfl ?_); refine uGo (some 7) Try.func94 #[.pointer (some ⟨g, 0, none⟩), .int .i64 20] ?_; (with_reducible refine (spec_l1Cur_pick.calls g s0_0 t104 t105 20 t106 t107 t108 w0 _ ?side1 ?side2 A3.out).mono ?_); (case side1 => exact uI); (case side2 => exact uW); rintro e w12 ⟨rfl, hi, hb, hk⟩; refine ⟨_, rfl, ?_⟩; replace HO103 := am (Kd.R_mono (Kd.R_keep (IsS73.apart (show IsS73 w0 _ g s0_0 t104 t105 from by exact uI) (uR HO103) (by decide)) hk (fun _ h => h.2)) (fun _ h => h.1)); replace HK := am (KeepBut.trans uV hk (.inl rfl)); replace HB := am (hb); replace HI0 := am (hi); (try clear hb); (try clear hb2); (try clear hk); (try clear hi)) | ((with_reducible refine gate_dst (N := 14) rfl ?_); refine Kd.R_lit (Kd.int .i64) _ 3 ?hg (N := 14) ?hd (xs := ([(-1), 0, 1, 100, 101, 4611686018427387904] : List Int)) (inner := [.int .i64 (-1), .int .i64 0, .int .i64 1, .int .i64 100, .int .i64 101, .int .i64 4611686018427387904]) (ok := fun _ => True) (okp := fun _ => True) ?hr ?hp (fun _ hk => hk) trivial (Below.refl _ _) (Nat.le_refl _) (by simp) ?_; (case hd => rfl); (case hg => rfl); (case hr => first | (go_simp; done) | (go_simp; rfl)); (case hp => exact (Reps.one (show Kd.M (Kd.int .i64) _ _ _ (-1) [.int .i64 (-1)] from rfl) (Reps.one (show Kd.M (Kd.int .i64) _ _ _ 0 [.int .i64 0] from rfl) (Reps.one (show Kd.M (Kd.int .i64) _ _ _ 1 [.int .i64 1] from rfl) (Reps.one (show Kd.M (Kd.int .i64) _ _ _ 100 [.int .i64 100] from rfl) (Reps.one (show Kd.M (Kd.int .i64) _ _ _ 101 [.int .i64 101] from rfl) (Reps.one (show Kd.M (Kd.int .i64) _ _ _ 4611686018427387904 [.int .i64 4611686018427387904] from rfl) (Reps.none _ _)))))))); intro v110 w13 ho14 hb hg_ hnew_; clear hg_ hnew_; (first | rw [← Ny109.out] at ho14 | (simp only [Int.reduceToNat] at ho14; rw [← Ny109.out] at ho14)); have HO111 := am (Kd.R_lower ho14 (keep_size (w := w) (g := g) (row := none) uV)); replace HO103 := am (Kd.R_below (uR HO103) hb); replace HI0 := am (IsS73.below uI hb); replace HK := am (KeepBut.trans uV (KeepBut.of_below hb g none) (.inl rfl)); replace HB := uS hb; clear hb ho14; obtain ⟨Ao15, co15, eo15⟩ := Kd.R_slice HO111.out; subst eo15) | ((with_reducible refine gate_callee (f := 95) rfl ?_); refine uGo (some 15) Try.func95 #[.pointer (some ⟨g, 0, none⟩), .slice Ao15 y109.length co15] ?_; (with_reducible refine (spec_l1Cur_among.calls g s0_0 t107 t108 _ _ y109 t112 t113 t114 w0 _ ?side1 ?side2 ?side3 ?side4 ?side5 A8.out).mono ?_); (case side1 => exact uI); (case side2 => exact uW); (case side3 => repeat (first | exact (Kd.R_reads' HO111.out).2.2 | (with_reducible refine cA ?_ _) | (with_reducible refine cN ?_ _) | (with_reducible refine cD ?_))); (case side4 => exact (Kd.R_reads' HO111.out).2.1); (case side5 => exact far_slice (IsS73.own_ne HI0.out HO111.out (by decide))); rintro e w16 ⟨rfl, hi, hb, hk⟩; refine ⟨_, rfl, ?_⟩; replace HO103 := am (Kd.R_mono (Kd.R_keep (IsS73.apart (show IsS73 w0 _ g s0_0 t107 t108 from by exact uI) (uR HO103) (by decide)) hk (fun _ h => h.2)) (fun _ h => h.1)); replace HO111 := am (Kd.R_mono (Kd.R_keep (IsS73.apart (show IsS73 w0 _ g s0_0 t107 t108 from by exact uI) (uR HO111) (by decide)) hk (fun _ h => h.2)) (fun _ h => h.1)); replace HK := am (KeepBut.trans uV hk (.inl rfl)); replace HB := am (hb); replace HI0 := am (hi); (try clear hb); (try clear hb2); (try clear hk); (try clear hi)) | ((with_reducible refine gate_dst (N := 17) rfl ?_); refine Kd.R_lit (Kd.int .i64) _ 3 ?hg (N := 17) ?hd (xs := ([(-1), 0, 1, 1000, 1001, 4611686018427387904] : List Int)) (inner := [.int .i64 (-1), .int .i64 0, .int .i64 1, .int .i64 1000, .int .i64 1001, .int .i64 4611686018427387904]) (ok := fun _ => True) (okp := fun _ => True) ?hr ?hp (fun _ hk => hk) trivial (Below.refl _ _) (Nat.le_refl _) (by simp) ?_; (case hd => rfl); (case hg => rfl); (case hr => first | (go_simp; done) | (go_simp; rfl)); (case hp => exact (Reps.one (show Kd.M (Kd.int .i64) _ _ _ (-1) [.int .i64 (-1)] from rfl) (Reps.one (show Kd.M (Kd.int .i64) _ _ _ 0 [.int .i64 0] from rfl) (Reps.one (show Kd.M (Kd.int .i64) _ _ _ 1 [.int .i64 1] from rfl) (Reps.one (show Kd.M (Kd.int .i64) _ _ _ 1000 [.int .i64 1000] from rfl) (Reps.one (show Kd.M (Kd.int .i64) _ _ _ 1001 [.int .i64 1001] from rfl) (Reps.one (show Kd.M (Kd.int .i64) _ _ _ 4611686018427387904 [.int .i64 4611686018427387904] from rfl) (Reps.none _ _)))))))); intro v116 w17 ho18 hb hg_ hnew_; clear hg_ hnew_; (first | rw [← Ny115.out] at ho18 | (simp only [Int.reduceToNat] at ho18; rw [← Ny115.out] at ho18)); have HO117 := am (Kd.R_lower (Kd.R_new' ho18 (Kd.R_lt (uR HO111))) (keep_size (w := w) (g := g) (row := none) uV)); replace HO103 := am (Kd.R_below (uR HO103) hb); replace HO111 := am (Kd.R_elder' (uR HO111) (Kd.R_base ho18) hb); replace HI0 := am (IsS73.below uI hb); replace HK := am (KeepBut.trans uV (KeepBut.of_below hb g none) (.inl rfl)); replace HB := uS hb; clear hb ho18; obtain ⟨Ao19, co19, eo19⟩ := Kd.R_slice HO117.out; subst eo19) | ((with_reducible refine gate_callee (f := 95) rfl ?_); refine uGo (some 18) Try.func95 #[.pointer (some ⟨g, 0, none⟩), .slice Ao19 y115.length co19] ?_; (with_reducible refine (spec_l1Cur_among.calls g s0_0 t113 t114 _ _ y115 t118 t119 t120 w0 _ ?side1 ?side2 ?side3 ?side4 ?side5 A9.out).mono ?_); (case side1 => exact uI); (case side2 => exact uW); (case side3 => repeat (first | exact (Kd.R_reads' HO117.out).2.2 | (with_reducible refine cA ?_ _) | (with_reducible refine cN ?_ _) | (with_reducible refine cD ?_))); (case side4 => exact (Kd.R_reads' HO117.out).2.1); (case side5 => exact far_slice (IsS73.own_ne HI0.out HO117.out (by decide))); rintro e w20 ⟨rfl, hi, hb, hk⟩; refine ⟨_, rfl, ?_⟩; replace HO103 := am (Kd.R_mono (Kd.R_keep (IsS73.apart (show IsS73 w0 _ g s0_0 t113 t114 from by exact uI) (uR HO103) (by decide)) hk (fun _ h => h.2)) (fun _ h => h.1)); replace HO111 := am (Kd.R_mono (Kd.R_keep (IsS73.apart (show IsS73 w0 _ g s0_0 t113 t114 from by exact uI) (uR HO111) (by decide)) hk (fun _ h => h.2)) (fun _ h => h.1)); replace HO117 := am (Kd.R_mono (Kd.R_keep (IsS73.apart (show IsS73 w0 _ g s0_0 t113 t114 from by exact uI) (uR HO117) (by decide)) hk (fun _ h => h.2)) (fun _ h => h.1)); replace HK := am (KeepBut.trans uV hk (.inl rfl)); replace HB := am (hb); replace HI0 := am (hi); (try clear hb); (try clear hb2); (try clear hk); (try clear hi)) | ((with_reducible refine gate_builtin (b := .append) (xs := #[.tmp 12, .tmp 20]) rfl ?_); at_builtin; refine Kd.R_append k45 w.heap.size rfl (.tmp 12) (.tmp 20) 24 45 (.agg #[(.int .i64 0), (.int .i64 0)]) 16 rfl Try.underlying24 info45 rfl (by decide) (by omega) v102 t101 (⟨t112, t118⟩ : S45) [.int .i64 t112, .int .i64 t118] (fun _ => True) (fun _ => False) rfl rfl ?aP (fun _ hk => hk.elim) ?aF ?aO (Below.refl _ _) ?aS ?aL ?_; (case aP => exact k45_mkM _ _ _ (⟨t112, t118⟩ : S45)); (case aF => exact (fun _ _ => trivial)); (case aO => exact (uR HO103)); (case aS => exact (keep_size (w := w) (g := g) (row := none) uV)); (case aL => have := LMc10.out; omega); intro v122 w21 ho hb hg hat; rw [← Ny121.out] at ho; have HO123 := am (ho); replace HI0 := am (IsS73.grown uI hg (IsS73.own_ne HI0.out HO103.out (by decide))); replace HO111 := am (Kd.R_over' (uR HO111) (Kd.R_typed (uR HO103)) (by decide) hg); replace HO117 := am (Kd.R_over' (uR HO117) (Kd.R_typed (uR HO103)) (by decide) hg); replace HB := am (below_weaken uW HL.out hb); replace HK := am (KeepBut.trans uV (KeepBut.of_grown hg g) (Kd.R_base2 HO103.out)); clear HO103; clear ho hb hg hat))
    go_ret
    exact ⟨_, uA, by (with_reducible repeat (first | apply rA | apply rN | apply rD)); exact HO123.out, by exact uI, by exact uW, by exact uV⟩
   ·rw [if_neg c10] at H
    exact absurd H (by simp)
  ·rw [if_neg c7] at H
   have c7b0 : (t106 == 1) = false := beq_eq_false_iff_ne.mpr c7
   have c7b1 : (t106 != 1) = true := bne_iff_ne.mpr c7
   by_cases c22 : t106 = 2
   ·rw [if_pos c22] at H
    have c22b0 : (t106 == 2) = true := beq_iff_eq.mpr c22
    have c22b1 : (t106 != 2) = false := bne_eq_false_iff_eq.mpr c22
    clear c22
    have H' := am H
    clear H
    go_enter Try.func71, Try.ntmps71
    go_wp2_with (first | ((with_reducible refine gate_callee (f := 93) rfl ?_); refine uGo (some 5) Try.func93 #[.pointer (some ⟨g, 0, none⟩), .int .i64 5] ?_; (with_reducible refine (spec_l1Cur_sureParcels.calls k g s0_0 s0_1 s0_2 5 t101 t104 t105 w0 _ ?side1 ?side2 A2.out).mono ?_); (case side1 => exact uI); (case side2 => exact uW); rintro e w23 ⟨v102, rfl, ho0, hi, hb, hk⟩; refine ⟨_, rfl, ?_⟩; have HO103 := am (Kd.R_lower ho0 (keep_size (w := w) (g := g) (row := none) uV)); replace HK := am (KeepBut.trans uV hk (.inl rfl)); replace HB := am (hb); replace HI0 := am (hi); (try clear hb); (try clear hb2); (try clear hk); (try clear hi); (try clear ho0)) | ((with_reducible refine gate_callee (f := 94) rfl ?_); refine uGo (some 7) Try.func94 #[.pointer (some ⟨g, 0, none⟩), .int .i64 20] ?_; (with_reducible refine (spec_l1Cur_pick.calls g s0_0 t104 t105 20 t106 t107 t108 w0 _ ?side1 ?side2 A3.out).mono ?_); (case side1 => exact uI); (case side2 => exact uW); rintro e w24 ⟨rfl, hi, hb, hk⟩; refine ⟨_, rfl, ?_⟩; replace HO103 := am (Kd.R_mono (Kd.R_keep (IsS73.apart (show IsS73 w0 _ g s0_0 t104 t105 from by exact uI) (uR HO103) (by decide)) hk (fun _ h => h.2)) (fun _ h => h.1)); replace HK := am (KeepBut.trans uV hk (.inl rfl)); replace HB := am (hb); replace HI0 := am (hi); (try clear hb); (try clear hb2); (try clear hk); (try clear hi)))
    go_loopg [3] k (fun kq v3 w' => ∃ (x3_1 : List (S45)) (x1001_1 : Int) (x1002_1 : Int), Aside0 (spec_l1Cur_parcels.l0 kq x3_1 s0_0 x1001_1 x1002_1 = some (r1, r2, r3)) ∧ Aside0 (kq ≤ k) ∧ Aside0 (Kd.R k45 45 w' w.heap.size (fun _ => True) v3 x3_1) ∧ Aside0 (IsS73 w0 w' g s0_0 x1001_1 x1002_1) ∧ Aside0 (KeepBut w w' g none) ∧ Aside0 (Below w0.heap.size w0 w'))
    case atStart => exact ⟨(t101), (t107), (t108), H', ⟨Nat.le_refl _⟩, ⟨by (with_reducible repeat (first | apply rA | apply rN | apply rD)); exact HO103.out⟩, ⟨by exact uI⟩, ⟨by exact uV⟩, ⟨by exact uW⟩⟩
    case round =>
     clear H'
     try clear c1
     try clear c2
     try clear p2
     try clear c4
     try clear c4b0
     try clear c4b1
     try clear c7
     try clear c7b0
     try clear c7b1
     try clear c9
     try clear c10
     try clear c22
     try clear c22b0
     try clear c22b1
     obtain ⟨x3_1, x1001_1, x1002_1, HA, HK1, HO_3, HI0, HK, HB⟩ := hrel
     cases gk with
     | zero => exact absurd HA.out (by simp [spec_l1Cur_parcels.l0])
     | succ k1 =>
      have H := HA.out
      clear HA
      simp only [spec_l1Cur_parcels.l0] at H
      replace H := bH H
      obtain ⟨⟨t124, t125, t126⟩, A250, H⟩ := H
      replace H : (if (x3_1.length : Int) < (wrap64 (8 + t124)) then (if x3_1.length < 8796093022208 then (spec_l1Cur_parcels.l0 k1 (x3_1 ++ [(⟨2, 5⟩ : S45)]) s0_0 t125 t126) else (none)) else (some (x3_1, t125, t126))) = some (r1, r2, r3) := H
      have A25 := am A250
      clear A250
      by_cases c26 : (x3_1.length : Int) < (wrap64 (8 + t124))
      ·rw [if_pos c26] at H
       have c26b0 : decide ((x3_1.length : Int) < (wrap64 (8 + t124))) = true := decide_eq_true c26
       clear c26
       by_cases c27 : x3_1.length < 8796093022208
       ·rw [if_pos c27] at H
        have LMc27 := am c27
        clear c27
        obtain ⟨y127, hy127⟩ : ∃ y_ : List (S45), y_ = (x3_1 ++ [(⟨2, 5⟩ : S45)]) := ⟨_, rfl⟩
        replace H : (spec_l1Cur_parcels.l0 k1 y127 s0_0 t125 t126) = some (r1, r2, r3) := by first | (rw [hy127]; with_reducible exact H) | (have H2_ := (Option.bind_some _ _).symm.trans H; rw [hy127]; with_reducible exact H2_) | (have H2_ := (Option.bind_some _ _).symm.trans H; with_reducible exact H2_) | with_reducible exact H | (rw [hy127]; exact H) | exact H
        have Ny127 := am hy127
        clear hy127
        have H' := am H
        clear H
        obtain ⟨Ao28, co28, eo28⟩ := Kd.R_slice HO_3.out
        subst eo28
        go_wp2_with (first | ((with_reducible refine gate_callee (f := 94) rfl ?_); refine uGo (some 27) Try.func94 #[.pointer (some ⟨g, 0, none⟩), .int .i64 2] ?_; (with_reducible refine (spec_l1Cur_pick.calls g s0_0 x1001_1 x1002_1 2 t124 t125 t126 w0 _ ?side1 ?side2 A25.out).mono ?_); (case side1 => exact uI); (case side2 => exact uW); rintro e w29 ⟨rfl, hi, hb, hk⟩; refine ⟨_, rfl, ?_⟩; replace HO_3 := am (Kd.R_mono (Kd.R_keep (IsS73.apart (show IsS73 w0 _ g s0_0 x1001_1 x1002_1 from by exact uI) (uR HO_3) (by decide)) hk (fun _ h => h.2)) (fun _ h => h.1)); replace HK := am (KeepBut.trans uV hk (.inl rfl)); replace HB := am (hb); replace HI0 := am (hi); (try clear hb); (try clear hb2); (try clear hk); (try clear hi)) | ((with_reducible refine gate_builtin (b := .append) (xs := #[.tmp 30, .tmp 32]) rfl ?_); at_builtin; refine Kd.R_append k45 w.heap.size rfl (.tmp 30) (.tmp 32) 24 45 (.agg #[(.int .i64 0), (.int .i64 0)]) 16 rfl Try.underlying24 info45 rfl (by decide) (by omega) (.slice Ao28 x3_1.length co28) x3_1 (⟨2, 5⟩ : S45) [.int .i64 2, .int .i64 5] (fun _ => True) (fun _ => False) rfl rfl ?aP (fun _ hk => hk.elim) ?aF ?aO (Below.refl _ _) ?aS ?aL ?_; (case aP => exact k45_mkM _ _ _ (⟨2, 5⟩ : S45)); (case aF => exact (fun _ _ => trivial)); (case aO => exact (uR HO_3)); (case aS => exact (keep_size (w := w) (g := g) (row := none) uV)); (case aL => have := LMc27.out; omega); intro v128 w30 ho hb hg hat; rw [← Ny127.out] at ho; have HO129 := am (ho); replace HI0 := am (IsS73.grown uI hg (IsS73.own_ne HI0.out HO_3.out (by decide))); replace HB := am (below_weaken uW HL.out hb); replace HK := am (KeepBut.trans uV (KeepBut.of_grown hg g) (Kd.R_base2 HO_3.out)); clear HO_3; clear ho hb hg hat))
        go_roundg k1
        case measure => have := HK1.out; omega
        case rel => exact ⟨(y127), (t125), (t126), H', ⟨by have := HK1.out; omega⟩, ⟨by (with_reducible repeat (first | apply rA | apply rN | apply rD)); exact HO129.out⟩, ⟨by exact uI⟩, ⟨by exact uV⟩, ⟨by exact uW⟩⟩
       ·rw [if_neg c27] at H
        exact absurd H (by simp)
      ·rw [if_neg c26] at H
       have c26b0 : decide ((x3_1.length : Int) < (wrap64 (8 + t124))) = false := decide_eq_false c26
       clear c26
       simp only [Option.some.injEq, Prod.mk.injEq] at H
       obtain ⟨rfl, rfl, rfl⟩ := H
       obtain ⟨Ao31, co31, eo31⟩ := Kd.R_slice HO_3.out
       subst eo31
       go_wp2_with (first | ((with_reducible refine gate_callee (f := 94) rfl ?_); refine uGo (some 27) Try.func94 #[.pointer (some ⟨g, 0, none⟩), .int .i64 2] ?_; (with_reducible refine (spec_l1Cur_pick.calls g s0_0 x1001_1 x1002_1 2 t124 t125 t126 w0 _ ?side1 ?side2 A25.out).mono ?_); (case side1 => exact uI); (case side2 => exact uW); rintro e w32 ⟨rfl, hi, hb, hk⟩; refine ⟨_, rfl, ?_⟩; replace HO_3 := am (Kd.R_mono (Kd.R_keep (IsS73.apart (show IsS73 w0 _ g s0_0 x1001_1 x1002_1 from by exact uI) (uR HO_3) (by decide)) hk (fun _ h => h.2)) (fun _ h => h.1)); replace HK := am (KeepBut.trans uV hk (.inl rfl)); replace HB := am (hb); replace HI0 := am (hi); (try clear hb); (try clear hb2); (try clear hk); (try clear hi)))
       go_ret
       exact ⟨_, uA, by (with_reducible repeat (first | apply rA | apply rN | apply rD)); exact HO_3.out, by exact uI, by exact uW, by exact uV⟩
   ·rw [if_neg c22] at H
    have c22b0 : (t106 == 2) = false := beq_eq_false_iff_ne.mpr c22
    have c22b1 : (t106 != 2) = true := bne_iff_ne.mpr c22
    simp only [Option.some.injEq, Prod.mk.injEq] at H
    obtain ⟨rfl, rfl, rfl⟩ := H
    go_enter Try.func71, Try.ntmps71
    go_wp2_with (first | ((with_reducible refine gate_callee (f := 93) rfl ?_); refine uGo (some 5) Try.func93 #[.pointer (some ⟨g, 0, none⟩), .int .i64 5] ?_; (with_reducible refine (spec_l1Cur_sureParcels.calls k g s0_0 s0_1 s0_2 5 t101 t104 t105 w0 _ ?side1 ?side2 A2.out).mono ?_); (case side1 => exact uI); (case side2 => exact uW); rintro e w33 ⟨v102, rfl, ho0, hi, hb, hk⟩; refine ⟨_, rfl, ?_⟩; have HO103 := am (Kd.R_lower ho0 (keep_size (w := w) (g := g) (row := none) uV)); replace HK := am (KeepBut.trans uV hk (.inl rfl)); replace HB := am (hb); replace HI0 := am (hi); (try clear hb); (try clear hb2); (try clear hk); (try clear hi); (try clear ho0)) | ((with_reducible refine gate_callee (f := 94) rfl ?_); refine uGo (some 7) Try.func94 #[.pointer (some ⟨g, 0, none⟩), .int .i64 20] ?_; (with_reducible refine (spec_l1Cur_pick.calls g s0_0 t104 t105 20 t106 t107 t108 w0 _ ?side1 ?side2 A3.out).mono ?_); (case side1 => exact uI); (case side2 => exact uW); rintro e w34 ⟨rfl, hi, hb, hk⟩; refine ⟨_, rfl, ?_⟩; replace HO103 := am (Kd.R_mono (Kd.R_keep (IsS73.apart (show IsS73 w0 _ g s0_0 t104 t105 from by exact uI) (uR HO103) (by decide)) hk (fun _ h => h.2)) (fun _ h => h.1)); replace HK := am (KeepBut.trans uV hk (.inl rfl)); replace HB := am (hb); replace HI0 := am (hi); (try clear hb); (try clear hb2); (try clear hk); (try clear hi)))
    go_ret
    exact ⟨_, uA, by (with_reducible repeat (first | apply rA | apply rN | apply rD)); exact HO103.out, by exact uI, by exact uW, by exact uV⟩
def spec_l1Cur_bag.f (s0_0 : List Int) (s0_1 : Int) (s0_2 : Int) : Option (Int × Int × Int) := (spec_l1Cur_among.f s0_0 s0_1 s0_2 (([9, 9, 10, 12, 12, 15, 20, 6, 4, 1, 0, 100, 10000, 10001, (-1)] : List Int))).bind fun bt104 => (some (bt104.1, bt104.2.1, bt104.2.2))
theorem spec_l1Cur_bag.calls (g : Nat) (s0_0 : List Int) (s0_1 : Int) (s0_2 : Int) (r1 : Int) (r2 : Int) (r3 : Int) (w0 w : World) (hI : IsS73 w0 w g s0_0 s0_1 s0_2) (hB : Below w0.heap.size w0 w) (h : spec_l1Cur_bag.f s0_0 s0_1 s0_2 = some (r1, r2, r3)) :
  Calls Try.prog 72 #[.pointer (some ⟨g, 0, none⟩)] w fun e w' => e = .returned (.int .i64 r1) ∧ IsS73 w0 w' g s0_0 r2 r3 ∧ Below w0.heap.size w0 w' ∧ KeepBut w w' g none := by
 have HI0 := am hI
 have HK := am (KeepBut.refl w g none)
 have HL := am hB.size
 clear hI
 have HW0 := am hB.size
 have HB := am hB
 clear hB
 have H : ((spec_l1Cur_among.f s0_0 s0_1 s0_2 (([9, 9, 10, 12, 12, 15, 20, 6, 4, 1, 0, 100, 10000, 10001, (-1)] : List Int))).bind fun bt104 => (some (bt104.1, bt104.2.1, bt104.2.2))) = some (r1, r2, r3) := h
 clear h
 obtain ⟨y101, hy101⟩ : ∃ y_ : List Int, y_ = (([9, 9, 10, 12, 12, 15, 20, 6, 4, 1, 0, 100, 10000, 10001, (-1)] : List Int)) := ⟨_, rfl⟩
 replace H : ((spec_l1Cur_among.f s0_0 s0_1 s0_2 y101).bind fun bt104 => (some (bt104.1, bt104.2.1, bt104.2.2))) = some (r1, r2, r3) := by first | (rw [hy101]; with_reducible exact H) | (have H2_ := (Option.bind_some _ _).symm.trans H; rw [hy101]; with_reducible exact H2_) | (have H2_ := (Option.bind_some _ _).symm.trans H; with_reducible exact H2_) | with_reducible exact H | (rw [hy101]; exact H) | exact H
 have Ny101 := am hy101
 clear hy101
 replace H := bH H
 obtain ⟨⟨t104, t105, t106⟩, A20, H⟩ := H
 replace H : (some (t104, t105, t106)) = some (r1, r2, r3) := H
 have A2 := am A20
 clear A20
 simp only [Option.some.injEq, Prod.mk.injEq] at H
 obtain ⟨rfl, rfl, rfl⟩ := H
 go_enter Try.func72, Try.ntmps72
 go_wp2_with (first | ((with_reducible refine gate_dst (N := 4) rfl ?_); refine Kd.R_lit (Kd.int .i64) _ 3 ?hg (N := 4) ?hd (xs := ([9, 9, 10, 12, 12, 15, 20, 6, 4, 1, 0, 100, 10000, 10001, (-1)] : List Int)) (inner := [.int .i64 9, .int .i64 9, .int .i64 10, .int .i64 12, .int .i64 12, .int .i64 15, .int .i64 20, .int .i64 6, .int .i64 4, .int .i64 1, .int .i64 0, .int .i64 100, .int .i64 10000, .int .i64 10001, .int .i64 (-1)]) (ok := fun _ => True) (okp := fun _ => True) ?hr ?hp (fun _ hk => hk) trivial (Below.refl _ _) (Nat.le_refl _) (by simp) ?_; (case hd => rfl); (case hg => rfl); (case hr => first | (go_simp; done) | (go_simp; rfl)); (case hp => exact (Reps.one (show Kd.M (Kd.int .i64) _ _ _ 9 [.int .i64 9] from rfl) (Reps.one (show Kd.M (Kd.int .i64) _ _ _ 9 [.int .i64 9] from rfl) (Reps.one (show Kd.M (Kd.int .i64) _ _ _ 10 [.int .i64 10] from rfl) (Reps.one (show Kd.M (Kd.int .i64) _ _ _ 12 [.int .i64 12] from rfl) (Reps.one (show Kd.M (Kd.int .i64) _ _ _ 12 [.int .i64 12] from rfl) (Reps.one (show Kd.M (Kd.int .i64) _ _ _ 15 [.int .i64 15] from rfl) (Reps.one (show Kd.M (Kd.int .i64) _ _ _ 20 [.int .i64 20] from rfl) (Reps.one (show Kd.M (Kd.int .i64) _ _ _ 6 [.int .i64 6] from rfl) (Reps.one (show Kd.M (Kd.int .i64) _ _ _ 4 [.int .i64 4] from rfl) (Reps.one (show Kd.M (Kd.int .i64) _ _ _ 1 [.int .i64 1] from rfl) (Reps.one (show Kd.M (Kd.int .i64) _ _ _ 0 [.int .i64 0] from rfl) (Reps.one (show Kd.M (Kd.int .i64) _ _ _ 100 [.int .i64 100] from rfl) (Reps.one (show Kd.M (Kd.int .i64) _ _ _ 10000 [.int .i64 10000] from rfl) (Reps.one (show Kd.M (Kd.int .i64) _ _ _ 10001 [.int .i64 10001] from rfl) (Reps.one (show Kd.M (Kd.int .i64) _ _ _ (-1) [.int .i64 (-1)] from rfl) (Reps.none _ _))))))))))))))))); intro v102 w3 ho4 hb hg_ hnew_; clear hg_ hnew_; (first | rw [← Ny101.out] at ho4 | (simp only [Int.reduceToNat] at ho4; rw [← Ny101.out] at ho4)); have HO103 := am (Kd.R_lower ho4 (keep_size (w := w) (g := g) (row := none) uV)); replace HI0 := am (IsS73.below uI hb); replace HK := am (KeepBut.trans uV (KeepBut.of_below hb g none) (.inl rfl)); replace HB := uS hb; clear hb ho4; obtain ⟨Ao5, co5, eo5⟩ := Kd.R_slice HO103.out; subst eo5) | ((with_reducible refine gate_callee (f := 95) rfl ?_); refine uGo (some 5) Try.func95 #[.pointer (some ⟨g, 0, none⟩), .slice Ao5 y101.length co5] ?_; (with_reducible refine (spec_l1Cur_among.calls g s0_0 s0_1 s0_2 _ _ y101 t104 t105 t106 w0 _ ?side1 ?side2 ?side3 ?side4 ?side5 A2.out).mono ?_); (case side1 => exact uI); (case side2 => exact uW); (case side3 => repeat (first | exact (Kd.R_reads' HO103.out).2.2 | (with_reducible refine cA ?_ _) | (with_reducible refine cN ?_ _) | (with_reducible refine cD ?_))); (case side4 => exact (Kd.R_reads' HO103.out).2.1); (case side5 => exact far_slice (IsS73.own_ne HI0.out HO103.out (by decide))); rintro e w6 ⟨rfl, hi, hb, hk⟩; refine ⟨_, rfl, ?_⟩; replace HO103 := am (Kd.R_mono (Kd.R_keep (IsS73.apart (show IsS73 w0 _ g s0_0 s0_1 s0_2 from by exact uI) (uR HO103) (by decide)) hk (fun _ h => h.2)) (fun _ h => h.1)); replace HK := am (KeepBut.trans uV hk (.inl rfl)); replace HB := am (hb); replace HI0 := am (hi); (try clear hb); (try clear hb2); (try clear hk); (try clear hi)))
 go_ret
 exact ⟨uA, by exact uI, by exact uW, by exact uV⟩
def spec_DrawFewestTrips.f (k : Nat) (l0 : List Int) : Option ((List (S45)) × Int) := (spec_l1Cur_parcels.f k l0 0 0).bind fun bt102 => ((spec_l1Cur_bag.f l0 bt102.2.1 bt102.2.2).bind fun bt107 => (some (bt102.1, bt107.1)))
theorem spec_DrawFewestTrips.calls (k : Nat) (A0 : Option Addr) (c0 : Nat) (l0 : List Int) (r1 : List (S45)) (r2 : Int) (w : World) (hr0 : Kd.C (Kd.int .u8) w A0 l0.length l0) (hc0 : l0.length ≤ c0) (h : spec_DrawFewestTrips.f k l0 = some (r1, r2)) :
  Calls Try.prog 40 #[.slice A0 l0.length c0] w fun e w' => ∃ v0_ : Value, e = .returned (.tuple #[v0_, .int .i64 r2]) ∧ Kd.R k45 45 w' w.heap.size (fun _ => True) v0_ r1 ∧ Below w.heap.size w w' := by
 have hu73 := Try.underlying73
 have HR0 := am hr0
 have HC0 := am hc0
 clear hr0 hc0
 have HB := am (Below.refl w.heap.size w)
 have H : ((spec_l1Cur_parcels.f k l0 0 0).bind fun bt102 => ((spec_l1Cur_bag.f l0 bt102.2.1 bt102.2.2).bind fun bt107 => (some (bt102.1, bt107.1)))) = some (r1, r2) := h
 clear h
 replace H := bH H
 obtain ⟨⟨t102, t105, t106⟩, A20, H⟩ := H
 replace H : ((spec_l1Cur_bag.f l0 t105 t106).bind fun bt107 => (some (t102, bt107.1))) = some (r1, r2) := H
 have A2 := am A20
 clear A20
 replace H := bH H
 obtain ⟨⟨t107, t108, t109⟩, A30, H⟩ := H
 replace H : (some (t102, t107)) = some (r1, r2) := H
 have A3 := am A30
 clear A30
 simp only [Option.some.injEq, Prod.mk.injEq] at H
 obtain ⟨rfl, rfl⟩ := H
 go_enter Try.func40, Try.ntmps40
 go_wp2_with (first | ((with_reducible refine gate_dst (N := 7) rfl ?_); refine uX (N := 7) (cs := #[.slice A0 l0.length c0, .int .i64 0, .int .u64 0]) (t := 73) ?_; intro gb101 hg w4 hbox hb; have BK101 := am (hbox); have GW101 := uE hg; have GE101 := GW101; replace HB := uS hb; clear hb hbox hg) | ((with_reducible refine gate_callee (f := 71) rfl ?_); refine uGo (some 9) Try.func71 #[.pointer (some ⟨gb101, 0, none⟩)] ?_; (with_reducible refine (spec_l1Cur_parcels.calls k gb101 l0 0 0 t102 t105 t106 w _ ?side1 ?side2 A2.out).mono ?_); (case side1 => exact ⟨_, _, by (with_reducible repeat (first | refine bN ?_ _ | refine bD ?_ | refine bA ?_ _)); exact BK101.out, GE101.out, HR0.out⟩); (case side2 => exact uW); rintro e w5 ⟨v103, rfl, ho0, hi, hb, hk⟩; refine ⟨_, rfl, ?_⟩; have HO104 := am (Kd.R_lower ho0 (below_size uW)); have HI101 := am (hi); replace HB := am (hb); clear BK101; (try clear hb); (try clear hb2); (try clear hk); (try clear hi); (try clear ho0)) | ((with_reducible refine gate_callee (f := 72) rfl ?_); refine uGo (some 11) Try.func72 #[.pointer (some ⟨gb101, 0, none⟩)] ?_; (with_reducible refine (spec_l1Cur_bag.calls gb101 l0 t105 t106 t107 t108 t109 w _ ?side1 ?side2 A3.out).mono ?_); (case side1 => exact uI); (case side2 => exact uW); rintro e w6 ⟨rfl, hi, hb, hk⟩; refine ⟨_, rfl, ?_⟩; replace HO104 := am (Kd.R_mono (Kd.R_keep (IsS73.apart (show IsS73 w _ gb101 l0 t105 t106 from by exact uI) (uR HO104) (by decide)) hk (fun _ h => h.2)) (fun _ h => h.1)); replace HB := am (hb); replace HI101 := am (hi); (try clear hb); (try clear hb2); (try clear hk); (try clear hi)))
 go_ret2
 exact ⟨_, uA, by (with_reducible repeat (first | apply rA | apply rN | apply rD)); exact HO104.out, by exact uW⟩
def spec_DrawFirstShortestPlan.f (k : Nat) (l0 : List Int) : Option ((List (S45)) × Int) := (spec_DrawFewestTrips.f k l0).bind fun bt101 => (some (bt101.1, bt101.2))
theorem spec_DrawFirstShortestPlan.calls (k : Nat) (A0 : Option Addr) (c0 : Nat) (l0 : List Int) (r1 : List (S45)) (r2 : Int) (w : World) (hr0 : Kd.C (Kd.int .u8) w A0 l0.length l0) (hc0 : l0.length ≤ c0) (h : spec_DrawFirstShortestPlan.f k l0 = some (r1, r2)) :
  Calls Try.prog 5 #[.slice A0 l0.length c0] w fun e w' => ∃ v0_ : Value, e = .returned (.tuple #[v0_, .int .i64 r2]) ∧ Kd.R k45 45 w' w.heap.size (fun _ => True) v0_ r1 ∧ Below w.heap.size w w' := by
 have HR0 := am hr0
 have HC0 := am hc0
 clear hr0 hc0
 have HB := am (Below.refl w.heap.size w)
 have H : ((spec_DrawFewestTrips.f k l0).bind fun bt101 => (some (bt101.1, bt101.2))) = some (r1, r2) := h
 clear h
 replace H := bH H
 obtain ⟨⟨t101, t102⟩, A20, H⟩ := H
 replace H : (some (t101, t102)) = some (r1, r2) := H
 have A2 := am A20
 clear A20
 simp only [Option.some.injEq, Prod.mk.injEq] at H
 obtain ⟨rfl, rfl⟩ := H
 go_enter Try.func5, Try.ntmps5
 go_wp2_with (first | ((with_reducible refine gate_callee (f := 40) rfl ?_); refine uGo (some 5) Try.func40 #[.slice A0 l0.length c0] ?_; (with_reducible refine (spec_DrawFewestTrips.calls k _ _ l0 t101 t102 _ ?side1 ?side2 A2.out).mono ?_); (case side1 => repeat (first | exact HR0.out | (with_reducible refine cA ?_ _) | (with_reducible refine cN ?_ _) | (with_reducible refine cD ?_))); (case side2 => exact HC0.out); rintro e w3 ⟨v103, rfl, ho0, hb⟩; refine ⟨_, rfl, ?_⟩; have HO104 := am (Kd.R_lower ho0 (below_size uW)); replace HB := uS hb; (try clear hb); (try clear hb2); (try clear hk); (try clear hi); (try clear ho0)))
 go_ret2
 exact ⟨_, uA, by (with_reducible repeat (first | apply rA | apply rN | apply rD)); exact HO104.out, by exact uW⟩
def impl_within.f (a0 : Int) (a1 : Int) (a2 : Int) : Option (Bool) := if a0 ≥ a1 then (some (decide (a0 ≤ a2))) else (some false)
theorem impl_within.calls (a0 : Int) (a1 : Int) (a2 : Int) (r : Bool) (w : World) (h : impl_within.f a0 a1 a2 = some r) :
  Calls Try.prog 57 #[.int .i64 a0, .int .i64 a1, .int .i64 a2] w fun e w' => e = .returned (.bool r) ∧ Drawn0 w w' := by
 have H : (if a0 ≥ a1 then (some (decide (a0 ≤ a2))) else (some false)) = some r := h
 clear h
 by_cases c4 : a0 ≥ a1
 ·rw [if_pos c4] at H
  have c4b0 : decide (a1 ≤ a0) = true := decide_eq_true c4
  clear c4
  obtain rfl := Option.some.inj H
  go_enter Try.func57, Try.ntmps57
  go_wp2
  go_ret
  exact ⟨by first | rfl | (simp; done) | (simp [*]; done), by repeat (first | exact Drawn0.refl _ | apply Drawn0.step)⟩
 ·rw [if_neg c4] at H
  have c4b0 : decide (a1 ≤ a0) = false := decide_eq_false c4
  clear c4
  obtain rfl := Option.some.inj H
  go_enter Try.func57, Try.ntmps57
  go_wp2
  go_ret
  exact ⟨by first | rfl | (simp; done) | (simp [*]; done), by repeat (first | exact Drawn0.refl _ | apply Drawn0.step)⟩
def spec_bgWeights.l0 : Nat → List (S45) → List Int → List Int → Int → Int → Option (List Int)
 | 0, _, _, _, _, _ => none
 | k + 1, x0, x5, x8, x9, x10 => if x10 < x9 then (if 0 ≤ x10 then (if x10 < (x8.length : Int) then (if (rd x8 x10) = (x5.length : Int) then (if x5.length < 17592186044416 then ((some (x5 ++ [0] : List Int)).bind fun y102 => (if 0 ≤ (rd x8 x10) then (if (rd x8 x10) < (y102.length : Int) then (if x10 < (x0.length : Int) then (spec_bgWeights.l0 k x0 (y102.set ((rd x8 x10) : Int).toNat (wrap64 ((rd y102 (rd x8 x10)) + ((rd_T45 x0 x10).f1)))) x8 x9 (wrap64 (x10 + 1))) else (none)) else (none)) else (none))) else (none)) else (if 0 ≤ (rd x8 x10) then (if (rd x8 x10) < (x5.length : Int) then (if x10 < (x0.length : Int) then (spec_bgWeights.l0 k x0 (x5.set ((rd x8 x10) : Int).toNat (wrap64 ((rd x5 (rd x8 x10)) + ((rd_T45 x0 x10).f1)))) x8 x9 (wrap64 (x10 + 1))) else (none)) else (none)) else (none))) else (none)) else (none)) else (some x5)
def spec_bgWeights.f (k : Nat) (l0 : List (S45)) (l1 : List Int) : Option (List Int) := spec_bgWeights.l0 k l0 ([] : List Int) l1 (l1.length : Int) 0
def spec_bgWeights.T7 : Bool × List (List Nat × List Nat) := (true, [([], []), ([], []), ([0, 1], [0, 1]), ([2], [2]), ([], []), ([], []), ([4, 5], [4, 5]), ([6], [6]), ([7], [7]), ([3, 8], [3, 8]), ([0, 1, 0, 1, 2, 3, 4, 5, 6, 7, 8, 9], [0, 1]), ([10, 9, 0, 1, 2, 3, 4, 5, 6, 7, 8, 9], [9, 10])])
def spec_bgWeights.B7 : List Nat := [0, 0, 3, 7, 0, 0, 48, 112, 240, 511, 1023, 2047]
theorem spec_bgWeights.tab7 : rtab .any (opsOf Try.f68 7) = spec_bgWeights.T7 := by kernel_rfl
theorem spec_bgWeights.bits7 : waitsOk spec_bgWeights.T7.2 spec_bgWeights.B7 = true := by kernel_rfl
theorem spec_bgWeights.calls (k : Nat) (A0 : Option Addr) (c0 : Nat) (l0 : List (S45)) (A1 : Option Addr) (c1 : Nat) (l1 : List Int) (r : List Int) (w : World) (hr0 : Kd.C k45 w A0 l0.length l0) (hc0 : l0.length ≤ c0) (hr1 : Kd.C (Kd.int .i64) w A1 l1.length l1) (hc1 : l1.length ≤ c1) (h : spec_bgWeights.f k l0 l1 = some r) :
  Calls Try.prog 68 #[.slice A0 l0.length c0, .slice A1 l1.length c1] w fun e w' => ∃ v0_ : Value, e = .returned (v0_) ∧ Kd.R (Kd.int .i64) 3 w' w.heap.size (fun _ => True) v0_ r ∧ Below w.heap.size w w' := by
 have HR0 := am hr0
 have HC0 := am hc0
 clear hr0 hc0
 have HR1 := am hr1
 have HC1 := am hc1
 clear hr1 hc1
 have HB := am (Below.refl w.heap.size w)
 have H : (spec_bgWeights.l0 k l0 ([] : List Int) l1 (l1.length : Int) 0) = some r := h
 clear h
 have H' := am H
 clear H
 go_enter Try.func68, Try.ntmps68
 go_wp2
 go_loopg [5, 10] k (fun kq v5 v10 w' => ∃ (x5_1 : List Int) (x10_1 : Int), v10 = .int .i64 x10_1 ∧ Aside0 (spec_bgWeights.l0 kq l0 x5_1 l1 (l1.length : Int) x10_1 = some r) ∧ Aside0 (kq ≤ k) ∧ Aside0 (Kd.R (Kd.int .i64) 3 w' w.heap.size (fun _ => True) v5 x5_1) ∧ Aside0 (Below w.heap.size w w'))
 case atStart => exact ⟨(([] : List Int)), (0), (by first | rfl | (simp; done) | (simp [*]; done)), H', ⟨Nat.le_refl _⟩, ⟨uN⟩, ⟨by exact uW⟩⟩
 case round =>
  clear H'
  try clear c1
  try clear p2
  obtain ⟨x5_1, x10_1, rfl, HA, HK1, HO_5, HB⟩ := hrel
  cases gk with
  | zero => exact absurd HA.out (by simp [spec_bgWeights.l0])
  | succ k1 =>
   have H := HA.out
   clear HA
   simp only [spec_bgWeights.l0] at H
   by_cases c3 : x10_1 < (l1.length : Int)
   ·rw [if_pos c3] at H
    have c3b0 : decide (x10_1 < (l1.length : Int)) = true := decide_eq_true c3
    clear c3
    by_cases c4 : 0 ≤ x10_1
    ·rw [if_pos c4] at H
     have c4b0 : decide (0 ≤ x10_1) = true := decide_eq_true c4
     clear c4
     by_cases c5 : x10_1 < (l1.length : Int)
     ·rw [if_pos c5] at H
      have c5b0 : decide (x10_1 < (l1.length : Int)) = true := decide_eq_true c5
      clear c5
      by_cases c6 : (rd l1 x10_1) = (x5_1.length : Int)
      ·rw [if_pos c6] at H
       have c6b0 : ((rd l1 x10_1) == (x5_1.length : Int)) = true := beq_iff_eq.mpr c6
       have c6b1 : ((rd l1 x10_1) != (x5_1.length : Int)) = false := bne_eq_false_iff_eq.mpr c6
       clear c6
       by_cases c7 : x5_1.length < 17592186044416
       ·rw [if_pos c7] at H
        have LMc7 := am c7
        clear c7
        obtain ⟨y102, hy102⟩ : ∃ y_ : List Int, y_ = (x5_1 ++ [0]) := ⟨_, rfl⟩
        replace H : (if 0 ≤ (rd l1 x10_1) then (if (rd l1 x10_1) < (y102.length : Int) then (if x10_1 < (l0.length : Int) then (spec_bgWeights.l0 k1 l0 (y102.set ((rd l1 x10_1) : Int).toNat (wrap64 ((rd y102 (rd l1 x10_1)) + ((rd_T45 l0 x10_1).f1)))) l1 (l1.length : Int) (wrap64 (x10_1 + 1))) else (none)) else (none)) else (none)) = some r := by first | (rw [hy102]; with_reducible exact H) | (have H2_ := (Option.bind_some _ _).symm.trans H; rw [hy102]; with_reducible exact H2_) | (have H2_ := (Option.bind_some _ _).symm.trans H; with_reducible exact H2_) | with_reducible exact H | (rw [hy102]; exact H) | exact H
        have Ny102 := am hy102
        clear hy102
        by_cases c8 : 0 ≤ (rd l1 x10_1)
        ·rw [if_pos c8] at H
         have c8b0 : decide (0 ≤ (rd l1 x10_1)) = true := decide_eq_true c8
         clear c8
         by_cases c9 : (rd l1 x10_1) < (y102.length : Int)
         ·rw [if_pos c9] at H
          have c9b0 : decide ((rd l1 x10_1) < (y102.length : Int)) = true := decide_eq_true c9
          clear c9
          by_cases c10 : x10_1 < (l0.length : Int)
          ·rw [if_pos c10] at H
           have c10b0 : decide (x10_1 < (l0.length : Int)) = true := decide_eq_true c10
           clear c10
           obtain ⟨y107, hy107⟩ : ∃ y_ : List Int, y_ = (y102.set ((rd l1 x10_1) : Int).toNat (wrap64 ((rd y102 (rd l1 x10_1)) + ((rd_T45 l0 x10_1).f1)))) := ⟨_, rfl⟩
           replace H : (spec_bgWeights.l0 k1 l0 y107 l1 (l1.length : Int) (wrap64 (x10_1 + 1))) = some r := by first | (rw [hy107]; with_reducible exact H) | (have H2_ := (Option.bind_some _ _).symm.trans H; rw [hy107]; with_reducible exact H2_) | (have H2_ := (Option.bind_some _ _).symm.trans H; with_reducible exact H2_) | with_reducible exact H | (rw [hy107]; exact H) | exact H
           have Ny107 := am hy107
           clear hy107
           have H' := am H
           clear H
           have p101 : 0 ≤ (x10_1 : Int) := of_decide_eq_true (by first | (with_reducible assumption) | assumption)
           have q101 : x10_1 < (l1.length : Int) := of_decide_eq_true (by first | (with_reducible assumption) | assumption)
           obtain ⟨ad101, e101, hx101_0⟩ := Kd.at_int HR1.out x10_1 p101 q101
           cases e101
           try replace hx101_0 := (HB.out.cell (World.block_lt_of_cell? w _ hx101_0)).trans hx101_0
           replace p101 := eq_true p101
           replace q101 := eq_true q101
           obtain ⟨Ao12, co12, eo12⟩ := Kd.R_slice HO_5.out
           subst eo12
           try go_wp2_with (first | ((with_reducible refine gate_builtin (b := .append) (xs := #[.tmp 19, .tmp 20]) rfl ?_); at_builtin; refine Kd.R_append (Kd.int .i64) (w0 := w) w.heap.size rfl (.tmp 19) (.tmp 20) 27 3 (.int .i64 0) 8 rfl Try.underlying27 info3 rfl (by decide) (by omega) (.slice Ao12 x5_1.length co12) x5_1 0 [.int .i64 0] (fun _ => True) (fun _ => False) rfl rfl ?aP (fun _ hk => hk.elim) ?aF ?aO ?aB ?aS ?aL ?_; (case aP => exact rfl); (case aB => exact uW); (case aF => exact (fun _ _ => trivial)); (case aO => exact (uR HO_5)); (case aS => exact (below_size uW)); (case aL => have := LMc7.out; omega); intro v103 w13 ho hb hg hat; rw [← Ny102.out] at ho; have HO104 := am (ho); replace HB := am (hb); clear HO_5; clear ho hb hg hat))
           replace HO104 := am (Kd.R_drew HO104.out)
           replace HB := am (below_drew1 HB.out)
           obtain ⟨Ao15, co15, eo15⟩ := Kd.R_slice HO104.out
           (first | subst eo15 | (injection eo15 with f1_ f2_ f3_; have f4_ := f1_.symm; have f5_ := f3_.symm; clear f1_ f2_ f3_; subst f4_; subst f5_))
           have p105 : 0 ≤ ((rd l1 x10_1) : Int) := of_decide_eq_true (by first | (with_reducible assumption) | assumption)
           have q105 : (rd l1 x10_1) < (y102.length : Int) := of_decide_eq_true (by first | (with_reducible assumption) | assumption)
           obtain ⟨ad105, e105, hx105_0⟩ := Kd.at_int (Kd.R_reads' HO104.out).2.2 (rd l1 x10_1) p105 q105
           cases e105
           replace p105 := eq_true p105
           replace q105 := eq_true q105
           have p106 : 0 ≤ (x10_1 : Int) := of_decide_eq_true (by first | (with_reducible assumption) | assumption)
           have q106 : x10_1 < (l0.length : Int) := of_decide_eq_true (by first | (with_reducible assumption) | assumption)
           obtain ⟨ad106, e106, hx106_0, hx106_1⟩ := at_T45 HR0.out x10_1 p106 q106
           have hw106_1 := hx106_1
           have hw106_0 := hx106_0
           cases e106
           try replace hx106_0 := (HB.out.cell (World.block_lt_of_cell? w _ hx106_0)).trans hx106_0
           try replace hx106_1 := (HB.out.cell (World.block_lt_of_cell? w _ hx106_1)).trans hx106_1
           replace p106 := eq_true p106
           replace q106 := eq_true q106
           have p11 : 0 ≤ ((rd l1 x10_1) : Int) := of_decide_eq_true (by first | (with_reducible assumption) | assumption)
           have q11 : ((rd l1 x10_1) : Int) < ((y102.length : Int) : Int) := of_decide_eq_true (by first | (with_reducible assumption) | assumption)
           obtain ⟨go11, co11, eo11, gb11, gl11, cl11, HG11⟩ := Kd.R_form HO104.out (by omega)
           (first | cases eo11 | (injection eo11 with ea_ en_ ec_; (first | subst ea_ | (injection ea_ with ea_; subst ea_)); subst ec_; clear en_))
           have GB11 := am gb11
           have GG11 := am HG11
           clear gb11 gl11 HG11
           (first | simp only [add_plain] at hx105_0 | skip)
           obtain ⟨hx11_0, hf11_0⟩ := Kd.R_celln 0 HO104.out ((rd l1 x10_1) : Int) p11 q11
           replace p11 := eq_true p11
           replace q11 := eq_true q11
           have HP16 := Kd.R_putn HO104.out ((rd l1 x10_1) : Int) (wrap64 ((rd y102 (rd l1 x10_1)) + ((rd_T45 l0 x10_1).f1)))
           rw [← Ny107.out] at HP16
           have HQ16 := am HP16
           clear HP16
           refine start_ (n := 12) (S := fun w' => w'.cell? ⟨go11, ((rd l1 x10_1)).toNat, none⟩ = some (.int .i64 (rd y102 (rd l1 x10_1))) ∧ w'.cell? (ad106.add ((x10_1).toNat * 2)) = some (.int .i64 ((rd_T45 l0 x10_1).f0)) ∧ w'.cell? ⟨(ad106.add ((x10_1).toNat * 2)).block, (ad106.add ((x10_1).toNat * 2)).off + 1, none⟩ = some (.int .i64 ((rd_T45 l0 x10_1).f1))) (ds := [11]) #[false, false, false, false, false, false, false, false, false, false, false, false] (by kernel_rfl) rfl rfl ⟨hx105_0, ((HB.out.cell (World.block_lt_of_cell? w _ hw106_0)).trans hw106_0), ((HB.out.cell (World.block_lt_of_cell? w _ hw106_1)).trans hw106_1)⟩ (fun hHeld => ?_); refine with_tabW spec_bgWeights.tab7 spec_bgWeights.bits7 (fun HT_ HW_ => ?_)
           generalize w13.drew = w14 at HO104 HB GG11 HQ16 hf11_0 hx105_0 hx106_0 hx106_1 hx11_0 hHeld ⊢
           refine uPu (i := 0) (N := some 22) #[true, false, false, false, false, false, false, false, false, false, false, false] ?_
           refine uPu (i := 1) (N := some 23) #[true, true, false, false, false, false, false, false, false, false, false, false] ?_
           refine uPu (i := 2) (N := some 24) #[true, true, true, false, false, false, false, false, false, false, false, false] ?_
           refine uPu (i := 4) (N := some 26) #[true, true, true, false, true, false, false, false, false, false, false, false] ?_
           refine uPu (i := 5) (N := some 27) #[true, true, true, false, true, true, false, false, false, false, false, false] ?_
           refine uPu (i := 6) (N := some 28) #[true, true, true, false, true, true, true, false, false, false, false, false] ?_
           refine uPu (i := 7) (N := some 29) #[true, true, true, false, true, true, true, true, false, false, false, false] ?_
           refine uTk (i := 3) (N := some 25) #[true, true, true, true, true, true, true, true, false, false, false, false] hHeld ?_
           refine uTk (i := 8) (N := some 30) #[true, true, true, true, true, true, true, true, true, false, false, false] hHeld ?_
           refine uPu (i := 9) (N := some 31) #[true, true, true, true, true, true, true, true, true, true, false, false] ?_
           refine uPu (i := 10) (N := some 32) #[true, true, true, true, true, true, true, true, true, true, true, false] ?_
           refine last_ (i := 11) (N := none) #[true, true, true, true, true, true, true, true, true, true, true, true] rfl rfl (one_of HT_.out (by kernel_rfl)) (by decide) (fun K hK => ?_)
           refine skip_ (w1 := ?_) (by rfl) rfl ?_ ?_
           rotate_left
           ·go_simp
            rfl
           refine hK.out _ _ ?_
           clear hK K
           refine done_ (done_of HT_.out (by kernel_rfl)) ?_
           try go_wp2
           go_roundg k1
           case measure => have := HK1.out; omega
           case rel => exact ⟨(y107), (wrap64 (x10_1 + 1)), (by first | rfl | (simp; done) | (simp [*]; done)), H', ⟨by have := HK1.out; omega⟩, ⟨by (with_reducible repeat (first | apply rA | apply rN | apply rD)); exact HQ16.out⟩, ⟨by repeat (first | (with_reducible first | exact HB.out | apply below_alloc | apply pw_below_drewN | apply below_drew1 | refine below_set ?_ GB11.out) | exact HB.out)⟩⟩
          ·rw [if_neg c10] at H
           exact absurd H (by simp)
         ·rw [if_neg c9] at H
          exact absurd H (by simp)
        ·rw [if_neg c8] at H
         exact absurd H (by simp)
       ·rw [if_neg c7] at H
        exact absurd H (by simp)
      ·rw [if_neg c6] at H
       have c6b0 : ((rd l1 x10_1) == (x5_1.length : Int)) = false := beq_eq_false_iff_ne.mpr c6
       have c6b1 : ((rd l1 x10_1) != (x5_1.length : Int)) = true := bne_iff_ne.mpr c6
       by_cases c17 : 0 ≤ (rd l1 x10_1)
       ·rw [if_pos c17] at H
        have c17b0 : decide (0 ≤ (rd l1 x10_1)) = true := decide_eq_true c17
        clear c17
        by_cases c18 : (rd l1 x10_1) < (x5_1.length : Int)
        ·rw [if_pos c18] at H
         have c18b0 : decide ((rd l1 x10_1) < (x5_1.length : Int)) = true := decide_eq_true c18
         clear c18
         by_cases c19 : x10_1 < (l0.length : Int)
         ·rw [if_pos c19] at H
          have c19b0 : decide (x10_1 < (l0.length : Int)) = true := decide_eq_true c19
          clear c19
          obtain ⟨y110, hy110⟩ : ∃ y_ : List Int, y_ = (x5_1.set ((rd l1 x10_1) : Int).toNat (wrap64 ((rd x5_1 (rd l1 x10_1)) + ((rd_T45 l0 x10_1).f1)))) := ⟨_, rfl⟩
          replace H : (spec_bgWeights.l0 k1 l0 y110 l1 (l1.length : Int) (wrap64 (x10_1 + 1))) = some r := by first | (rw [hy110]; with_reducible exact H) | (have H2_ := (Option.bind_some _ _).symm.trans H; rw [hy110]; with_reducible exact H2_) | (have H2_ := (Option.bind_some _ _).symm.trans H; with_reducible exact H2_) | with_reducible exact H | (rw [hy110]; exact H) | exact H
          have Ny110 := am hy110
          clear hy110
          have H' := am H
          clear H
          have p101 : 0 ≤ (x10_1 : Int) := of_decide_eq_true (by first | (with_reducible assumption) | assumption)
          have q101 : x10_1 < (l1.length : Int) := of_decide_eq_true (by first | (with_reducible assumption) | assumption)
          obtain ⟨ad101, e101, hx101_0⟩ := Kd.at_int HR1.out x10_1 p101 q101
          cases e101
          try replace hx101_0 := (HB.out.cell (World.block_lt_of_cell? w _ hx101_0)).trans hx101_0
          replace p101 := eq_true p101
          replace q101 := eq_true q101
          obtain ⟨Ao21, co21, eo21⟩ := Kd.R_slice HO_5.out
          subst eo21
          try go_wp2
          replace HO_5 := am (Kd.R_drew HO_5.out)
          replace HB := am (below_drew1 HB.out)
          have p108 : 0 ≤ ((rd l1 x10_1) : Int) := of_decide_eq_true (by first | (with_reducible assumption) | assumption)
          have q108 : (rd l1 x10_1) < (x5_1.length : Int) := of_decide_eq_true (by first | (with_reducible assumption) | assumption)
          obtain ⟨ad108, e108, hx108_0⟩ := Kd.at_int (Kd.R_reads' HO_5.out).2.2 (rd l1 x10_1) p108 q108
          cases e108
          replace p108 := eq_true p108
          replace q108 := eq_true q108
          have p109 : 0 ≤ (x10_1 : Int) := of_decide_eq_true (by first | (with_reducible assumption) | assumption)
          have q109 : x10_1 < (l0.length : Int) := of_decide_eq_true (by first | (with_reducible assumption) | assumption)
          obtain ⟨ad109, e109, hx109_0, hx109_1⟩ := at_T45 HR0.out x10_1 p109 q109
          have hw109_1 := hx109_1
          have hw109_0 := hx109_0
          cases e109
          try replace hx109_0 := (HB.out.cell (World.block_lt_of_cell? w _ hx109_0)).trans hx109_0
          try replace hx109_1 := (HB.out.cell (World.block_lt_of_cell? w _ hx109_1)).trans hx109_1
          replace p109 := eq_true p109
          replace q109 := eq_true q109
          have p20 : 0 ≤ ((rd l1 x10_1) : Int) := of_decide_eq_true (by first | (with_reducible assumption) | assumption)
          have q20 : ((rd l1 x10_1) : Int) < ((x5_1.length : Int) : Int) := of_decide_eq_true (by first | (with_reducible assumption) | assumption)
          obtain ⟨go20, co20, eo20, gb20, gl20, cl20, HG20⟩ := Kd.R_form HO_5.out (by omega)
          (first | cases eo20 | (injection eo20 with ea_ en_ ec_; (first | subst ea_ | (injection ea_ with ea_; subst ea_)); subst ec_; clear en_))
          have GB20 := am gb20
          have GG20 := am HG20
          clear gb20 gl20 HG20
          (first | simp only [add_plain] at hx108_0 | skip)
          obtain ⟨hx20_0, hf20_0⟩ := Kd.R_celln 0 HO_5.out ((rd l1 x10_1) : Int) p20 q20
          replace p20 := eq_true p20
          replace q20 := eq_true q20
          have HP23 := Kd.R_putn HO_5.out ((rd l1 x10_1) : Int) (wrap64 ((rd x5_1 (rd l1 x10_1)) + ((rd_T45 l0 x10_1).f1)))
          rw [← Ny110.out] at HP23
          have HQ23 := am HP23
          clear HP23
          refine start_ (n := 12) (S := fun w' => w'.cell? ⟨go20, ((rd l1 x10_1)).toNat, none⟩ = some (.int .i64 (rd x5_1 (rd l1 x10_1))) ∧ w'.cell? (ad109.add ((x10_1).toNat * 2)) = some (.int .i64 ((rd_T45 l0 x10_1).f0)) ∧ w'.cell? ⟨(ad109.add ((x10_1).toNat * 2)).block, (ad109.add ((x10_1).toNat * 2)).off + 1, none⟩ = some (.int .i64 ((rd_T45 l0 x10_1).f1))) (ds := [11]) #[false, false, false, false, false, false, false, false, false, false, false, false] (by kernel_rfl) rfl rfl ⟨hx108_0, ((HB.out.cell (World.block_lt_of_cell? w _ hw109_0)).trans hw109_0), ((HB.out.cell (World.block_lt_of_cell? w _ hw109_1)).trans hw109_1)⟩ (fun hHeld => ?_); refine with_tabW spec_bgWeights.tab7 spec_bgWeights.bits7 (fun HT_ HW_ => ?_)
          generalize wr.drew = w22 at HO_5 HB GG20 HQ23 hf20_0 hx108_0 hx109_0 hx109_1 hx20_0 hHeld ⊢
          refine uPu (i := 0) (N := some 22) #[true, false, false, false, false, false, false, false, false, false, false, false] ?_
          refine uPu (i := 1) (N := some 23) #[true, true, false, false, false, false, false, false, false, false, false, false] ?_
          refine uPu (i := 2) (N := some 24) #[true, true, true, false, false, false, false, false, false, false, false, false] ?_
          refine uPu (i := 4) (N := some 26) #[true, true, true, false, true, false, false, false, false, false, false, false] ?_
          refine uPu (i := 5) (N := some 27) #[true, true, true, false, true, true, false, false, false, false, false, false] ?_
          refine uPu (i := 6) (N := some 28) #[true, true, true, false, true, true, true, false, false, false, false, false] ?_
          refine uPu (i := 7) (N := some 29) #[true, true, true, false, true, true, true, true, false, false, false, false] ?_
          refine uTk (i := 3) (N := some 25) #[true, true, true, true, true, true, true, true, false, false, false, false] hHeld ?_
          refine uTk (i := 8) (N := some 30) #[true, true, true, true, true, true, true, true, true, false, false, false] hHeld ?_
          refine uPu (i := 9) (N := some 31) #[true, true, true, true, true, true, true, true, true, true, false, false] ?_
          refine uPu (i := 10) (N := some 32) #[true, true, true, true, true, true, true, true, true, true, true, false] ?_
          refine last_ (i := 11) (N := none) #[true, true, true, true, true, true, true, true, true, true, true, true] rfl rfl (one_of HT_.out (by kernel_rfl)) (by decide) (fun K hK => ?_)
          refine skip_ (w1 := ?_) (by rfl) rfl ?_ ?_
          rotate_left
          ·go_simp
           rfl
          refine hK.out _ _ ?_
          clear hK K
          refine done_ (done_of HT_.out (by kernel_rfl)) ?_
          try go_wp2
          go_roundg k1
          case measure => have := HK1.out; omega
          case rel => exact ⟨(y110), (wrap64 (x10_1 + 1)), (by first | rfl | (simp; done) | (simp [*]; done)), H', ⟨by have := HK1.out; omega⟩, ⟨by (with_reducible repeat (first | apply rA | apply rN | apply rD)); exact HQ23.out⟩, ⟨by repeat (first | (with_reducible first | exact HB.out | apply below_alloc | apply pw_below_drewN | apply below_drew1 | refine below_set ?_ GB20.out) | exact HB.out)⟩⟩
         ·rw [if_neg c19] at H
          exact absurd H (by simp)
        ·rw [if_neg c18] at H
         exact absurd H (by simp)
       ·rw [if_neg c17] at H
        exact absurd H (by simp)
     ·rw [if_neg c5] at H
      exact absurd H (by simp)
    ·rw [if_neg c4] at H
     exact absurd H (by simp)
   ·rw [if_neg c3] at H
    have c3b0 : decide (x10_1 < (l1.length : Int)) = false := decide_eq_false c3
    clear c3
    obtain rfl := Option.some.inj H
    go_wp2
    go_ret
    exact ⟨_, uA, by (with_reducible repeat (first | apply rA | apply rN | apply rD)); exact HO_5.out, by exact uW⟩
def spec_l1Own.f (l0 : List Int) : Option (List Int) := (some (([] : List Int) : List Int)).bind fun y101 => (if y101.length + l0.length < 17592186044416 then (some (y101 ++ l0)) else (none))
theorem spec_l1Own.calls (A0 : Option Addr) (c0 : Nat) (l0 : List Int) (r : List Int) (w : World) (hr0 : Kd.C (Kd.int .i64) w A0 l0.length l0) (hc0 : l0.length ≤ c0) (h : spec_l1Own.f l0 = some r) :
  Calls Try.prog 82 #[.slice A0 l0.length c0] w fun e w' => ∃ v0_ : Value, e = .returned (v0_) ∧ Kd.R (Kd.int .i64) 3 w' w.heap.size (fun _ => True) v0_ r ∧ Below w.heap.size w w' := by
 have HR0 := am hr0
 have HC0 := am hc0
 clear hr0 hc0
 have HB := am (Below.refl w.heap.size w)
 have H : ((some (([] : List Int) : List Int)).bind fun y101 => (if y101.length + l0.length < 17592186044416 then (some (y101 ++ l0)) else (none))) = some r := h
 clear h
 obtain ⟨y101, hy101⟩ : ∃ y_ : List Int, y_ = (([] : List Int)) := ⟨_, rfl⟩
 replace H : (if y101.length + l0.length < 17592186044416 then (some (y101 ++ l0)) else (none)) = some r := by first | (rw [hy101]; with_reducible exact H) | (have H2_ := (Option.bind_some _ _).symm.trans H; rw [hy101]; with_reducible exact H2_) | (have H2_ := (Option.bind_some _ _).symm.trans H; with_reducible exact H2_) | with_reducible exact H | (rw [hy101]; exact H) | exact H
 have Ny101 := am hy101
 clear hy101
 by_cases c2 : y101.length + l0.length < 17592186044416
 ·rw [if_pos c2] at H
  have LMc2 := am c2
  clear c2
  obtain ⟨y104, hy104⟩ : ∃ y_ : List Int, y_ = (y101 ++ l0) := ⟨_, rfl⟩
  replace H : (some y104) = some r := by first | (rw [hy104]; with_reducible exact H) | (have H2_ := (Option.bind_some _ _).symm.trans H; rw [hy104]; with_reducible exact H2_) | (have H2_ := (Option.bind_some _ _).symm.trans H; with_reducible exact H2_) | with_reducible exact H | (rw [hy104]; exact H) | exact H
  have Ny104 := am hy104
  clear hy104
  obtain rfl := Option.some.inj H
  go_enter Try.func82, Try.ntmps82
  go_wp2_with (first | ((with_reducible refine gate_dst (N := 3) rfl ?_); refine Kd.R_lit (Kd.int .i64) _ 3 ?hg (N := 3) ?hd (xs := ([] : List Int)) (inner := []) (ok := fun _ => True) (okp := fun _ => True) ?hr ?hp (fun _ hk => hk) trivial (Below.refl _ _) (Nat.le_refl _) (by simp) ?_; (case hd => rfl); (case hg => rfl); (case hr => first | (go_simp; done) | (go_simp; rfl)); (case hp => exact (Reps.none _ _)); intro v102 w3 ho4 hb hg_ hnew_; clear hg_ hnew_; (first | rw [← Ny101.out] at ho4 | (simp only [Int.reduceToNat] at ho4; rw [← Ny101.out] at ho4)); have HO103 := am (Kd.R_lower ho4 (below_size uW)); replace HB := uS hb; clear hb ho4) | ((with_reducible refine gate_builtin (b := .append) (xs := #[.tmp 3, .tmp 4]) rfl ?_); at_builtin; refine Kd.R_append_rows (Kd.int .i64) (w0 := w) w.heap.size rfl (.tmp 3) (.tmp 4) 27 3 (.int .i64 0) 8 rfl Try.underlying27 info3 rfl (by decide) (by omega) v102 y101 l0 _ _ _ (fun _ => True) (fun _ => False) rfl rfl ?aO ?aR (fun _ _ h => h) (fun _ h => h.elim) ?aF ?aB ?aS ?aL ?_; (case aR => repeat (first | exact (Kd.C_below HR0.out HB.out) | (with_reducible refine cA ?_ _) | (with_reducible refine cN ?_ _) | (with_reducible refine cD ?_))); (case aB => exact uW); (case aF => exact (fun _ _ => trivial)); (case aO => exact (uR HO103)); (case aS => exact (below_size uW)); (case aL => have := LMc2.out; omega); intro v105 w5 ho hb hg hat; rw [← Ny104.out] at ho; have HO106 := am (ho); replace HB := am (hb); clear HO103; clear ho hb hg hat))
  go_ret
  exact ⟨_, uA, by (with_reducible repeat (first | apply rA | apply rN | apply rD)); exact HO106.out, by exact uW⟩
 ·rw [if_neg c2] at H
  exact absurd H (by simp)
end Go.Proofs.Ytmninaoedoonbaa.G
end
section
namespace Go.Proofs.Ytmninaoedoonbaa.Fun
open Go.RowKit Go.Proofs.YtmninaoedoonbaaW.PrintWords
def fidx {α : Type} (p : α → Bool) (l : List α) : Int := match l.findIdx? p with
 | some i => (i : Int)
 | none => -1
theorem fidx_hit {α : Type} (p : α → Bool) (l : List α) (k : Nat) (y : α) (hx : l[k]? = some y) (hy : p y = true) (hn : ∀ (j : Nat) (x : α), j < k → l[j]? = some x → p x = false) : fidx p l = k := by
 obtain ⟨hk, rfl⟩ := List.getElem?_eq_some_iff.1 hx
 have : l.findIdx? p = some k := by
  rw [List.findIdx?_eq_some_iff_getElem]
  refine ⟨hk, hy, fun j hj => ?_⟩
  have := hn j _ hj (List.getElem?_eq_getElem (by omega))
  simp [this]
 simp [fidx, this]
theorem fidx_miss {α : Type} (p : α → Bool) (l : List α) (hn : ∀ (j : Nat) (x : α), l[j]? = some x → p x = false) : fidx p l = -1 := by
 have : l.findIdx? p = none := by
  rw [List.findIdx?_eq_none_iff]
  intro x hx
  obtain ⟨j, hj, rfl⟩ := List.getElem_of_mem hx
  exact hn j _ (List.getElem?_eq_getElem hj)
 simp [fidx, this]
theorem fidx_nonneg {α : Type} (p : α → Bool) (l : List α) : decide (fidx p l ≥ 0) = l.any p := by
 unfold fidx
 cases h : l.findIdx? p with
 | none =>
  rw [List.findIdx?_eq_none_iff] at h
  have : l.any p = false := by simpa using h
  simp [this]
 | some i =>
  rw [List.findIdx?_eq_some_iff_getElem] at h
  obtain ⟨hi, hp, _⟩ := h
  have : l.any p = true := List.any_eq_true.2 ⟨_, List.getElem_mem hi, hp⟩
  simp [this]
theorem below_box {W w' : World} {o : Obj} (h : Below (W.alloc o).heap.size (W.alloc o) w') : Below W.heap.size W w' :=
 ((Below.refl _ _).alloc (Nat.le_refl _) _).trans (h.mono (by simp))
theorem bcell {W w1 : World} (hb : Below W.heap.size W w1) : (∀ b o, b < W.heap.size → w1.cell? ⟨b, o, none⟩ = W.cell? ⟨b, o, none⟩) ∧ (∀ b o, b < W.heap.size → w1.frozen? ⟨b, o, none⟩ = W.frozen? ⟨b, o, none⟩) :=
 ⟨fun b o h => hb.cell (p := ⟨b, o, none⟩) h, fun b o h => hb.frozen (p := ⟨b, o, none⟩) h⟩
theorem C_none {α : Type} {d : Kd α} {w : World} {xs : List α} (h : Kd.C d w none xs.length xs) : xs = [] := by
 rcases xs with _ | ⟨x, xs⟩
 ·rfl
 ·obtain ⟨ad, e, _⟩ := h.2.2 (by simp)
  cases e
end Go.Proofs.Ytmninaoedoonbaa.Fun
end
section
namespace Go.Proofs.Ytmninaoedoonbaa.G
open Go.RowKit Go.Proofs.YtmninaoedoonbaaW.PrintWords Go.Proofs.YtmninaoedoonbaaW.PrintLast Go.Proofs.YtmninaoedoonbaaW.PrintMore
attribute [local go_sem] max2_int min2_int max_two min_two max_three min_three max_four min_four
set_option linter.unusedVariables false
set_option linter.unusedSimpArgs false
def lkLoop (f : List Int → List (List Int) → Option (List (List Int))) (bag x : Int) (p ws : List Int) : Nat → Nat → List (List Int) → Option (List (List Int))
 | 0, _, out => some out
 | m + 1, t, out => if t = ws.length ∨ wrap64 (rd ws (t : Int) + x) ≤ bag then (f (p ++ [(t : Int)]) out).bind fun out' => lkLoop f bag x p ws m (t + 1) out' else lkLoop f bag x p ws m (t + 1) out
def lkGo (k : Nat) (l : List S45) (bag : Int) : Nat → List Int → List (List Int) → Option (List (List Int))
 | 0, p, out => if out.length < 5864062014805 then some (out ++ [p]) else none
 | d + 1, p, out => (spec_bgWeights.f k l p).bind fun ws => if ws.length ≤ p.length ∧ l.length ≤ 1000 then lkLoop (lkGo k l bag d) bag (rd_T45 l (p.length : Int)).f1 p ws (ws.length + 1) 0 out else none
structure LkKeep (B : Nat) (W W' : World) : Prop where
 os : W'.os = W.os
 tape : W'.tape = W.tape
 output : W'.output = W.output
 size : W.heap.size ≤ W'.heap.size
 block : ∀ k, k < W.heap.size → (k < B ∨ ∃ cells, W.heap[k]? = some (.cells cells 3 (0, 0))) → W'.heap[k]? = W.heap[k]?
theorem LkKeep.refl (B : Nat) (W : World) : LkKeep B W W := ⟨rfl, rfl, rfl, Nat.le_refl _, fun _ _ _ => rfl⟩
theorem LkKeep.trans {B : Nat} {a b c : World} (h : LkKeep B a b) (k : LkKeep B b c) : LkKeep B a c :=
 ⟨k.os.trans h.os, k.tape.trans h.tape, k.output.trans h.output, Nat.le_trans h.size k.size, fun i hi hc => (k.block i (Nat.lt_of_lt_of_le hi h.size) (hc.imp id (fun ⟨cs, hcs⟩ => ⟨cs, (h.block i hi hc).trans hcs⟩))).trans (h.block i hi hc)⟩
theorem LkKeep.of_below {B : Nat} {a b : World} (h : Below a.heap.size a b) : LkKeep B a b := ⟨h.os, h.tape, h.output, h.size, fun i hi _ => h.block i hi⟩
theorem LkKeep.below {B : Nat} {a b c : World} (h : LkKeep B a b) (k : Below b.heap.size b c) : LkKeep B a c := h.trans (LkKeep.of_below k)
theorem LkKeep.drew {B : Nat} {a b : World} (h : LkKeep B a b) : LkKeep B a b.drew := ⟨h.os, h.tape, h.output, h.size, h.block⟩
theorem LkKeep.alloc {B : Nat} {a b : World} (h : LkKeep B a b) (o : Obj) : LkKeep B a (b.alloc o) := h.below (below_alloc (Below.refl _ _) o)
theorem LkKeep.lo {B : Nat} {w0 a b : World} (h : LkKeep B a b) (hb : Below B w0 a) (hB : B ≤ a.heap.size) : Below B w0 b :=
 hb.trans ⟨h.os, h.tape, h.output, h.size, fun k hk => h.block k (by omega) (.inl hk)⟩
theorem LkKeep.row {B base : Nat} {a b : World} (h : LkKeep B a b) {v : Value} {xs : List Int} (hr : Kd.R (Kd.int .i64) 3 a base (fun _ => True) v xs) : Kd.R (Kd.int .i64) 3 b base (fun _ => True) v xs := by
 refine Kd.R_mono (Kd.R_step (Kd.R_bound hr) (fun k hk hlt => h.block k hlt (.inr ?_))) (fun _ _ => trivial)
 obtain ⟨_, _, _, q, hq, cs, hcs⟩ := hk
 rcases List.mem_cons.1 hq with rfl | hq
 ·exact ⟨cs, hcs⟩
 ·cases hq
theorem LkKeep.wrote {B : Nat} {W W1 : World} {v : Value} {out : List (List Int)} (hv : Kd.R (Kd.slice 3 (Kd.int .i64)) 27 W B (fun _ => True) v out) (hbox : ∃ u, W.heap[B]? = some (.cells #[u] 34 (0, 0))) (hg : W.grownBy W1 v.ownBlock) (u : Value) : LkKeep B W (W1.setCell ⟨B, 0, none⟩ u) := by
 obtain ⟨u0, hbox⟩ := hbox
 refine ⟨hg.os, hg.tape, hg.output, by simpa [World.setCell] using hg.size, fun k hk hc => ?_⟩
 have hne : k ≠ B := by
  rintro rfl
  rcases hc with hc | ⟨cs, hcs⟩
  ·omega
  ·rw [hbox] at hcs
   injection hcs with hcs
   injection hcs with _ h
   exact absurd h (by decide)
 refine (Below.heap_setCell _ _ _ _ (by show k ≠ B; exact hne)).trans (hg.block k hk ?_)
 intro he
 rcases hc with hc | ⟨cs, hcs⟩
 ·exact absurd (Kd.R_base hv k he.symm) (by omega)
 ·obtain ⟨cs', hcs'⟩ := Kd.R_typed hv k he.symm
  rw [hcs'] at hcs
  injection hcs with hcs
  injection hcs with _ h
  exact absurd h (by decide)
theorem lk_fresh {wr w3 : World} {B : Nat} {u v3 : Value} {o : List (List Int)} {q : List Int} (ho : Kd.S (Kd.slice 3 (Kd.int .i64)) 27 wr B (fun _ => True) u o) (hb : Below wr.heap.size wr w3) (h3 : Kd.R (Kd.int .i64) 3 w3 wr.heap.size (fun _ => True) v3 q) : Kd.S (Kd.slice 3 (Kd.int .i64)) 27 w3 B (fun k_ => some k_ ≠ v3.ownBlock) u o :=
 Kd.S_mono (Kd.S_below (Kd.S_bound ho) hb) (fun k hk h2 => absurd (Kd.R_base h3 k h2.symm) (Nat.not_le.2 hk.2.2.1))
theorem lk_look (k : Nat) (A0 : Option Addr) (c0 : Nat) (l0 : List S45) (bag : Int) (w0 : World) (hr0 : Kd.C k45 w0 A0 l0.length l0) (hc0 : l0.length ≤ c0) :
  ∀ (d : Nat) (p : List Int) (vp : Value) (out out' : List (List Int)) (v : Value) (W : World), lkGo k l0 bag d p out = some out' → p.length + d = l0.length →
   Below w0.heap.size w0 W → W.heap[w0.heap.size]? = some (.cells #[v] 34 (0, 0)) → Kd.S (Kd.slice 3 (Kd.int .i64)) 27 W w0.heap.size (fun k_ => some k_ ≠ vp.ownBlock) v out → Kd.R (Kd.int .i64) 3 W w0.heap.size (fun _ => True) vp p →
   Calls Try.prog 96 #[.slice A0 l0.length c0, .int .i64 bag, vp, .pointer (some ⟨w0.heap.size, 0, none⟩)] W
    fun e w' => e = .returned (.tuple #[]) ∧ LkKeep w0.heap.size W w' ∧ ∃ v', w'.heap[w0.heap.size]? = some (.cells #[v'] 34 (0, 0)) ∧ Kd.S (Kd.slice 3 (Kd.int .i64)) 27 w' w0.heap.size (fun _ => True) v' out' := by
 intro d
 induction d with
 | zero =>
  intro p vp out out' v W h hlen hlo hbox hv hp
  obtain ⟨Ap, cp, rfl, hcp, hCp⟩ := Kd.R_reads hp
  obtain ⟨Av, cv, rfl⟩ := Kd.R_slice (Kd.S_R hv)
  unfold lkGo at h
  by_cases hL : out.length < 5864062014805
  ·rw [if_pos hL] at h
   obtain rfl := Option.some.inj h
   have q1 : W.cell? ⟨w0.heap.size, 0, none⟩ = some (.slice Av out.length cv) := blk_cell hbox 0
   have f1 := blk_frozen hbox 0
   have e1 : decide ((p.length : Int) = (l0.length : Int)) = true := decide_eq_true (by omega)
   have HV := am hv
   have HP := am hp
   have HB := am hbox
   have HLO := am hlo
   clear h hv hp hCp hbox hlo hr0
   go_enter Try.func96, Try.ntmps96
   go_wp2_with (first | ((with_reducible refine gate_builtin (b := .append) (xs := #[.tmp 19, .tmp 21]) rfl ?_); at_builtin; refine Kd.S_append (Kd.slice 3 (Kd.int .i64)) (w0 := W) w0.heap.size rfl (.tmp 19) (.tmp 21) 34 27 (.slice none 0 0) 24 rfl Try.underlying34 info27 rfl (by decide) (by omega) (.slice Av out.length cv) out p [.slice Ap p.length cp] (fun _ => True) (fun k => some k = (Value.slice Ap p.length cp).ownBlock) rfl rfl ?aP (fun k hk => ⟨trivial, fun h2 => (Kd.S_R HV.out).1 k h2.symm hk⟩) ?aF ?aO ?aB ?aS ?aL ?_; (case aP => exact Kd.M_row (Kd.R_tight rfl HP.out)); (case aF => exact fun _ _ => trivial); (case aO => exact Kd.S_mono HV.out (fun _ hk => ⟨trivial, hk⟩)); (case aB => exact Below.refl _ _); (case aS => exact Nat.le_of_lt (blk_lt HB.out)); (case aL => omega); intro v1 w1 ho hb hg hat; obtain ⟨A1, c1, rfl⟩ := Kd.R_slice (Kd.S_R ho); have HB1 := am (blk_grown HB.out hg (Kd.R_ne (Kd.S_R HV.out) HB.out (by decide))); have HO1 := am ho; have HG1 := am hg; have q2 : w1.cell? ⟨w0.heap.size, 0, none⟩ = some (.slice Av out.length cv) := blk_cell HB1.out 0; have f2 := blk_frozen HB1.out 0; clear ho hb hg hat q1 f1))
   first | go_end0 | ((try simp only [Exit.inBlock, Exit.then]); refine bodyPost_ret (results_none rfl _ _ _) rfl ?_)
   exact ⟨rfl, LkKeep.wrote (Kd.R_mono (Kd.S_R HV.out) (fun _ _ => trivial)) ⟨_, HB.out⟩ HG1.out _, _, by simpa using blk_set HB1.out 0 _, Kd.S_set HO1.out HB1.out (by decide) 0 _⟩
  ·rw [if_neg hL] at h
   cases h
 | succ d ih =>
  intro p vp out out' v W h hlen hlo hbox hv hp
  obtain ⟨Ap, cp, rfl, hcp, hCp⟩ := Kd.R_reads hp
  unfold lkGo at h
  obtain ⟨ws, hws, hh⟩ := Option.bind_eq_some_iff.1 h
  clear h
  by_cases hwl : ws.length ≤ p.length ∧ l0.length ≤ 1000
  ·rw [if_pos hwl] at hh
   obtain ⟨hw1, hw2⟩ := hwl
   have e1 : decide ((p.length : Int) = (l0.length : Int)) = false := decide_eq_false (by omega)
   have KW := am (spec_bgWeights.calls k A0 c0 l0 Ap cp p ws W (Kd.C_below hr0 hlo) hc0 hCp hcp hws)
   have HR := am hr0
   have HV := am hv
   have HP := am hp
   have HB := am hbox
   have HLO := am hlo
   have HH := am hh
   have IH := am ih
   clear hv hp hCp hbox hlo hr0 hh ih hws
   go_enter Try.func96, Try.ntmps96
   go_wp2_with fail
   refine KW.out.mono ?_
   rintro e w1 ⟨vw, rfl, how, hb1⟩
   obtain ⟨Aw, cw, rfl, hcw, hCw⟩ := Kd.R_reads how
   have HB1 := am hb1
   have HLO1 := am (HLO.out.trans (hb1.mono (Nat.le_of_lt (blk_lt HB.out))))
   obtain ⟨ad, ead, hx0, hx1⟩ := at_T45 (Kd.C_below HR.out HLO1.out) (p.length : Int) (by omega) (by omega)
   have HW := am (Kd.R_lower how (Nat.le_of_lt (blk_lt HB.out)))
   subst ead
   rw [Int.toNat_natCast] at hx1
   generalize hx : (rd_T45 l0 (p.length : Int)).f1 = x at *
   clear hb1 how hx0 hCw KW
   go_wp2_with fail
   have hown : spec_l1Own.f p = some p := by
    unfold spec_l1Own.f
    rw [Option.bind_some, if_pos (by simp; omega)]
    rfl
   have HOWN := am hown
   have HLEN : Aside0 (∀ z : Int, (p ++ [z]).length + d = l0.length) := ⟨fun z => by rw [List.length_append, List.length_singleton]; omega⟩
   have HCAP : Aside0 ((p.length + 1) * 8 ≤ 140737488355328) := ⟨by omega⟩
   clear hown hx hx1
   go_loopg [10] (ws.length + 1) (fun gg s10 wr => ∃ (t : Nat) (o : List (List Int)) (u : Value), s10 = .int .i64 (t : Int) ∧ t + gg = ws.length + 1 ∧ Aside0 (lkLoop (lkGo k l0 bag d) bag x p ws gg t o = some out') ∧ Aside0 (LkKeep w0.heap.size W wr) ∧ Aside0 (LkKeep w0.heap.size w1 wr) ∧ Aside0 (wr.heap[w0.heap.size]? = some (.cells #[u] 34 (0, 0))) ∧ Aside0 (Kd.S (Kd.slice 3 (Kd.int .i64)) 27 wr w0.heap.size (fun _ => True) u o))
   case atStart => exact ⟨0, out, v, rfl, by omega, HH, ⟨LkKeep.of_below HB1.out⟩, ⟨LkKeep.refl _ _⟩, ⟨blk_below HB.out HB1.out⟩, ⟨Kd.S_below (Kd.S_mono HV.out (fun _ _ => trivial)) HB1.out⟩⟩
   case round =>
    obtain ⟨t, o, u, rfl, hg, HL, HK, HK1, HBX, HO⟩ := hrel
    by_cases hlt : t < ws.length + 1
    ·obtain ⟨m, rfl⟩ : ∃ m, gk = m + 1 := ⟨gk - 1, by omega⟩
     have c1 : decide ((t : Int) ≤ (ws.length : Int)) = true := decide_eq_true (by omega)
     have hL := HL.out
     unfold lkLoop at hL
     have CP := am (Kd.R_reads' (HK.out.row HP.out)).2.2
     have KO := am fun W1 h => spec_l1Own.calls Ap cp p p W1 h hcp HOWN.out
     by_cases hend : t = ws.length
     ·obtain rfl : t = ws.length := hend
      have c2 : decide ((ws.length : Int) = (ws.length : Int)) = true := decide_eq_true rfl
      rw [if_pos (.inl rfl)] at hL
      obtain ⟨o2, hs, hL2⟩ := Option.bind_eq_some_iff.1 hL
      have HS := am hs
      have HL2 := am hL2
      clear hL hs hL2
      go_wp2_with (first | (go_at_call 82; refine (KO.out _ CP.out).mono ?_; rintro e w2 ⟨vc, rfl, hc2, hb2⟩; have HC2 := am hc2; have HB2 := am hb2; clear hc2 hb2) | ((with_reducible refine gate_builtin (b := .append) (xs := #[.tmp 56, .tmp 58]) rfl ?_); at_builtin; refine Kd.R_append (Kd.int .i64) (w0 := wr) wr.heap.size rfl (.tmp 56) (.tmp 58) 27 3 (.int .i64 0) 8 rfl Try.underlying27 info3 rfl (by decide) (by omega) vc p (ws.length : Int) [.int .i64 (ws.length : Int)] (fun _ => True) (fun _ => False) rfl rfl ?aP (fun _ hk => hk.elim) ?aF ?aO ?aB ?aS ?aL ?_; (case aP => exact rfl); (case aF => exact fun _ _ => trivial); (case aO => exact HC2.out); (case aB => exact HB2.out); (case aS => exact HB2.out.size); (case aL => exact HCAP.out); intro v3 w3 ho3 hb3 hg3 hat3; have HSF := am (lk_fresh HO.out hb3 ho3); have HO3 := am (Kd.R_lower ho3 (Nat.le_of_lt (blk_lt HBX.out))); have HB3 := am hb3; clear ho3 hb3 hg3 hat3) | (go_at_call 96; refine (IH.out (p ++ [(ws.length : Int)]) v3 o o2 u w3 HS.out (HLEN.out _) ((HK.out.below HB3.out).lo HLO.out (Nat.le_of_lt (blk_lt HB.out))) (blk_below HBX.out HB3.out) HSF.out HO3.out).mono ?_; rintro e w4 ⟨rfl, hk4, u4, hbx4, ho4⟩; have HK4 := am hk4; have HBX4 := am hbx4; have HO4 := am ho4; clear hk4 hbx4 ho4))
      go_roundg m
      case measure => omega
      case rel => exact ⟨ws.length + 1, o2, u4, rfl, by omega, HL2, ⟨(HK.out.below HB3.out).trans HK4.out⟩, ⟨(HK1.out.below HB3.out).trans HK4.out⟩, HBX4, HO4⟩
     ·have c2 : decide ((t : Int) = (ws.length : Int)) = false := decide_eq_false (by omega)
      obtain ⟨ad2, ead2, hx2⟩ := Kd.at_int (Kd.R_reads' (HK1.out.row HW.out)).2.2 (t : Int) (by omega) (by omega)
      rw [Int.toNat_natCast] at hx2
      subst ead2
      by_cases hle : wrap64 (rd ws (t : Int) + x) ≤ bag
      ·rw [if_pos (.inr hle)] at hL
       obtain ⟨o2, hs, hL2⟩ := Option.bind_eq_some_iff.1 hL
       have c3 : decide (wrap64 (rd ws (t : Int) + x) ≤ bag) = true := decide_eq_true hle
       have HS := am hs
       have HL2 := am hL2
       clear hL hs hL2
       go_wp2_with (first | (go_at_call 82; refine (KO.out _ CP.out).mono ?_; rintro e w2 ⟨vc, rfl, hc2, hb2⟩; have HC2 := am hc2; have HB2 := am hb2; clear hc2 hb2) | ((with_reducible refine gate_builtin (b := .append) (xs := #[.tmp 56, .tmp 58]) rfl ?_); at_builtin; refine Kd.R_append (Kd.int .i64) (w0 := wr) wr.heap.size rfl (.tmp 56) (.tmp 58) 27 3 (.int .i64 0) 8 rfl Try.underlying27 info3 rfl (by decide) (by omega) vc p (t : Int) [.int .i64 (t : Int)] (fun _ => True) (fun _ => False) rfl rfl ?aP (fun _ hk => hk.elim) ?aF ?aO ?aB ?aS ?aL ?_; (case aP => exact rfl); (case aF => exact fun _ _ => trivial); (case aO => exact HC2.out); (case aB => exact HB2.out); (case aS => exact HB2.out.size); (case aL => exact HCAP.out); intro v3 w3 ho3 hb3 hg3 hat3; have HSF := am (lk_fresh HO.out hb3 ho3); have HO3 := am (Kd.R_lower ho3 (Nat.le_of_lt (blk_lt HBX.out))); have HB3 := am hb3; clear ho3 hb3 hg3 hat3) | (go_at_call 96; refine (IH.out (p ++ [(t : Int)]) v3 o o2 u w3 HS.out (HLEN.out _) ((HK.out.below HB3.out).lo HLO.out (Nat.le_of_lt (blk_lt HB.out))) (blk_below HBX.out HB3.out) HSF.out HO3.out).mono ?_; rintro e w4 ⟨rfl, hk4, u4, hbx4, ho4⟩; have HK4 := am hk4; have HBX4 := am hbx4; have HO4 := am ho4; clear hk4 hbx4 ho4))
       go_roundg m
       case measure => omega
       case rel => exact ⟨t + 1, o2, u4, rfl, by omega, HL2, ⟨(HK.out.below HB3.out).trans HK4.out⟩, ⟨(HK1.out.below HB3.out).trans HK4.out⟩, HBX4, HO4⟩
      ·rw [if_neg (by rintro (h | h); exact hend h; exact hle h)] at hL
       have c3 : decide (wrap64 (rd ws (t : Int) + x) ≤ bag) = false := decide_eq_false hle
       have HL2 := am hL
       clear hL
       go_wp2
       go_roundg m
       case measure => omega
       case rel => exact ⟨t + 1, o, u, rfl, by omega, HL2, HK, HK1, HBX, HO⟩
    ·obtain rfl : gk = 0 := by omega
     have c1 : decide ((t : Int) ≤ (ws.length : Int)) = false := decide_eq_false (by omega)
     have hL := HL.out
     unfold lkLoop at hL
     obtain rfl := Option.some.inj hL
     clear hL HL HH
     go_wp2
     first | go_end0 | ((try simp only [Exit.inBlock, Exit.then]); refine bodyPost_ret (results_none rfl _ _ _) rfl ?_)
     exact ⟨rfl, HK.out, _, HBX.out, HO.out⟩
  ·rw [if_neg hwl] at hh
   cases hh
def spec_bgAll.f (k : Nat) (l0 : List (S45)) (a1 : Int) : Option ((List (List Int))) := lkGo k l0 a1 l0.length [] []
theorem spec_bgAll.calls (k : Nat) (A0 : Option Addr) (c0 : Nat) (l0 : List (S45)) (a1 : Int) (r : List (List Int)) (w : World) (hr0 : Kd.C k45 w A0 l0.length l0) (hc0 : l0.length ≤ c0) (h : spec_bgAll.f k l0 a1 = some r) :
  Calls Try.prog 78 #[.slice A0 l0.length c0, .int .i64 a1] w fun e w' => ∃ v0_ : Value, e = .returned (v0_) ∧ Kd.S (Kd.slice 3 (Kd.int .i64)) 27 w' w.heap.size (fun _ => True) v0_ r ∧ Below w.heap.size w w' := by
 unfold spec_bgAll.f at h
 have key := fun W h1 h2 => lk_look k A0 c0 l0 a1 w hr0 hc0 l0.length [] (.slice none 0 0) [] r (.slice none 0 0) W h (Nat.zero_add _) h1 h2 (Kd.S_nil _ _ _ _ _) (Kd.R_nil _ _ _ _ _)
 have KY := am key
 clear key hr0 h
 go_enter Try.func78, Try.ntmps78
 go_wp2_with fail
 refine (KY.out _ ((Below.refl _ _).alloc (Nat.le_refl _) _) (blk_new _ _)).mono ?_
 rintro e w2 ⟨rfl, hk, v', hb, ho⟩
 obtain ⟨Ab, cb, rfl⟩ := Kd.S_slice ho
 have q1 : w2.cell? ⟨w.heap.size, 0, none⟩ = some (.slice Ab r.length cb) := blk_cell hb 0
 have HO := am ho
 have HL := am (hk.lo ((Below.refl _ _).alloc (Nat.le_refl _) _) (by simp))
 clear hb ho hk KY
 go_wp2
 go_ret
 exact ⟨_, rfl, HO.out, HL.out⟩
def parcV (x : S45) : Value := .agg #[.int .i64 x.f0, .int .i64 x.f1]
theorem parc_indexFunc (p : S45 → Bool) (g : Nat) (lb : Array Value) (eg : ∀ args w, (callFunc g args).run Try.prog w = .ok (.enter g args) w) (A : Option Addr) (c : Nat) (l : List S45) (w : World) (hr : Kd.C k45 w A l.length l) (hc : l.length ≤ c)
  (hp : ∀ (W : World) (x : S45), x ∈ l → Below w.heap.size w W → Calls Try.prog g (#[parcV x] ++ lb) W fun e w' => e = .returned (.bool (p x)) ∧ Below w.heap.size w w') :
  Calls Try.prog 86 #[.slice A l.length c, .func (.func g) #[] lb] w fun e w' => e = .returned (.int .i64 (Fun.fidx p l)) ∧ Below w.heap.size w w' := by
 have hu := Try.underlying45
 have hlen : l.length ≤ 9223372036854775807 := hr.2.1
 have HR := am hr
 clear hr
 have HP := am hp
 clear hp
 go_enter Try.func86, Try.ntmps86
 go_wp2
 go_loopg [5, 8] l.length (fun gg _ s8 wr => ∃ kk : Nat, kk ≤ l.length ∧ l.length - kk ≤ gg ∧ s8 = .int .i64 (kk : Int) ∧ Aside0 (Below w.heap.size w wr) ∧ Aside0 (∀ (j : Nat) (x : S45), j < kk → l[j]? = some x → p x = false))
 case atStart => exact ⟨0, Nat.zero_le _, by omega, rfl, ⟨Below.refl _ w⟩, ⟨fun j x hj => absurd hj (Nat.not_lt_zero _)⟩⟩
 case round =>
  obtain ⟨kk, hkk, hg, rfl, HB, HN⟩ := hrel
  by_cases hlt : kk < l.length
  ·have hx := List.getElem?_eq_getElem hlt
   have hrd : rd_T45 l (kk : Int) = l[kk] := by simp [rd_T45, List.getD, hx]
   obtain ⟨ad, e, h0, h1⟩ := at_T45 (Kd.C_below HR.out HB.out) (kk : Int) (by omega) (by omega)
   rw [hrd] at h0 h1
   simp only [Int.toNat_natCast] at h0 h1
   have hcall := HP.out wr l[kk] (List.getElem_mem hlt) HB.out
   clear hrd
   generalize l[kk] = y at hx h0 h1 hcall
   have HX := am hx
   clear hx HP
   cases e
   have hltz : (kk : Int) < (l.length : Int) := by omega
   have q0 : (0 ≤ (kk : Int)) = True := eq_true (by omega)
   have q1 : ((kk : Int) < (l.length : Int)) = True := eq_true hltz
   clear hltz
   unfold parcV at hcall
   cases hq : p y with
   | true =>
    rw [hq] at hcall
    have HQ := am hq
    clear hq
    go_wp2_with (go_at_fn g; refine hcall.mono ?_; rintro e w' ⟨rfl, hb'⟩)
    go_ret
    refine ⟨?_, hb'⟩
    rw [Fun.fidx_hit p l kk y HX.out HQ.out HN.out]
    rfl
   | false =>
    rw [hq] at hcall
    have HQ := am hq
    clear hq
    go_wp2_with (go_at_fn g; refine hcall.mono ?_; rintro e w' ⟨rfl, hb'⟩)
    go_roundg (l.length - (kk + 1))
    case measure => omega
    case rel =>
     refine ⟨kk + 1, by omega, by omega, by go_num, ⟨hb'⟩, ⟨fun j x hj hjx => ?_⟩⟩
     by_cases e : j = kk
     ·subst e
      have := HX.out.symm.trans hjx
      injection this with this
      rw [← this]
      exact HQ.out
     ·exact HN.out j x (by omega) hjx
  ·have : kk = l.length := by omega
   subst this
   go_wp2
   go_ret
   refine ⟨?_, HB.out⟩
   rw [Fun.fidx_miss p l (fun j x hj => HN.out j x (List.getElem?_eq_some_iff.1 hj).1 hj)]
   rfl
theorem parc_containsFunc (p : S45 → Bool) (g : Nat) (lb : Array Value) (eg : ∀ args w, (callFunc g args).run Try.prog w = .ok (.enter g args) w) (A : Option Addr) (c : Nat) (l : List S45) (w : World) (hr : Kd.C k45 w A l.length l) (hc : l.length ≤ c)
  (hp : ∀ (W : World) (x : S45), x ∈ l → Below w.heap.size w W → Calls Try.prog g (#[parcV x] ++ lb) W fun e w' => e = .returned (.bool (p x)) ∧ Below w.heap.size w w') :
  Calls Try.prog 58 #[.slice A l.length c, .func (.func g) #[] lb] w fun e w' => e = .returned (.bool (l.any p)) ∧ Below w.heap.size w w' := by
 have key := parc_indexFunc p g lb eg A c l w hr hc hp
 rw [← Fun.fidx_nonneg p l]
 generalize Fun.fidx p l = i at key
 clear hr hp eg
 go_enter Try.func58, Try.ntmps58
 go_wp2_with (go_at_call 86; refine key.mono ?_; rintro e w' ⟨rfl, hb'⟩)
 go_ret
 exact ⟨rfl, hb'⟩
def parcOk (x : S45) : Bool := (decide (x.f0 ≥ 1) && decide (x.f0 ≤ 100)) && (decide (x.f1 ≥ 1) && decide (x.f1 ≤ 1000))
theorem within_is (a b c : Int) : impl_within.f a b c = some (decide (a ≥ b) && decide (a ≤ c)) := by
 unfold impl_within.f
 by_cases h : a ≥ b
 ·rw [if_pos h, decide_eq_true h, Bool.true_and]
 ·rw [if_neg h, decide_eq_false h, Bool.false_and]
theorem parc_bad (W : World) (x : S45) : Calls Try.prog 59 (#[parcV x] ++ #[]) W fun e w' => e = .returned (.bool (!parcOk x)) ∧ Below W.heap.size W w' := by
 have hu := Try.underlying45
 have key := fun W1 => impl_within.calls x.f0 1 100 _ W1 (within_is _ _ _)
 have key2 := fun W1 => impl_within.calls x.f1 1 1000 _ W1 (within_is _ _ _)
 show Calls Try.prog 59 #[.agg #[.int .i64 x.f0, .int .i64 x.f1]] W _
 unfold parcOk
 generalize x.f0 = a0 at key key2 ⊢
 generalize x.f1 = a1 at key key2 ⊢
 generalize (decide (a0 ≥ 1) && decide (a0 ≤ 100)) = b0 at key ⊢
 generalize (decide (a1 ≥ 1) && decide (a1 ≤ 1000)) = b1 at key2 ⊢
 go_enter Try.func59, Try.ntmps59
 go_wp2_with fail
 refine (key _).mono ?_
 rintro e w1 ⟨rfl, hd1⟩
 have hb1 := hd1.below
 clear hd1
 obtain ⟨hc, hf⟩ := Fun.bcell hb1
 have hb2 := Fun.below_box hb1
 have c0 := (hc W.heap.size 1 (by simp)).trans (show _ = some (.int .i64 a1) by simp)
 clear hc hf hb1
 cases b0 with
 | false =>
  go_wp2
  go_ret
  exact ⟨rfl, hb2⟩
 | true =>
  go_wp2_with fail
  refine (key2 _).mono ?_
  rintro e w2 ⟨rfl, hd3⟩
  have hb3 := hd3.below
  clear hd3
  go_wp2
  go_ret
  exact ⟨by simp, hb2.trans (hb3.mono hb2.size)⟩
def impl_AreParcels.f (l0 : List (S45)) : Option (Bool) := if (decide ((l0.length : Int) ≥ 1) && decide ((l0.length : Int) ≤ 8)) = true then some (!(l0.any fun x => !parcOk x)) else some false
theorem impl_AreParcels.calls (A0 : Option Addr) (c0 : Nat) (l0 : List (S45)) (r : Bool) (w : World) (hr0 : Kd.C k45 w A0 l0.length l0) (hc0 : l0.length ≤ c0) (h : impl_AreParcels.f l0 = some r) :
  Calls Try.prog 23 #[.slice A0 l0.length c0] w fun e w' => e = .returned (.bool r) ∧ Below w.heap.size w w' := by
 unfold impl_AreParcels.f at h
 have HR := am hr0
 have HC := am hc0
 have eg := enters_of Try.func59 (by kernel_rfl) rfl
 have key := fun W => impl_within.calls (l0.length : Int) 1 8 _ W (within_is _ _ _)
 clear hr0 hc0
 generalize (decide ((l0.length : Int) ≥ 1) && decide ((l0.length : Int) ≤ 8)) = t at key h
 cases t with
 | true =>
  rw [if_pos rfl] at h
  obtain rfl := Option.some.inj h
  clear h
  go_enter Try.func23, Try.ntmps23
  go_wp2_with fail
  refine (key _).mono ?_
  rintro e w1 ⟨rfl, hd2⟩
  have hb2 := hd2.below
  clear hd2
  go_wp2_with fail
  refine (parc_containsFunc (fun x => !parcOk x) 59 #[] eg A0 c0 l0 _ (Kd.C_below HR.out hb2) HC.out (fun W x _ hW => (parc_bad W x).mono fun e w' h => ⟨h.1, hW.trans (h.2.mono hW.size)⟩)).mono ?_
  rintro e w2 ⟨rfl, hb3⟩
  go_wp2
  go_ret
  exact ⟨rfl, hb2.trans (hb3.mono hb2.size)⟩
 | false =>
  rw [if_neg (by decide)] at h
  obtain rfl := Option.some.inj h
  clear h
  go_enter Try.func23, Try.ntmps23
  go_wp2_with fail
  refine (key _).mono ?_
  rintro e w1 ⟨rfl, hd2⟩
  have hb2 := hd2.below
  clear hd2
  go_wp2
  go_ret
  exact ⟨rfl, hb2⟩
def impl_isBag.f (a0 : Int) : Option (Bool) := (impl_within.f a0 1 10000).bind fun t101 => (some t101)
theorem impl_isBag.calls (a0 : Int) (r : Bool) (w : World) (h : impl_isBag.f a0 = some r) :
  Calls Try.prog 73 #[.int .i64 a0] w fun e w' => e = .returned (.bool r) ∧ Drawn0 w w' := by
 have H : ((impl_within.f a0 1 10000).bind fun t101 => (some t101)) = some r := h
 clear h
 replace H := bH H
 obtain ⟨t101, A20, H⟩ := H
 replace H : (some t101) = some r := H
 have A2 := am A20
 clear A20
 obtain rfl := Option.some.inj H
 go_enter Try.func73, Try.ntmps73
 go_wp2_with (first | ((with_reducible refine gate_callee (f := 57) rfl ?_); refine uGo (some 4) Try.func57 #[.int .i64 a0, .int .i64 1, .int .i64 10000] ?_; (with_reducible refine (impl_within.calls a0 1 10000 t101 _ A2.out).mono ?_); rintro e w' ⟨rfl, ⟨nd, rfl⟩⟩; refine ⟨_, rfl, ?_⟩))
 go_ret
 exact ⟨by first | rfl | (simp; done) | (simp [*]; done), by repeat (first | exact Drawn0.refl _ | apply Drawn0.step)⟩
theorem parc_heavy (gb : Nat) (b : Int) (W : World) (x : S45) (h0 : W.cell? ⟨gb, 0, none⟩ = some (.int .i64 b)) (l0 : gb < W.heap.size) :
  Calls Try.prog 74 (#[parcV x] ++ #[.pointer (some ⟨gb, 0, none⟩)]) W fun e w' => e = .returned (.bool (decide (x.f1 > b))) ∧ Below W.heap.size W w' := by
 have hu := Try.underlying45
 show Calls Try.prog 74 #[.agg #[.int .i64 x.f0, .int .i64 x.f1], .pointer (some ⟨gb, 0, none⟩)] W _
 generalize x.f0 = a0
 generalize x.f1 = a1
 have e0 : gb ≠ W.heap.size := by omega
 go_enter Try.func74, Try.ntmps74
 go_wp2
 go_ret
 exact ⟨rfl, Fun.below_box (Below.refl _ _)⟩
def impl_fitBag.f (l0 : List (S45)) (a1 : Int) : Option (Bool) := (impl_AreParcels.f l0).bind fun t => if t = true then ((impl_isBag.f a1).bind fun u => if u = true then some (!(l0.any fun x => decide (x.f1 > a1))) else some false) else some false
theorem impl_fitBag.calls (A0 : Option Addr) (c0 : Nat) (l0 : List (S45)) (a1 : Int) (r : Bool) (w : World) (hr0 : Kd.C k45 w A0 l0.length l0) (hc0 : l0.length ≤ c0) (h : impl_fitBag.f l0 a1 = some r) :
  Calls Try.prog 41 #[.slice A0 l0.length c0, .int .i64 a1] w fun e w' => e = .returned (.bool r) ∧ Below w.heap.size w w' := by
 unfold impl_fitBag.f at h
 obtain ⟨t, ht, h⟩ := Option.bind_eq_some_iff.1 h
 have HR := am hr0
 have HC := am hc0
 have eg := enters_of Try.func74 (by kernel_rfl) rfl
 clear hr0 hc0
 have key := fun W hW => impl_AreParcels.calls A0 c0 l0 t W hW HC.out ht
 clear ht
 have hb0 : Below w.heap.size w (w.alloc (.cells #[.int .i64 a1] 3 (0, 0))) := (Below.refl _ _).alloc (Nat.le_refl _) _
 cases t with
 | false =>
  rw [if_neg (by decide)] at h
  obtain rfl := Option.some.inj h
  clear h
  go_enter Try.func41, Try.ntmps41
  go_wp2_with fail
  refine (key _ (Kd.C_below HR.out hb0)).mono ?_
  rintro e w1 ⟨rfl, hb1⟩
  go_wp2
  go_ret
  exact ⟨rfl, Fun.below_box hb1⟩
 | true =>
  rw [if_pos rfl] at h
  obtain ⟨u, hu, h⟩ := Option.bind_eq_some_iff.1 h
  have key2 := fun W => impl_isBag.calls a1 u W hu
  clear hu
  cases u with
  | false =>
   rw [if_neg (by decide)] at h
   obtain rfl := Option.some.inj h
   clear h
   go_enter Try.func41, Try.ntmps41
   go_wp2_with fail
   refine (key _ (Kd.C_below HR.out hb0)).mono ?_
   rintro e w1 ⟨rfl, hb1⟩
   obtain ⟨hc, hf⟩ := Fun.bcell hb1
   have hb2 := Fun.below_box hb1
   have c0 := (hc w.heap.size 0 (by simp)).trans (show _ = some (.int .i64 a1) by simp)
   clear hc hf hb1
   go_wp2_with fail
   refine (key2 _).mono ?_
   rintro e w2 ⟨rfl, hd3⟩
   have hb3 := hd3.below
   clear hd3
   go_wp2
   go_ret
   exact ⟨rfl, hb2.trans (hb3.mono hb2.size)⟩
  | true =>
   rw [if_pos rfl] at h
   obtain rfl := Option.some.inj h
   clear h
   go_enter Try.func41, Try.ntmps41
   go_wp2_with fail
   refine (key _ (Kd.C_below HR.out hb0)).mono ?_
   rintro e w1 ⟨rfl, hb1⟩
   obtain ⟨hc, hf⟩ := Fun.bcell hb1
   have hb2 := Fun.below_box hb1
   have c0 := (hc w.heap.size 0 (by simp)).trans (show _ = some (.int .i64 a1) by simp)
   have hs1 : w.heap.size < w1.heap.size := Nat.lt_of_lt_of_le (by simp) hb1.size
   clear hc hf hb1
   go_wp2_with fail
   refine (key2 _).mono ?_
   rintro e w2 ⟨rfl, hd3⟩
   have hb3 := hd3.below
   clear hd3
   have c1 := (hb3.cell (p := ⟨w.heap.size, 0, none⟩) hs1).trans c0
   have hs2 : w.heap.size < w2.heap.size := Nat.lt_of_lt_of_le hs1 hb3.size
   have hb4 := hb2.trans (hb3.mono hb2.size)
   clear hb2 hb3 c0 hs1
   go_wp2_with fail
   refine (parc_containsFunc (fun x => decide (x.f1 > a1)) 74 #[.pointer (some ⟨w.heap.size, 0, none⟩)] eg A0 c0 l0 _ (Kd.C_below HR.out hb4) HC.out (fun W x _ hW => (parc_heavy w.heap.size a1 W x ((hW.cell (p := ⟨w.heap.size, 0, none⟩) hs2).trans c1) (Nat.lt_of_lt_of_le hs2 hW.size)).mono fun e w' h => ⟨h.1, hW.trans (h.2.mono hW.size)⟩)).mono ?_
   rintro e w3 ⟨rfl, hb5⟩
   go_wp2
   go_ret
   exact ⟨rfl, hb4.trans (hb5.mono hb4.size)⟩
theorem int_indexFunc (p : Int → Bool) (g : Nat) (lb : Array Value) (eg : ∀ args w, (callFunc g args).run Try.prog w = .ok (.enter g args) w) (A : Option Addr) (c : Nat) (l : List Int) (w : World) (hr : Kd.C (Kd.int .i64) w A l.length l) (hc : l.length ≤ c)
  (hp : ∀ (W : World) (x : Int), x ∈ l → Below w.heap.size w W → Calls Try.prog g (#[.int .i64 x] ++ lb) W fun e w' => e = .returned (.bool (p x)) ∧ Below w.heap.size w w') :
  Calls Try.prog 79 #[.slice A l.length c, .func (.func g) #[] lb] w fun e w' => e = .returned (.int .i64 (Fun.fidx p l)) ∧ Below w.heap.size w w' := by
 have hlen : l.length ≤ 9223372036854775807 := hr.2.1
 have HR := am hr
 clear hr
 have HP := am hp
 clear hp
 go_enter Try.func79, Try.ntmps79
 go_wp2
 go_loopg [5, 8] l.length (fun gg _ s8 wr => ∃ kk : Nat, kk ≤ l.length ∧ l.length - kk ≤ gg ∧ s8 = .int .i64 (kk : Int) ∧ Aside0 (Below w.heap.size w wr) ∧ Aside0 (∀ (j : Nat) (x : Int), j < kk → l[j]? = some x → p x = false))
 case atStart => exact ⟨0, Nat.zero_le _, by omega, rfl, ⟨Below.refl _ w⟩, ⟨fun j x hj => absurd hj (Nat.not_lt_zero _)⟩⟩
 case round =>
  obtain ⟨kk, hkk, hg, rfl, HB, HN⟩ := hrel
  by_cases hlt : kk < l.length
  ·have hx := List.getElem?_eq_getElem hlt
   have hrd : rd l (kk : Int) = l[kk] := by simp [rd, List.getD, hx]
   obtain ⟨ad, e, h0⟩ := Kd.at_int (Kd.C_below HR.out HB.out) (kk : Int) (by omega) (by omega)
   rw [hrd] at h0
   simp only [Int.toNat_natCast] at h0
   have hcall := HP.out wr l[kk] (List.getElem_mem hlt) HB.out
   clear hrd
   generalize l[kk] = y at hx h0 hcall
   have HX := am hx
   clear hx HP
   cases e
   have hltz : (kk : Int) < (l.length : Int) := by omega
   have q0 : (0 ≤ (kk : Int)) = True := eq_true (by omega)
   have q1 : ((kk : Int) < (l.length : Int)) = True := eq_true hltz
   clear hltz
   cases hq : p y with
   | true =>
    rw [hq] at hcall
    have HQ := am hq
    clear hq
    go_wp2_with (go_at_fn g; refine hcall.mono ?_; rintro e w' ⟨rfl, hb'⟩)
    go_ret
    refine ⟨?_, hb'⟩
    rw [Fun.fidx_hit p l kk y HX.out HQ.out HN.out]
    rfl
   | false =>
    rw [hq] at hcall
    have HQ := am hq
    clear hq
    go_wp2_with (go_at_fn g; refine hcall.mono ?_; rintro e w' ⟨rfl, hb'⟩)
    go_roundg (l.length - (kk + 1))
    case measure => omega
    case rel =>
     refine ⟨kk + 1, by omega, by omega, by go_num, ⟨hb'⟩, ⟨fun j x hj hjx => ?_⟩⟩
     by_cases e : j = kk
     ·subst e
      have := HX.out.symm.trans hjx
      injection this with this
      rw [← this]
      exact HQ.out
     ·exact HN.out j x (by omega) hjx
  ·have : kk = l.length := by omega
   subst this
   go_wp2
   go_ret
   refine ⟨?_, HB.out⟩
   rw [Fun.fidx_miss p l (fun j x hj => HN.out j x (List.getElem?_eq_some_iff.1 hj).1 hj)]
   rfl
theorem pk_room (gl gi : Nat) (A0 : Option Addr) (c0 : Nat) (l0 : List S45) (i : Nat) (W : World) (x : Int) (hr0 : Kd.C k45 W A0 l0.length l0) (hi : i < l0.length)
  (h0 : W.cell? ⟨gl, 0, none⟩ = some (.slice A0 l0.length c0)) (h1 : W.cell? ⟨gi, 0, none⟩ = some (.int .i64 (i : Int))) :
  Calls Try.prog 80 (#[.int .i64 x] ++ #[.pointer (some ⟨gl, 0, none⟩), .pointer (some ⟨gi, 0, none⟩)]) W fun e w' => e = .returned (.bool (decide (x ≥ (rd_T45 l0 (i : Int)).f1))) ∧ Below W.heap.size W w' := by
 obtain ⟨ad, rfl, hx0, hx1⟩ := at_T45 hr0 (i : Int) (by omega) (by omega)
 rw [Int.toNat_natCast] at hx1
 generalize (rd_T45 l0 (i : Int)).f1 = y at *
 have hlen : l0.length ≤ 9223372036854775807 := hr0.2.1
 have c1 : (i : Int) < (l0.length : Int) := by omega
 clear hx0 hr0
 show Calls Try.prog 80 #[.int .i64 x, .pointer (some ⟨gl, 0, none⟩), .pointer (some ⟨gi, 0, none⟩)] W _
 go_enter Try.func80, Try.ntmps80
 go_wp2
 go_ret
 exact ⟨rfl, by first | exact Below.refl _ _ | exact below_drew (Below.refl _ _)⟩
def pkGo (l : List S45) (bag : Int) : List Int → List Int → List Int → Option (List Int)
 | [], _, plan => some plan
 | i :: r, room, plan => if 0 ≤ i ∧ i < (l.length : Int) ∧ i < (plan.length : Int) ∧ room.length ≤ 1000 then
   (if Fun.fidx (fun x => decide (x ≥ (rd_T45 l i).f1)) room < 0 then pkGo l bag r ((room ++ [bag]).set room.length (wrap64 (rd (room ++ [bag]) (room.length : Int) - (rd_T45 l i).f1))) (plan.set i.toNat (room.length : Int))
    else pkGo l bag r (room.set (Fun.fidx (fun x => decide (x ≥ (rd_T45 l i).f1)) room).toNat (wrap64 (rd room (Fun.fidx (fun x => decide (x ≥ (rd_T45 l i).f1)) room) - (rd_T45 l i).f1))) (plan.set i.toNat (Fun.fidx (fun x => decide (x ≥ (rd_T45 l i).f1)) room)))
  else none
def impl_packed.f (l0 : List (S45)) (a1 : Int) (l2 : List Int) : Option (List Int) := if 1 ≤ l0.length ∧ l0.length ≤ 1000 ∧ l2.length ≤ 1000 then pkGo l0 a1 l2 [] (List.replicate l0.length 0) else none
theorem fidx_lt (p : Int → Bool) (l : List Int) : Fun.fidx p l < (l.length : Int) ∨ Fun.fidx p l < 0 := by
 unfold Fun.fidx
 split
 ·rename_i i h
  rw [List.findIdx?_eq_some_iff_getElem] at h
  obtain ⟨hi, _⟩ := h
  omega
 ·omega
theorem pk_ne {v : Value} {gr n c : Nat} {m s : Nat} (hl : ∀ k, v.ownBlock = some k → k < m) (hat : (Value.slice (some ⟨gr, 0, none⟩) n c).ownBlock = v.ownBlock ∨ ∃ b, (Value.slice (some ⟨gr, 0, none⟩) n c).ownBlock = some b ∧ s ≤ b) (hs : m < s) : gr ≠ m := by
 rcases hat with h | ⟨b, h, hb⟩
 ·exact Nat.ne_of_lt (hl gr (h.symm.trans rfl))
 ·have : gr = b := by simpa [Value.ownBlock] using h
  omega
theorem pk_end {w w4 : World} {gp gr n m cp cr : Nat} {o : Obj} {plan room : List Int} (hB : Below w.heap.size w w4) (hx : w4.heap[w.heap.size]? = some o)
  (hp : Kd.R (Kd.int .i64) 3 w4 (w.heap.size + 1) (fun k_ => k_ = gp) (.slice (some ⟨gp, 0, none⟩) n cp) plan) (hr : Kd.R (Kd.int .i64) 3 w4 (w.heap.size + 1) (fun k_ => k_ ≠ gp) (.slice (some ⟨gr, 0, none⟩) m cr) room)
  (h1 : w.heap.size + 1 ≤ gr) (h2 : w.heap.size + 1 ≤ gp) (hne : gr ≠ gp) (t i : Nat) (x y : Int) :
  Below w.heap.size w ((w4.setCell ⟨gr, t, none⟩ (.int .i64 x)).setCell ⟨gp, i, none⟩ (.int .i64 y)).drew ∧ ((w4.setCell ⟨gr, t, none⟩ (.int .i64 x)).setCell ⟨gp, i, none⟩ (.int .i64 y)).drew.heap[w.heap.size]? = some o ∧
   Kd.R (Kd.int .i64) 3 ((w4.setCell ⟨gr, t, none⟩ (.int .i64 x)).setCell ⟨gp, i, none⟩ (.int .i64 y)).drew (w.heap.size + 1) (fun k_ => k_ = gp) (.slice (some ⟨gp, 0, none⟩) n cp) (plan.set i y) ∧
   Kd.R (Kd.int .i64) 3 ((w4.setCell ⟨gr, t, none⟩ (.int .i64 x)).setCell ⟨gp, i, none⟩ (.int .i64 y)).drew (w.heap.size + 1) (fun k_ => k_ ≠ gp) (.slice (some ⟨gr, 0, none⟩) m cr) (room.set t x) ∧ w4.heap.size ≤ ((w4.setCell ⟨gr, t, none⟩ (.int .i64 x)).setCell ⟨gp, i, none⟩ (.int .i64 y)).drew.heap.size := by
 have hp1 : Kd.R (Kd.int .i64) 3 (w4.setCell ⟨gr, t, none⟩ (.int .i64 x)) (w.heap.size + 1) (fun k_ => k_ = gp) (.slice (some ⟨gp, 0, none⟩) n cp) plan := Kd.R_far (p := ⟨gr, t, none⟩) hp (fun k_ hk => by show k_ ≠ gr; omega) _
 have hr1 : Kd.R (Kd.int .i64) 3 (w4.setCell ⟨gr, t, none⟩ (.int .i64 x)) (w.heap.size + 1) (fun k_ => k_ ≠ gp) (.slice (some ⟨gr, 0, none⟩) m cr) (room.set t x) := by
  have := Kd.R_putn hr (t : Int) x
  rwa [Int.toNat_natCast] at this
 refine ⟨((hB.setCell (p := ⟨gr, t, none⟩) (by show w.heap.size ≤ gr; omega) _).setCell (p := ⟨gp, i, none⟩) (by show w.heap.size ≤ gp; omega) _).drew, ?_, ?_, ?_, ?_⟩
 ·exact (Below.heap_setCell _ ⟨gp, i, none⟩ _ _ (by show w.heap.size ≠ gp; omega)).trans ((Below.heap_setCell _ ⟨gr, t, none⟩ _ _ (by show w.heap.size ≠ gr; omega)).trans hx)
 ·have := Kd.R_putn hp1 (i : Int) y
  rw [Int.toNat_natCast] at this
  exact Kd.R_drew this
 ·exact Kd.R_drew (Kd.R_far (p := ⟨gp, i, none⟩) hr1 (fun k_ hk => hk) _)
 ·simp [World.setCell, World.drew]
theorem impl_packed.calls (A0 : Option Addr) (c0 : Nat) (l0 : List (S45)) (a1 : Int) (A2 : Option Addr) (c2 : Nat) (l2 : List Int) (r : List Int) (w : World) (hr0 : Kd.C k45 w A0 l0.length l0) (hc0 : l0.length ≤ c0) (hr2 : Kd.C (Kd.int .i64) w A2 l2.length l2) (hc2 : l2.length ≤ c2) (h : impl_packed.f l0 a1 l2 = some r) :
  Calls Try.prog 48 #[.slice A0 l0.length c0, .int .i64 a1, .slice A2 l2.length c2] w fun e w' => ∃ v0_ : Value, e = .returned (v0_) ∧ Kd.R (Kd.int .i64) 3 w' w.heap.size (fun _ => True) v0_ r ∧ Below w.heap.size w w' := by
 unfold impl_packed.f at h
 by_cases hl : 1 ≤ l0.length ∧ l0.length ≤ 1000 ∧ l2.length ≤ 1000
 ·rw [if_pos hl] at h
  obtain ⟨hl1, hl2, hl3⟩ := hl
  obtain ⟨ad, rfl, _, _⟩ := at_T45 hr0 0 (by omega) (by omega)
  have HR := am hr0
  have HC := am hc0
  have HR2 := am hr2
  have HC2 := am hc2
  have HH := am h
  have eg := am (enters_of Try.func80 (by kernel_rfl) rfl)
  clear hr0 hc0 hr2 hc2 h
  go_enter Try.func48, Try.ntmps48
  have hb0 : Below w.heap.size w (w.alloc (.cells #[.slice (some ad) l0.length c0] 24 (0, 0))) := (Below.refl _ _).alloc (Nat.le_refl _) _
  have HB0 := am hb0
  have HX0 := am (blk_new w (.cells #[.slice (some ad) l0.length c0] 24 (0, 0)))
  clear hb0
  go_wp2_with (first | ((with_reducible refine gate_dst (N := 14) rfl ?_); refine Kd.R_make (Kd.int .i64) _ 3 rfl (N := 14) rfl 27 _ _ rfl (l0.length : Int) rfl rfl Try.underlying27 (.int .i64 0) 8 info3 rfl (by decide) (by omega) 0 (ok := fun _ => True) (okp := fun _ => True) rfl (fun _ hk => hk) trivial (by omega) (by omega) (Below.refl _ _) (Nat.le_refl _) ?_; intro v1 w2 ho hb hg hnew; rw [Int.toNat_natCast] at ho; obtain ⟨gp, cp, rfl, hbg, hgl, cells, hcells⟩ := Kd.R_form ho (by simp; omega); rw [List.length_replicate] at ho ⊢; have HP := am ho; have HB2 := am (below_step HB0.out hb); have HX := am (blk_below HX0.out hb); have hgp : w.heap.size + 1 ≤ gp := (by rw [World.size_alloc] at hbg; exact hbg); clear ho hb hg hnew hbg hcells))
  have HP0 : Aside0 (Kd.R (Kd.int .i64) 3 w2 (w.heap.size + 1) (fun k_ => k_ = gp) (.slice (some ⟨gp, 0, none⟩) l0.length cp) (List.replicate l0.length 0)) := ⟨Kd.R_mono (Kd.R_lower (Kd.R_tight rfl HP.out) (by simp)) (fun k_ hk => by simpa [Value.ownBlock] using hk)⟩
  go_loopg [8, 17] l2.length (fun gg s8 s17 wr => ∃ (j : Nat) (room plan : List Int), s17 = .int .i64 (j : Int) ∧ j + gg = l2.length ∧ plan.length = l0.length ∧ room.length ≤ j ∧ gp < wr.heap.size ∧ Aside0 (pkGo l0 a1 (l2.drop j) room plan = some r) ∧ Aside0 (Below w.heap.size w wr) ∧ Aside0 (wr.heap[w.heap.size]? = some (.cells #[.slice (some ad) l0.length c0] 24 (0, 0))) ∧ Aside0 (Kd.R (Kd.int .i64) 3 wr (w.heap.size + 1) (fun k_ => k_ = gp) (.slice (some ⟨gp, 0, none⟩) l0.length cp) plan) ∧ Aside0 (Kd.R (Kd.int .i64) 3 wr (w.heap.size + 1) (fun k_ => k_ ≠ gp) s8 room))
  case atStart => exact ⟨0, [], _, rfl, by omega, by simp, by simp, hgl, HH, HB2, HX, HP0, ⟨Kd.R_nil _ _ _ _ _⟩⟩
  case round =>
   obtain ⟨j, room, plan, rfl, hg, hpl, hrl, hgw, HF, HB, HBX, HPL, HO⟩ := hrel
   by_cases hlt : j < l2.length
   ·obtain ⟨m, rfl⟩ : ∃ m, gk = m + 1 := ⟨gk - 1, by omega⟩
    have c1 : decide ((j : Int) < (l2.length : Int)) = true := decide_eq_true (by omega)
    have hF := HF.out
    rw [List.drop_eq_getElem_cons hlt] at hF
    unfold pkGo at hF
    by_cases hgd : 0 ≤ l2[j] ∧ l2[j] < (l0.length : Int) ∧ l2[j] < (plan.length : Int) ∧ room.length ≤ 1000
    ·rw [if_pos hgd] at hF
     obtain ⟨hi0, hi1, _, _⟩ := hgd
     obtain ⟨ad2, rfl, hx2⟩ := Kd.at_int (Kd.C_below HR2.out HB.out) (j : Int) (by omega) (by omega)
     rw [Int.toNat_natCast, show rd l2 (j : Int) = l2[j] by simp [rd, List.getD, hlt]] at hx2
     generalize l2[j] = iz at *
     obtain ⟨i, rfl⟩ := Int.eq_ofNat_of_zero_le hi0
     obtain ⟨Ar, cr, rfl, hcr, hCr⟩ := Kd.R_reads HO.out
     have hbi : Below wr.heap.size wr (wr.alloc (.cells #[.int .i64 (i : Int)] 3 (0, 0))) := (Below.refl _ _).alloc (Nat.le_refl _) _
     have HCR := am (Kd.C_below hCr hbi)
     have HI := am (blk_new wr (.cells #[.int .i64 (i : Int)] 3 (0, 0)))
     have HBI := am hbi
     have HBX1 := am (blk_below HBX.out hbi)
     have KF := am (int_indexFunc (fun x => decide (x ≥ (rd_T45 l0 (i : Int)).f1)) 80 #[.pointer (some ⟨w.heap.size, 0, none⟩), .pointer (some ⟨wr.heap.size, 0, none⟩)] eg.out Ar cr room _ HCR.out hcr (fun W x _ hW => (pk_room w.heap.size wr.heap.size (some ad) c0 l0 i W x (Kd.C_below HR.out (below_step (below_step HB.out HBI.out) hW)) (by omega) ((blk_cell (blk_below HBX1.out hW) 0).trans rfl) ((blk_cell (blk_below HI.out hW) 0).trans rfl)).mono fun e w' h => ⟨h.1, below_step hW h.2⟩))
     generalize ht : Fun.fidx (fun x => decide (x ≥ (rd_T45 l0 (i : Int)).f1)) room = t at KF hF
     have HT := am ht
     have HFF := am hF
     clear hCr hbi hF ht HF
     go_wp2_with fail
     refine KF.out.mono ?_
     rintro e w3 ⟨rfl, hb3⟩
     have HB3 := am (below_step HBI.out hb3)
     have HI3 := am (blk_below HI.out hb3)
     have HBX3 := am (blk_below HBX1.out hb3)
     have HPL3 := am (Kd.R_below HPL.out HB3.out)
     have HO3 := am (Kd.R_below HO.out HB3.out)
     clear hb3 KF HI HBX1
     by_cases htn : t < 0
     ·have c2 : decide (t < 0) = true := decide_eq_true htn
      have hF2 := HFF.out
      rw [if_pos htn] at hF2
      have HF2 := am hF2
      clear hF2 HFF
      go_wp2_with (first | ((with_reducible refine gate_builtin (b := .append) (xs := #[.tmp 28, .tmp 30]) rfl ?_); at_builtin; refine Kd.R_append (Kd.int .i64) (w0 := wr) (w.heap.size + 1) rfl (.tmp 28) (.tmp 30) 27 3 (.int .i64 0) 8 rfl Try.underlying27 info3 rfl (by decide) (by omega) (.slice Ar room.length cr) room a1 [.int .i64 a1] (fun k_ => k_ ≠ gp) (fun _ => False) rfl rfl ?aP (fun _ hk => hk.elim) ?aF ?aO ?aB ?aS ?aL ?_; (case aP => exact rfl); (case aF => exact fun k_ hk => Nat.ne_of_gt (Nat.lt_of_lt_of_le (Nat.lt_of_lt_of_le hgw HB3.out.size) hk)); (case aO => exact HO3.out); (case aB => exact HB3.out.mono (by omega)); (case aS => exact Nat.le_trans (by omega) HB3.out.size); (case aL => omega); intro v4 w4 ho4 hb4 hg4 hat4; obtain ⟨gr, cr4, rfl, hbr, hglr, cells4, hc4⟩ := Kd.R_form ho4 (by simp); rw [show (room ++ [a1]).length = room.length + 1 from by simp] at ho4 ⊢; have HPL4 := am (Kd.R_grown HPL3.out hg4 (fun k_ hk he => HO3.out.1 k_ he.symm hk)); have HBX4 := am (blk_grown HBX3.out hg4 (fun he => absurd (Kd.R_base HO3.out _ he.symm) (by omega))); have HI4 := am (blk_grown HI3.out hg4 (fun he => absurd (Kd.R_lt HO.out _ he.symm) (Nat.lt_irrefl _))); have hne1 : gr ≠ gp := ho4.1 gr rfl; have hne2 : gr ≠ wr.heap.size := pk_ne (Kd.R_lt HO.out) hat4 (blk_lt HI3.out); have HB4 := am (HB.out.trans (hb4.mono (by omega))); have HBW := am hb4; have HRR := am ho4; clear ho4 hb4 hg4 hat4 hc4; skip))
      have hcl := Kd.R_celln 0 HRR.out (room.length : Int) (by omega) (by omega)
      rw [Int.toNat_natCast] at hcl
      obtain ⟨hcl, hfz⟩ := hcl
      have hcp := Kd.R_celln 0 HPL4.out (i : Int) (by omega) (by omega)
      rw [Int.toNat_natCast] at hcp
      obtain ⟨hcp, hfp⟩ := hcp
      obtain ⟨ad3, ead3, _, hx3⟩ := at_T45 (Kd.C_below HR.out HB4.out) (i : Int) (by omega) (by omega)
      obtain rfl := Option.some.inj ead3
      rw [Int.toNat_natCast] at hx3
      have q1 : w4.cell? ⟨w.heap.size, 0, none⟩ = some (.slice (some ad) l0.length c0) := blk_cell HBX4.out 0
      have q2 : w4.cell? ⟨wr.heap.size, 0, none⟩ = some (.int .i64 (i : Int)) := blk_cell HI4.out 0
      have hgr : w.heap.size + 1 ≤ gr := Kd.R_base HRR.out gr rfl
      generalize hy : (rd_T45 l0 (i : Int)).f1 = y at *
      obtain ⟨z, hz⟩ : ∃ z, z = wrap64 (rdOf 0 (room ++ [a1]) (room.length : Int) - y) := ⟨_, rfl⟩
      go_region
      go_wp2
      obtain ⟨e1, e2, e3, e4, e5⟩ := pk_end HB4.out HBX4.out HPL4.out HRR.out hgr hgp hne1 room.length i (wrap64 (rdOf 0 (room ++ [a1]) (room.length : Int) - y)) (room.length : Int)
      go_roundg m
      case measure => omega
      case rel => exact ⟨j + 1, _, _, rfl, by omega, by rw [List.length_set]; exact hpl, by rw [List.length_set]; first | (simp; omega) | omega, Nat.lt_of_lt_of_le (Nat.lt_of_lt_of_le hgw HBW.out.size) e5, ⟨by have := HF2.out; simp only [Int.toNat_natCast] at this; exact this⟩, ⟨e1⟩, ⟨e2⟩, ⟨e3⟩, ⟨e4⟩⟩
     ·have c2 : decide (t < 0) = false := decide_eq_false htn
      have hF2 := HFF.out
      rw [if_neg htn] at hF2
      have HF2 := am hF2
      clear hF2 HFF
      obtain ⟨tt, rfl⟩ := Int.eq_ofNat_of_zero_le (by omega : 0 ≤ t)
      have htl : tt < room.length := by have := fidx_lt (fun x => decide (x ≥ (rd_T45 l0 (i : Int)).f1)) room; have := HT.out; omega
      obtain ⟨gr, cr4, her, hbr, hglr, cells4, hc4⟩ := Kd.R_form HO3.out (by omega)
      injection her with her _ hcr4
      subst her
      subst hcr4
      have HPL4 := HPL3
      have HBX4 := HBX3
      have HI4 := HI3
      have hne1 : gr ≠ gp := HO3.out.1 gr rfl
      have hne2 : gr ≠ wr.heap.size := Nat.ne_of_lt (Kd.R_lt HO.out gr rfl)
      have HB4 := am (HB.out.trans (HB3.out.mono (by omega)))
      have HRR := HO3
      have hcl := Kd.R_celln 0 HRR.out (tt : Int) (by omega) (by omega)
      rw [Int.toNat_natCast] at hcl
      obtain ⟨hcl, hfz⟩ := hcl
      have hcp := Kd.R_celln 0 HPL4.out (i : Int) (by omega) (by omega)
      rw [Int.toNat_natCast] at hcp
      obtain ⟨hcp, hfp⟩ := hcp
      obtain ⟨ad3, ead3, _, hx3⟩ := at_T45 (Kd.C_below HR.out HB4.out) (i : Int) (by omega) (by omega)
      obtain rfl := Option.some.inj ead3
      rw [Int.toNat_natCast] at hx3
      have q1 : w3.cell? ⟨w.heap.size, 0, none⟩ = some (.slice (some ad) l0.length c0) := blk_cell HBX4.out 0
      have q2 : w3.cell? ⟨wr.heap.size, 0, none⟩ = some (.int .i64 (i : Int)) := blk_cell HI4.out 0
      have hgr : w.heap.size + 1 ≤ gr := Kd.R_base HRR.out gr rfl
      generalize hy : (rd_T45 l0 (i : Int)).f1 = y at *
      obtain ⟨z, hz⟩ : ∃ z, z = wrap64 (rdOf 0 room (tt : Int) - y) := ⟨_, rfl⟩
      go_wp2_with fail
      go_region
      go_wp2
      obtain ⟨e1, e2, e3, e4, e5⟩ := pk_end HB4.out HBX4.out HPL4.out HRR.out hgr hgp hne1 tt i (wrap64 (rdOf 0 room (tt : Int) - y)) (tt : Int)
      go_roundg m
      case measure => omega
      case rel => exact ⟨j + 1, _, _, rfl, by omega, by rw [List.length_set]; exact hpl, by rw [List.length_set]; first | (simp; omega) | omega, Nat.lt_of_lt_of_le (Nat.lt_of_lt_of_le hgw HB3.out.size) e5, ⟨by have := HF2.out; simp only [Int.toNat_natCast] at this; exact this⟩, ⟨e1⟩, ⟨e2⟩, ⟨e3⟩, ⟨e4⟩⟩
    ·rw [if_neg hgd] at hF
     cases hF
   ·obtain rfl : gk = 0 := by omega
    have c1 : decide ((j : Int) < (l2.length : Int)) = false := decide_eq_false (by omega)
    have hF := HF.out
    rw [List.drop_eq_nil_of_le (by omega)] at hF
    unfold pkGo at hF
    obtain rfl := Option.some.inj hF
    clear hF HF HH
    go_wp2
    go_ret
    exact ⟨_, rfl, Kd.R_mono (Kd.R_lower (base' := w.heap.size) HPL.out (by omega)) (fun _ _ => trivial), HB.out⟩
 ·rw [if_neg hl] at h
  cases h
def impl_PackInOrder.l0 : Nat → List (S45) → Int → List Int → Int → Int → Option (List Int × Bool)
 | 0, _, _, _, _, _ => none
 | k + 1, x0, x1, x6, x16, x17 => if x17 < x16 then (if 0 ≤ x17 then (if x17 < (x6.length : Int) then (impl_PackInOrder.l0 k x0 x1 (x6.set (x17 : Int).toNat x17) x16 (wrap64 (x17 + 1))) else (none)) else (none)) else ((impl_packed.f x0 x1 x6).bind fun t106 => (some (t106, true)))
def impl_PackInOrder.f (k : Nat) (l0 : List (S45)) (a1 : Int) : Option (List Int × Bool) := (impl_fitBag.f l0 a1).bind fun t101 => (if t101 = true then (if 0 ≤ (l0.length : Int) then (if ((l0.length : Int) : Int).toNat ≤ 35184372088832 then ((some (List.replicate ((l0.length : Int) : Int).toNat 0 : List Int)).bind fun y102 => (impl_PackInOrder.l0 k l0 a1 y102 (y102.length : Int) 0)) else (none)) else (none)) else (some (([] : List Int), false)))
theorem impl_PackInOrder.calls (k : Nat) (A0 : Option Addr) (c0 : Nat) (l0 : List (S45)) (a1 : Int) (r1 : List Int) (r2 : Bool) (w : World) (hr0 : Kd.C k45 w A0 l0.length l0) (hc0 : l0.length ≤ c0) (h : impl_PackInOrder.f k l0 a1 = some (r1, r2)) :
  Calls Try.prog 16 #[.slice A0 l0.length c0, .int .i64 a1] w fun e w' => ∃ v0_ : Value, e = .returned (.tuple #[v0_, .bool r2]) ∧ Kd.R (Kd.int .i64) 3 w' w.heap.size (fun _ => True) v0_ r1 ∧ Below w.heap.size w w' := by
 have HR0 := am hr0
 have HC0 := am hc0
 clear hr0 hc0
 have HB := am (Below.refl w.heap.size w)
 have H : ((impl_fitBag.f l0 a1).bind fun t101 => (if t101 = true then (if 0 ≤ (l0.length : Int) then (if ((l0.length : Int) : Int).toNat ≤ 35184372088832 then ((some (List.replicate ((l0.length : Int) : Int).toNat 0 : List Int)).bind fun y102 => (impl_PackInOrder.l0 k l0 a1 y102 (y102.length : Int) 0)) else (none)) else (none)) else (some (([] : List Int), false)))) = some (r1, r2) := h
 clear h
 replace H := bH H
 obtain ⟨t101, A30, H⟩ := H
 replace H : (if t101 = true then (if 0 ≤ (l0.length : Int) then (if ((l0.length : Int) : Int).toNat ≤ 35184372088832 then ((some (List.replicate ((l0.length : Int) : Int).toNat 0 : List Int)).bind fun y102 => (impl_PackInOrder.l0 k l0 a1 y102 (y102.length : Int) 0)) else (none)) else (none)) else (some (([] : List Int), false))) = some (r1, r2) := H
 have A3 := am A30
 clear A30
 by_cases c4 : t101 = true
 ·subst c4
  have H1 : (if 0 ≤ (l0.length : Int) then (if ((l0.length : Int) : Int).toNat ≤ 35184372088832 then ((some (List.replicate ((l0.length : Int) : Int).toNat 0 : List Int)).bind fun y102 => (impl_PackInOrder.l0 k l0 a1 y102 (y102.length : Int) 0)) else (none)) else (none)) = some (r1, r2) := by rw [if_pos rfl] at H; exact H
  clear H
  have H := H1
  clear H1
  by_cases c5 : 0 ≤ (l0.length : Int)
  ·rw [if_pos c5] at H
   have c5b0 := eq_true c5
   have c5b1 : decide (0 ≤ (l0.length : Int)) = true := decide_eq_true c5
   clear c5
   by_cases c6 : ((l0.length : Int) : Int).toNat ≤ 35184372088832
   ·rw [if_pos c6] at H
    have c6b0 := eq_true c6
    have c6b1 : decide (((l0.length : Int) : Int).toNat ≤ 35184372088832) = true := decide_eq_true c6
    clear c6
    obtain ⟨y102, hy102⟩ : ∃ y_ : List Int, y_ = (List.replicate ((l0.length : Int) : Int).toNat 0) := ⟨_, rfl⟩
    replace H : (impl_PackInOrder.l0 k l0 a1 y102 (y102.length : Int) 0) = some (r1, r2) := by first | (rw [hy102]; with_reducible exact H) | (have H2_ := (Option.bind_some _ _).symm.trans H; rw [hy102]; with_reducible exact H2_) | (have H2_ := (Option.bind_some _ _).symm.trans H; with_reducible exact H2_) | with_reducible exact H | (rw [hy102]; exact H) | exact H
    have Ny102 := am hy102
    clear hy102
    have H' := am H
    clear H
    go_enter Try.func16, Try.ntmps16
    go_wp2_with (first | ((with_reducible refine gate_callee (f := 41) rfl ?_); refine uGo (some 10) Try.func41 #[.slice A0 l0.length c0, .int .i64 a1] ?_; (with_reducible refine (impl_fitBag.calls _ _ l0 a1 true _ ?side1 ?side2 A3.out).mono ?_); (case side1 => repeat (first | exact HR0.out | (with_reducible refine cA ?_ _) | (with_reducible refine cN ?_ _) | (with_reducible refine cD ?_))); (case side2 => exact HC0.out); rintro e w7 ⟨rfl, hb⟩; refine ⟨_, rfl, ?_⟩; replace HB := uS hb; (try clear hb); (try clear hb2); (try clear hk); (try clear hi)) | ((with_reducible refine gate_dst (N := 14) rfl ?_); refine Kd.R_make (Kd.int .i64) _ 3 rfl (N := 14) rfl 27 _ _ rfl (l0.length : Int) rfl rfl Try.underlying27 (.int .i64 0) 8 info3 rfl (by decide) (by omega) 0 (ok := fun _ => True) (okp := fun _ => True) rfl (fun _ hk => hk) trivial (of_decide_eq_true (by first | (with_reducible assumption) | assumption)) (Nat.le_trans (Nat.mul_le_mul_right _ (of_decide_eq_true (by first | (with_reducible assumption) | assumption) : (l0.length : Int).toNat ≤ 35184372088832)) (by omega)) (Below.refl _ _) (Nat.le_refl _) ?_; intro v103 w8 ho9 hb hg_ hnew_; clear hg_ hnew_; (first | rw [← Ny102.out] at ho9 | (simp only [Int.reduceToNat] at ho9; rw [← Ny102.out] at ho9)); have HO104 := am (Kd.R_lower ho9 (below_size uW)); replace HB := uS hb; clear hb ho9; obtain ⟨Ao10, co10, eo10⟩ := Kd.R_slice HO104.out; subst eo10))
    go_loopg [17] k (fun kq v17 w' => ∃ (x6_1 : List Int) (x17_1 : Int), v17 = .int .i64 x17_1 ∧ Aside0 (impl_PackInOrder.l0 kq l0 a1 x6_1 (y102.length : Int) x17_1 = some (r1, r2)) ∧ Aside0 (kq ≤ k) ∧ Aside0 (Kd.R (Kd.int .i64) 3 w' w.heap.size (fun _ => True) (.slice Ao10 y102.length co10) x6_1) ∧ Aside0 (Below w.heap.size w w'))
    case atStart => exact ⟨(y102), (0), (by first | rfl | (simp; done) | (simp [*]; done)), H', ⟨Nat.le_refl _⟩, ⟨by (with_reducible repeat (first | apply rA | apply rN | apply rD)); exact HO104.out⟩, ⟨by exact uW⟩⟩
    case round =>
     clear H'
     try clear c1
     try clear p2
     try clear c4
     try clear c5
     try clear c5b0
     try clear c5b1
     try clear c6
     try clear c6b0
     try clear c6b1
     obtain ⟨x6_1, x17_1, rfl, HA, HK1, HO_6, HB⟩ := hrel
     have hl6_1 := (Kd.R_reads' HO_6.out).1
     rw [hl6_1] at HO_6
     (try simp only [hl6_1])
     cases gk with
     | zero => exact absurd HA.out (by simp [impl_PackInOrder.l0])
     | succ k1 =>
      have H := HA.out
      clear HA
      simp only [impl_PackInOrder.l0] at H
      by_cases c11 : x17_1 < (y102.length : Int)
      ·rw [if_pos c11] at H
       have c11b0 : decide (x17_1 < (y102.length : Int)) = true := decide_eq_true c11
       (try rw [hl6_1] at c11b0)
       clear c11
       by_cases c12 : 0 ≤ x17_1
       ·rw [if_pos c12] at H
        have c12b0 : decide (0 ≤ x17_1) = true := decide_eq_true c12
        clear c12
        by_cases c13 : x17_1 < (x6_1.length : Int)
        ·rw [if_pos c13] at H
         have c13b0 : decide (x17_1 < (x6_1.length : Int)) = true := decide_eq_true c13
         (try rw [hl6_1] at c13b0)
         clear c13
         obtain ⟨y105, hy105⟩ : ∃ y_ : List Int, y_ = (x6_1.set (x17_1 : Int).toNat x17_1) := ⟨_, rfl⟩
         replace H : (impl_PackInOrder.l0 k1 l0 a1 y105 (y102.length : Int) (wrap64 (x17_1 + 1))) = some (r1, r2) := by first | (rw [hy105]; with_reducible exact H) | (have H2_ := (Option.bind_some _ _).symm.trans H; rw [hy105]; with_reducible exact H2_) | (have H2_ := (Option.bind_some _ _).symm.trans H; with_reducible exact H2_) | with_reducible exact H | (rw [hy105]; exact H) | exact H
         have Ny105 := am hy105
         clear hy105
         have H' := am H
         clear H
         have p14 : 0 ≤ (x17_1 : Int) := of_decide_eq_true (by first | (with_reducible assumption) | assumption)
         have q14 : (x17_1 : Int) < ((x6_1.length : Int) : Int) := of_decide_eq_true (by first | (with_reducible assumption) | assumption)
         obtain ⟨go14, co14, eo14, gb14, gl14, cl14, HG14⟩ := Kd.R_form HO_6.out (by omega)
         (first | cases eo14 | (injection eo14 with ea_ en_ ec_; (first | subst ea_ | (injection ea_ with ea_; subst ea_)); subst ec_; clear en_))
         have GB14 := am gb14
         have GG14 := am HG14
         clear gb14 gl14 HG14
         obtain ⟨hx14_0, hf14_0⟩ := Kd.R_celln 0 HO_6.out (x17_1 : Int) p14 q14
         replace p14 := eq_true p14
         replace q14 := eq_true q14
         have HP15 := Kd.R_putg HO_6.out (x17_1 : Int) x17_1
         go_wp2_with (first | ((with_reducible refine gate_store (t := 3) (p := 23) rfl ?_); refine store_event (t := 3) (p := 23) (v := ?vo_w16) (w1 := (wr.setCell ⟨go14, (x17_1 : Int).toNat, none⟩ (.int .i64 x17_1))) ?hg ?ho ?hn ?hr ?_; (case ho => rfl); (case hg => rfl); (case hn => rfl); (case hr => first | (go_simp; done) | (go_simp; rfl)); intro w16 hw; have hg : wr.grownBy w16 (some go14) := (by rw [hw]; exact HP15.2); have hp_ : Kd.R (Kd.int .i64) 3 w16 w.heap.size (fun _ => True) (.slice (some ⟨go14, 0, none⟩) x6_1.length co10) y105 := (by rw [hw, Ny105.out]; exact HP15.1); clear HP15; replace HO_6 := am (hp_); replace HB := am ((by rw [hw]; exact below_set (HB.out) GB14.out : Below w.heap.size w w16)); clear hg hw hp_))
         (try simp only [← hl6_1])
         go_roundg k1
         case measure => have := HK1.out; omega
         case rel => exact ⟨(y105), (wrap64 (x17_1 + 1)), (by first | rfl | (simp; done) | (simp [*]; done)), H', ⟨by have := HK1.out; omega⟩, ⟨by (try simp only [hl6_1]); (with_reducible repeat (first | apply rA | apply rN | apply rD)); exact HO_6.out⟩, ⟨by exact uW⟩⟩
        ·rw [if_neg c13] at H
         exact absurd H (by simp)
       ·rw [if_neg c12] at H
        exact absurd H (by simp)
      ·rw [if_neg c11] at H
       have c11b0 : decide (x17_1 < (y102.length : Int)) = false := decide_eq_false c11
       (try rw [hl6_1] at c11b0)
       clear c11
       replace H := bH H
       obtain ⟨t106, A170, H⟩ := H
       replace H : (some (t106, true)) = some (r1, r2) := H
       have A17 := am A170
       clear A170
       simp only [Option.some.injEq, Prod.mk.injEq] at H
       obtain ⟨rfl, rfl⟩ := H
       go_wp2_with (first | ((with_reducible refine gate_callee (f := 48) rfl ?_); refine uGo (some 28) Try.func48 #[.slice A0 l0.length c0, .int .i64 a1, .slice Ao10 x6_1.length co10] ?_; (with_reducible refine (impl_packed.calls _ _ l0 a1 _ _ x6_1 t106 _ ?side1 ?side2 ?side3 ?side4 A17.out).mono ?_); (case side1 => repeat (first | exact (Kd.C_below HR0.out HB.out) | (with_reducible refine cA ?_ _) | (with_reducible refine cN ?_ _) | (with_reducible refine cD ?_))); (case side2 => exact HC0.out); (case side3 => repeat (first | exact (Kd.R_reads' HO_6.out).2.2 | (with_reducible refine cA ?_ _) | (with_reducible refine cN ?_ _) | (with_reducible refine cD ?_))); (case side4 => exact (Kd.R_reads' HO_6.out).2.1); rintro e w18 ⟨v107, rfl, ho0, hb⟩; refine ⟨_, rfl, ?_⟩; have HO108 := am (Kd.R_lower (Kd.R_new' ho0 (Kd.R_lt (uR HO_6))) (below_size uW)); replace HO_6 := am (Kd.R_elder' (uR HO_6) (Kd.R_base ho0) hb); replace HB := uS hb; (try clear hb); (try clear hb2); (try clear hk); (try clear hi); (try clear ho0)))
       go_ret2
       exact ⟨_, uA, by (with_reducible repeat (first | apply rA | apply rN | apply rD)); exact Kd.R_mono HO108.out (fun _ hk => trivial), by exact uW⟩
   ·rw [if_neg c6] at H
    exact absurd H (by simp)
  ·rw [if_neg c5] at H
   exact absurd H (by simp)
 ·replace c4 := Bool.eq_false_iff.mpr c4
  subst c4
  have H1 : (some (([] : List Int), false)) = some (r1, r2) := by rw [if_neg (show ¬ (false = true) by decide)] at H; exact H
  clear H
  have H := H1
  clear H1
  simp only [Option.some.injEq, Prod.mk.injEq] at H
  obtain ⟨rfl, rfl⟩ := H
  go_enter Try.func16, Try.ntmps16
  go_wp2_with (first | ((with_reducible refine gate_callee (f := 41) rfl ?_); refine uGo (some 10) Try.func41 #[.slice A0 l0.length c0, .int .i64 a1] ?_; (with_reducible refine (impl_fitBag.calls _ _ l0 a1 false _ ?side1 ?side2 A3.out).mono ?_); (case side1 => repeat (first | exact HR0.out | (with_reducible refine cA ?_ _) | (with_reducible refine cN ?_ _) | (with_reducible refine cD ?_))); (case side2 => exact HC0.out); rintro e w19 ⟨rfl, hb⟩; refine ⟨_, rfl, ?_⟩; replace HB := uS hb; (try clear hb); (try clear hb2); (try clear hk); (try clear hi)))
  go_ret2
  exact ⟨_, uA, uN, by exact uW⟩
mutual
def spec_bgNamed.l0 : Nat → List Int → List Int → List Int → Int → Int → Option (List Int)
 | 0, _, _, _, _, _ => none
 | k + 1, x3, x4, x8, x9, x10 => if x10 < x9 then (if 0 ≤ x10 then (if x10 < (x8.length : Int) then (spec_bgNamed.l1 k x3 x4 (rd x8 x10) 0 x8 x9 x10) else (none)) else (none)) else (some x4)
def spec_bgNamed.l1 : Nat → List Int → List Int → Int → Int → List Int → Int → Int → Option (List Int)
 | 0, _, _, _, _, _, _, _ => none
 | k + 1, x3, x4, x6, x7, x8, x9, x10 => if x7 < (x3.length : Int) then (if 0 ≤ x7 then (if (rd x3 x7) = x6 then (if x7 = (x3.length : Int) then (if x3.length < 17592186044416 then (if x4.length < 17592186044416 then (spec_bgNamed.l0 k (x3 ++ [x6]) (x4 ++ [x7]) x8 x9 (wrap64 (x10 + 1))) else (none)) else (none)) else (if x4.length < 17592186044416 then (spec_bgNamed.l0 k x3 (x4 ++ [x7]) x8 x9 (wrap64 (x10 + 1))) else (none))) else (spec_bgNamed.l1 k x3 x4 x6 (wrap64 (x7 + 1)) x8 x9 x10)) else (none)) else (if x7 = (x3.length : Int) then (if x3.length < 17592186044416 then (if x4.length < 17592186044416 then (spec_bgNamed.l0 k (x3 ++ [x6]) (x4 ++ [x7]) x8 x9 (wrap64 (x10 + 1))) else (none)) else (none)) else (if x4.length < 17592186044416 then (spec_bgNamed.l0 k x3 (x4 ++ [x7]) x8 x9 (wrap64 (x10 + 1))) else (none)))
end
def spec_bgNamed.f (k : Nat) (l0 : List Int) : Option (List Int) := spec_bgNamed.l0 k ([] : List Int) ([] : List Int) l0 (l0.length : Int) 0
theorem spec_bgNamed.mono_l : ∀ k, (∀ y0 y1 y2 y3 y4, LeO (spec_bgNamed.l0 k y0 y1 y2 y3 y4) (spec_bgNamed.l0 (k + 1) y0 y1 y2 y3 y4)) ∧ (∀ y0 y1 y2 y3 y4 y5 y6, LeO (spec_bgNamed.l1 k y0 y1 y2 y3 y4 y5 y6) (spec_bgNamed.l1 (k + 1) y0 y1 y2 y3 y4 y5 y6))
 | 0 => ⟨fun _ _ _ _ _ r h => by simp [spec_bgNamed.l0] at h, fun _ _ _ _ _ _ _ r h => by simp [spec_bgNamed.l1] at h⟩
 | k + 1 => by
  obtain ⟨ih0, ih1⟩ := spec_bgNamed.mono_l k
  refine ⟨?_, ?_⟩
  ·intro y0 y1 y2 y3 y4
   unfold spec_bgNamed.l0
   repeat' first
   | (with_reducible exact ih0 _ _ _ _ _)
   | (with_reducible exact ih1 _ _ _ _ _ _ _)
   | (with_reducible exact LeO.refl _)
   | (with_reducible exact LeO.none _)
   | (with_reducible refine LeO.ite ?_ ?_)
   | (with_reducible refine LeO.bind ?_ (fun _ => ?_))
   | exact ih0 _ _ _ _ _
   | exact ih1 _ _ _ _ _ _ _
   | exact LeO.none _
   | refine LeO.ite ?_ ?_
   | refine LeO.bind ?_ (fun _ => ?_)
  ·intro y0 y1 y2 y3 y4 y5 y6
   unfold spec_bgNamed.l1
   repeat' first
   | (with_reducible exact ih0 _ _ _ _ _)
   | (with_reducible exact ih1 _ _ _ _ _ _ _)
   | (with_reducible exact LeO.refl _)
   | (with_reducible exact LeO.none _)
   | (with_reducible refine LeO.ite ?_ ?_)
   | (with_reducible refine LeO.bind ?_ (fun _ => ?_))
   | exact ih0 _ _ _ _ _
   | exact ih1 _ _ _ _ _ _ _
   | exact LeO.none _
   | refine LeO.ite ?_ ?_
   | refine LeO.bind ?_ (fun _ => ?_)
theorem spec_bgNamed.mono : ∀ a0 k, LeO (spec_bgNamed.f k a0) (spec_bgNamed.f (k + 1) a0) := by
 intro a0 k
 obtain ⟨ih0, ih1⟩ := spec_bgNamed.mono_l k
 unfold spec_bgNamed.f
 repeat' first
   | (with_reducible exact ih0 _ _ _ _ _)
   | (with_reducible exact ih1 _ _ _ _ _ _ _)
   | (with_reducible exact LeO.refl _)
   | (with_reducible exact LeO.none _)
   | (with_reducible refine LeO.ite ?_ ?_)
   | (with_reducible refine LeO.bind ?_ (fun _ => ?_))
   | exact ih0 _ _ _ _ _
   | exact ih1 _ _ _ _ _ _ _
   | exact LeO.none _
   | refine LeO.ite ?_ ?_
   | refine LeO.bind ?_ (fun _ => ?_)
theorem spec_bgNamed.calls (k : Nat) (A0 : Option Addr) (c0 : Nat) (l0 : List Int) (r : List Int) (w : World) (hr0 : Kd.C (Kd.int .i64) w A0 l0.length l0) (hc0 : l0.length ≤ c0) (h : spec_bgNamed.f k l0 = some r) :
  Calls Try.prog 81 #[.slice A0 l0.length c0] w fun e w' => ∃ v0_ : Value, e = .returned (v0_) ∧ Kd.R (Kd.int .i64) 3 w' w.heap.size (fun _ => True) v0_ r ∧ Below w.heap.size w w' := by
 have HR0 := am hr0
 have HC0 := am hc0
 clear hr0 hc0
 have HB := am (Below.refl w.heap.size w)
 have H : (spec_bgNamed.l0 k ([] : List Int) ([] : List Int) l0 (l0.length : Int) 0) = some r := h
 clear h
 have H' := am H
 clear H
 go_enter Try.func81, Try.ntmps81
 go_wp2
 go_loopg [3, 4, 10] k (fun kq v3 v4 v10 w' => ∃ (x3_1 : List Int) (x4_1 : List Int) (x10_1 : Int), v10 = .int .i64 x10_1 ∧ Aside0 (spec_bgNamed.l0 kq x3_1 x4_1 l0 (l0.length : Int) x10_1 = some r) ∧ Aside0 (kq ≤ k) ∧ Aside0 (Kd.R (Kd.int .i64) 3 w' w.heap.size (fun k_ => some k_ ≠ (v4 : Value).ownBlock) v3 x3_1) ∧ Aside0 (Kd.R (Kd.int .i64) 3 w' w.heap.size (fun k_ => some k_ ≠ (v3 : Value).ownBlock) v4 x4_1) ∧ Aside0 (Below w.heap.size w w'))
 case atStart => exact ⟨(([] : List Int)), (([] : List Int)), (0), (by first | rfl | (simp; done) | (simp [*]; done)), H', ⟨Nat.le_refl _⟩, ⟨uN⟩, ⟨uN⟩, ⟨by exact uW⟩⟩
 case round =>
  clear H'
  obtain ⟨x3_1, x4_1, x10_1, rfl, HA, HK1, HO_3, HO_4, HB⟩ := hrel
  cases gk with
  | zero => exact absurd HA.out (by simp [spec_bgNamed.l0])
  | succ k1 =>
   have H := HA.out
   clear HA
   simp only [spec_bgNamed.l0] at H
   by_cases c2 : x10_1 < (l0.length : Int)
   ·rw [if_pos c2] at H
    have c2b0 : decide (x10_1 < (l0.length : Int)) = true := decide_eq_true c2
    clear c2
    by_cases c3 : 0 ≤ x10_1
    ·rw [if_pos c3] at H
     have c3b0 : decide (0 ≤ x10_1) = true := decide_eq_true c3
     clear c3
     by_cases c4 : x10_1 < (l0.length : Int)
     ·rw [if_pos c4] at H
      have c4b0 : decide (x10_1 < (l0.length : Int)) = true := decide_eq_true c4
      clear c4
      have H' := am H
      clear H
      have p101 : 0 ≤ (x10_1 : Int) := of_decide_eq_true (by first | (with_reducible assumption) | assumption)
      have q101 : x10_1 < (l0.length : Int) := of_decide_eq_true (by first | (with_reducible assumption) | assumption)
      obtain ⟨ad101, e101, hx101_0⟩ := Kd.at_int HR0.out x10_1 p101 q101
      cases e101
      try replace hx101_0 := (HB.out.cell (World.block_lt_of_cell? w _ hx101_0)).trans hx101_0
      replace p101 := eq_true p101
      replace q101 := eq_true q101
      go_wp2
      go_loopg [7] k1 (fun kq v7 w' => ∃ (x7_2 : Int), v7 = .int .i64 x7_2 ∧ Aside0 (spec_bgNamed.l1 kq x3_1 x4_1 (rd l0 x10_1) x7_2 l0 (l0.length : Int) x10_1 = some r) ∧ Aside0 (kq ≤ k1) ∧ Aside0 (Kd.R (Kd.int .i64) 3 w' w.heap.size (fun k_ => some k_ ≠ (u4 : Value).ownBlock) u3 x3_1) ∧ Aside0 (Kd.R (Kd.int .i64) 3 w' w.heap.size (fun k_ => some k_ ≠ (u3 : Value).ownBlock) u4 x4_1) ∧ Aside0 (Below w.heap.size w w'))
      case atStart => exact ⟨(0), (by first | rfl | (simp; done) | (simp [*]; done)), H', ⟨Nat.le_refl _⟩, ⟨by (with_reducible repeat (first | apply rA | apply rN | apply rD)); exact HO_3.out⟩, ⟨by (with_reducible repeat (first | apply rA | apply rN | apply rD)); exact HO_4.out⟩, ⟨by exact uW⟩⟩
      case round =>
       clear H'
       try clear p1
       try clear q1
       try clear hx1
       try clear c2
       try clear c2b0
       try clear p2
       try clear c3
       try clear c3b0
       try clear c4
       try clear c4b0
       try clear hx101_0
       try clear p101
       try clear q101
       obtain ⟨x7_2, rfl, HA, HK2, HO_3, HO_4, HB⟩ := hrel
       cases gk with
       | zero => exact absurd HA.out (by simp [spec_bgNamed.l1])
       | succ k2 =>
        have H := HA.out
        clear HA
        simp only [spec_bgNamed.l1] at H
        by_cases c5 : x7_2 < (x3_1.length : Int)
        ·rw [if_pos c5] at H
         have c5b0 : decide (x7_2 < (x3_1.length : Int)) = true := decide_eq_true c5
         clear c5
         by_cases c6 : 0 ≤ x7_2
         ·rw [if_pos c6] at H
          have c6b0 : decide (0 ≤ x7_2) = true := decide_eq_true c6
          clear c6
          by_cases c7 : (rd x3_1 x7_2) = (rd l0 x10_1)
          ·rw [if_pos c7] at H
           have c7b0 : ((rd x3_1 x7_2) == (rd l0 x10_1)) = true := beq_iff_eq.mpr c7
           have c7b1 : ((rd x3_1 x7_2) != (rd l0 x10_1)) = false := bne_eq_false_iff_eq.mpr c7
           clear c7
           by_cases c8 : x7_2 = (x3_1.length : Int)
           ·rw [if_pos c8] at H
            have c8b0 : (x7_2 == (x3_1.length : Int)) = true := beq_iff_eq.mpr c8
            have c8b1 : (x7_2 != (x3_1.length : Int)) = false := bne_eq_false_iff_eq.mpr c8
            clear c8
            by_cases c9 : x3_1.length < 17592186044416
            ·rw [if_pos c9] at H
             have LMc9 := am c9
             clear c9
             obtain ⟨y103, hy103⟩ : ∃ y_ : List Int, y_ = (x3_1 ++ [(rd l0 x10_1)]) := ⟨_, rfl⟩
             replace H : (if x4_1.length < 17592186044416 then (spec_bgNamed.l0 k2 y103 (x4_1 ++ [x7_2]) l0 (l0.length : Int) (wrap64 (x10_1 + 1))) else (none)) = some r := by first | (rw [hy103]; with_reducible exact H) | (have H2_ := (Option.bind_some _ _).symm.trans H; rw [hy103]; with_reducible exact H2_) | (have H2_ := (Option.bind_some _ _).symm.trans H; with_reducible exact H2_) | with_reducible exact H | (rw [hy103]; exact H) | exact H
             have Ny103 := am hy103
             clear hy103
             by_cases c10 : x4_1.length < 17592186044416
             ·rw [if_pos c10] at H
              have LMc10 := am c10
              clear c10
              obtain ⟨y106, hy106⟩ : ∃ y_ : List Int, y_ = (x4_1 ++ [x7_2]) := ⟨_, rfl⟩
              replace H : (spec_bgNamed.l0 k2 y103 y106 l0 (l0.length : Int) (wrap64 (x10_1 + 1))) = some r := by first | (rw [hy106]; with_reducible exact H) | (have H2_ := (Option.bind_some _ _).symm.trans H; rw [hy106]; with_reducible exact H2_) | (have H2_ := (Option.bind_some _ _).symm.trans H; with_reducible exact H2_) | with_reducible exact H | (rw [hy106]; exact H) | exact H
              have Ny106 := am hy106
              clear hy106
              have H' := am H
              clear H
              obtain ⟨Ao11, co11, eo11⟩ := Kd.R_slice HO_3.out
              subst eo11
              have p102 : 0 ≤ (x7_2 : Int) := of_decide_eq_true (by first | (with_reducible assumption) | assumption)
              have q102 : x7_2 < (x3_1.length : Int) := of_decide_eq_true (by first | (with_reducible assumption) | assumption)
              obtain ⟨ad102, e102, hx102_0⟩ := Kd.at_int (Kd.R_reads' HO_3.out).2.2 x7_2 p102 q102
              cases e102
              replace p102 := eq_true p102
              replace q102 := eq_true q102
              go_wp2_with (first | ((with_reducible refine gate_builtin (b := .append) (xs := #[.tmp 32, .tmp 34]) rfl ?_); at_builtin; refine Kd.R_append (Kd.int .i64) (w0 := w) w.heap.size rfl (.tmp 32) (.tmp 34) 27 3 (.int .i64 0) 8 rfl Try.underlying27 info3 rfl (by decide) (by omega) (.slice (some ad102) x3_1.length co11) x3_1 (rd l0 x10_1) [.int .i64 (rd l0 x10_1)] (fun k_ => some k_ ≠ (u4 : Value).ownBlock) (fun _ => False) rfl rfl ?aP (fun _ hk => hk.elim) ?aF ?aO ?aB ?aS ?aL ?_; (case aP => exact rfl); (case aB => exact uW); (case aF => exact (fun k_ hk => Kd.fresh' (Kd.R_lt (uR HO_4)) k_ hk)); (case aO => exact (uR HO_3)); (case aS => exact (below_size uW)); (case aL => have := LMc9.out; omega); intro v104 w12 ho hb hg hat; rw [← Ny103.out] at ho; have HO105 := am (ho); replace HO_4 := am (Kd.R_after (ok := (fun _ => True)) (by (with_reducible repeat (first | apply rA | apply rN | apply rD)); exact Kd.R_mono HO_4.out (fun _ hk => ⟨trivial, hk⟩)) hg hat); replace HB := am (hb); clear HO_3; clear ho hb hg hat) | ((with_reducible refine gate_builtin (b := .append) (xs := #[.tmp 36, .tmp 38]) rfl ?_); at_builtin; refine Kd.R_append (Kd.int .i64) (w0 := w) w.heap.size rfl (.tmp 36) (.tmp 38) 27 3 (.int .i64 0) 8 rfl Try.underlying27 info3 rfl (by decide) (by omega) u4 x4_1 x7_2 [.int .i64 x7_2] (fun k_ => some k_ ≠ (v104 : Value).ownBlock) (fun _ => False) rfl rfl ?aP (fun _ hk => hk.elim) ?aF ?aO ?aB ?aS ?aL ?_; (case aP => exact rfl); (case aB => exact uW); (case aF => exact (fun k_ hk => Kd.fresh' (Kd.R_lt (uR HO105)) k_ hk)); (case aO => exact (by (with_reducible repeat (first | apply rA | apply rN | apply rD)); exact Kd.R_mono HO_4.out (fun _ hk => hk.2))); (case aS => exact (below_size uW)); (case aL => have := LMc10.out; omega); intro v107 w13 ho hb hg hat; rw [← Ny106.out] at ho; have HO108 := am (ho); replace HO105 := am (Kd.R_after (ok := (fun _ => True)) (by (with_reducible repeat (first | apply rA | apply rN | apply rD)); exact Kd.R_mono HO105.out (fun _ hk => ⟨trivial, hk⟩)) hg hat); replace HB := am (hb); clear HO_4; clear ho hb hg hat))
              go_roundg k2
              case measure => have := HK1.out; have := HK2.out; omega
              case rel => exact ⟨(y103), (y106), (wrap64 (x10_1 + 1)), (by first | rfl | (simp; done) | (simp [*]; done)), H', ⟨by have := HK1.out; have := HK2.out; omega⟩, ⟨by (with_reducible repeat (first | apply rA | apply rN | apply rD)); exact Kd.R_mono HO105.out (fun _ hk => hk.2)⟩, ⟨by (with_reducible repeat (first | apply rA | apply rN | apply rD)); exact HO108.out⟩, ⟨by exact uW⟩⟩
             ·rw [if_neg c10] at H
              exact absurd H (by simp)
            ·rw [if_neg c9] at H
             exact absurd H (by simp)
           ·rw [if_neg c8] at H
            have c8b0 : (x7_2 == (x3_1.length : Int)) = false := beq_eq_false_iff_ne.mpr c8
            have c8b1 : (x7_2 != (x3_1.length : Int)) = true := bne_iff_ne.mpr c8
            by_cases c14 : x4_1.length < 17592186044416
            ·rw [if_pos c14] at H
             have LMc14 := am c14
             clear c14
             obtain ⟨y109, hy109⟩ : ∃ y_ : List Int, y_ = (x4_1 ++ [x7_2]) := ⟨_, rfl⟩
             replace H : (spec_bgNamed.l0 k2 x3_1 y109 l0 (l0.length : Int) (wrap64 (x10_1 + 1))) = some r := by first | (rw [hy109]; with_reducible exact H) | (have H2_ := (Option.bind_some _ _).symm.trans H; rw [hy109]; with_reducible exact H2_) | (have H2_ := (Option.bind_some _ _).symm.trans H; with_reducible exact H2_) | with_reducible exact H | (rw [hy109]; exact H) | exact H
             have Ny109 := am hy109
             clear hy109
             have H' := am H
             clear H
             obtain ⟨Ao15, co15, eo15⟩ := Kd.R_slice HO_3.out
             subst eo15
             have p102 : 0 ≤ (x7_2 : Int) := of_decide_eq_true (by first | (with_reducible assumption) | assumption)
             have q102 : x7_2 < (x3_1.length : Int) := of_decide_eq_true (by first | (with_reducible assumption) | assumption)
             obtain ⟨ad102, e102, hx102_0⟩ := Kd.at_int (Kd.R_reads' HO_3.out).2.2 x7_2 p102 q102
             cases e102
             replace p102 := eq_true p102
             replace q102 := eq_true q102
             go_wp2_with (first | ((with_reducible refine gate_builtin (b := .append) (xs := #[.tmp 36, .tmp 38]) rfl ?_); at_builtin; refine Kd.R_append (Kd.int .i64) (w0 := w) w.heap.size rfl (.tmp 36) (.tmp 38) 27 3 (.int .i64 0) 8 rfl Try.underlying27 info3 rfl (by decide) (by omega) u4 x4_1 x7_2 [.int .i64 x7_2] (fun k_ => some k_ ≠ (.slice (some ad102) x3_1.length co15 : Value).ownBlock) (fun _ => False) rfl rfl ?aP (fun _ hk => hk.elim) ?aF ?aO ?aB ?aS ?aL ?_; (case aP => exact rfl); (case aB => exact uW); (case aF => exact (fun k_ hk => Kd.fresh' (Kd.R_lt (uR HO_3)) k_ hk)); (case aO => exact (uR HO_4)); (case aS => exact (below_size uW)); (case aL => have := LMc14.out; omega); intro v110 w16 ho hb hg hat; rw [← Ny109.out] at ho; have HO111 := am (ho); replace HO_3 := am (Kd.R_after (ok := (fun _ => True)) (by (with_reducible repeat (first | apply rA | apply rN | apply rD)); exact Kd.R_mono HO_3.out (fun _ hk => ⟨trivial, hk⟩)) hg hat); replace HB := am (hb); clear HO_4; clear ho hb hg hat))
             go_roundg k2
             case measure => have := HK1.out; have := HK2.out; omega
             case rel => exact ⟨(x3_1), (y109), (wrap64 (x10_1 + 1)), (by first | rfl | (simp; done) | (simp [*]; done)), H', ⟨by have := HK1.out; have := HK2.out; omega⟩, ⟨by (with_reducible repeat (first | apply rA | apply rN | apply rD)); exact Kd.R_mono HO_3.out (fun _ hk => hk.2)⟩, ⟨by (with_reducible repeat (first | apply rA | apply rN | apply rD)); exact HO111.out⟩, ⟨by exact uW⟩⟩
            ·rw [if_neg c14] at H
             exact absurd H (by simp)
          ·rw [if_neg c7] at H
           have c7b0 : ((rd x3_1 x7_2) == (rd l0 x10_1)) = false := beq_eq_false_iff_ne.mpr c7
           have c7b1 : ((rd x3_1 x7_2) != (rd l0 x10_1)) = true := bne_iff_ne.mpr c7
           have H' := am H
           clear H
           obtain ⟨Ao17, co17, eo17⟩ := Kd.R_slice HO_3.out
           subst eo17
           have p102 : 0 ≤ (x7_2 : Int) := of_decide_eq_true (by first | (with_reducible assumption) | assumption)
           have q102 : x7_2 < (x3_1.length : Int) := of_decide_eq_true (by first | (with_reducible assumption) | assumption)
           obtain ⟨ad102, e102, hx102_0⟩ := Kd.at_int (Kd.R_reads' HO_3.out).2.2 x7_2 p102 q102
           cases e102
           replace p102 := eq_true p102
           replace q102 := eq_true q102
           go_wp2
           go_roundg k2
           case measure => have := HK1.out; have := HK2.out; omega
           case rel => exact ⟨(wrap64 (x7_2 + 1)), (by first | rfl | (simp; done) | (simp [*]; done)), H', ⟨by have := HK1.out; have := HK2.out; omega⟩, ⟨by (with_reducible repeat (first | apply rA | apply rN | apply rD)); exact HO_3.out⟩, ⟨by (with_reducible repeat (first | apply rA | apply rN | apply rD)); exact HO_4.out⟩, ⟨by exact uW⟩⟩
         ·rw [if_neg c6] at H
          exact absurd H (by simp)
        ·rw [if_neg c5] at H
         have c5b0 : decide (x7_2 < (x3_1.length : Int)) = false := decide_eq_false c5
         clear c5
         by_cases c18 : x7_2 = (x3_1.length : Int)
         ·rw [if_pos c18] at H
          have c18b0 : (x7_2 == (x3_1.length : Int)) = true := beq_iff_eq.mpr c18
          have c18b1 : (x7_2 != (x3_1.length : Int)) = false := bne_eq_false_iff_eq.mpr c18
          clear c18
          by_cases c19 : x3_1.length < 17592186044416
          ·rw [if_pos c19] at H
           have LMc19 := am c19
           clear c19
           obtain ⟨y112, hy112⟩ : ∃ y_ : List Int, y_ = (x3_1 ++ [(rd l0 x10_1)]) := ⟨_, rfl⟩
           replace H : (if x4_1.length < 17592186044416 then (spec_bgNamed.l0 k2 y112 (x4_1 ++ [x7_2]) l0 (l0.length : Int) (wrap64 (x10_1 + 1))) else (none)) = some r := by first | (rw [hy112]; with_reducible exact H) | (have H2_ := (Option.bind_some _ _).symm.trans H; rw [hy112]; with_reducible exact H2_) | (have H2_ := (Option.bind_some _ _).symm.trans H; with_reducible exact H2_) | with_reducible exact H | (rw [hy112]; exact H) | exact H
           have Ny112 := am hy112
           clear hy112
           by_cases c20 : x4_1.length < 17592186044416
           ·rw [if_pos c20] at H
            have LMc20 := am c20
            clear c20
            obtain ⟨y115, hy115⟩ : ∃ y_ : List Int, y_ = (x4_1 ++ [x7_2]) := ⟨_, rfl⟩
            replace H : (spec_bgNamed.l0 k2 y112 y115 l0 (l0.length : Int) (wrap64 (x10_1 + 1))) = some r := by first | (rw [hy115]; with_reducible exact H) | (have H2_ := (Option.bind_some _ _).symm.trans H; rw [hy115]; with_reducible exact H2_) | (have H2_ := (Option.bind_some _ _).symm.trans H; with_reducible exact H2_) | with_reducible exact H | (rw [hy115]; exact H) | exact H
            have Ny115 := am hy115
            clear hy115
            have H' := am H
            clear H
            obtain ⟨Ao21, co21, eo21⟩ := Kd.R_slice HO_3.out
            subst eo21
            go_wp2_with (first | ((with_reducible refine gate_builtin (b := .append) (xs := #[.tmp 32, .tmp 34]) rfl ?_); at_builtin; refine Kd.R_append (Kd.int .i64) (w0 := w) w.heap.size rfl (.tmp 32) (.tmp 34) 27 3 (.int .i64 0) 8 rfl Try.underlying27 info3 rfl (by decide) (by omega) (.slice Ao21 x3_1.length co21) x3_1 (rd l0 x10_1) [.int .i64 (rd l0 x10_1)] (fun k_ => some k_ ≠ (u4 : Value).ownBlock) (fun _ => False) rfl rfl ?aP (fun _ hk => hk.elim) ?aF ?aO ?aB ?aS ?aL ?_; (case aP => exact rfl); (case aB => exact uW); (case aF => exact (fun k_ hk => Kd.fresh' (Kd.R_lt (uR HO_4)) k_ hk)); (case aO => exact (uR HO_3)); (case aS => exact (below_size uW)); (case aL => have := LMc19.out; omega); intro v113 w22 ho hb hg hat; rw [← Ny112.out] at ho; have HO114 := am (ho); replace HO_4 := am (Kd.R_after (ok := (fun _ => True)) (by (with_reducible repeat (first | apply rA | apply rN | apply rD)); exact Kd.R_mono HO_4.out (fun _ hk => ⟨trivial, hk⟩)) hg hat); replace HB := am (hb); clear HO_3; clear ho hb hg hat) | ((with_reducible refine gate_builtin (b := .append) (xs := #[.tmp 36, .tmp 38]) rfl ?_); at_builtin; refine Kd.R_append (Kd.int .i64) (w0 := w) w.heap.size rfl (.tmp 36) (.tmp 38) 27 3 (.int .i64 0) 8 rfl Try.underlying27 info3 rfl (by decide) (by omega) u4 x4_1 x7_2 [.int .i64 x7_2] (fun k_ => some k_ ≠ (v113 : Value).ownBlock) (fun _ => False) rfl rfl ?aP (fun _ hk => hk.elim) ?aF ?aO ?aB ?aS ?aL ?_; (case aP => exact rfl); (case aB => exact uW); (case aF => exact (fun k_ hk => Kd.fresh' (Kd.R_lt (uR HO114)) k_ hk)); (case aO => exact (by (with_reducible repeat (first | apply rA | apply rN | apply rD)); exact Kd.R_mono HO_4.out (fun _ hk => hk.2))); (case aS => exact (below_size uW)); (case aL => have := LMc20.out; omega); intro v116 w23 ho hb hg hat; rw [← Ny115.out] at ho; have HO117 := am (ho); replace HO114 := am (Kd.R_after (ok := (fun _ => True)) (by (with_reducible repeat (first | apply rA | apply rN | apply rD)); exact Kd.R_mono HO114.out (fun _ hk => ⟨trivial, hk⟩)) hg hat); replace HB := am (hb); clear HO_4; clear ho hb hg hat))
            go_roundg k2
            case measure => have := HK1.out; have := HK2.out; omega
            case rel => exact ⟨(y112), (y115), (wrap64 (x10_1 + 1)), (by first | rfl | (simp; done) | (simp [*]; done)), H', ⟨by have := HK1.out; have := HK2.out; omega⟩, ⟨by (with_reducible repeat (first | apply rA | apply rN | apply rD)); exact Kd.R_mono HO114.out (fun _ hk => hk.2)⟩, ⟨by (with_reducible repeat (first | apply rA | apply rN | apply rD)); exact HO117.out⟩, ⟨by exact uW⟩⟩
           ·rw [if_neg c20] at H
            exact absurd H (by simp)
          ·rw [if_neg c19] at H
           exact absurd H (by simp)
         ·rw [if_neg c18] at H
          have c18b0 : (x7_2 == (x3_1.length : Int)) = false := beq_eq_false_iff_ne.mpr c18
          have c18b1 : (x7_2 != (x3_1.length : Int)) = true := bne_iff_ne.mpr c18
          by_cases c24 : x4_1.length < 17592186044416
          ·rw [if_pos c24] at H
           have LMc24 := am c24
           clear c24
           obtain ⟨y118, hy118⟩ : ∃ y_ : List Int, y_ = (x4_1 ++ [x7_2]) := ⟨_, rfl⟩
           replace H : (spec_bgNamed.l0 k2 x3_1 y118 l0 (l0.length : Int) (wrap64 (x10_1 + 1))) = some r := by first | (rw [hy118]; with_reducible exact H) | (have H2_ := (Option.bind_some _ _).symm.trans H; rw [hy118]; with_reducible exact H2_) | (have H2_ := (Option.bind_some _ _).symm.trans H; with_reducible exact H2_) | with_reducible exact H | (rw [hy118]; exact H) | exact H
           have Ny118 := am hy118
           clear hy118
           have H' := am H
           clear H
           obtain ⟨Ao25, co25, eo25⟩ := Kd.R_slice HO_3.out
           subst eo25
           go_wp2_with (first | ((with_reducible refine gate_builtin (b := .append) (xs := #[.tmp 36, .tmp 38]) rfl ?_); at_builtin; refine Kd.R_append (Kd.int .i64) (w0 := w) w.heap.size rfl (.tmp 36) (.tmp 38) 27 3 (.int .i64 0) 8 rfl Try.underlying27 info3 rfl (by decide) (by omega) u4 x4_1 x7_2 [.int .i64 x7_2] (fun k_ => some k_ ≠ (.slice Ao25 x3_1.length co25 : Value).ownBlock) (fun _ => False) rfl rfl ?aP (fun _ hk => hk.elim) ?aF ?aO ?aB ?aS ?aL ?_; (case aP => exact rfl); (case aB => exact uW); (case aF => exact (fun k_ hk => Kd.fresh' (Kd.R_lt (uR HO_3)) k_ hk)); (case aO => exact (uR HO_4)); (case aS => exact (below_size uW)); (case aL => have := LMc24.out; omega); intro v119 w26 ho hb hg hat; rw [← Ny118.out] at ho; have HO120 := am (ho); replace HO_3 := am (Kd.R_after (ok := (fun _ => True)) (by (with_reducible repeat (first | apply rA | apply rN | apply rD)); exact Kd.R_mono HO_3.out (fun _ hk => ⟨trivial, hk⟩)) hg hat); replace HB := am (hb); clear HO_4; clear ho hb hg hat))
           go_roundg k2
           case measure => have := HK1.out; have := HK2.out; omega
           case rel => exact ⟨(x3_1), (y118), (wrap64 (x10_1 + 1)), (by first | rfl | (simp; done) | (simp [*]; done)), H', ⟨by have := HK1.out; have := HK2.out; omega⟩, ⟨by (with_reducible repeat (first | apply rA | apply rN | apply rD)); exact Kd.R_mono HO_3.out (fun _ hk => hk.2)⟩, ⟨by (with_reducible repeat (first | apply rA | apply rN | apply rD)); exact HO120.out⟩, ⟨by exact uW⟩⟩
          ·rw [if_neg c24] at H
           exact absurd H (by simp)
     ·rw [if_neg c4] at H
      exact absurd H (by simp)
    ·rw [if_neg c3] at H
     exact absurd H (by simp)
   ·rw [if_neg c2] at H
    have c2b0 : decide (x10_1 < (l0.length : Int)) = false := decide_eq_false c2
    clear c2
    obtain rfl := Option.some.inj H
    go_wp2
    go_ret
    exact ⟨_, uA, by (with_reducible repeat (first | apply rA | apply rN | apply rD)); exact Kd.R_mono HO_4.out (fun _ hk => trivial), by exact uW⟩
mutual
def spec_bgPack.l0 : Nat → List (S45) → Int → List Int → List Int → List Int → Int → Int → Option (List Int)
 | 0, _, _, _, _, _, _, _ => none
 | k + 1, x0, x1, x7, x8, x15, x16, x17 => if x17 < x16 then (if 0 ≤ x17 then (if x17 < (x15.length : Int) then (spec_bgPack.l1 k x0 x1 x7 x8 (rd x15 x17) 0 x15 x16 x17) else (none)) else (none)) else ((spec_bgNamed.f k x7).bind fun t104 => (some t104))
def spec_bgPack.l1 : Nat → List (S45) → Int → List Int → List Int → Int → Int → List Int → Int → Int → Option (List Int)
 | 0, _, _, _, _, _, _, _, _, _ => none
 | k + 1, x0, x1, x7, x8, x10, x11, x15, x16, x17 => if x11 < (x8.length : Int) then (if 0 ≤ x11 then (if 0 ≤ x10 then (if x10 < (x0.length : Int) then (if (rd x8 x11) < ((rd_T45 x0 x10).f1) then (spec_bgPack.l1 k x0 x1 x7 x8 x10 (wrap64 (x11 + 1)) x15 x16 x17) else (if x11 = (x8.length : Int) then (if x8.length < 17592186044416 then ((some (x8 ++ [x1] : List Int)).bind fun y110 => (if x11 < (y110.length : Int) then (if x10 < (x7.length : Int) then (spec_bgPack.l0 k x0 x1 (x7.set (x10 : Int).toNat x11) (y110.set (x11 : Int).toNat (wrap64 ((rd y110 x11) - ((rd_T45 x0 x10).f1)))) x15 x16 (wrap64 (x17 + 1))) else (none)) else (none))) else (none)) else (if x10 < (x7.length : Int) then (spec_bgPack.l0 k x0 x1 (x7.set (x10 : Int).toNat x11) (x8.set (x11 : Int).toNat (wrap64 ((rd x8 x11) - ((rd_T45 x0 x10).f1)))) x15 x16 (wrap64 (x17 + 1))) else (none)))) else (none)) else (none)) else (none)) else (if x11 = (x8.length : Int) then (if x8.length < 17592186044416 then ((some (x8 ++ [x1] : List Int)).bind fun y121 => (if 0 ≤ x11 then (if x11 < (y121.length : Int) then (if 0 ≤ x10 then (if x10 < (x0.length : Int) then (if x10 < (x7.length : Int) then (spec_bgPack.l0 k x0 x1 (x7.set (x10 : Int).toNat x11) (y121.set (x11 : Int).toNat (wrap64 ((rd y121 x11) - ((rd_T45 x0 x10).f1)))) x15 x16 (wrap64 (x17 + 1))) else (none)) else (none)) else (none)) else (none)) else (none))) else (none)) else (if 0 ≤ x11 then (none) else (none)))
end
def spec_bgPack.f (k : Nat) (l0 : List (S45)) (a1 : Int) (l2 : List Int) : Option (List Int) := if 0 ≤ (l0.length : Int) then (if ((l0.length : Int) : Int).toNat ≤ 35184372088832 then (spec_bgPack.l0 k l0 a1 (List.replicate ((l0.length : Int) : Int).toNat 0) ([] : List Int) l2 (l2.length : Int) 0) else (none)) else (none)
def spec_bgPack.T7 : Bool × List (List Nat × List Nat) := (true, [([], []), ([], []), ([1], [1]), ([0, 2], [0, 2]), ([3], [3]), ([4], [4]), ([4], [4]), ([5, 6, 4], [4, 5, 6]), ([7, 4], [4, 7]), ([4], [4]), ([4], [4]), ([9, 10, 4], [4, 9, 10]), ([11, 4], [4, 11]), ([12, 4], [4, 12]), ([8, 13, 4], [4, 8, 13]), ([4, 14], [4, 14])])
def spec_bgPack.B7 : List Nat := [0, 0, 2, 7, 15, 31, 31, 127, 255, 31, 31, 1567, 3615, 7711, 16383, 32767]
theorem spec_bgPack.tab7 : rtab .any (opsOf Try.f49 7) = spec_bgPack.T7 := by kernel_rfl
theorem spec_bgPack.bits7 : waitsOk spec_bgPack.T7.2 spec_bgPack.B7 = true := by kernel_rfl
def spec_bgPack.T11 : Bool × List (List Nat × List Nat) := (true, [([], []), ([], []), ([0, 1], [0, 1]), ([2], [2]), ([], []), ([], []), ([4, 5], [4, 5]), ([6], [6]), ([7], [7]), ([3, 8], [3, 8]), ([0, 1, 0, 1, 2, 3, 4, 5, 6, 7, 8, 9], [0, 1]), ([10, 9, 0, 1, 2, 3, 4, 5, 6, 7, 8, 9], [9, 10])])
def spec_bgPack.B11 : List Nat := [0, 0, 3, 7, 0, 0, 48, 112, 240, 511, 1023, 2047]
theorem spec_bgPack.tab11 : rtab .any (opsOf Try.f49 11) = spec_bgPack.T11 := by kernel_rfl
theorem spec_bgPack.bits11 : waitsOk spec_bgPack.T11.2 spec_bgPack.B11 = true := by kernel_rfl
theorem spec_bgPack.calls (k : Nat) (A0 : Option Addr) (c0 : Nat) (l0 : List (S45)) (a1 : Int) (A2 : Option Addr) (c2 : Nat) (l2 : List Int) (r : List Int) (w : World) (hr0 : Kd.C k45 w A0 l0.length l0) (hc0 : l0.length ≤ c0) (hr2 : Kd.C (Kd.int .i64) w A2 l2.length l2) (hc2 : l2.length ≤ c2) (h : spec_bgPack.f k l0 a1 l2 = some r) :
  Calls Try.prog 49 #[.slice A0 l0.length c0, .int .i64 a1, .slice A2 l2.length c2] w fun e w' => ∃ v0_ : Value, e = .returned (v0_) ∧ Kd.R (Kd.int .i64) 3 w' w.heap.size (fun _ => True) v0_ r ∧ Below w.heap.size w w' := by
 have HR0 := am hr0
 have HC0 := am hc0
 clear hr0 hc0
 have HR2 := am hr2
 have HC2 := am hc2
 clear hr2 hc2
 have HB := am (Below.refl w.heap.size w)
 have H : (if 0 ≤ (l0.length : Int) then (if ((l0.length : Int) : Int).toNat ≤ 35184372088832 then (spec_bgPack.l0 k l0 a1 (List.replicate ((l0.length : Int) : Int).toNat 0) ([] : List Int) l2 (l2.length : Int) 0) else (none)) else (none)) = some r := h
 clear h
 by_cases c4 : 0 ≤ (l0.length : Int)
 ·rw [if_pos c4] at H
  have c4b0 := eq_true c4
  have c4b1 : decide (0 ≤ (l0.length : Int)) = true := decide_eq_true c4
  clear c4
  by_cases c5 : ((l0.length : Int) : Int).toNat ≤ 35184372088832
  ·rw [if_pos c5] at H
   have c5b0 := eq_true c5
   have c5b1 : decide (((l0.length : Int) : Int).toNat ≤ 35184372088832) = true := decide_eq_true c5
   clear c5
   obtain ⟨y101, hy101⟩ : ∃ y_ : List Int, y_ = (List.replicate ((l0.length : Int) : Int).toNat 0) := ⟨_, rfl⟩
   replace H : (spec_bgPack.l0 k l0 a1 y101 ([] : List Int) l2 (l2.length : Int) 0) = some r := by first | (rw [hy101]; with_reducible exact H) | (have H2_ := (Option.bind_some _ _).symm.trans H; rw [hy101]; with_reducible exact H2_) | (have H2_ := (Option.bind_some _ _).symm.trans H; with_reducible exact H2_) | with_reducible exact H | (rw [hy101]; exact H) | exact H
   have Ny101 := am hy101
   clear hy101
   have H' := am H
   clear H
   go_enter Try.func49, Try.ntmps49
   go_wp2_with (first | ((with_reducible refine gate_dst (N := 14) rfl ?_); refine Kd.R_make (Kd.int .i64) _ 3 rfl (N := 14) rfl 27 _ _ rfl (l0.length : Int) rfl rfl Try.underlying27 (.int .i64 0) 8 info3 rfl (by decide) (by omega) 0 (ok := fun _ => True) (okp := fun _ => True) rfl (fun _ hk => hk) trivial (of_decide_eq_true (by first | (with_reducible assumption) | assumption)) (Nat.le_trans (Nat.mul_le_mul_right _ (of_decide_eq_true (by first | (with_reducible assumption) | assumption) : (l0.length : Int).toNat ≤ 35184372088832)) (by omega)) (Below.refl _ _) (Nat.le_refl _) ?_; intro v102 w6 ho7 hb hg_ hnew_; clear hg_ hnew_; (first | rw [← Ny101.out] at ho7 | (simp only [Int.reduceToNat] at ho7; rw [← Ny101.out] at ho7)); have HO103 := am (Kd.R_lower ho7 (below_size uW)); replace HB := uS hb; clear hb ho7))
   go_loopg [8, 17] k (fun kq v8 v17 w' => ∃ (x7_1 : List Int) (x8_1 : List Int) (x17_1 : Int), v17 = .int .i64 x17_1 ∧ Aside0 (spec_bgPack.l0 kq l0 a1 x7_1 x8_1 l2 (l2.length : Int) x17_1 = some r) ∧ Aside0 (kq ≤ k) ∧ Aside0 (Kd.R (Kd.int .i64) 3 w' w.heap.size (fun k_ => some k_ ≠ (v8 : Value).ownBlock) v102 x7_1) ∧ Aside0 (Kd.R (Kd.int .i64) 3 w' w.heap.size (fun k_ => some k_ ≠ (v102 : Value).ownBlock) v8 x8_1) ∧ Aside0 (Below w.heap.size w w'))
   case atStart => exact ⟨(y101), (([] : List Int)), (0), (by first | rfl | (simp; done) | (simp [*]; done)), H', ⟨Nat.le_refl _⟩, ⟨by (with_reducible repeat (first | apply rA | apply rN | apply rD)); exact Kd.R_mono HO103.out (fun _ hk => (by simp [Value.ownBlock]))⟩, ⟨uN⟩, ⟨by exact uW⟩⟩
   case round =>
    clear H'
    try clear c2
    try clear p2
    try clear c4
    try clear c4b0
    try clear c4b1
    try clear c5
    try clear c5b0
    try clear c5b1
    obtain ⟨x7_1, x8_1, x17_1, rfl, HA, HK1, HO_7, HO_8, HB⟩ := hrel
    cases gk with
    | zero => exact absurd HA.out (by simp [spec_bgPack.l0])
    | succ k1 =>
     have H := HA.out
     clear HA
     simp only [spec_bgPack.l0] at H
     by_cases c8 : x17_1 < (l2.length : Int)
     ·rw [if_pos c8] at H
      have c8b0 : decide (x17_1 < (l2.length : Int)) = true := decide_eq_true c8
      clear c8
      by_cases c9 : 0 ≤ x17_1
      ·rw [if_pos c9] at H
       have c9b0 : decide (0 ≤ x17_1) = true := decide_eq_true c9
       clear c9
       by_cases c10 : x17_1 < (l2.length : Int)
       ·rw [if_pos c10] at H
        have c10b0 : decide (x17_1 < (l2.length : Int)) = true := decide_eq_true c10
        clear c10
        have H' := am H
        clear H
        have p107 : 0 ≤ (x17_1 : Int) := of_decide_eq_true (by first | (with_reducible assumption) | assumption)
        have q107 : x17_1 < (l2.length : Int) := of_decide_eq_true (by first | (with_reducible assumption) | assumption)
        obtain ⟨ad107, e107, hx107_0⟩ := Kd.at_int HR2.out x17_1 p107 q107
        cases e107
        try replace hx107_0 := (HB.out.cell (World.block_lt_of_cell? w _ hx107_0)).trans hx107_0
        replace p107 := eq_true p107
        replace q107 := eq_true q107
        go_wp2
        go_loopg [11] k1 (fun kq v11 w' => ∃ (x11_2 : Int), v11 = .int .i64 x11_2 ∧ Aside0 (spec_bgPack.l1 kq l0 a1 x7_1 x8_1 (rd l2 x17_1) x11_2 l2 (l2.length : Int) x17_1 = some r) ∧ Aside0 (kq ≤ k1) ∧ Aside0 (Kd.R (Kd.int .i64) 3 w' w.heap.size (fun k_ => some k_ ≠ (u8 : Value).ownBlock) v102 x7_1) ∧ Aside0 (Kd.R (Kd.int .i64) 3 w' w.heap.size (fun k_ => some k_ ≠ (v102 : Value).ownBlock) u8 x8_1) ∧ Aside0 (Below w.heap.size w w'))
        case atStart => exact ⟨(0), (by first | rfl | (simp; done) | (simp [*]; done)), H', ⟨Nat.le_refl _⟩, ⟨by (with_reducible repeat (first | apply rA | apply rN | apply rD)); exact HO_7.out⟩, ⟨by (with_reducible repeat (first | apply rA | apply rN | apply rD)); exact HO_8.out⟩, ⟨by exact uW⟩⟩
        case round =>
         clear H'
         try clear c1
         try clear p1
         try clear q1
         try clear hx1
         try clear c2
         try clear p2
         try clear c4
         try clear c4b0
         try clear c4b1
         try clear c5
         try clear c5b0
         try clear c5b1
         try clear c8
         try clear c8b0
         try clear c9
         try clear c9b0
         try clear c10
         try clear c10b0
         try clear p10
         try clear q10
         try clear hx10
         try clear hx107_0
         try clear p107
         try clear p2
         try clear q107
         obtain ⟨x11_2, rfl, HA, HK2, HO_7, HO_8, HB⟩ := hrel
         cases gk with
         | zero => exact absurd HA.out (by simp [spec_bgPack.l1])
         | succ k2 =>
          have H := HA.out
          clear HA
          simp only [spec_bgPack.l1] at H
          by_cases c11 : x11_2 < (x8_1.length : Int)
          ·rw [if_pos c11] at H
           have c11b0 : decide (x11_2 < (x8_1.length : Int)) = true := decide_eq_true c11
           clear c11
           by_cases c12 : 0 ≤ x11_2
           ·rw [if_pos c12] at H
            have c12b0 : decide (0 ≤ x11_2) = true := decide_eq_true c12
            clear c12
            by_cases c13 : 0 ≤ (rd l2 x17_1)
            ·rw [if_pos c13] at H
             have c13b0 : decide (0 ≤ (rd l2 x17_1)) = true := decide_eq_true c13
             clear c13
             by_cases c14 : (rd l2 x17_1) < (l0.length : Int)
             ·rw [if_pos c14] at H
              have c14b0 : decide ((rd l2 x17_1) < (l0.length : Int)) = true := decide_eq_true c14
              clear c14
              by_cases c15 : (rd x8_1 x11_2) < ((rd_T45 l0 (rd l2 x17_1)).f1)
              ·rw [if_pos c15] at H
               have c15b0 : decide ((rd x8_1 x11_2) < ((rd_T45 l0 (rd l2 x17_1)).f1)) = true := decide_eq_true c15
               clear c15
               have H' := am H
               clear H
               try go_wp2
               replace HO_7 := am (Kd.R_drew HO_7.out)
               replace HO_8 := am (Kd.R_drew HO_8.out)
               replace HB := am (below_drew1 HB.out)
               obtain ⟨Ao17, co17, eo17⟩ := Kd.R_slice HO_8.out
               (first | subst eo17 | (injection eo17 with f1_ f2_ f3_; have f4_ := f1_.symm; have f5_ := f3_.symm; clear f1_ f2_ f3_; subst f4_; subst f5_))
               have p108 : 0 ≤ (x11_2 : Int) := of_decide_eq_true (by first | (with_reducible assumption) | assumption)
               have q108 : x11_2 < (x8_1.length : Int) := of_decide_eq_true (by first | (with_reducible assumption) | assumption)
               obtain ⟨ad108, e108, hx108_0⟩ := Kd.at_int (Kd.R_reads' HO_8.out).2.2 x11_2 p108 q108
               cases e108
               replace p108 := eq_true p108
               replace q108 := eq_true q108
               have p109 : 0 ≤ ((rd l2 x17_1) : Int) := of_decide_eq_true (by first | (with_reducible assumption) | assumption)
               have q109 : (rd l2 x17_1) < (l0.length : Int) := of_decide_eq_true (by first | (with_reducible assumption) | assumption)
               obtain ⟨ad109, e109, hx109_0, hx109_1⟩ := at_T45 HR0.out (rd l2 x17_1) p109 q109
               have hw109_1 := hx109_1
               have hw109_0 := hx109_0
               cases e109
               try replace hx109_0 := (HB.out.cell (World.block_lt_of_cell? w _ hx109_0)).trans hx109_0
               try replace hx109_1 := (HB.out.cell (World.block_lt_of_cell? w _ hx109_1)).trans hx109_1
               replace p109 := eq_true p109
               replace q109 := eq_true q109
               refine start_ (n := 16) (S := fun w' => w'.cell? (ad108.add (x11_2).toNat) = some (.int .i64 (rd x8_1 x11_2)) ∧ w'.cell? (ad109.add (((rd l2 x17_1)).toNat * 2)) = some (.int .i64 ((rd_T45 l0 (rd l2 x17_1)).f0)) ∧ w'.cell? ⟨(ad109.add (((rd l2 x17_1)).toNat * 2)).block, (ad109.add (((rd l2 x17_1)).toNat * 2)).off + 1, none⟩ = some (.int .i64 ((rd_T45 l0 (rd l2 x17_1)).f1))) (ds := []) #[false, false, false, false, false, false, false, false, false, false, false, false, false, false, false, false] (by kernel_rfl) rfl rfl ⟨hx108_0, ((HB.out.cell (World.block_lt_of_cell? w _ hw109_0)).trans hw109_0), ((HB.out.cell (World.block_lt_of_cell? w _ hw109_1)).trans hw109_1)⟩ (fun hHeld => ?_); refine with_tabW spec_bgPack.tab7 spec_bgPack.bits7 (fun HT_ HW_ => ?_)
               generalize wr.drew = w16 at HO_7 HO_8 HB hx108_0 hx109_0 hx109_1 hHeld ⊢
               refine uPu (i := 0) (N := some 21) #[true, false, false, false, false, false, false, false, false, false, false, false, false, false, false, false] ?_
               refine uPu (i := 1) (N := some 22) #[true, true, false, false, false, false, false, false, false, false, false, false, false, false, false, false] ?_
               refine uPu (i := 2) (N := some 23) #[true, true, true, false, false, false, false, false, false, false, false, false, false, false, false, false] ?_
               refine uPu (i := 3) (N := some 24) #[true, true, true, true, false, false, false, false, false, false, false, false, false, false, false, false] ?_
               refine uPu (i := 4) (N := some 25) #[true, true, true, true, true, false, false, false, false, false, false, false, false, false, false, false] ?_
               refine uPu (i := 5) (N := some 26) #[true, true, true, true, true, true, false, false, false, false, false, false, false, false, false, false] ?_
               refine uPu (i := 6) (N := some 27) #[true, true, true, true, true, true, true, false, false, false, false, false, false, false, false, false] ?_
               refine uPu (i := 7) (N := some 28) #[true, true, true, true, true, true, true, true, false, false, false, false, false, false, false, false] ?_
               refine uPu (i := 9) (N := some 30) #[true, true, true, true, true, true, true, true, false, true, false, false, false, false, false, false] ?_
               refine uPu (i := 10) (N := some 31) #[true, true, true, true, true, true, true, true, false, true, true, false, false, false, false, false] ?_
               refine uPu (i := 11) (N := some 32) #[true, true, true, true, true, true, true, true, false, true, true, true, false, false, false, false] ?_
               refine uPu (i := 12) (N := some 33) #[true, true, true, true, true, true, true, true, false, true, true, true, true, false, false, false] ?_
               refine uTk (i := 8) (N := some 29) #[true, true, true, true, true, true, true, true, true, true, true, true, true, false, false, false] hHeld ?_
               refine uTk (i := 13) (N := some 34) #[true, true, true, true, true, true, true, true, true, true, true, true, true, true, false, false] hHeld ?_
               refine uPu (i := 14) (N := some 35) #[true, true, true, true, true, true, true, true, true, true, true, true, true, true, true, false] ?_
               refine uPu (i := 15) (N := some 36) #[true, true, true, true, true, true, true, true, true, true, true, true, true, true, true, true] ?_
               refine done_ (done_of HT_.out (by kernel_rfl)) ?_
               try go_wp2
               go_roundg k2
               case measure => have := HK1.out; have := HK2.out; omega
               case rel => exact ⟨(wrap64 (x11_2 + 1)), (by first | rfl | (simp; done) | (simp [*]; done)), H', ⟨by have := HK1.out; have := HK2.out; omega⟩, ⟨by (with_reducible repeat (first | apply rA | apply rN | apply rD)); exact HO_7.out⟩, ⟨by (with_reducible repeat (first | apply rA | apply rN | apply rD)); exact HO_8.out⟩, ⟨by exact uW⟩⟩
              ·rw [if_neg c15] at H
               have c15b0 : decide ((rd x8_1 x11_2) < ((rd_T45 l0 (rd l2 x17_1)).f1)) = false := decide_eq_false c15
               clear c15
               by_cases c18 : x11_2 = (x8_1.length : Int)
               ·rw [if_pos c18] at H
                have c18b0 : (x11_2 == (x8_1.length : Int)) = true := beq_iff_eq.mpr c18
                have c18b1 : (x11_2 != (x8_1.length : Int)) = false := bne_eq_false_iff_eq.mpr c18
                clear c18
                by_cases c19 : x8_1.length < 17592186044416
                ·rw [if_pos c19] at H
                 have LMc19 := am c19
                 clear c19
                 obtain ⟨y110, hy110⟩ : ∃ y_ : List Int, y_ = (x8_1 ++ [a1]) := ⟨_, rfl⟩
                 replace H : (if x11_2 < (y110.length : Int) then (if (rd l2 x17_1) < (x7_1.length : Int) then (spec_bgPack.l0 k2 l0 a1 (x7_1.set ((rd l2 x17_1) : Int).toNat x11_2) (y110.set (x11_2 : Int).toNat (wrap64 ((rd y110 x11_2) - ((rd_T45 l0 (rd l2 x17_1)).f1)))) l2 (l2.length : Int) (wrap64 (x17_1 + 1))) else (none)) else (none)) = some r := by first | (rw [hy110]; with_reducible exact H) | (have H2_ := (Option.bind_some _ _).symm.trans H; rw [hy110]; with_reducible exact H2_) | (have H2_ := (Option.bind_some _ _).symm.trans H; with_reducible exact H2_) | with_reducible exact H | (rw [hy110]; exact H) | exact H
                 have Ny110 := am hy110
                 clear hy110
                 by_cases c20 : x11_2 < (y110.length : Int)
                 ·rw [if_pos c20] at H
                  have c20b0 : decide (x11_2 < (y110.length : Int)) = true := decide_eq_true c20
                  clear c20
                  obtain ⟨y115, hy115⟩ : ∃ y_ : List Int, y_ = (y110.set (x11_2 : Int).toNat (wrap64 ((rd y110 x11_2) - ((rd_T45 l0 (rd l2 x17_1)).f1)))) := ⟨_, rfl⟩
                  replace H : (if (rd l2 x17_1) < (x7_1.length : Int) then (spec_bgPack.l0 k2 l0 a1 (x7_1.set ((rd l2 x17_1) : Int).toNat x11_2) y115 l2 (l2.length : Int) (wrap64 (x17_1 + 1))) else (none)) = some r := by first | (rw [hy115]; with_reducible exact H) | (have H2_ := (Option.bind_some _ _).symm.trans H; rw [hy115]; with_reducible exact H2_) | (have H2_ := (Option.bind_some _ _).symm.trans H; with_reducible exact H2_) | with_reducible exact H | (rw [hy115]; exact H) | exact H
                  have Ny115 := am hy115
                  clear hy115
                  by_cases c22 : (rd l2 x17_1) < (x7_1.length : Int)
                  ·rw [if_pos c22] at H
                   have c22b0 : decide ((rd l2 x17_1) < (x7_1.length : Int)) = true := decide_eq_true c22
                   clear c22
                   obtain ⟨y116, hy116⟩ : ∃ y_ : List Int, y_ = (x7_1.set ((rd l2 x17_1) : Int).toNat x11_2) := ⟨_, rfl⟩
                   replace H : (spec_bgPack.l0 k2 l0 a1 y116 y115 l2 (l2.length : Int) (wrap64 (x17_1 + 1))) = some r := by first | (rw [hy116]; with_reducible exact H) | (have H2_ := (Option.bind_some _ _).symm.trans H; rw [hy116]; with_reducible exact H2_) | (have H2_ := (Option.bind_some _ _).symm.trans H; with_reducible exact H2_) | with_reducible exact H | (rw [hy116]; exact H) | exact H
                   have Ny116 := am hy116
                   clear hy116
                   have H' := am H
                   clear H
                   try go_wp2
                   replace HO_7 := am (Kd.R_drew HO_7.out)
                   replace HO_8 := am (Kd.R_drew HO_8.out)
                   replace HB := am (below_drew1 HB.out)
                   obtain ⟨Ao25, co25, eo25⟩ := Kd.R_slice HO_8.out
                   (first | subst eo25 | (injection eo25 with f1_ f2_ f3_; have f4_ := f1_.symm; have f5_ := f3_.symm; clear f1_ f2_ f3_; subst f4_; subst f5_))
                   have p108 : 0 ≤ (x11_2 : Int) := of_decide_eq_true (by first | (with_reducible assumption) | assumption)
                   have q108 : x11_2 < (x8_1.length : Int) := of_decide_eq_true (by first | (with_reducible assumption) | assumption)
                   obtain ⟨ad108, e108, hx108_0⟩ := Kd.at_int (Kd.R_reads' HO_8.out).2.2 x11_2 p108 q108
                   cases e108
                   replace p108 := eq_true p108
                   replace q108 := eq_true q108
                   have p109 : 0 ≤ ((rd l2 x17_1) : Int) := of_decide_eq_true (by first | (with_reducible assumption) | assumption)
                   have q109 : (rd l2 x17_1) < (l0.length : Int) := of_decide_eq_true (by first | (with_reducible assumption) | assumption)
                   obtain ⟨ad109, e109, hx109_0, hx109_1⟩ := at_T45 HR0.out (rd l2 x17_1) p109 q109
                   have hw109_1 := hx109_1
                   have hw109_0 := hx109_0
                   cases e109
                   try replace hx109_0 := (HB.out.cell (World.block_lt_of_cell? w _ hx109_0)).trans hx109_0
                   try replace hx109_1 := (HB.out.cell (World.block_lt_of_cell? w _ hx109_1)).trans hx109_1
                   replace p109 := eq_true p109
                   replace q109 := eq_true q109
                   refine start_ (n := 16) (S := fun w' => w'.cell? (ad108.add (x11_2).toNat) = some (.int .i64 (rd x8_1 x11_2)) ∧ w'.cell? (ad109.add (((rd l2 x17_1)).toNat * 2)) = some (.int .i64 ((rd_T45 l0 (rd l2 x17_1)).f0)) ∧ w'.cell? ⟨(ad109.add (((rd l2 x17_1)).toNat * 2)).block, (ad109.add (((rd l2 x17_1)).toNat * 2)).off + 1, none⟩ = some (.int .i64 ((rd_T45 l0 (rd l2 x17_1)).f1))) (ds := []) #[false, false, false, false, false, false, false, false, false, false, false, false, false, false, false, false] (by kernel_rfl) rfl rfl ⟨hx108_0, ((HB.out.cell (World.block_lt_of_cell? w _ hw109_0)).trans hw109_0), ((HB.out.cell (World.block_lt_of_cell? w _ hw109_1)).trans hw109_1)⟩ (fun hHeld => ?_); refine with_tabW spec_bgPack.tab7 spec_bgPack.bits7 (fun HT_ HW_ => ?_)
                   generalize wr.drew = w24 at HO_7 HO_8 HB hx108_0 hx109_0 hx109_1 hHeld ⊢
                   refine uPu (i := 0) (N := some 21) #[true, false, false, false, false, false, false, false, false, false, false, false, false, false, false, false] ?_
                   refine uPu (i := 1) (N := some 22) #[true, true, false, false, false, false, false, false, false, false, false, false, false, false, false, false] ?_
                   refine uPu (i := 2) (N := some 23) #[true, true, true, false, false, false, false, false, false, false, false, false, false, false, false, false] ?_
                   refine uPu (i := 3) (N := some 24) #[true, true, true, true, false, false, false, false, false, false, false, false, false, false, false, false] ?_
                   refine uPu (i := 4) (N := some 25) #[true, true, true, true, true, false, false, false, false, false, false, false, false, false, false, false] ?_
                   refine uPu (i := 5) (N := some 26) #[true, true, true, true, true, true, false, false, false, false, false, false, false, false, false, false] ?_
                   refine uPu (i := 6) (N := some 27) #[true, true, true, true, true, true, true, false, false, false, false, false, false, false, false, false] ?_
                   refine uPu (i := 7) (N := some 28) #[true, true, true, true, true, true, true, true, false, false, false, false, false, false, false, false] ?_
                   refine uPu (i := 9) (N := some 30) #[true, true, true, true, true, true, true, true, false, true, false, false, false, false, false, false] ?_
                   refine uPu (i := 10) (N := some 31) #[true, true, true, true, true, true, true, true, false, true, true, false, false, false, false, false] ?_
                   refine uPu (i := 11) (N := some 32) #[true, true, true, true, true, true, true, true, false, true, true, true, false, false, false, false] ?_
                   refine uPu (i := 12) (N := some 33) #[true, true, true, true, true, true, true, true, false, true, true, true, true, false, false, false] ?_
                   refine uTk (i := 8) (N := some 29) #[true, true, true, true, true, true, true, true, true, true, true, true, true, false, false, false] hHeld ?_
                   refine uTk (i := 13) (N := some 34) #[true, true, true, true, true, true, true, true, true, true, true, true, true, true, false, false] hHeld ?_
                   refine uPu (i := 14) (N := some 35) #[true, true, true, true, true, true, true, true, true, true, true, true, true, true, true, false] ?_
                   refine uPu (i := 15) (N := some 36) #[true, true, true, true, true, true, true, true, true, true, true, true, true, true, true, true] ?_
                   refine done_ (done_of HT_.out (by kernel_rfl)) ?_
                   try go_wp2_with (first | ((with_reducible refine gate_builtin (b := .append) (xs := #[.tmp 43, .tmp 45]) rfl ?_); at_builtin; refine Kd.R_append (Kd.int .i64) (w0 := w) w.heap.size rfl (.tmp 43) (.tmp 45) 27 3 (.int .i64 0) 8 rfl Try.underlying27 info3 rfl (by decide) (by omega) (.slice (some ad108) x8_1.length co25) x8_1 a1 [.int .i64 a1] (fun k_ => some k_ ≠ (v102 : Value).ownBlock) (fun _ => False) rfl rfl ?aP (fun _ hk => hk.elim) ?aF ?aO ?aB ?aS ?aL ?_; (case aP => exact rfl); (case aB => exact uW); (case aF => exact (fun k_ hk => Kd.fresh' (Kd.R_lt (uR HO_7)) k_ hk)); (case aO => exact (uR HO_8)); (case aS => exact (below_size uW)); (case aL => have := LMc19.out; omega); intro v111 w26 ho hb hg hat; rw [← Ny110.out] at ho; have HO112 := am (ho); replace HO_7 := am (Kd.R_after (ok := (fun _ => True)) (by (with_reducible repeat (first | apply rA | apply rN | apply rD)); exact Kd.R_mono HO_7.out (fun _ hk => ⟨trivial, hk⟩)) hg hat); replace HB := am (hb); clear HO_8; clear ho hb hg hat))
                   replace HO_7 := am (Kd.R_drew HO_7.out)
                   replace HO112 := am (Kd.R_drew HO112.out)
                   replace HB := am (below_drew1 HB.out)
                   obtain ⟨Ao28, co28, eo28⟩ := Kd.R_slice HO112.out
                   (first | subst eo28 | (injection eo28 with f1_ f2_ f3_; have f4_ := f1_.symm; have f5_ := f3_.symm; clear f1_ f2_ f3_; subst f4_; subst f5_))
                   have p113 : 0 ≤ (x11_2 : Int) := of_decide_eq_true (by first | (with_reducible assumption) | assumption)
                   have q113 : x11_2 < (y110.length : Int) := of_decide_eq_true (by first | (with_reducible assumption) | assumption)
                   obtain ⟨ad113, e113, hx113_0⟩ := Kd.at_int (Kd.R_reads' HO112.out).2.2 x11_2 p113 q113
                   cases e113
                   replace p113 := eq_true p113
                   replace q113 := eq_true q113
                   have p114 : 0 ≤ ((rd l2 x17_1) : Int) := of_decide_eq_true (by first | (with_reducible assumption) | assumption)
                   have q114 : (rd l2 x17_1) < (l0.length : Int) := of_decide_eq_true (by first | (with_reducible assumption) | assumption)
                   obtain ⟨ad114, e114, hx114_0, hx114_1⟩ := at_T45 HR0.out (rd l2 x17_1) p114 q114
                   have hw114_1 := hx114_1
                   have hw114_0 := hx114_0
                   obtain rfl : ad109 = ad114 := (by injection e114)
                   try replace hx114_0 := (HB.out.cell (World.block_lt_of_cell? w _ hx114_0)).trans hx114_0
                   try replace hx114_1 := (HB.out.cell (World.block_lt_of_cell? w _ hx114_1)).trans hx114_1
                   replace p114 := eq_true p114
                   replace q114 := eq_true q114
                   have p21 : 0 ≤ (x11_2 : Int) := of_decide_eq_true (by first | (with_reducible assumption) | assumption)
                   have q21 : (x11_2 : Int) < ((y110.length : Int) : Int) := of_decide_eq_true (by first | (with_reducible assumption) | assumption)
                   obtain ⟨go21, co21, eo21, gb21, gl21, cl21, HG21⟩ := Kd.R_form HO112.out (by omega)
                   (first | cases eo21 | (injection eo21 with ea_ en_ ec_; (first | subst ea_ | (injection ea_ with ea_; subst ea_)); subst ec_; clear en_))
                   have GB21 := am gb21
                   have GG21 := am HG21
                   clear gb21 gl21 HG21
                   (first | simp only [add_plain] at hx113_0 | skip)
                   obtain ⟨hx21_0, hf21_0⟩ := Kd.R_celln 0 HO112.out (x11_2 : Int) p21 q21
                   replace p21 := eq_true p21
                   replace q21 := eq_true q21
                   have HP29 := Kd.R_putn HO112.out (x11_2 : Int) (wrap64 ((rd y110 x11_2) - ((rd_T45 l0 (rd l2 x17_1)).f1)))
                   rw [← Ny115.out] at HP29
                   have HQ29 := am HP29
                   clear HP29
                   refine start_ (n := 12) (S := fun w' => w'.cell? ⟨go21, (x11_2).toNat, none⟩ = some (.int .i64 (rd y110 x11_2)) ∧ w'.cell? (ad109.add (((rd l2 x17_1)).toNat * 2)) = some (.int .i64 ((rd_T45 l0 (rd l2 x17_1)).f0)) ∧ w'.cell? ⟨(ad109.add (((rd l2 x17_1)).toNat * 2)).block, (ad109.add (((rd l2 x17_1)).toNat * 2)).off + 1, none⟩ = some (.int .i64 ((rd_T45 l0 (rd l2 x17_1)).f1))) (ds := [11]) #[false, false, false, false, false, false, false, false, false, false, false, false] (by kernel_rfl) rfl rfl ⟨hx113_0, ((HB.out.cell (World.block_lt_of_cell? w _ hw114_0)).trans hw114_0), ((HB.out.cell (World.block_lt_of_cell? w _ hw114_1)).trans hw114_1)⟩ (fun hHeld => ?_); refine with_tabW spec_bgPack.tab11 spec_bgPack.bits11 (fun HT_ HW_ => ?_)
                   generalize w26.drew = w27 at HO_7 HO112 HB GG21 HQ29 hf21_0 hx113_0 hx114_0 hx114_1 hx21_0 hHeld ⊢
                   refine uPu (i := 0) (N := some 47) #[true, false, false, false, false, false, false, false, false, false, false, false] ?_
                   refine uPu (i := 1) (N := some 48) #[true, true, false, false, false, false, false, false, false, false, false, false] ?_
                   refine uPu (i := 2) (N := some 49) #[true, true, true, false, false, false, false, false, false, false, false, false] ?_
                   refine uPu (i := 4) (N := some 51) #[true, true, true, false, true, false, false, false, false, false, false, false] ?_
                   refine uPu (i := 5) (N := some 52) #[true, true, true, false, true, true, false, false, false, false, false, false] ?_
                   refine uPu (i := 6) (N := some 53) #[true, true, true, false, true, true, true, false, false, false, false, false] ?_
                   refine uPu (i := 7) (N := some 54) #[true, true, true, false, true, true, true, true, false, false, false, false] ?_
                   refine uTk (i := 3) (N := some 50) #[true, true, true, true, true, true, true, true, false, false, false, false] hHeld ?_
                   refine uTk (i := 8) (N := some 55) #[true, true, true, true, true, true, true, true, true, false, false, false] hHeld ?_
                   refine uPu (i := 9) (N := some 56) #[true, true, true, true, true, true, true, true, true, true, false, false] ?_
                   refine uPu (i := 10) (N := some 57) #[true, true, true, true, true, true, true, true, true, true, true, false] ?_
                   refine last_ (i := 11) (N := none) #[true, true, true, true, true, true, true, true, true, true, true, true] rfl rfl (one_of HT_.out (by kernel_rfl)) (by decide) (fun K hK => ?_)
                   refine skip_ (w1 := ?_) (by rfl) rfl ?_ ?_
                   rotate_left
                   ·go_simp
                    rfl
                   refine hK.out _ _ ?_
                   clear hK K
                   refine done_ (done_of HT_.out (by kernel_rfl)) ?_
                   have n0_ : Aside0 (Kd.R (Kd.int .i64) 3 (w27.setCell ⟨go21, (x11_2 : Int).toNat, none⟩ (.int .i64 (wrap64 ((rd y110 x11_2) - ((rd_T45 l0 (rd l2 x17_1)).f1))))) w.heap.size (fun k_ => some k_ ≠ (.slice (some ⟨go21, 0, none⟩) y110.length co28 : Value).ownBlock) v102 x7_1) := ⟨by (with_reducible repeat (first | apply rA | apply rN | apply rD)); exact Kd.R_mono (Kd.R_far (p := ⟨go21, (x11_2 : Int).toNat, none⟩) (Kd.R_mono HO_7.out (fun k_ hk => (⟨hk, fun e_ => hk.2 (by rw [e_]; rfl)⟩ : _ ∧ k_ ≠ go21))) (fun _ hk => hk.2) (.int .i64 (wrap64 ((rd y110 x11_2) - ((rd_T45 l0 (rd l2 x17_1)).f1))))) (fun _ hk => hk.1.2)⟩
                   have n1_ : Aside0 (Kd.R (Kd.int .i64) 3 (w27.setCell ⟨go21, (x11_2 : Int).toNat, none⟩ (.int .i64 (wrap64 ((rd y110 x11_2) - ((rd_T45 l0 (rd l2 x17_1)).f1))))) w.heap.size (fun k_ => some k_ ≠ (v102 : Value).ownBlock) (.slice (some ⟨go21, 0, none⟩) y110.length co28) y115) := ⟨by (with_reducible repeat (first | apply rA | apply rN | apply rD)); exact HQ29.out⟩
                   have n2_ : Aside0 (Below w.heap.size w (w27.setCell ⟨go21, (x11_2 : Int).toNat, none⟩ (.int .i64 (wrap64 ((rd y110 x11_2) - ((rd_T45 l0 (rd l2 x17_1)).f1)))))) := ⟨by repeat (first | (with_reducible first | exact HB.out | apply below_alloc | apply pw_below_drewN | apply below_drew1 | refine below_set ?_ GB21.out) | exact HB.out)⟩
                   (try clear HO_7)
                   (try clear HO112)
                   (try clear HB)
                   generalize (w27.setCell ⟨go21, (x11_2 : Int).toNat, none⟩ (.int .i64 (wrap64 ((rd y110 x11_2) - ((rd_T45 l0 (rd l2 x17_1)).f1))))) = w30 at n0_ n1_ n2_ ⊢
                   have HO_7 := n0_
                   have HO112 := n1_
                   have HB := n2_
                   clear n0_ n1_ n2_
                   have p23 : 0 ≤ ((rd l2 x17_1) : Int) := of_decide_eq_true (by first | (with_reducible assumption) | assumption)
                   have q23 : ((rd l2 x17_1) : Int) < ((x7_1.length : Int) : Int) := of_decide_eq_true (by first | (with_reducible assumption) | assumption)
                   obtain ⟨go23, co23, eo23, gb23, gl23, cl23, HG23⟩ := Kd.R_form HO_7.out (by omega)
                   (first | cases eo23 | (injection eo23 with ea_ en_ ec_; (first | subst ea_ | (injection ea_ with ea_; subst ea_)); subst ec_; clear en_))
                   have GB23 := am gb23
                   have GG23 := am HG23
                   clear gb23 gl23 HG23
                   obtain ⟨hx23_0, hf23_0⟩ := Kd.R_celln 0 HO_7.out ((rd l2 x17_1) : Int) p23 q23
                   replace p23 := eq_true p23
                   replace q23 := eq_true q23
                   obtain ⟨hy31_, hz31_⟩ := Kd.R_celln 0 HO_7.out ((rd l2 x17_1) : Int) (of_decide_eq_true (by first | (with_reducible assumption) | assumption)) (of_decide_eq_true (by first | (with_reducible assumption) | assumption))
                   have HP31 := Kd.R_putg HO_7.out ((rd l2 x17_1) : Int) x11_2
                   try go_wp2_with (first | ((with_reducible refine gate_store (t := 3) (p := 61) rfl ?_); refine store_event (t := 3) (p := 61) (v := ?vo_w32) (w1 := (w30.setCell ⟨go23, ((rd l2 x17_1) : Int).toNat, none⟩ (.int .i64 x11_2))) ?hg ?ho ?hn ?hr ?_; (case ho => rfl); (case hg => rfl); (case hn => rfl); (case hr => first | (go_simp; done) | (go_simp; rfl)); intro w32 hw; have hg : w30.grownBy w32 (some go23) := (by rw [hw]; exact HP31.2); have hp_ : Kd.R (Kd.int .i64) 3 w32 w.heap.size (fun k_ => some k_ ≠ (.slice (some ⟨go21, 0, none⟩) y110.length co28 : Value).ownBlock) (.slice (some ⟨go23, 0, none⟩) x7_1.length co23) y116 := (by rw [hw, Ny116.out]; exact HP31.1); clear HP31; replace HO_7 := am (hp_); replace HO112 := am (Kd.R_after (v := (.slice (some ⟨go23, 0, none⟩) x7_1.length co23)) (v1 := (.slice (some ⟨go23, 0, none⟩) x7_1.length co23)) (ok := (fun _ => True)) (by (with_reducible repeat (first | apply rA | apply rN | apply rD)); exact Kd.R_mono HO112.out (fun _ hk => ⟨trivial, hk⟩)) hg (.inl rfl)); replace HB := am ((by rw [hw]; exact below_set (HB.out) GB23.out : Below w.heap.size w w32)); clear hg hw hp_))
                   go_roundg k2
                   case measure => have := HK1.out; have := HK2.out; omega
                   case rel => exact ⟨(y116), (y115), (wrap64 (x17_1 + 1)), (by first | rfl | (simp; done) | (simp [*]; done)), H', ⟨by have := HK1.out; have := HK2.out; omega⟩, ⟨by (with_reducible repeat (first | apply rA | apply rN | apply rD)); exact HO_7.out⟩, ⟨by (with_reducible repeat (first | apply rA | apply rN | apply rD)); exact Kd.R_mono HO112.out (fun _ hk => hk.2)⟩, ⟨by exact uW⟩⟩
                  ·rw [if_neg c22] at H
                   exact absurd H (by simp)
                 ·rw [if_neg c20] at H
                  exact absurd H (by simp)
                ·rw [if_neg c19] at H
                 exact absurd H (by simp)
               ·rw [if_neg c18] at H
                have c18b0 : (x11_2 == (x8_1.length : Int)) = false := beq_eq_false_iff_ne.mpr c18
                have c18b1 : (x11_2 != (x8_1.length : Int)) = true := bne_iff_ne.mpr c18
                obtain ⟨y119, hy119⟩ : ∃ y_ : List Int, y_ = (x8_1.set (x11_2 : Int).toNat (wrap64 ((rd x8_1 x11_2) - ((rd_T45 l0 (rd l2 x17_1)).f1)))) := ⟨_, rfl⟩
                replace H : (if (rd l2 x17_1) < (x7_1.length : Int) then (spec_bgPack.l0 k2 l0 a1 (x7_1.set ((rd l2 x17_1) : Int).toNat x11_2) y119 l2 (l2.length : Int) (wrap64 (x17_1 + 1))) else (none)) = some r := by first | (rw [hy119]; with_reducible exact H) | (have H2_ := (Option.bind_some _ _).symm.trans H; rw [hy119]; with_reducible exact H2_) | (have H2_ := (Option.bind_some _ _).symm.trans H; with_reducible exact H2_) | with_reducible exact H | (rw [hy119]; exact H) | exact H
                have Ny119 := am hy119
                clear hy119
                by_cases c34 : (rd l2 x17_1) < (x7_1.length : Int)
                ·rw [if_pos c34] at H
                 have c34b0 : decide ((rd l2 x17_1) < (x7_1.length : Int)) = true := decide_eq_true c34
                 clear c34
                 obtain ⟨y120, hy120⟩ : ∃ y_ : List Int, y_ = (x7_1.set ((rd l2 x17_1) : Int).toNat x11_2) := ⟨_, rfl⟩
                 replace H : (spec_bgPack.l0 k2 l0 a1 y120 y119 l2 (l2.length : Int) (wrap64 (x17_1 + 1))) = some r := by first | (rw [hy120]; with_reducible exact H) | (have H2_ := (Option.bind_some _ _).symm.trans H; rw [hy120]; with_reducible exact H2_) | (have H2_ := (Option.bind_some _ _).symm.trans H; with_reducible exact H2_) | with_reducible exact H | (rw [hy120]; exact H) | exact H
                 have Ny120 := am hy120
                 clear hy120
                 have H' := am H
                 clear H
                 try go_wp2
                 replace HO_7 := am (Kd.R_drew HO_7.out)
                 replace HO_8 := am (Kd.R_drew HO_8.out)
                 replace HB := am (below_drew1 HB.out)
                 obtain ⟨Ao37, co37, eo37⟩ := Kd.R_slice HO_8.out
                 (first | subst eo37 | (injection eo37 with f1_ f2_ f3_; have f4_ := f1_.symm; have f5_ := f3_.symm; clear f1_ f2_ f3_; subst f4_; subst f5_))
                 have p108 : 0 ≤ (x11_2 : Int) := of_decide_eq_true (by first | (with_reducible assumption) | assumption)
                 have q108 : x11_2 < (x8_1.length : Int) := of_decide_eq_true (by first | (with_reducible assumption) | assumption)
                 obtain ⟨ad108, e108, hx108_0⟩ := Kd.at_int (Kd.R_reads' HO_8.out).2.2 x11_2 p108 q108
                 cases e108
                 replace p108 := eq_true p108
                 replace q108 := eq_true q108
                 have p109 : 0 ≤ ((rd l2 x17_1) : Int) := of_decide_eq_true (by first | (with_reducible assumption) | assumption)
                 have q109 : (rd l2 x17_1) < (l0.length : Int) := of_decide_eq_true (by first | (with_reducible assumption) | assumption)
                 obtain ⟨ad109, e109, hx109_0, hx109_1⟩ := at_T45 HR0.out (rd l2 x17_1) p109 q109
                 have hw109_1 := hx109_1
                 have hw109_0 := hx109_0
                 cases e109
                 try replace hx109_0 := (HB.out.cell (World.block_lt_of_cell? w _ hx109_0)).trans hx109_0
                 try replace hx109_1 := (HB.out.cell (World.block_lt_of_cell? w _ hx109_1)).trans hx109_1
                 replace p109 := eq_true p109
                 replace q109 := eq_true q109
                 refine start_ (n := 16) (S := fun w' => w'.cell? (ad108.add (x11_2).toNat) = some (.int .i64 (rd x8_1 x11_2)) ∧ w'.cell? (ad109.add (((rd l2 x17_1)).toNat * 2)) = some (.int .i64 ((rd_T45 l0 (rd l2 x17_1)).f0)) ∧ w'.cell? ⟨(ad109.add (((rd l2 x17_1)).toNat * 2)).block, (ad109.add (((rd l2 x17_1)).toNat * 2)).off + 1, none⟩ = some (.int .i64 ((rd_T45 l0 (rd l2 x17_1)).f1))) (ds := []) #[false, false, false, false, false, false, false, false, false, false, false, false, false, false, false, false] (by kernel_rfl) rfl rfl ⟨hx108_0, ((HB.out.cell (World.block_lt_of_cell? w _ hw109_0)).trans hw109_0), ((HB.out.cell (World.block_lt_of_cell? w _ hw109_1)).trans hw109_1)⟩ (fun hHeld => ?_); refine with_tabW spec_bgPack.tab7 spec_bgPack.bits7 (fun HT_ HW_ => ?_)
                 generalize wr.drew = w36 at HO_7 HO_8 HB hx108_0 hx109_0 hx109_1 hHeld ⊢
                 refine uPu (i := 0) (N := some 21) #[true, false, false, false, false, false, false, false, false, false, false, false, false, false, false, false] ?_
                 refine uPu (i := 1) (N := some 22) #[true, true, false, false, false, false, false, false, false, false, false, false, false, false, false, false] ?_
                 refine uPu (i := 2) (N := some 23) #[true, true, true, false, false, false, false, false, false, false, false, false, false, false, false, false] ?_
                 refine uPu (i := 3) (N := some 24) #[true, true, true, true, false, false, false, false, false, false, false, false, false, false, false, false] ?_
                 refine uPu (i := 4) (N := some 25) #[true, true, true, true, true, false, false, false, false, false, false, false, false, false, false, false] ?_
                 refine uPu (i := 5) (N := some 26) #[true, true, true, true, true, true, false, false, false, false, false, false, false, false, false, false] ?_
                 refine uPu (i := 6) (N := some 27) #[true, true, true, true, true, true, true, false, false, false, false, false, false, false, false, false] ?_
                 refine uPu (i := 7) (N := some 28) #[true, true, true, true, true, true, true, true, false, false, false, false, false, false, false, false] ?_
                 refine uPu (i := 9) (N := some 30) #[true, true, true, true, true, true, true, true, false, true, false, false, false, false, false, false] ?_
                 refine uPu (i := 10) (N := some 31) #[true, true, true, true, true, true, true, true, false, true, true, false, false, false, false, false] ?_
                 refine uPu (i := 11) (N := some 32) #[true, true, true, true, true, true, true, true, false, true, true, true, false, false, false, false] ?_
                 refine uPu (i := 12) (N := some 33) #[true, true, true, true, true, true, true, true, false, true, true, true, true, false, false, false] ?_
                 refine uTk (i := 8) (N := some 29) #[true, true, true, true, true, true, true, true, true, true, true, true, true, false, false, false] hHeld ?_
                 refine uTk (i := 13) (N := some 34) #[true, true, true, true, true, true, true, true, true, true, true, true, true, true, false, false] hHeld ?_
                 refine uPu (i := 14) (N := some 35) #[true, true, true, true, true, true, true, true, true, true, true, true, true, true, true, false] ?_
                 refine uPu (i := 15) (N := some 36) #[true, true, true, true, true, true, true, true, true, true, true, true, true, true, true, true] ?_
                 refine done_ (done_of HT_.out (by kernel_rfl)) ?_
                 try go_wp2
                 replace HO_7 := am (Kd.R_drew HO_7.out)
                 replace HO_8 := am (Kd.R_drew HO_8.out)
                 replace HB := am (below_drew1 HB.out)
                 have p117 : 0 ≤ (x11_2 : Int) := of_decide_eq_true (by first | (with_reducible assumption) | assumption)
                 have q117 : x11_2 < (x8_1.length : Int) := of_decide_eq_true (by first | (with_reducible assumption) | assumption)
                 obtain ⟨ad117, e117, hx117_0⟩ := Kd.at_int (Kd.R_reads' HO_8.out).2.2 x11_2 p117 q117
                 obtain rfl : ad108 = ad117 := (by injection e117)
                 replace p117 := eq_true p117
                 replace q117 := eq_true q117
                 have p118 : 0 ≤ ((rd l2 x17_1) : Int) := of_decide_eq_true (by first | (with_reducible assumption) | assumption)
                 have q118 : (rd l2 x17_1) < (l0.length : Int) := of_decide_eq_true (by first | (with_reducible assumption) | assumption)
                 obtain ⟨ad118, e118, hx118_0, hx118_1⟩ := at_T45 HR0.out (rd l2 x17_1) p118 q118
                 have hw118_1 := hx118_1
                 have hw118_0 := hx118_0
                 obtain rfl : ad109 = ad118 := (by injection e118)
                 try replace hx118_0 := (HB.out.cell (World.block_lt_of_cell? w _ hx118_0)).trans hx118_0
                 try replace hx118_1 := (HB.out.cell (World.block_lt_of_cell? w _ hx118_1)).trans hx118_1
                 replace p118 := eq_true p118
                 replace q118 := eq_true q118
                 have p33 : 0 ≤ (x11_2 : Int) := of_decide_eq_true (by first | (with_reducible assumption) | assumption)
                 have q33 : (x11_2 : Int) < ((x8_1.length : Int) : Int) := of_decide_eq_true (by first | (with_reducible assumption) | assumption)
                 obtain ⟨go33, co33, eo33, gb33, gl33, cl33, HG33⟩ := Kd.R_form HO_8.out (by omega)
                 (first | cases eo33 | (injection eo33 with ea_ en_ ec_; (first | subst ea_ | (injection ea_ with ea_; subst ea_)); subst ec_; clear en_))
                 have GB33 := am gb33
                 have GG33 := am HG33
                 clear gb33 gl33 HG33
                 (first | simp only [add_plain] at hx108_0 | skip)
                 (first | simp only [add_plain] at hx117_0 | skip)
                 obtain ⟨hx33_0, hf33_0⟩ := Kd.R_celln 0 HO_8.out (x11_2 : Int) p33 q33
                 replace p33 := eq_true p33
                 replace q33 := eq_true q33
                 have HP39 := Kd.R_putn HO_8.out (x11_2 : Int) (wrap64 ((rd x8_1 x11_2) - ((rd_T45 l0 (rd l2 x17_1)).f1)))
                 rw [← Ny119.out] at HP39
                 have HQ39 := am HP39
                 clear HP39
                 refine start_ (n := 12) (S := fun w' => w'.cell? ⟨go33, (x11_2).toNat, none⟩ = some (.int .i64 (rd x8_1 x11_2)) ∧ w'.cell? (ad109.add (((rd l2 x17_1)).toNat * 2)) = some (.int .i64 ((rd_T45 l0 (rd l2 x17_1)).f0)) ∧ w'.cell? ⟨(ad109.add (((rd l2 x17_1)).toNat * 2)).block, (ad109.add (((rd l2 x17_1)).toNat * 2)).off + 1, none⟩ = some (.int .i64 ((rd_T45 l0 (rd l2 x17_1)).f1))) (ds := [11]) #[false, false, false, false, false, false, false, false, false, false, false, false] (by kernel_rfl) rfl rfl ⟨hx117_0, ((HB.out.cell (World.block_lt_of_cell? w _ hw118_0)).trans hw118_0), ((HB.out.cell (World.block_lt_of_cell? w _ hw118_1)).trans hw118_1)⟩ (fun hHeld => ?_); refine with_tabW spec_bgPack.tab11 spec_bgPack.bits11 (fun HT_ HW_ => ?_)
                 generalize w36.drew = w38 at HO_7 HO_8 HB GG33 HQ39 hf33_0 hx108_0 hx117_0 hx118_0 hx118_1 hx33_0 hHeld ⊢
                 refine uPu (i := 0) (N := some 47) #[true, false, false, false, false, false, false, false, false, false, false, false] ?_
                 refine uPu (i := 1) (N := some 48) #[true, true, false, false, false, false, false, false, false, false, false, false] ?_
                 refine uPu (i := 2) (N := some 49) #[true, true, true, false, false, false, false, false, false, false, false, false] ?_
                 refine uPu (i := 4) (N := some 51) #[true, true, true, false, true, false, false, false, false, false, false, false] ?_
                 refine uPu (i := 5) (N := some 52) #[true, true, true, false, true, true, false, false, false, false, false, false] ?_
                 refine uPu (i := 6) (N := some 53) #[true, true, true, false, true, true, true, false, false, false, false, false] ?_
                 refine uPu (i := 7) (N := some 54) #[true, true, true, false, true, true, true, true, false, false, false, false] ?_
                 refine uTk (i := 3) (N := some 50) #[true, true, true, true, true, true, true, true, false, false, false, false] hHeld ?_
                 refine uTk (i := 8) (N := some 55) #[true, true, true, true, true, true, true, true, true, false, false, false] hHeld ?_
                 refine uPu (i := 9) (N := some 56) #[true, true, true, true, true, true, true, true, true, true, false, false] ?_
                 refine uPu (i := 10) (N := some 57) #[true, true, true, true, true, true, true, true, true, true, true, false] ?_
                 refine last_ (i := 11) (N := none) #[true, true, true, true, true, true, true, true, true, true, true, true] rfl rfl (one_of HT_.out (by kernel_rfl)) (by decide) (fun K hK => ?_)
                 refine skip_ (w1 := ?_) (by rfl) rfl ?_ ?_
                 rotate_left
                 ·go_simp
                  rfl
                 refine hK.out _ _ ?_
                 clear hK K
                 refine done_ (done_of HT_.out (by kernel_rfl)) ?_
                 have n0_ : Aside0 (Kd.R (Kd.int .i64) 3 (w38.setCell ⟨go33, (x11_2 : Int).toNat, none⟩ (.int .i64 (wrap64 ((rd x8_1 x11_2) - ((rd_T45 l0 (rd l2 x17_1)).f1))))) w.heap.size (fun k_ => some k_ ≠ (.slice (some ⟨go33, 0, none⟩) x8_1.length co37 : Value).ownBlock) v102 x7_1) := ⟨by (with_reducible repeat (first | apply rA | apply rN | apply rD)); exact Kd.R_mono (Kd.R_far (p := ⟨go33, (x11_2 : Int).toNat, none⟩) (Kd.R_mono HO_7.out (fun k_ hk => (⟨hk, fun e_ => hk (by rw [e_]; rfl)⟩ : _ ∧ k_ ≠ go33))) (fun _ hk => hk.2) (.int .i64 (wrap64 ((rd x8_1 x11_2) - ((rd_T45 l0 (rd l2 x17_1)).f1))))) (fun _ hk => hk.1)⟩
                 have n1_ : Aside0 (Kd.R (Kd.int .i64) 3 (w38.setCell ⟨go33, (x11_2 : Int).toNat, none⟩ (.int .i64 (wrap64 ((rd x8_1 x11_2) - ((rd_T45 l0 (rd l2 x17_1)).f1))))) w.heap.size (fun k_ => some k_ ≠ (v102 : Value).ownBlock) (.slice (some ⟨go33, 0, none⟩) x8_1.length co37) y119) := ⟨by (with_reducible repeat (first | apply rA | apply rN | apply rD)); exact HQ39.out⟩
                 have n2_ : Aside0 (Below w.heap.size w (w38.setCell ⟨go33, (x11_2 : Int).toNat, none⟩ (.int .i64 (wrap64 ((rd x8_1 x11_2) - ((rd_T45 l0 (rd l2 x17_1)).f1)))))) := ⟨by repeat (first | (with_reducible first | exact HB.out | apply below_alloc | apply pw_below_drewN | apply below_drew1 | refine below_set ?_ GB33.out) | exact HB.out)⟩
                 (try clear HO_7)
                 (try clear HO_8)
                 (try clear HB)
                 generalize (w38.setCell ⟨go33, (x11_2 : Int).toNat, none⟩ (.int .i64 (wrap64 ((rd x8_1 x11_2) - ((rd_T45 l0 (rd l2 x17_1)).f1))))) = w40 at n0_ n1_ n2_ ⊢
                 have HO_7 := n0_
                 have HO_8 := n1_
                 have HB := n2_
                 clear n0_ n1_ n2_
                 have p35 : 0 ≤ ((rd l2 x17_1) : Int) := of_decide_eq_true (by first | (with_reducible assumption) | assumption)
                 have q35 : ((rd l2 x17_1) : Int) < ((x7_1.length : Int) : Int) := of_decide_eq_true (by first | (with_reducible assumption) | assumption)
                 obtain ⟨go35, co35, eo35, gb35, gl35, cl35, HG35⟩ := Kd.R_form HO_7.out (by omega)
                 (first | cases eo35 | (injection eo35 with ea_ en_ ec_; (first | subst ea_ | (injection ea_ with ea_; subst ea_)); subst ec_; clear en_))
                 have GB35 := am gb35
                 have GG35 := am HG35
                 clear gb35 gl35 HG35
                 obtain ⟨hx35_0, hf35_0⟩ := Kd.R_celln 0 HO_7.out ((rd l2 x17_1) : Int) p35 q35
                 replace p35 := eq_true p35
                 replace q35 := eq_true q35
                 obtain ⟨hy41_, hz41_⟩ := Kd.R_celln 0 HO_7.out ((rd l2 x17_1) : Int) (of_decide_eq_true (by first | (with_reducible assumption) | assumption)) (of_decide_eq_true (by first | (with_reducible assumption) | assumption))
                 have HP41 := Kd.R_putg HO_7.out ((rd l2 x17_1) : Int) x11_2
                 try go_wp2_with (first | ((with_reducible refine gate_store (t := 3) (p := 61) rfl ?_); refine store_event (t := 3) (p := 61) (v := ?vo_w42) (w1 := (w40.setCell ⟨go35, ((rd l2 x17_1) : Int).toNat, none⟩ (.int .i64 x11_2))) ?hg ?ho ?hn ?hr ?_; (case ho => rfl); (case hg => rfl); (case hn => rfl); (case hr => first | (go_simp; done) | (go_simp; rfl)); intro w42 hw; have hg : w40.grownBy w42 (some go35) := (by rw [hw]; exact HP41.2); have hp_ : Kd.R (Kd.int .i64) 3 w42 w.heap.size (fun k_ => some k_ ≠ (.slice (some ⟨go33, 0, none⟩) x8_1.length co37 : Value).ownBlock) (.slice (some ⟨go35, 0, none⟩) x7_1.length co35) y120 := (by rw [hw, Ny120.out]; exact HP41.1); clear HP41; replace HO_7 := am (hp_); replace HO_8 := am (Kd.R_after (v := (.slice (some ⟨go35, 0, none⟩) x7_1.length co35)) (v1 := (.slice (some ⟨go35, 0, none⟩) x7_1.length co35)) (ok := (fun _ => True)) (by (with_reducible repeat (first | apply rA | apply rN | apply rD)); exact Kd.R_mono HO_8.out (fun _ hk => ⟨trivial, hk⟩)) hg (.inl rfl)); replace HB := am ((by rw [hw]; exact below_set (HB.out) GB35.out : Below w.heap.size w w42)); clear hg hw hp_))
                 go_roundg k2
                 case measure => have := HK1.out; have := HK2.out; omega
                 case rel => exact ⟨(y120), (y119), (wrap64 (x17_1 + 1)), (by first | rfl | (simp; done) | (simp [*]; done)), H', ⟨by have := HK1.out; have := HK2.out; omega⟩, ⟨by (with_reducible repeat (first | apply rA | apply rN | apply rD)); exact HO_7.out⟩, ⟨by (with_reducible repeat (first | apply rA | apply rN | apply rD)); exact Kd.R_mono HO_8.out (fun _ hk => hk.2)⟩, ⟨by exact uW⟩⟩
                ·rw [if_neg c34] at H
                 exact absurd H (by simp)
             ·rw [if_neg c14] at H
              exact absurd H (by simp)
            ·rw [if_neg c13] at H
             exact absurd H (by simp)
           ·rw [if_neg c12] at H
            exact absurd H (by simp)
          ·rw [if_neg c11] at H
           have c11b0 : decide (x11_2 < (x8_1.length : Int)) = false := decide_eq_false c11
           clear c11
           by_cases c43 : x11_2 = (x8_1.length : Int)
           ·rw [if_pos c43] at H
            have c43b0 : (x11_2 == (x8_1.length : Int)) = true := beq_iff_eq.mpr c43
            have c43b1 : (x11_2 != (x8_1.length : Int)) = false := bne_eq_false_iff_eq.mpr c43
            clear c43
            by_cases c44 : x8_1.length < 17592186044416
            ·rw [if_pos c44] at H
             have LMc44 := am c44
             clear c44
             obtain ⟨y121, hy121⟩ : ∃ y_ : List Int, y_ = (x8_1 ++ [a1]) := ⟨_, rfl⟩
             replace H : (if 0 ≤ x11_2 then (if x11_2 < (y121.length : Int) then (if 0 ≤ (rd l2 x17_1) then (if (rd l2 x17_1) < (l0.length : Int) then (if (rd l2 x17_1) < (x7_1.length : Int) then (spec_bgPack.l0 k2 l0 a1 (x7_1.set ((rd l2 x17_1) : Int).toNat x11_2) (y121.set (x11_2 : Int).toNat (wrap64 ((rd y121 x11_2) - ((rd_T45 l0 (rd l2 x17_1)).f1)))) l2 (l2.length : Int) (wrap64 (x17_1 + 1))) else (none)) else (none)) else (none)) else (none)) else (none)) = some r := by first | (rw [hy121]; with_reducible exact H) | (have H2_ := (Option.bind_some _ _).symm.trans H; rw [hy121]; with_reducible exact H2_) | (have H2_ := (Option.bind_some _ _).symm.trans H; with_reducible exact H2_) | with_reducible exact H | (rw [hy121]; exact H) | exact H
             have Ny121 := am hy121
             clear hy121
             by_cases c45 : 0 ≤ x11_2
             ·rw [if_pos c45] at H
              have c45b0 : decide (0 ≤ x11_2) = true := decide_eq_true c45
              clear c45
              by_cases c46 : x11_2 < (y121.length : Int)
              ·rw [if_pos c46] at H
               have c46b0 : decide (x11_2 < (y121.length : Int)) = true := decide_eq_true c46
               clear c46
               by_cases c47 : 0 ≤ (rd l2 x17_1)
               ·rw [if_pos c47] at H
                have c47b0 : decide (0 ≤ (rd l2 x17_1)) = true := decide_eq_true c47
                clear c47
                by_cases c48 : (rd l2 x17_1) < (l0.length : Int)
                ·rw [if_pos c48] at H
                 have c48b0 : decide ((rd l2 x17_1) < (l0.length : Int)) = true := decide_eq_true c48
                 clear c48
                 obtain ⟨y126, hy126⟩ : ∃ y_ : List Int, y_ = (y121.set (x11_2 : Int).toNat (wrap64 ((rd y121 x11_2) - ((rd_T45 l0 (rd l2 x17_1)).f1)))) := ⟨_, rfl⟩
                 replace H : (if (rd l2 x17_1) < (x7_1.length : Int) then (spec_bgPack.l0 k2 l0 a1 (x7_1.set ((rd l2 x17_1) : Int).toNat x11_2) y126 l2 (l2.length : Int) (wrap64 (x17_1 + 1))) else (none)) = some r := by first | (rw [hy126]; with_reducible exact H) | (have H2_ := (Option.bind_some _ _).symm.trans H; rw [hy126]; with_reducible exact H2_) | (have H2_ := (Option.bind_some _ _).symm.trans H; with_reducible exact H2_) | with_reducible exact H | (rw [hy126]; exact H) | exact H
                 have Ny126 := am hy126
                 clear hy126
                 by_cases c50 : (rd l2 x17_1) < (x7_1.length : Int)
                 ·rw [if_pos c50] at H
                  have c50b0 : decide ((rd l2 x17_1) < (x7_1.length : Int)) = true := decide_eq_true c50
                  clear c50
                  obtain ⟨y127, hy127⟩ : ∃ y_ : List Int, y_ = (x7_1.set ((rd l2 x17_1) : Int).toNat x11_2) := ⟨_, rfl⟩
                  replace H : (spec_bgPack.l0 k2 l0 a1 y127 y126 l2 (l2.length : Int) (wrap64 (x17_1 + 1))) = some r := by first | (rw [hy127]; with_reducible exact H) | (have H2_ := (Option.bind_some _ _).symm.trans H; rw [hy127]; with_reducible exact H2_) | (have H2_ := (Option.bind_some _ _).symm.trans H; with_reducible exact H2_) | with_reducible exact H | (rw [hy127]; exact H) | exact H
                  have Ny127 := am hy127
                  clear hy127
                  have H' := am H
                  clear H
                  try go_wp2
                  replace HO_7 := am (Kd.R_drew HO_7.out)
                  replace HO_8 := am (Kd.R_drew HO_8.out)
                  replace HB := am (below_drew1 HB.out)
                  obtain ⟨Ao53, co53, eo53⟩ := Kd.R_slice HO_8.out
                  (first | subst eo53 | (injection eo53 with f1_ f2_ f3_; have f4_ := f1_.symm; have f5_ := f3_.symm; clear f1_ f2_ f3_; subst f4_; subst f5_))
                  refine start_ (n := 16) (S := fun w' => True) (ds := []) #[false, false, false, false, false, false, false, false, false, false, false, false, false, false, false, false] (by kernel_rfl) rfl rfl trivial (fun hHeld => ?_); refine with_tabW spec_bgPack.tab7 spec_bgPack.bits7 (fun HT_ HW_ => ?_)
                  generalize wr.drew = w52 at HO_7 HO_8 HB hHeld ⊢
                  refine uPu (i := 0) (N := some 21) #[true, false, false, false, false, false, false, false, false, false, false, false, false, false, false, false] ?_
                  refine uPu (i := 1) (N := some 22) #[true, true, false, false, false, false, false, false, false, false, false, false, false, false, false, false] ?_
                  refine uPu (i := 2) (N := some 23) #[true, true, true, false, false, false, false, false, false, false, false, false, false, false, false, false] ?_
                  refine uPu (i := 3) (N := some 24) #[true, true, true, true, false, false, false, false, false, false, false, false, false, false, false, false] ?_
                  refine uPu (i := 4) (N := some 25) #[true, true, true, true, true, false, false, false, false, false, false, false, false, false, false, false] ?_
                  refine pure_ (i := 5) (N := some 26) (v := undef) (a' := ?_) #[true, true, true, true, true, true, false, false, false, false, false, false, false, false, false, false] rfl rfl (any_of HT_.out (by kernel_rfl)) (fun _ _ _ h => h) (Or.inr ⟨by rfl, rfl⟩) ?_ ?_
                  rotate_left
                  ·simp only [Act.put, List.setIfInBounds_toArray, List.set_cons_zero, List.set_cons_succ, i64_w, i32_w]
                   rfl
                  refine pure_ (i := 6) (N := some 27) (v := undef) (a' := ?_) #[true, true, true, true, true, true, true, false, false, false, false, false, false, false, false, false] rfl rfl (any_of HT_.out (by kernel_rfl)) (fun _ _ _ h => h) (Or.inr ⟨by rfl, rfl⟩) ?_ ?_
                  rotate_left
                  ·simp only [Act.put, List.setIfInBounds_toArray, List.set_cons_zero, List.set_cons_succ, i64_w, i32_w]
                   rfl
                  refine pure_ (i := 7) (N := some 28) (v := undef) (a' := ?_) #[true, true, true, true, true, true, true, true, false, false, false, false, false, false, false, false] rfl rfl (any_of HT_.out (by kernel_rfl)) (fun _ _ _ h => h) (Or.inr ⟨by rfl, rfl⟩) ?_ ?_
                  rotate_left
                  ·simp only [Act.put, List.setIfInBounds_toArray, List.set_cons_zero, List.set_cons_succ, i64_w, i32_w]
                   rfl
                  refine pure_ (i := 8) (N := some 29) (v := undef) (a' := ?_) #[true, true, true, true, true, true, true, true, true, false, false, false, false, false, false, false] rfl rfl (any_of HT_.out (by kernel_rfl)) (fun _ _ _ h => h) (Or.inr ⟨by rfl, rfl⟩) ?_ ?_
                  rotate_left
                  ·simp only [Act.put, List.setIfInBounds_toArray, List.set_cons_zero, List.set_cons_succ, i64_w, i32_w]
                   rfl
                  refine pure_ (i := 9) (N := some 30) (v := undef) (a' := ?_) #[true, true, true, true, true, true, true, true, true, true, false, false, false, false, false, false] rfl rfl (any_of HT_.out (by kernel_rfl)) (fun _ _ _ h => h) (Or.inr ⟨by rfl, rfl⟩) ?_ ?_
                  rotate_left
                  ·simp only [Act.put, List.setIfInBounds_toArray, List.set_cons_zero, List.set_cons_succ, i64_w, i32_w]
                   rfl
                  refine pure_ (i := 10) (N := some 31) (v := undef) (a' := ?_) #[true, true, true, true, true, true, true, true, true, true, true, false, false, false, false, false] rfl rfl (any_of HT_.out (by kernel_rfl)) (fun _ _ _ h => h) (Or.inr ⟨by rfl, rfl⟩) ?_ ?_
                  rotate_left
                  ·simp only [Act.put, List.setIfInBounds_toArray, List.set_cons_zero, List.set_cons_succ, i64_w, i32_w]
                   rfl
                  refine pure_ (i := 11) (N := some 32) (v := undef) (a' := ?_) #[true, true, true, true, true, true, true, true, true, true, true, true, false, false, false, false] rfl rfl (any_of HT_.out (by kernel_rfl)) (fun _ _ _ h => h) (Or.inr ⟨by rfl, rfl⟩) ?_ ?_
                  rotate_left
                  ·simp only [Act.put, List.setIfInBounds_toArray, List.set_cons_zero, List.set_cons_succ, i64_w, i32_w]
                   rfl
                  refine pure_ (i := 12) (N := some 33) (v := undef) (a' := ?_) #[true, true, true, true, true, true, true, true, true, true, true, true, true, false, false, false] rfl rfl (any_of HT_.out (by kernel_rfl)) (fun _ _ _ h => h) (Or.inr ⟨by rfl, rfl⟩) ?_ ?_
                  rotate_left
                  ·simp only [Act.put, List.setIfInBounds_toArray, List.set_cons_zero, List.set_cons_succ, i64_w, i32_w]
                   rfl
                  refine pure_ (i := 13) (N := some 34) (v := undef) (a' := ?_) #[true, true, true, true, true, true, true, true, true, true, true, true, true, true, false, false] rfl rfl (any_of HT_.out (by kernel_rfl)) (fun _ _ _ h => h) (Or.inr ⟨by rfl, rfl⟩) ?_ ?_
                  rotate_left
                  ·simp only [Act.put, List.setIfInBounds_toArray, List.set_cons_zero, List.set_cons_succ, i64_w, i32_w]
                   rfl
                  refine pure_ (i := 14) (N := some 35) (v := undef) (a' := ?_) #[true, true, true, true, true, true, true, true, true, true, true, true, true, true, true, false] rfl rfl (any_of HT_.out (by kernel_rfl)) (fun _ _ _ h => h) (Or.inr ⟨by rfl, rfl⟩) ?_ ?_
                  rotate_left
                  ·simp only [Act.put, List.setIfInBounds_toArray, List.set_cons_zero, List.set_cons_succ, i64_w, i32_w]
                   rfl
                  refine uPu (i := 15) (N := some 36) #[true, true, true, true, true, true, true, true, true, true, true, true, true, true, true, true] ?_
                  refine done_ (done_of HT_.out (by kernel_rfl)) ?_
                  try go_wp2_with (first | ((with_reducible refine gate_builtin (b := .append) (xs := #[.tmp 43, .tmp 45]) rfl ?_); at_builtin; refine Kd.R_append (Kd.int .i64) (w0 := w) w.heap.size rfl (.tmp 43) (.tmp 45) 27 3 (.int .i64 0) 8 rfl Try.underlying27 info3 rfl (by decide) (by omega) (.slice Ao53 x8_1.length co53) x8_1 a1 [.int .i64 a1] (fun k_ => some k_ ≠ (v102 : Value).ownBlock) (fun _ => False) rfl rfl ?aP (fun _ hk => hk.elim) ?aF ?aO ?aB ?aS ?aL ?_; (case aP => exact rfl); (case aB => exact uW); (case aF => exact (fun k_ hk => Kd.fresh' (Kd.R_lt (uR HO_7)) k_ hk)); (case aO => exact (uR HO_8)); (case aS => exact (below_size uW)); (case aL => have := LMc44.out; omega); intro v122 w54 ho hb hg hat; rw [← Ny121.out] at ho; have HO123 := am (ho); replace HO_7 := am (Kd.R_after (ok := (fun _ => True)) (by (with_reducible repeat (first | apply rA | apply rN | apply rD)); exact Kd.R_mono HO_7.out (fun _ hk => ⟨trivial, hk⟩)) hg hat); replace HB := am (hb); clear HO_8; clear ho hb hg hat))
                  replace HO_7 := am (Kd.R_drew HO_7.out)
                  replace HO123 := am (Kd.R_drew HO123.out)
                  replace HB := am (below_drew1 HB.out)
                  obtain ⟨Ao56, co56, eo56⟩ := Kd.R_slice HO123.out
                  (first | subst eo56 | (injection eo56 with f1_ f2_ f3_; have f4_ := f1_.symm; have f5_ := f3_.symm; clear f1_ f2_ f3_; subst f4_; subst f5_))
                  have p124 : 0 ≤ (x11_2 : Int) := of_decide_eq_true (by first | (with_reducible assumption) | assumption)
                  have q124 : x11_2 < (y121.length : Int) := of_decide_eq_true (by first | (with_reducible assumption) | assumption)
                  obtain ⟨ad124, e124, hx124_0⟩ := Kd.at_int (Kd.R_reads' HO123.out).2.2 x11_2 p124 q124
                  cases e124
                  replace p124 := eq_true p124
                  replace q124 := eq_true q124
                  have p125 : 0 ≤ ((rd l2 x17_1) : Int) := of_decide_eq_true (by first | (with_reducible assumption) | assumption)
                  have q125 : (rd l2 x17_1) < (l0.length : Int) := of_decide_eq_true (by first | (with_reducible assumption) | assumption)
                  obtain ⟨ad125, e125, hx125_0, hx125_1⟩ := at_T45 HR0.out (rd l2 x17_1) p125 q125
                  have hw125_1 := hx125_1
                  have hw125_0 := hx125_0
                  cases e125
                  try replace hx125_0 := (HB.out.cell (World.block_lt_of_cell? w _ hx125_0)).trans hx125_0
                  try replace hx125_1 := (HB.out.cell (World.block_lt_of_cell? w _ hx125_1)).trans hx125_1
                  replace p125 := eq_true p125
                  replace q125 := eq_true q125
                  have p49 : 0 ≤ (x11_2 : Int) := of_decide_eq_true (by first | (with_reducible assumption) | assumption)
                  have q49 : (x11_2 : Int) < ((y121.length : Int) : Int) := of_decide_eq_true (by first | (with_reducible assumption) | assumption)
                  obtain ⟨go49, co49, eo49, gb49, gl49, cl49, HG49⟩ := Kd.R_form HO123.out (by omega)
                  (first | cases eo49 | (injection eo49 with ea_ en_ ec_; (first | subst ea_ | (injection ea_ with ea_; subst ea_)); subst ec_; clear en_))
                  have GB49 := am gb49
                  have GG49 := am HG49
                  clear gb49 gl49 HG49
                  (first | simp only [add_plain] at hx124_0 | skip)
                  obtain ⟨hx49_0, hf49_0⟩ := Kd.R_celln 0 HO123.out (x11_2 : Int) p49 q49
                  replace p49 := eq_true p49
                  replace q49 := eq_true q49
                  have HP57 := Kd.R_putn HO123.out (x11_2 : Int) (wrap64 ((rd y121 x11_2) - ((rd_T45 l0 (rd l2 x17_1)).f1)))
                  rw [← Ny126.out] at HP57
                  have HQ57 := am HP57
                  clear HP57
                  refine start_ (n := 12) (S := fun w' => w'.cell? ⟨go49, (x11_2).toNat, none⟩ = some (.int .i64 (rd y121 x11_2)) ∧ w'.cell? (ad125.add (((rd l2 x17_1)).toNat * 2)) = some (.int .i64 ((rd_T45 l0 (rd l2 x17_1)).f0)) ∧ w'.cell? ⟨(ad125.add (((rd l2 x17_1)).toNat * 2)).block, (ad125.add (((rd l2 x17_1)).toNat * 2)).off + 1, none⟩ = some (.int .i64 ((rd_T45 l0 (rd l2 x17_1)).f1))) (ds := [11]) #[false, false, false, false, false, false, false, false, false, false, false, false] (by kernel_rfl) rfl rfl ⟨hx124_0, ((HB.out.cell (World.block_lt_of_cell? w _ hw125_0)).trans hw125_0), ((HB.out.cell (World.block_lt_of_cell? w _ hw125_1)).trans hw125_1)⟩ (fun hHeld => ?_); refine with_tabW spec_bgPack.tab11 spec_bgPack.bits11 (fun HT_ HW_ => ?_)
                  generalize w54.drew = w55 at HO_7 HO123 HB GG49 HQ57 hf49_0 hx124_0 hx125_0 hx125_1 hx49_0 hHeld ⊢
                  refine uPu (i := 0) (N := some 47) #[true, false, false, false, false, false, false, false, false, false, false, false] ?_
                  refine uPu (i := 1) (N := some 48) #[true, true, false, false, false, false, false, false, false, false, false, false] ?_
                  refine uPu (i := 2) (N := some 49) #[true, true, true, false, false, false, false, false, false, false, false, false] ?_
                  refine uPu (i := 4) (N := some 51) #[true, true, true, false, true, false, false, false, false, false, false, false] ?_
                  refine uPu (i := 5) (N := some 52) #[true, true, true, false, true, true, false, false, false, false, false, false] ?_
                  refine uPu (i := 6) (N := some 53) #[true, true, true, false, true, true, true, false, false, false, false, false] ?_
                  refine uPu (i := 7) (N := some 54) #[true, true, true, false, true, true, true, true, false, false, false, false] ?_
                  refine uTk (i := 3) (N := some 50) #[true, true, true, true, true, true, true, true, false, false, false, false] hHeld ?_
                  refine uTk (i := 8) (N := some 55) #[true, true, true, true, true, true, true, true, true, false, false, false] hHeld ?_
                  refine uPu (i := 9) (N := some 56) #[true, true, true, true, true, true, true, true, true, true, false, false] ?_
                  refine uPu (i := 10) (N := some 57) #[true, true, true, true, true, true, true, true, true, true, true, false] ?_
                  refine last_ (i := 11) (N := none) #[true, true, true, true, true, true, true, true, true, true, true, true] rfl rfl (one_of HT_.out (by kernel_rfl)) (by decide) (fun K hK => ?_)
                  refine skip_ (w1 := ?_) (by rfl) rfl ?_ ?_
                  rotate_left
                  ·go_simp
                   rfl
                  refine hK.out _ _ ?_
                  clear hK K
                  refine done_ (done_of HT_.out (by kernel_rfl)) ?_
                  have n0_ : Aside0 (Kd.R (Kd.int .i64) 3 (w55.setCell ⟨go49, (x11_2 : Int).toNat, none⟩ (.int .i64 (wrap64 ((rd y121 x11_2) - ((rd_T45 l0 (rd l2 x17_1)).f1))))) w.heap.size (fun k_ => some k_ ≠ (.slice (some ⟨go49, 0, none⟩) y121.length co56 : Value).ownBlock) v102 x7_1) := ⟨by (with_reducible repeat (first | apply rA | apply rN | apply rD)); exact Kd.R_mono (Kd.R_far (p := ⟨go49, (x11_2 : Int).toNat, none⟩) (Kd.R_mono HO_7.out (fun k_ hk => (⟨hk, fun e_ => hk.2 (by rw [e_]; rfl)⟩ : _ ∧ k_ ≠ go49))) (fun _ hk => hk.2) (.int .i64 (wrap64 ((rd y121 x11_2) - ((rd_T45 l0 (rd l2 x17_1)).f1))))) (fun _ hk => hk.1.2)⟩
                  have n1_ : Aside0 (Kd.R (Kd.int .i64) 3 (w55.setCell ⟨go49, (x11_2 : Int).toNat, none⟩ (.int .i64 (wrap64 ((rd y121 x11_2) - ((rd_T45 l0 (rd l2 x17_1)).f1))))) w.heap.size (fun k_ => some k_ ≠ (v102 : Value).ownBlock) (.slice (some ⟨go49, 0, none⟩) y121.length co56) y126) := ⟨by (with_reducible repeat (first | apply rA | apply rN | apply rD)); exact HQ57.out⟩
                  have n2_ : Aside0 (Below w.heap.size w (w55.setCell ⟨go49, (x11_2 : Int).toNat, none⟩ (.int .i64 (wrap64 ((rd y121 x11_2) - ((rd_T45 l0 (rd l2 x17_1)).f1)))))) := ⟨by repeat (first | (with_reducible first | exact HB.out | apply below_alloc | apply pw_below_drewN | apply below_drew1 | refine below_set ?_ GB49.out) | exact HB.out)⟩
                  (try clear HO_7)
                  (try clear HO123)
                  (try clear HB)
                  generalize (w55.setCell ⟨go49, (x11_2 : Int).toNat, none⟩ (.int .i64 (wrap64 ((rd y121 x11_2) - ((rd_T45 l0 (rd l2 x17_1)).f1))))) = w58 at n0_ n1_ n2_ ⊢
                  have HO_7 := n0_
                  have HO123 := n1_
                  have HB := n2_
                  clear n0_ n1_ n2_
                  have p51 : 0 ≤ ((rd l2 x17_1) : Int) := of_decide_eq_true (by first | (with_reducible assumption) | assumption)
                  have q51 : ((rd l2 x17_1) : Int) < ((x7_1.length : Int) : Int) := of_decide_eq_true (by first | (with_reducible assumption) | assumption)
                  obtain ⟨go51, co51, eo51, gb51, gl51, cl51, HG51⟩ := Kd.R_form HO_7.out (by omega)
                  (first | cases eo51 | (injection eo51 with ea_ en_ ec_; (first | subst ea_ | (injection ea_ with ea_; subst ea_)); subst ec_; clear en_))
                  have GB51 := am gb51
                  have GG51 := am HG51
                  clear gb51 gl51 HG51
                  obtain ⟨hx51_0, hf51_0⟩ := Kd.R_celln 0 HO_7.out ((rd l2 x17_1) : Int) p51 q51
                  replace p51 := eq_true p51
                  replace q51 := eq_true q51
                  obtain ⟨hy59_, hz59_⟩ := Kd.R_celln 0 HO_7.out ((rd l2 x17_1) : Int) (of_decide_eq_true (by first | (with_reducible assumption) | assumption)) (of_decide_eq_true (by first | (with_reducible assumption) | assumption))
                  have HP59 := Kd.R_putg HO_7.out ((rd l2 x17_1) : Int) x11_2
                  try go_wp2_with (first | ((with_reducible refine gate_store (t := 3) (p := 61) rfl ?_); refine store_event (t := 3) (p := 61) (v := ?vo_w60) (w1 := (w58.setCell ⟨go51, ((rd l2 x17_1) : Int).toNat, none⟩ (.int .i64 x11_2))) ?hg ?ho ?hn ?hr ?_; (case ho => rfl); (case hg => rfl); (case hn => rfl); (case hr => first | (go_simp; done) | (go_simp; rfl)); intro w60 hw; have hg : w58.grownBy w60 (some go51) := (by rw [hw]; exact HP59.2); have hp_ : Kd.R (Kd.int .i64) 3 w60 w.heap.size (fun k_ => some k_ ≠ (.slice (some ⟨go49, 0, none⟩) y121.length co56 : Value).ownBlock) (.slice (some ⟨go51, 0, none⟩) x7_1.length co51) y127 := (by rw [hw, Ny127.out]; exact HP59.1); clear HP59; replace HO_7 := am (hp_); replace HO123 := am (Kd.R_after (v := (.slice (some ⟨go51, 0, none⟩) x7_1.length co51)) (v1 := (.slice (some ⟨go51, 0, none⟩) x7_1.length co51)) (ok := (fun _ => True)) (by (with_reducible repeat (first | apply rA | apply rN | apply rD)); exact Kd.R_mono HO123.out (fun _ hk => ⟨trivial, hk⟩)) hg (.inl rfl)); replace HB := am ((by rw [hw]; exact below_set (HB.out) GB51.out : Below w.heap.size w w60)); clear hg hw hp_))
                  go_roundg k2
                  case measure => have := HK1.out; have := HK2.out; omega
                  case rel => exact ⟨(y127), (y126), (wrap64 (x17_1 + 1)), (by first | rfl | (simp; done) | (simp [*]; done)), H', ⟨by have := HK1.out; have := HK2.out; omega⟩, ⟨by (with_reducible repeat (first | apply rA | apply rN | apply rD)); exact HO_7.out⟩, ⟨by (with_reducible repeat (first | apply rA | apply rN | apply rD)); exact Kd.R_mono HO123.out (fun _ hk => hk.2)⟩, ⟨by exact uW⟩⟩
                 ·rw [if_neg c50] at H
                  exact absurd H (by simp)
                ·rw [if_neg c48] at H
                 exact absurd H (by simp)
               ·rw [if_neg c47] at H
                exact absurd H (by simp)
              ·rw [if_neg c46] at H
               exact absurd H (by simp)
             ·rw [if_neg c45] at H
              exact absurd H (by simp)
            ·rw [if_neg c44] at H
             exact absurd H (by simp)
           ·rw [if_neg c43] at H
            have c43b0 : (x11_2 == (x8_1.length : Int)) = false := beq_eq_false_iff_ne.mpr c43
            have c43b1 : (x11_2 != (x8_1.length : Int)) = true := bne_iff_ne.mpr c43
            by_cases c61 : 0 ≤ x11_2
            ·rw [if_pos c61] at H
             exact absurd H (by simp)
            ·rw [if_neg c61] at H
             exact absurd H (by simp)
       ·rw [if_neg c10] at H
        exact absurd H (by simp)
      ·rw [if_neg c9] at H
       exact absurd H (by simp)
     ·rw [if_neg c8] at H
      have c8b0 : decide (x17_1 < (l2.length : Int)) = false := decide_eq_false c8
      clear c8
      replace H := bH H
      obtain ⟨t104, A620, H⟩ := H
      replace H : (some t104) = some r := H
      have A62 := am A620
      clear A620
      obtain rfl := Option.some.inj H
      obtain ⟨Ao63, co63, eo63⟩ := Kd.R_slice HO_7.out
      subst eo63
      go_wp2_with (first | ((with_reducible refine gate_callee (f := 81) rfl ?_); refine uGo (some 64) Try.func81 #[.slice Ao63 x7_1.length co63] ?_; (with_reducible refine (spec_bgNamed.calls k1 _ _ x7_1 t104 _ ?side1 ?side2 A62.out).mono ?_); (case side1 => repeat (first | exact (Kd.R_reads' HO_7.out).2.2 | (with_reducible refine cA ?_ _) | (with_reducible refine cN ?_ _) | (with_reducible refine cD ?_))); (case side2 => exact (Kd.R_reads' HO_7.out).2.1); rintro e w64 ⟨v105, rfl, ho0, hb⟩; refine ⟨_, rfl, ?_⟩; have HO106 := am (Kd.R_lower (Kd.R_new' (Kd.R_new' ho0 (Kd.R_lt (uR HO_7))) (Kd.R_lt (uR HO_8))) (below_size uW)); replace HO_7 := am (Kd.R_elder' (uR HO_7) (Kd.R_base ho0) hb); replace HO_8 := am (Kd.R_elder' (uR HO_8) (Kd.R_base ho0) hb); replace HB := uS hb; (try clear hb); (try clear hb2); (try clear hk); (try clear hi); (try clear ho0)))
      go_ret
      exact ⟨_, uA, by (with_reducible repeat (first | apply rA | apply rN | apply rD)); exact Kd.R_mono HO106.out (fun _ hk => trivial), by exact uW⟩
  ·rw [if_neg c5] at H
   exact absurd H (by simp)
 ·rw [if_neg c4] at H
  exact absurd H (by simp)
end Go.Proofs.Ytmninaoedoonbaa.G
end
