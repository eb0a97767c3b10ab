/- Texts of this seat's proofs: contracts of its functions and plain laws about them, with no condition beyond those that each theorem states. -/
import Derived.Test.YtcloklakffgbmaaQ1bfdbd4f
import Derived.Test.YtcloklakffgbmaaQffec2d73
import Derived.Test.YtcloklakffgbmaaQ1c3caef0
import Derived.Test.YtcloklakffgbmaaQ1db93f96
import Derived.Test.YtcloklakffgbmaaQfd2a13a8
import Derived.Test.YtcloklakffgbmaaQd9c2ce5b
namespace Go.Proofs.Ytcloklakffgbmaa.G
open Go.RowKit Go.Proofs.YtcloklakffgbmaaW.PrintWords Go.Proofs.YtcloklakffgbmaaW.PrintLast Go.Proofs.YtcloklakffgbmaaW.PrintMore
attribute [local go_sem] max2_int min2_int max_two min_two max_three min_three max_four min_four
set_option linter.unusedVariables false
set_option linter.unusedSimpArgs false
set_option maxHeartbeats 8000000 in
set_option maxRecDepth 100000 in
theorem laws_FnExactAddClue.calls2 : laws_FnExactAddClue.calls1.1 := by
 intro k a0_0 a0_1 A0_2 c0_2 l0_2 a1_0 a1_1 a1_2 r w hu26 hu28 hu33 HR0_2 HC0_2 t103 A3 c4b0 t104 t105 t106 A10 t109 t110 t111 A11 t112 t113 t114 t117 A12 t119 t120 t121 A13 t125 t126 t127 A14 t128 t129 t130 t133 A15 u0_ gb101 w17 GW101 GE101 gb102 w18 GW102 GE102 NB101_102 NB102_101 hnb19 hnc19 hcz20_0 hcz20_1 hcz20_2 hfz20_0 hfz20_1 hfz20_2 w21 u1_ u2_ w22 u3_ v107 gb118 w28 u4_ GW118 GE118 NB101_118 NB118_101 NB102_118 NB118_102 u5_ Ao31 co31 hs29 hfs29 hns29_0 hns29_1 hms29_0 hms29_1 hs30 hfs30 hns30_0 hns30_1 hms30_0 hms30_1 hs32 hfs32 hns32_0 hns32_1 hms32_0 hms32_1 u6_ hnb33 hnc33 hcz34_0 hcz34_1 hcz34_2 hfz34_0 hfz34_1 hfz34_2 w35 gb124 w36 GW124 GE124 NB101_124 NB124_101 NB102_124 NB124_102 NB118_124 NB124_118 hnb37 hnc37 hnb38 hnc38 hnb39 hnc39 hcz40_0 hcz40_1 hcz40_2 hfz40_0 hfz40_1 hfz40_2 Ao41 co41 w42 HT_ HW_ w43 u7_ gb134 w47 hS_ u8_ u9_ u10_ u11_ u12_ GW134 GE134 NB101_134 NB134_101 NB102_134 NB134_102 NB118_134 NB134_118 NB124_134 NB134_124 u13_ u14_ Ao50 co50 HO108 HO116 HO123 HO132 hs48 hfs48 hns48_0 hns48_1 hns48_2 hns48_3 hms48_0 hms48_1 hms48_2 hms48_3 hs49 hfs49 hns49_0 hns49_1 hns49_2 hns49_3 hms49_0 hms49_1 hms49_2 hms49_3 hs51 hfs51 hns51_0 hns51_1 hns51_2 hns51_3 hms51_0 hms51_1 hms51_2 hms51_3 u15_ u16_ u17_ u18_ u19_ u20_ u21_ u22_ u23_ u24_ u25_ u26_ u27_ u28_ u29_ u30_ u31_ u32_ u33_ u34_ u35_ u36_ u37_ u38_ u39_ u40_ u41_ u42_ u43_ u44_ u45_ u46_ u47_ u48_ u49_ u50_ u51_ u52_ u53_ u54_ u55_ u56_ u57_ u58_ u59_ u60_ u61_ u62_ u63_ u64_ u65_ u66_ u67 u67_ u68_ u69_ u70_ u71_ u72_ u73_ u74_ u75_ u76_ u77_ u78_ u79_ u80_ u81_ u82_ u83_ u84_ u85_ u86_ u87_ u88_ u89_ u90_ u91_ u92_ u93_ u94_ u95_ u96_ u97_ u98_ u99_ u100_ u101_ u102_ kj15 HJ15 t136 t137 t138 A75 A76 t142 t143 A78 w80 u103_ w81 Ao82 co82 u104_ w83 hHeld hnb84 hnc84 hnb85 hnc85 hnb86 hnc86 hnb87 hnc87 w89 u105_ u106_ u107_ u108_ u109_ u110_ u111_ u112_ HO140 u113_ u114_ u115_ u116_ u117_ wc u16 u17 u18 u19 u20 u21 u22 u23 u24 u25 u26 u27 u28 u29 u30 u31 u32 u33 u34 u35 u36 u37 u38 u39 u40 u41 u42 u43 u44 u45 u46 u47 u48 u49 u50 u51 u52 u53 u54 u55 u56 u57 u58 u59 u60 u61 u62 u63 u64 u65 u66 u68 u69 u70 u71 u72 u73 u74 u75 u76 u77 u78 u79 u80 u81 u82 u83 u84 u85 u86 u87 u88 u89 u90 u91 u92 u93 u94 u95 u96 u97 u98 u99 u100 u101 u102 u103 x67_78 HO_125002 BK101 BK102 BK118 BK134 HB hl125002_78 BK124 HO_119002 HO_135002 kj78 HJ78 H c113
 replace c113 := Bool.eq_false_iff.mpr c113
 subst c113
 have H1 : ((laws_markPuzzle.f kj78 t128 t129 t130 1).bind fun bt145 => ((laws_heldPuzzle.f kj78 t128 t129 bt145.2 1).bind fun t147 => (if t147 < 0 then (some false) else (if t147 = bt145.1 then ((laws_toPuzzle.f kj78 a0_0 a0_1 l0_2).bind fun bt148 => ((laws_toClue.f a1_0 a1_1 a1_2).bind fun bt153 => ((impl_AddClue.f bt148.1 bt148.2.1 bt148.2.2 bt153.1 bt153.2.1 bt153.2.2).bind fun bt156 => ((laws_eqPuzzle.f kj78 bt156.1 bt156.2.1 bt156.2.2.1 t112 t113 t114).bind fun t163 => (if t163 = true then (laws_FnExactAddClue.j2 kj78 bt145.1 (bt156.2.2.2 != t117) t128 t129 bt145.2) else (laws_FnExactAddClue.j2 kj78 bt145.1 true t128 t129 bt145.2)))))) else (some false))))) = some r := by rw [if_neg (show ¬ (false = true) by decide)] at H; exact H
 clear H
 have H := H1
 clear H1
 replace H := Option.bind_eq_some_iff.mp H
 obtain ⟨⟨t145, t146⟩, A1140, H⟩ := H
 replace H : ((laws_heldPuzzle.f kj78 t128 t129 t146 1).bind fun t147 => (if t147 < 0 then (some false) else (if t147 = t145 then ((laws_toPuzzle.f kj78 a0_0 a0_1 l0_2).bind fun bt148 => ((laws_toClue.f a1_0 a1_1 a1_2).bind fun bt153 => ((impl_AddClue.f bt148.1 bt148.2.1 bt148.2.2 bt153.1 bt153.2.1 bt153.2.2).bind fun bt156 => ((laws_eqPuzzle.f kj78 bt156.1 bt156.2.1 bt156.2.2.1 t112 t113 t114).bind fun t163 => (if t163 = true then (laws_FnExactAddClue.j2 kj78 t145 (bt156.2.2.2 != t117) t128 t129 t146) else (laws_FnExactAddClue.j2 kj78 t145 true t128 t129 t146)))))) else (some false)))) = some r := H
 have A114 := Aside0.mk A1140
 clear A1140
 replace H := Option.bind_eq_some_iff.mp H
 obtain ⟨t147, A1150, H⟩ := H
 replace H : (if t147 < 0 then (some false) else (if t147 = t145 then ((laws_toPuzzle.f kj78 a0_0 a0_1 l0_2).bind fun bt148 => ((laws_toClue.f a1_0 a1_1 a1_2).bind fun bt153 => ((impl_AddClue.f bt148.1 bt148.2.1 bt148.2.2 bt153.1 bt153.2.1 bt153.2.2).bind fun bt156 => ((laws_eqPuzzle.f kj78 bt156.1 bt156.2.1 bt156.2.2.1 t112 t113 t114).bind fun t163 => (if t163 = true then (laws_FnExactAddClue.j2 kj78 t145 (bt156.2.2.2 != t117) t128 t129 t146) else (laws_FnExactAddClue.j2 kj78 t145 true t128 t129 t146)))))) else (some false))) = some r := H
 have A115 := Aside0.mk A1150
 clear A1150
 by_cases c116 : t147 < 0
 ·rw [if_pos c116] at H
  have c116b0 : decide (t147 < 0) = true := decide_eq_true c116
  clear c116
  obtain rfl := Option.some.inj H
  have hnb117 := NB134_101.out
  have hnc117 := NB101_134.out
  have hnb118 := NB134_102.out
  have hnc118 := NB102_134.out
  have hnb119 := NB134_118.out
  have hnc119 := NB118_134.out
  have hnb120 := NB134_124.out
  have hnc120 := NB124_134.out
  have hcz121_0 : wc.cell? ⟨gb134, 0, none⟩ = some (.int .i64 t128) := (blk_cell BK134.out 0).trans rfl
  have hcz121_1 : wc.cell? ⟨gb134, 1, none⟩ = some (.int .i64 t129) := (blk_cell BK134.out 1).trans rfl
  have hcz121_2 : wc.cell? ⟨gb134, 2, none⟩ = some (.slice Ao50 t130.length co50) := (blk_cell BK134.out 2).trans rfl
  have hfz121_0 := blk_frozen BK134.out 0
  have hfz121_1 := blk_frozen BK134.out 1
  have hfz121_2 := blk_frozen BK134.out 2
  go_wp2_with (first | ((with_reducible refine gate_callee (f := 12) rfl ?_); refine goesL_ (some 70) rfl rfl Try.func12 (by kernel_rfl) rfl #[.agg #[.int .i64 t128, .int .i64 t129, .slice Ao50 t130.length co50], .int .i64 1] rfl (by (try simp only [List.map_toArray, List.map_cons, List.map_nil]); first | done | rfl | (simp only [List.length_drop, List.length_take]; rfl)) ?_; (with_reducible refine (laws_markPuzzle.calls kj78 t128 t129 (fun k_ => some k_ = (.slice Ao50 t130.length co50 : Value).ownBlock) (.slice Ao50 t130.length co50) t130 1 t145 t146 w _ ?side1 ?side2 A114.out).mono ?_); (case side1 => repeat (first | (with_reducible first | exact HB.out | apply below_alloc | apply pw_below_drewN | apply below_drew1 | refine below_set ?_ GE101.out | refine below_set ?_ GE102.out | refine below_set ?_ GE118.out | refine below_set ?_ GE124.out | refine below_set ?_ GE134.out) | exact HB.out)); (case side2 => exact Kd.R_tight rfl HO_135002.out); rintro e w122 ⟨rfl, hy0, hb, hkp⟩; refine ⟨_, rfl, ?_⟩; have n0_ := Aside0.mk (Kd.R_mono (ok' := fun k_ => some k_ ≠ (.slice Ao41 t143.length co41 : Value).ownBlock ∧ some k_ ≠ (.slice Ao50 t130.length co50 : Value).ownBlock) (Kd.R_keptB (HO_119002.out) hkp (fun k_ hk_ hs_ => (hk_.2) hs_)) (fun k_ hk_ => ⟨hk_.1.1, hk_.1.2⟩)); have n1_ := Aside0.mk (Kd.R_mono (ok' := fun k_ => some k_ ≠ (.slice Ao31 t114.length co31 : Value).ownBlock ∧ some k_ ≠ (.slice Ao50 t130.length co50 : Value).ownBlock) (Kd.R_keptB (HO_125002.out) hkp (fun k_ hk_ hs_ => (hk_.2) hs_)) (fun k_ hk_ => ⟨hk_.1.1, hk_.1.2⟩)); have n2_ := Aside0.mk (Kd.R_reok rfl hy0 (fun k_ e_ => HO_135002.out.1 k_ e_)); have n3_ := Aside0.mk (blk_kept (by (with_reducible repeat (first | refine blk_drewN ?_ _ | refine blk_drew ?_ | refine blk_alloc ?_ _)); exact BK101.out) hkp (fun hs_ => (fun e_ => (Kd.R_ne HO_135002.out BK101.out (by decide)) e_) hs_)); have n4_ := Aside0.mk (blk_kept (by (with_reducible repeat (first | refine blk_drewN ?_ _ | refine blk_drew ?_ | refine blk_alloc ?_ _)); exact BK102.out) hkp (fun hs_ => (fun e_ => (Kd.R_ne HO_135002.out BK102.out (by decide)) e_) hs_)); have n5_ := Aside0.mk (blk_kept (by (with_reducible repeat (first | refine blk_drewN ?_ _ | refine blk_drew ?_ | refine blk_alloc ?_ _)); exact BK118.out) hkp (fun hs_ => (fun e_ => (Kd.R_ne HO_135002.out BK118.out (by decide)) e_) hs_)); have n6_ := Aside0.mk (blk_kept (by (with_reducible repeat (first | refine blk_drewN ?_ _ | refine blk_drew ?_ | refine blk_alloc ?_ _)); exact BK124.out) hkp (fun hs_ => (fun e_ => (Kd.R_ne HO_135002.out BK124.out (by decide)) e_) hs_)); have n7_ := Aside0.mk (blk_kept (by (with_reducible repeat (first | refine blk_drewN ?_ _ | refine blk_drew ?_ | refine blk_alloc ?_ _)); exact BK134.out) hkp (fun hs_ => (fun e_ => (Kd.R_ne HO_135002.out BK134.out (by decide)) e_) hs_)); have n8_ := Aside0.mk (hb); clear HO_119002; clear HO_125002; clear HO_135002; clear BK101; clear BK102; clear BK118; clear BK124; clear BK134; clear HB; have HO_119002 := n0_; have HO_125002 := n1_; have HO_135002 := n2_; have BK101 := n3_; have BK102 := n4_; have BK118 := n5_; have BK124 := n6_; have BK134 := n7_; have HB := n8_; clear n0_ n1_ n2_ n3_ n4_ n5_ n6_ n7_ n8_; (try clear hb); (try clear hkp); (try clear hy0); have hcz123_0 : w122.cell? ⟨gb134, 0, none⟩ = some (.int .i64 t128) := (blk_cell BK134.out 0).trans rfl; have hcz123_1 : w122.cell? ⟨gb134, 1, none⟩ = some (.int .i64 t129) := (blk_cell BK134.out 1).trans rfl; have hcz123_2 : w122.cell? ⟨gb134, 2, none⟩ = some (.slice Ao50 t130.length co50) := (blk_cell BK134.out 2).trans rfl; have hfz123_0 := blk_frozen BK134.out 0; have hfz123_1 := blk_frozen BK134.out 1; have hfz123_2 := blk_frozen BK134.out 2) | ((with_reducible refine gate_callee (f := 13) rfl ?_); refine goesL_ (some 73) rfl rfl Try.func13 (by kernel_rfl) rfl #[.agg #[.int .i64 t128, .int .i64 t129, .slice Ao50 t146.length co50], .int .i64 1] rfl (by (try simp only [List.map_toArray, List.map_cons, List.map_nil]); first | done | (rw [show t146.length = t130.length from (Kd.R_reads' HO_135002.out).1.symm] <;> rfl) | rfl | (simp only [List.length_drop, List.length_take]; rfl)) ?_; (with_reducible refine (laws_heldPuzzle.calls kj78 t128 t129 _ _ t146 1 t147 _ ?side1 ?side2 A115.out).mono ?_); (case side1 => repeat (first | exact (Kd.R_reads' HO_135002.out).2.2 | (with_reducible refine Kd.C_alloc ?_ _) | (with_reducible refine Kd.C_drewN ?_ _) | (with_reducible refine Kd.C_drew ?_))); (case side2 => rw [show t146.length = t130.length from (Kd.R_reads' HO_135002.out).1.symm]; exact (Kd.R_reads' HO_135002.out).2.1); rintro e w124 ⟨rfl, hb⟩; refine ⟨_, rfl, ?_⟩; have n0_ := Aside0.mk (Kd.R_below (by (with_reducible repeat (first | apply Kd.R_alloc | apply Kd.R_drewN | apply Kd.R_drew)); exact HO_119002.out) hb); have n1_ := Aside0.mk (Kd.R_below (by (with_reducible repeat (first | apply Kd.R_alloc | apply Kd.R_drewN | apply Kd.R_drew)); exact HO_125002.out) hb); have n2_ := Aside0.mk (Kd.R_below (by (with_reducible repeat (first | apply Kd.R_alloc | apply Kd.R_drewN | apply Kd.R_drew)); exact HO_135002.out) hb); have n3_ := Aside0.mk (blk_below (g := gb101) (o := .cells #[.int .i64 a0_0, .int .i64 a0_1, .slice A0_2 l0_2.length c0_2] 26 (0, 0)) (by (with_reducible repeat (first | refine blk_drewN ?_ _ | refine blk_drew ?_ | refine blk_alloc ?_ _)); exact BK101.out) hb); have n4_ := Aside0.mk (blk_below (g := gb102) (o := .cells #[.int .i64 a1_0, .int .i64 a1_1, .int .i64 a1_2] 28 (0, 0)) (by (with_reducible repeat (first | refine blk_drewN ?_ _ | refine blk_drew ?_ | refine blk_alloc ?_ _)); exact BK102.out) hb); have n5_ := Aside0.mk (blk_below (g := gb118) (o := .cells #[.int .i64 t112, .int .i64 t113, .slice Ao31 t114.length co31] 33 (0, 0)) (by (with_reducible repeat (first | refine blk_drewN ?_ _ | refine blk_drew ?_ | refine blk_alloc ?_ _)); exact BK118.out) hb); have n6_ := Aside0.mk (blk_below (g := gb124) (o := .cells #[.int .i64 t119, .int .i64 t120, .slice Ao41 t143.length co41] 33 (0, 0)) (by (with_reducible repeat (first | refine blk_drewN ?_ _ | refine blk_drew ?_ | refine blk_alloc ?_ _)); exact BK124.out) hb); have n7_ := Aside0.mk (blk_below (g := gb134) (o := .cells #[.int .i64 t128, .int .i64 t129, .slice Ao50 t130.length co50] 33 (0, 0)) (by (with_reducible repeat (first | refine blk_drewN ?_ _ | refine blk_drew ?_ | refine blk_alloc ?_ _)); exact BK134.out) hb); have n8_ := Aside0.mk (below_step (by repeat (first | (with_reducible first | exact HB.out | apply below_alloc | apply pw_below_drewN | apply below_drew1 | refine below_set ?_ GE101.out | refine below_set ?_ GE102.out | refine below_set ?_ GE118.out | refine below_set ?_ GE124.out | refine below_set ?_ GE134.out) | exact HB.out)) hb); clear HO_119002; clear HO_125002; clear HO_135002; clear BK101; clear BK102; clear BK118; clear BK124; clear BK134; clear HB; have HO_119002 := n0_; have HO_125002 := n1_; have HO_135002 := n2_; have BK101 := n3_; have BK102 := n4_; have BK118 := n5_; have BK124 := n6_; have BK134 := n7_; have HB := n8_; clear n0_ n1_ n2_ n3_ n4_ n5_ n6_ n7_ n8_; (try clear hb); (try clear hb2); (try clear hk); (try clear hi)))
  go_ret
  exact ⟨by first | rfl | (simp [errW_none, errW_some] <;> rfl) | (simp [*, errW_none, errW_some] <;> rfl), by repeat (first | (with_reducible first | exact HB.out | apply below_alloc | apply pw_below_drewN | apply below_drew1 | refine below_set ?_ GE101.out | refine below_set ?_ GE102.out | refine below_set ?_ GE118.out | refine below_set ?_ GE124.out | refine below_set ?_ GE134.out) | exact HB.out)⟩
 ·rw [if_neg c116] at H
  have c116b0 : decide (t147 < 0) = false := decide_eq_false c116
  clear c116
  by_cases c125 : t147 = t145
  ·rw [if_pos c125] at H
   have c125b0 : (t147 == t145) = true := beq_iff_eq.mpr c125
   have c125b1 : (t147 != t145) = false := bne_eq_false_iff_eq.mpr c125
   clear c125
   replace H := Option.bind_eq_some_iff.mp H
   obtain ⟨⟨t148, t149, t150⟩, A1260, H⟩ := H
   replace H : ((laws_toClue.f a1_0 a1_1 a1_2).bind fun bt153 => ((impl_AddClue.f t148 t149 t150 bt153.1 bt153.2.1 bt153.2.2).bind fun bt156 => ((laws_eqPuzzle.f kj78 bt156.1 bt156.2.1 bt156.2.2.1 t112 t113 t114).bind fun t163 => (if t163 = true then (laws_FnExactAddClue.j2 kj78 t145 (bt156.2.2.2 != t117) t128 t129 t146) else (laws_FnExactAddClue.j2 kj78 t145 true t128 t129 t146))))) = some r := H
   have A126 := Aside0.mk A1260
   clear A1260
   replace H := Option.bind_eq_some_iff.mp H
   obtain ⟨⟨t153, t154, t155⟩, A1270, H⟩ := H
   replace H : ((impl_AddClue.f t148 t149 t150 t153 t154 t155).bind fun bt156 => ((laws_eqPuzzle.f kj78 bt156.1 bt156.2.1 bt156.2.2.1 t112 t113 t114).bind fun t163 => (if t163 = true then (laws_FnExactAddClue.j2 kj78 t145 (bt156.2.2.2 != t117) t128 t129 t146) else (laws_FnExactAddClue.j2 kj78 t145 true t128 t129 t146)))) = some r := H
   have A127 := Aside0.mk A1270
   clear A1270
   replace H := Option.bind_eq_some_iff.mp H
   obtain ⟨⟨t156, t157, t158, t161⟩, A1280, H⟩ := H
   replace H : ((laws_eqPuzzle.f kj78 t156 t157 t158 t112 t113 t114).bind fun t163 => (if t163 = true then (laws_FnExactAddClue.j2 kj78 t145 (t161 != t117) t128 t129 t146) else (laws_FnExactAddClue.j2 kj78 t145 true t128 t129 t146))) = some r := H
   have A128 := Aside0.mk A1280
   clear A1280
   have HC129 := Aside0.mk H
   clear H
   have hnb130 := NB134_101.out
   have hnc130 := NB101_134.out
   have hnb131 := NB134_102.out
   have hnc131 := NB102_134.out
   have hnb132 := NB134_118.out
   have hnc132 := NB118_134.out
   have hnb133 := NB134_124.out
   have hnc133 := NB124_134.out
   have hcz134_0 : wc.cell? ⟨gb134, 0, none⟩ = some (.int .i64 t128) := (blk_cell BK134.out 0).trans rfl
   have hcz134_1 : wc.cell? ⟨gb134, 1, none⟩ = some (.int .i64 t129) := (blk_cell BK134.out 1).trans rfl
   have hcz134_2 : wc.cell? ⟨gb134, 2, none⟩ = some (.slice Ao50 t130.length co50) := (blk_cell BK134.out 2).trans rfl
   have hfz134_0 := blk_frozen BK134.out 0
   have hfz134_1 := blk_frozen BK134.out 1
   have hfz134_2 := blk_frozen BK134.out 2
   try go_wp2_with (first | ((with_reducible refine gate_callee (f := 12) rfl ?_); refine goesL_ (some 70) rfl rfl Try.func12 (by kernel_rfl) rfl #[.agg #[.int .i64 t128, .int .i64 t129, .slice Ao50 t130.length co50], .int .i64 1] rfl (by (try simp only [List.map_toArray, List.map_cons, List.map_nil]); first | done | rfl | (simp only [List.length_drop, List.length_take]; rfl)) ?_; (with_reducible refine (laws_markPuzzle.calls kj78 t128 t129 (fun k_ => some k_ = (.slice Ao50 t130.length co50 : Value).ownBlock) (.slice Ao50 t130.length co50) t130 1 t145 t146 w _ ?side1 ?side2 A114.out).mono ?_); (case side1 => repeat (first | (with_reducible first | exact HB.out | apply below_alloc | apply pw_below_drewN | apply below_drew1 | refine below_set ?_ GE101.out | refine below_set ?_ GE102.out | refine below_set ?_ GE118.out | refine below_set ?_ GE124.out | refine below_set ?_ GE134.out) | exact HB.out)); (case side2 => exact Kd.R_tight rfl HO_135002.out); rintro e w135 ⟨rfl, hy0, hb, hkp⟩; refine ⟨_, rfl, ?_⟩; have n0_ := Aside0.mk (Kd.R_mono (ok' := fun k_ => some k_ ≠ (.slice Ao41 t143.length co41 : Value).ownBlock ∧ some k_ ≠ (.slice Ao50 t130.length co50 : Value).ownBlock) (Kd.R_keptB (HO_119002.out) hkp (fun k_ hk_ hs_ => (hk_.2) hs_)) (fun k_ hk_ => ⟨hk_.1.1, hk_.1.2⟩)); have n1_ := Aside0.mk (Kd.R_mono (ok' := fun k_ => some k_ ≠ (.slice Ao31 t114.length co31 : Value).ownBlock ∧ some k_ ≠ (.slice Ao50 t130.length co50 : Value).ownBlock) (Kd.R_keptB (HO_125002.out) hkp (fun k_ hk_ hs_ => (hk_.2) hs_)) (fun k_ hk_ => ⟨hk_.1.1, hk_.1.2⟩)); have n2_ := Aside0.mk (Kd.R_reok rfl hy0 (fun k_ e_ => HO_135002.out.1 k_ e_)); have n3_ := Aside0.mk (blk_kept (by (with_reducible repeat (first | refine blk_drewN ?_ _ | refine blk_drew ?_ | refine blk_alloc ?_ _)); exact BK101.out) hkp (fun hs_ => (fun e_ => (Kd.R_ne HO_135002.out BK101.out (by decide)) e_) hs_)); have n4_ := Aside0.mk (blk_kept (by (with_reducible repeat (first | refine blk_drewN ?_ _ | refine blk_drew ?_ | refine blk_alloc ?_ _)); exact BK102.out) hkp (fun hs_ => (fun e_ => (Kd.R_ne HO_135002.out BK102.out (by decide)) e_) hs_)); have n5_ := Aside0.mk (blk_kept (by (with_reducible repeat (first | refine blk_drewN ?_ _ | refine blk_drew ?_ | refine blk_alloc ?_ _)); exact BK118.out) hkp (fun hs_ => (fun e_ => (Kd.R_ne HO_135002.out BK118.out (by decide)) e_) hs_)); have n6_ := Aside0.mk (blk_kept (by (with_reducible repeat (first | refine blk_drewN ?_ _ | refine blk_drew ?_ | refine blk_alloc ?_ _)); exact BK124.out) hkp (fun hs_ => (fun e_ => (Kd.R_ne HO_135002.out BK124.out (by decide)) e_) hs_)); have n7_ := Aside0.mk (blk_kept (by (with_reducible repeat (first | refine blk_drewN ?_ _ | refine blk_drew ?_ | refine blk_alloc ?_ _)); exact BK134.out) hkp (fun hs_ => (fun e_ => (Kd.R_ne HO_135002.out BK134.out (by decide)) e_) hs_)); have n8_ := Aside0.mk (hb); clear HO_119002; clear HO_125002; clear HO_135002; clear BK101; clear BK102; clear BK118; clear BK124; clear BK134; clear HB; have HO_119002 := n0_; have HO_125002 := n1_; have HO_135002 := n2_; have BK101 := n3_; have BK102 := n4_; have BK118 := n5_; have BK124 := n6_; have BK134 := n7_; have HB := n8_; clear n0_ n1_ n2_ n3_ n4_ n5_ n6_ n7_ n8_; (try clear hb); (try clear hkp); (try clear hy0); have hcz136_0 : w135.cell? ⟨gb134, 0, none⟩ = some (.int .i64 t128) := (blk_cell BK134.out 0).trans rfl; have hcz136_1 : w135.cell? ⟨gb134, 1, none⟩ = some (.int .i64 t129) := (blk_cell BK134.out 1).trans rfl; have hcz136_2 : w135.cell? ⟨gb134, 2, none⟩ = some (.slice Ao50 t130.length co50) := (blk_cell BK134.out 2).trans rfl; have hfz136_0 := blk_frozen BK134.out 0; have hfz136_1 := blk_frozen BK134.out 1; have hfz136_2 := blk_frozen BK134.out 2) | ((with_reducible refine gate_callee (f := 13) rfl ?_); refine goesL_ (some 73) rfl rfl Try.func13 (by kernel_rfl) rfl #[.agg #[.int .i64 t128, .int .i64 t129, .slice Ao50 t146.length co50], .int .i64 1] rfl (by (try simp only [List.map_toArray, List.map_cons, List.map_nil]); first | done | (rw [show t146.length = t130.length from (Kd.R_reads' HO_135002.out).1.symm] <;> rfl) | rfl | (simp only [List.length_drop, List.length_take]; rfl)) ?_; (with_reducible refine (laws_heldPuzzle.calls kj78 t128 t129 _ _ t146 1 t147 _ ?side1 ?side2 A115.out).mono ?_); (case side1 => repeat (first | exact (Kd.R_reads' HO_135002.out).2.2 | (with_reducible refine Kd.C_alloc ?_ _) | (with_reducible refine Kd.C_drewN ?_ _) | (with_reducible refine Kd.C_drew ?_))); (case side2 => rw [show t146.length = t130.length from (Kd.R_reads' HO_135002.out).1.symm]; exact (Kd.R_reads' HO_135002.out).2.1); rintro e w137 ⟨rfl, hb⟩; refine ⟨_, rfl, ?_⟩; have n0_ := Aside0.mk (Kd.R_below (by (with_reducible repeat (first | apply Kd.R_alloc | apply Kd.R_drewN | apply Kd.R_drew)); exact HO_119002.out) hb); have n1_ := Aside0.mk (Kd.R_below (by (with_reducible repeat (first | apply Kd.R_alloc | apply Kd.R_drewN | apply Kd.R_drew)); exact HO_125002.out) hb); have n2_ := Aside0.mk (Kd.R_below (by (with_reducible repeat (first | apply Kd.R_alloc | apply Kd.R_drewN | apply Kd.R_drew)); exact HO_135002.out) hb); have n3_ := Aside0.mk (blk_below (g := gb101) (o := .cells #[.int .i64 a0_0, .int .i64 a0_1, .slice A0_2 l0_2.length c0_2] 26 (0, 0)) (by (with_reducible repeat (first | refine blk_drewN ?_ _ | refine blk_drew ?_ | refine blk_alloc ?_ _)); exact BK101.out) hb); have n4_ := Aside0.mk (blk_below (g := gb102) (o := .cells #[.int .i64 a1_0, .int .i64 a1_1, .int .i64 a1_2] 28 (0, 0)) (by (with_reducible repeat (first | refine blk_drewN ?_ _ | refine blk_drew ?_ | refine blk_alloc ?_ _)); exact BK102.out) hb); have n5_ := Aside0.mk (blk_below (g := gb118) (o := .cells #[.int .i64 t112, .int .i64 t113, .slice Ao31 t114.length co31] 33 (0, 0)) (by (with_reducible repeat (first | refine blk_drewN ?_ _ | refine blk_drew ?_ | refine blk_alloc ?_ _)); exact BK118.out) hb); have n6_ := Aside0.mk (blk_below (g := gb124) (o := .cells #[.int .i64 t119, .int .i64 t120, .slice Ao41 t143.length co41] 33 (0, 0)) (by (with_reducible repeat (first | refine blk_drewN ?_ _ | refine blk_drew ?_ | refine blk_alloc ?_ _)); exact BK124.out) hb); have n7_ := Aside0.mk (blk_below (g := gb134) (o := .cells #[.int .i64 t128, .int .i64 t129, .slice Ao50 t130.length co50] 33 (0, 0)) (by (with_reducible repeat (first | refine blk_drewN ?_ _ | refine blk_drew ?_ | refine blk_alloc ?_ _)); exact BK134.out) hb); have n8_ := Aside0.mk (below_step (by repeat (first | (with_reducible first | exact HB.out | apply below_alloc | apply pw_below_drewN | apply below_drew1 | refine below_set ?_ GE101.out | refine below_set ?_ GE102.out | refine below_set ?_ GE118.out | refine below_set ?_ GE124.out | refine below_set ?_ GE134.out) | exact HB.out)) hb); clear HO_119002; clear HO_125002; clear HO_135002; clear BK101; clear BK102; clear BK118; clear BK124; clear BK134; clear HB; have HO_119002 := n0_; have HO_125002 := n1_; have HO_135002 := n2_; have BK101 := n3_; have BK102 := n4_; have BK118 := n5_; have BK124 := n6_; have BK134 := n7_; have HB := n8_; clear n0_ n1_ n2_ n3_ n4_ n5_ n6_ n7_ n8_; (try clear hb); (try clear hb2); (try clear hk); (try clear hi)))
   have n0_ := Aside0.mk (Kd.R_drew HO_119002.out)
   have n1_ := Aside0.mk (Kd.R_drew HO_125002.out)
   have n2_ := Aside0.mk (Kd.R_drew HO_135002.out)
   have n3_ := Aside0.mk (blk_drew BK101.out)
   have n4_ := Aside0.mk (blk_drew BK102.out)
   have n5_ := Aside0.mk (blk_drew BK118.out)
   have n6_ := Aside0.mk (blk_drew BK124.out)
   have n7_ := Aside0.mk (blk_drew BK134.out)
   have n8_ := Aside0.mk (below_drew1 HB.out)
   clear HO_119002
   clear HO_125002
   clear HO_135002
   clear BK101
   clear BK102
   clear BK118
   clear BK124
   clear BK134
   clear HB
   have HO_119002 := n0_
   have HO_125002 := n1_
   have HO_135002 := n2_
   have BK101 := n3_
   have BK102 := n4_
   have BK118 := n5_
   have BK124 := n6_
   have BK134 := n7_
   have HB := n8_
   clear n0_ n1_ n2_ n3_ n4_ n5_ n6_ n7_ n8_
   refine start_ (n := 11) (S := fun w' => w'.cell? ⟨gb101, 0, none⟩ = some (.int .i64 a0_0) ∧ w'.cell? ⟨gb101, 1, none⟩ = some (.int .i64 a0_1) ∧ w'.cell? ⟨gb101, 2, none⟩ = some (.slice A0_2 l0_2.length c0_2) ∧ w'.cell? ⟨gb102, 0, none⟩ = some (.int .i64 a1_0) ∧ w'.cell? ⟨gb102, 1, none⟩ = some (.int .i64 a1_1) ∧ w'.cell? ⟨gb102, 2, none⟩ = some (.int .i64 a1_2)) (ds := []) #[false, false, false, false, false, false, false, false, false, false, false] (by kernel_rfl) rfl rfl ⟨(blk_cell BK101.out 0).trans rfl, (blk_cell BK101.out 1).trans rfl, (blk_cell BK101.out 2).trans rfl, (blk_cell BK102.out 0).trans rfl, (blk_cell BK102.out 1).trans rfl, (blk_cell BK102.out 2).trans rfl⟩ (fun hHeld => ?_); refine with_tabW laws_FnExactAddClue.tab24 laws_FnExactAddClue.bits24 (fun HT_ HW_ => ?_)
   generalize w137.drew = w138 at HO_119002 HO_125002 HO_135002 BK101 BK102 BK118 BK124 BK134 HB hHeld ⊢
   refine take_ (i := 0) (N := some 80) (v := ?_) (a' := ?_) #[true, false, false, false, false, false, false, false, false, false, false] rfl rfl (take_ofW HT_.out HW_.out (by kernel_rfl)) (fun _ _ _ h => h) (Or.inl ⟨by rfl, ?_⟩) hHeld ?_ ?_
   rotate_left
   ·rintro w' ⟨s0, s1, s2, s3, s4, s5⟩
    go_simp
    with_reducible rfl
   rotate_left
   ·simp only [Act.put, List.setIfInBounds_toArray, List.set_cons_zero, List.set_cons_succ, i64_w, i32_w]
    rfl
   refine take_ (i := 2) (N := some 82) (v := ?_) (a' := ?_) #[true, false, true, false, false, false, false, false, false, false, false] rfl rfl (take_ofW HT_.out HW_.out (by kernel_rfl)) (fun _ _ _ h => h) (Or.inl ⟨by rfl, ?_⟩) hHeld ?_ ?_
   rotate_left
   ·rintro w' ⟨s0, s1, s2, s3, s4, s5⟩
    go_simp
    with_reducible rfl
   rotate_left
   ·simp only [Act.put, List.setIfInBounds_toArray, List.set_cons_zero, List.set_cons_succ, i64_w, i32_w]
    rfl
   refine join_ (σ := Value × Value × Nat) 2 #[true, true, true, true, true, true, true, true, true, false, false] (fun s_ => [(81, .agg #[.int .i64 t148, .int .i64 t149, s_.1]), (83, .agg #[.int .i64 t153, .int .i64 t154, .int .i64 t155]), (84, .tuple #[.agg #[.int .i64 t156, .int .i64 t157, s_.2.1], .bool t161]), (14, .pointer (some ⟨s_.2.2, 0, none⟩)), (79, .tuple #[.agg #[.int .i64 t156, .int .i64 t157, s_.2.1], .bool t161]), (85, .agg #[.int .i64 t156, .int .i64 t157, s_.2.1]), (86, .bool t161)]) (fun s_ w' => (w'.cell? ⟨gb101, 0, none⟩ = some (.int .i64 a0_0) ∧ w'.cell? ⟨gb101, 1, none⟩ = some (.int .i64 a0_1) ∧ w'.cell? ⟨gb101, 2, none⟩ = some (.slice A0_2 l0_2.length c0_2) ∧ w'.cell? ⟨gb102, 0, none⟩ = some (.int .i64 a1_0) ∧ w'.cell? ⟨gb102, 1, none⟩ = some (.int .i64 a1_1) ∧ w'.cell? ⟨gb102, 2, none⟩ = some (.int .i64 a1_2)) ∧ (Kd.R k37 37 w' w.heap.size (fun k_ => some k_ ≠ (s_.2.1 : Value).ownBlock ∧ some k_ ≠ (.slice Ao31 t114.length co31 : Value).ownBlock ∧ some k_ ≠ (.slice Ao41 t143.length co41 : Value).ownBlock ∧ some k_ ≠ (.slice Ao50 t130.length co50 : Value).ownBlock) s_.1 t150) ∧ (Kd.R k37 37 w' w.heap.size (fun k_ => some k_ ≠ (s_.1 : Value).ownBlock ∧ some k_ ≠ (.slice Ao31 t114.length co31 : Value).ownBlock ∧ some k_ ≠ (.slice Ao41 t143.length co41 : Value).ownBlock ∧ some k_ ≠ (.slice Ao50 t130.length co50 : Value).ownBlock) s_.2.1 t158) ∧ (Kd.R k37 37 w' w.heap.size (fun k_ => some k_ ≠ (s_.1 : Value).ownBlock ∧ some k_ ≠ (s_.2.1 : Value).ownBlock ∧ some k_ ≠ (.slice Ao41 t143.length co41 : Value).ownBlock ∧ some k_ ≠ (.slice Ao50 t130.length co50 : Value).ownBlock) (.slice Ao31 t114.length co31) t114) ∧ (Kd.R k37 37 w' w.heap.size (fun k_ => some k_ ≠ (s_.1 : Value).ownBlock ∧ some k_ ≠ (s_.2.1 : Value).ownBlock ∧ some k_ ≠ (.slice Ao31 t114.length co31 : Value).ownBlock ∧ some k_ ≠ (.slice Ao50 t130.length co50 : Value).ownBlock) (.slice Ao41 t143.length co41) t143) ∧ (Kd.R k37 37 w' w.heap.size (fun k_ => some k_ ≠ (s_.1 : Value).ownBlock ∧ some k_ ≠ (s_.2.1 : Value).ownBlock ∧ some k_ ≠ (.slice Ao31 t114.length co31 : Value).ownBlock ∧ some k_ ≠ (.slice Ao41 t143.length co41 : Value).ownBlock) (.slice Ao50 t130.length co50) t146) ∧ (w'.heap[gb101]? = some (.cells #[.int .i64 a0_0, .int .i64 a0_1, .slice A0_2 l0_2.length c0_2] 26 (0, 0))) ∧ (w'.heap[gb102]? = some (.cells #[.int .i64 a1_0, .int .i64 a1_1, .int .i64 a1_2] 28 (0, 0))) ∧ (w'.heap[gb118]? = some (.cells #[.int .i64 t112, .int .i64 t113, .slice Ao31 t114.length co31] 33 (0, 0))) ∧ (w'.heap[gb124]? = some (.cells #[.int .i64 t119, .int .i64 t120, .slice Ao41 t143.length co41] 33 (0, 0))) ∧ (w'.heap[gb134]? = some (.cells #[.int .i64 t128, .int .i64 t129, .slice Ao50 t130.length co50] 33 (0, 0))) ∧ (w'.heap[s_.2.2]? = some (.cells #[.int .i64 0, .int .i64 0, .slice none 0 0] 33 (0, 0))) ∧ (w.heap.size ≤ s_.2.2) ∧ (w.heap.size ≤ s_.2.2) ∧ (gb101 ≠ s_.2.2) ∧ (s_.2.2 ≠ gb101) ∧ (gb102 ≠ s_.2.2) ∧ (s_.2.2 ≠ gb102) ∧ (gb118 ≠ s_.2.2) ∧ (s_.2.2 ≠ gb118) ∧ (gb124 ≠ s_.2.2) ∧ (s_.2.2 ≠ gb124) ∧ (gb134 ≠ s_.2.2) ∧ (s_.2.2 ≠ gb134) ∧ (Below w.heap.size w w')) ?_ ?_
   rotate_left
   ·intro hCont
    refine two_ (i := 1) (j := 8) (Ni := some 81) (Nj := some 14) #[true, true, true, false, false, false, false, false, false, false, false] #[true, false, true, false, false, false, false, false, true, false, false] rfl rfl rfl rfl (two_of HT_.out (by kernel_rfl)) (by decide) (by decide) (fun K hK => ?_) (fun K hK => ?_)
    ·skip
     refine goes_ Try.func8 (by kernel_rfl) rfl #[.agg #[.int .i64 a0_0, .int .i64 a0_1, .slice A0_2 l0_2.length c0_2]] (by rfl) rfl rfl (by (try simp only [List.map_toArray, List.map_cons, List.map_nil]); first | done | rfl | (simp only [List.length_drop, List.length_take]; rfl)) ?_
     with_reducible refine (laws_toPuzzle.calls kj78 a0_0 a0_1 _ _ l0_2 t148 t149 t150 _ ?side1 ?side2 A126.out).mono ?_
     (case side1 => repeat (first | exact (Kd.C_below HR0_2.out HB.out) | (with_reducible refine Kd.C_alloc ?_ _) | (with_reducible refine Kd.C_drewN ?_ _) | (with_reducible refine Kd.C_drew ?_)))
     (case side2 => exact HC0_2.out)
     rintro e w139 ⟨v151, rfl, ho0, hb⟩
     refine ⟨_, rfl, ?_⟩
     have n0_ := Aside0.mk (Kd.R_elder' (by (with_reducible repeat (first | apply Kd.R_alloc | apply Kd.R_drewN | apply Kd.R_drew)); exact HO_119002.out) (Kd.R_base ho0) hb)
     have n1_ := Aside0.mk (Kd.R_elder' (by (with_reducible repeat (first | apply Kd.R_alloc | apply Kd.R_drewN | apply Kd.R_drew)); exact HO_125002.out) (Kd.R_base ho0) hb)
     have n2_ := Aside0.mk (Kd.R_elder' (by (with_reducible repeat (first | apply Kd.R_alloc | apply Kd.R_drewN | apply Kd.R_drew)); exact HO_135002.out) (Kd.R_base ho0) hb)
     have n3_ := Aside0.mk (Kd.R_lower (Kd.R_new' (Kd.R_new' (Kd.R_new' ho0 (Kd.R_lt (by (with_reducible repeat (first | apply Kd.R_alloc | apply Kd.R_drewN | apply Kd.R_drew)); exact HO_119002.out))) (Kd.R_lt (by (with_reducible repeat (first | apply Kd.R_alloc | apply Kd.R_drewN | apply Kd.R_drew)); exact HO_125002.out))) (Kd.R_lt (by (with_reducible repeat (first | apply Kd.R_alloc | apply Kd.R_drewN | apply Kd.R_drew)); exact HO_135002.out))) (below_size (by repeat (first | (with_reducible first | exact HB.out | apply below_alloc | apply pw_below_drewN | apply below_drew1 | refine below_set ?_ GE101.out | refine below_set ?_ GE102.out | refine below_set ?_ GE118.out | refine below_set ?_ GE124.out | refine below_set ?_ GE134.out) | exact HB.out))))
     have n4_ := Aside0.mk (blk_below (g := gb101) (o := .cells #[.int .i64 a0_0, .int .i64 a0_1, .slice A0_2 l0_2.length c0_2] 26 (0, 0)) (by (with_reducible repeat (first | refine blk_drewN ?_ _ | refine blk_drew ?_ | refine blk_alloc ?_ _)); exact BK101.out) hb)
     have n5_ := Aside0.mk (blk_below (g := gb102) (o := .cells #[.int .i64 a1_0, .int .i64 a1_1, .int .i64 a1_2] 28 (0, 0)) (by (with_reducible repeat (first | refine blk_drewN ?_ _ | refine blk_drew ?_ | refine blk_alloc ?_ _)); exact BK102.out) hb)
     have n6_ := Aside0.mk (blk_below (g := gb118) (o := .cells #[.int .i64 t112, .int .i64 t113, .slice Ao31 t114.length co31] 33 (0, 0)) (by (with_reducible repeat (first | refine blk_drewN ?_ _ | refine blk_drew ?_ | refine blk_alloc ?_ _)); exact BK118.out) hb)
     have n7_ := Aside0.mk (blk_below (g := gb124) (o := .cells #[.int .i64 t119, .int .i64 t120, .slice Ao41 t143.length co41] 33 (0, 0)) (by (with_reducible repeat (first | refine blk_drewN ?_ _ | refine blk_drew ?_ | refine blk_alloc ?_ _)); exact BK124.out) hb)
     have n8_ := Aside0.mk (blk_below (g := gb134) (o := .cells #[.int .i64 t128, .int .i64 t129, .slice Ao50 t130.length co50] 33 (0, 0)) (by (with_reducible repeat (first | refine blk_drewN ?_ _ | refine blk_drew ?_ | refine blk_alloc ?_ _)); exact BK134.out) hb)
     have n9_ := Aside0.mk (below_step (by repeat (first | (with_reducible first | exact HB.out | apply below_alloc | apply pw_below_drewN | apply below_drew1 | refine below_set ?_ GE101.out | refine below_set ?_ GE102.out | refine below_set ?_ GE118.out | refine below_set ?_ GE124.out | refine below_set ?_ GE134.out) | exact HB.out)) hb)
     clear HO_119002
     clear HO_125002
     clear HO_135002
     clear BK101
     clear BK102
     clear BK118
     clear BK124
     clear BK134
     clear HB
     have HO_119002 := n0_
     have HO_125002 := n1_
     have HO_135002 := n2_
     have HO152 := n3_
     have BK101 := n4_
     have BK102 := n5_
     have BK118 := n6_
     have BK124 := n7_
     have BK134 := n8_
     have HB := n9_
     clear n0_ n1_ n2_ n3_ n4_ n5_ n6_ n7_ n8_ n9_
     (try clear hb)
     (try clear hb2)
     (try clear hk)
     (try clear hi)
     (try clear ho0)
     refine hK.out _ _ ⟨(blk_cell BK101.out 0).trans rfl, (blk_cell BK101.out 1).trans rfl, (blk_cell BK101.out 2).trans rfl, (blk_cell BK102.out 0).trans rfl, (blk_cell BK102.out 1).trans rfl, (blk_cell BK102.out 2).trans rfl⟩ (fun hHeld => ?_)
     clear hK K
     refine norm_ (a' := ?_) ?_ ?_
     rotate_left
     ·show Act.put _ (some 81) _ = _
      simp only [Act.put, List.setIfInBounds_toArray, List.set_cons_zero, List.set_cons_succ, i64_w, i32_w]
      rfl
     refine two_ (i := 3) (j := 8) (Ni := some 83) (Nj := some 14) #[true, true, true, true, false, false, false, false, false, false, false] #[true, true, true, false, false, false, false, false, true, false, false] rfl rfl rfl rfl (two_of HT_.out (by kernel_rfl)) (by decide) (by decide) (fun K hK => ?_) (fun K hK => ?_)
     ·skip
      refine goes_ Try.func9 (by kernel_rfl) rfl #[.agg #[.int .i64 a1_0, .int .i64 a1_1, .int .i64 a1_2]] (by rfl) rfl rfl (by (try simp only [List.map_toArray, List.map_cons, List.map_nil]); first | done | rfl | (simp only [List.length_drop, List.length_take]; rfl)) ?_
      with_reducible refine (laws_toClue.calls a1_0 a1_1 a1_2 t153 t154 t155 _ A127.out).mono ?_
      rintro e w140 ⟨rfl, hb⟩
      refine ⟨_, rfl, ?_⟩
      have n0_ := Aside0.mk (Kd.R_below (by (with_reducible repeat (first | apply Kd.R_alloc | apply Kd.R_drewN | apply Kd.R_drew)); exact HO_119002.out) hb)
      have n1_ := Aside0.mk (Kd.R_below (by (with_reducible repeat (first | apply Kd.R_alloc | apply Kd.R_drewN | apply Kd.R_drew)); exact HO_125002.out) hb)
      have n2_ := Aside0.mk (Kd.R_below (by (with_reducible repeat (first | apply Kd.R_alloc | apply Kd.R_drewN | apply Kd.R_drew)); exact HO_135002.out) hb)
      have n3_ := Aside0.mk (Kd.R_below (by (with_reducible repeat (first | apply Kd.R_alloc | apply Kd.R_drewN | apply Kd.R_drew)); exact HO152.out) hb)
      have n4_ := Aside0.mk (blk_below (g := gb101) (o := .cells #[.int .i64 a0_0, .int .i64 a0_1, .slice A0_2 l0_2.length c0_2] 26 (0, 0)) (by (with_reducible repeat (first | refine blk_drewN ?_ _ | refine blk_drew ?_ | refine blk_alloc ?_ _)); exact BK101.out) hb)
      have n5_ := Aside0.mk (blk_below (g := gb102) (o := .cells #[.int .i64 a1_0, .int .i64 a1_1, .int .i64 a1_2] 28 (0, 0)) (by (with_reducible repeat (first | refine blk_drewN ?_ _ | refine blk_drew ?_ | refine blk_alloc ?_ _)); exact BK102.out) hb)
      have n6_ := Aside0.mk (blk_below (g := gb118) (o := .cells #[.int .i64 t112, .int .i64 t113, .slice Ao31 t114.length co31] 33 (0, 0)) (by (with_reducible repeat (first | refine blk_drewN ?_ _ | refine blk_drew ?_ | refine blk_alloc ?_ _)); exact BK118.out) hb)
      have n7_ := Aside0.mk (blk_below (g := gb124) (o := .cells #[.int .i64 t119, .int .i64 t120, .slice Ao41 t143.length co41] 33 (0, 0)) (by (with_reducible repeat (first | refine blk_drewN ?_ _ | refine blk_drew ?_ | refine blk_alloc ?_ _)); exact BK124.out) hb)
      have n8_ := Aside0.mk (blk_below (g := gb134) (o := .cells #[.int .i64 t128, .int .i64 t129, .slice Ao50 t130.length co50] 33 (0, 0)) (by (with_reducible repeat (first | refine blk_drewN ?_ _ | refine blk_drew ?_ | refine blk_alloc ?_ _)); exact BK134.out) hb)
      have n9_ := Aside0.mk (below_step (by repeat (first | (with_reducible first | exact HB.out | apply below_alloc | apply pw_below_drewN | apply below_drew1 | refine below_set ?_ GE101.out | refine below_set ?_ GE102.out | refine below_set ?_ GE118.out | refine below_set ?_ GE124.out | refine below_set ?_ GE134.out) | exact HB.out)) hb)
      clear HO_119002
      clear HO_125002
      clear HO_135002
      clear HO152
      clear BK101
      clear BK102
      clear BK118
      clear BK124
      clear BK134
      clear HB
      have HO_119002 := n0_
      have HO_125002 := n1_
      have HO_135002 := n2_
      have HO152 := n3_
      have BK101 := n4_
      have BK102 := n5_
      have BK118 := n6_
      have BK124 := n7_
      have BK134 := n8_
      have HB := n9_
      clear n0_ n1_ n2_ n3_ n4_ n5_ n6_ n7_ n8_ n9_
      (try clear hb)
      (try clear hb2)
      (try clear hk)
      (try clear hi)
      obtain ⟨Ao141, co141, eo141⟩ := Kd.R_slice HO152.out
      (first | subst eo141 | (injection eo141 with f1_ f2_ f3_; have f4_ := f1_.symm; have f5_ := f3_.symm; clear f1_ f2_ f3_; subst f4_; subst f5_))
      refine hK.out _ _ ⟨(blk_cell BK101.out 0).trans rfl, (blk_cell BK101.out 1).trans rfl, (blk_cell BK101.out 2).trans rfl, (blk_cell BK102.out 0).trans rfl, (blk_cell BK102.out 1).trans rfl, (blk_cell BK102.out 2).trans rfl⟩ (fun hHeld => ?_)
      clear hK K
      refine norm_ (a' := ?_) ?_ ?_
      rotate_left
      ·show Act.put _ (some 83) _ = _
       simp only [Act.put, List.setIfInBounds_toArray, List.set_cons_zero, List.set_cons_succ, i64_w, i32_w]
       rfl
      refine two_ (i := 4) (j := 8) (Ni := some 84) (Nj := some 14) #[true, true, true, true, true, false, false, false, false, false, false] #[true, true, true, true, false, false, false, false, true, false, false] rfl rfl rfl rfl (two_of HT_.out (by kernel_rfl)) (by decide) (by decide) (fun K hK => ?_) (fun K hK => ?_)
      ·skip
       refine goes_ Try.func10 (by kernel_rfl) rfl #[.agg #[.int .i64 t148, .int .i64 t149, .slice Ao141 t150.length co141], .agg #[.int .i64 t153, .int .i64 t154, .int .i64 t155]] (by rfl) rfl rfl (by (try simp only [List.map_toArray, List.map_cons, List.map_nil]); first | done | rfl | (simp only [List.length_drop, List.length_take]; rfl)) ?_
       with_reducible refine (impl_AddClue.calls t148 t149 _ _ t150 t153 t154 t155 t156 t157 t158 t161 _ ?side1 ?side2 A128.out).mono ?_
       (case side1 => repeat (first | exact (Kd.R_reads' HO152.out).2.2 | (with_reducible refine Kd.C_alloc ?_ _) | (with_reducible refine Kd.C_drewN ?_ _) | (with_reducible refine Kd.C_drew ?_)))
       (case side2 => exact (Kd.R_reads' HO152.out).2.1)
       rintro e w142 ⟨v159, rfl, ho0, hb⟩
       refine ⟨_, rfl, ?_⟩
       have n0_ := Aside0.mk (Kd.R_elder' (by (with_reducible repeat (first | apply Kd.R_alloc | apply Kd.R_drewN | apply Kd.R_drew)); exact HO_119002.out) (Kd.R_base ho0) hb)
       have n1_ := Aside0.mk (Kd.R_elder' (by (with_reducible repeat (first | apply Kd.R_alloc | apply Kd.R_drewN | apply Kd.R_drew)); exact HO_125002.out) (Kd.R_base ho0) hb)
       have n2_ := Aside0.mk (Kd.R_elder' (by (with_reducible repeat (first | apply Kd.R_alloc | apply Kd.R_drewN | apply Kd.R_drew)); exact HO_135002.out) (Kd.R_base ho0) hb)
       have n3_ := Aside0.mk (Kd.R_elder' (by (with_reducible repeat (first | apply Kd.R_alloc | apply Kd.R_drewN | apply Kd.R_drew)); exact HO152.out) (Kd.R_base ho0) hb)
       have n4_ := Aside0.mk (Kd.R_lower (Kd.R_new' (Kd.R_new' (Kd.R_new' (Kd.R_new' ho0 (Kd.R_lt (by (with_reducible repeat (first | apply Kd.R_alloc | apply Kd.R_drewN | apply Kd.R_drew)); exact HO_119002.out))) (Kd.R_lt (by (with_reducible repeat (first | apply Kd.R_alloc | apply Kd.R_drewN | apply Kd.R_drew)); exact HO_125002.out))) (Kd.R_lt (by (with_reducible repeat (first | apply Kd.R_alloc | apply Kd.R_drewN | apply Kd.R_drew)); exact HO_135002.out))) (Kd.R_lt (by (with_reducible repeat (first | apply Kd.R_alloc | apply Kd.R_drewN | apply Kd.R_drew)); exact HO152.out))) (below_size (by repeat (first | (with_reducible first | exact HB.out | apply below_alloc | apply pw_below_drewN | apply below_drew1 | refine below_set ?_ GE101.out | refine below_set ?_ GE102.out | refine below_set ?_ GE118.out | refine below_set ?_ GE124.out | refine below_set ?_ GE134.out) | exact HB.out))))
       have n5_ := Aside0.mk (blk_below (g := gb101) (o := .cells #[.int .i64 a0_0, .int .i64 a0_1, .slice A0_2 l0_2.length c0_2] 26 (0, 0)) (by (with_reducible repeat (first | refine blk_drewN ?_ _ | refine blk_drew ?_ | refine blk_alloc ?_ _)); exact BK101.out) hb)
       have n6_ := Aside0.mk (blk_below (g := gb102) (o := .cells #[.int .i64 a1_0, .int .i64 a1_1, .int .i64 a1_2] 28 (0, 0)) (by (with_reducible repeat (first | refine blk_drewN ?_ _ | refine blk_drew ?_ | refine blk_alloc ?_ _)); exact BK102.out) hb)
       have n7_ := Aside0.mk (blk_below (g := gb118) (o := .cells #[.int .i64 t112, .int .i64 t113, .slice Ao31 t114.length co31] 33 (0, 0)) (by (with_reducible repeat (first | refine blk_drewN ?_ _ | refine blk_drew ?_ | refine blk_alloc ?_ _)); exact BK118.out) hb)
       have n8_ := Aside0.mk (blk_below (g := gb124) (o := .cells #[.int .i64 t119, .int .i64 t120, .slice Ao41 t143.length co41] 33 (0, 0)) (by (with_reducible repeat (first | refine blk_drewN ?_ _ | refine blk_drew ?_ | refine blk_alloc ?_ _)); exact BK124.out) hb)
       have n9_ := Aside0.mk (blk_below (g := gb134) (o := .cells #[.int .i64 t128, .int .i64 t129, .slice Ao50 t130.length co50] 33 (0, 0)) (by (with_reducible repeat (first | refine blk_drewN ?_ _ | refine blk_drew ?_ | refine blk_alloc ?_ _)); exact BK134.out) hb)
       have n10_ := Aside0.mk (below_step (by repeat (first | (with_reducible first | exact HB.out | apply below_alloc | apply pw_below_drewN | apply below_drew1 | refine below_set ?_ GE101.out | refine below_set ?_ GE102.out | refine below_set ?_ GE118.out | refine below_set ?_ GE124.out | refine below_set ?_ GE134.out) | exact HB.out)) hb)
       clear HO_119002
       clear HO_125002
       clear HO_135002
       clear HO152
       clear BK101
       clear BK102
       clear BK118
       clear BK124
       clear BK134
       clear HB
       have HO_119002 := n0_
       have HO_125002 := n1_
       have HO_135002 := n2_
       have HO152 := n3_
       have HO160 := n4_
       have BK101 := n5_
       have BK102 := n6_
       have BK118 := n7_
       have BK124 := n8_
       have BK134 := n9_
       have HB := n10_
       clear n0_ n1_ n2_ n3_ n4_ n5_ n6_ n7_ n8_ n9_ n10_
       (try clear hb)
       (try clear hb2)
       (try clear hk)
       (try clear hi)
       (try clear ho0)
       refine hK.out _ _ ⟨(blk_cell BK101.out 0).trans rfl, (blk_cell BK101.out 1).trans rfl, (blk_cell BK101.out 2).trans rfl, (blk_cell BK102.out 0).trans rfl, (blk_cell BK102.out 1).trans rfl, (blk_cell BK102.out 2).trans rfl⟩ (fun hHeld => ?_)
       clear hK K
       refine norm_ (a' := ?_) ?_ ?_
       rotate_left
       ·show Act.put _ (some 84) _ = _
        simp only [Act.put, List.setIfInBounds_toArray, List.set_cons_zero, List.set_cons_succ, i64_w, i32_w]
        rfl
       refine pure_ (i := 5) (N := some 79) (v := ?_) (a' := ?_) #[true, true, true, true, true, true, false, false, false, false, false] rfl rfl (any_of HT_.out (by kernel_rfl)) (fun _ _ _ h => h) (Or.inl ⟨by rfl, ?_⟩) ?_ ?_
       rotate_left
       ·intro w'
        go_simp
        with_reducible rfl
       rotate_left
       ·simp only [Act.put, List.setIfInBounds_toArray, List.set_cons_zero, List.set_cons_succ, i64_w, i32_w]
        rfl
       refine pure_ (i := 6) (N := some 85) (v := ?_) (a' := ?_) #[true, true, true, true, true, true, true, false, false, false, false] rfl rfl (any_of HT_.out (by kernel_rfl)) (fun _ _ _ h => h) (Or.inl ⟨by rfl, ?_⟩) ?_ ?_
       rotate_left
       ·intro w'
        go_simp
        with_reducible rfl
       rotate_left
       ·simp only [Act.put, List.setIfInBounds_toArray, List.set_cons_zero, List.set_cons_succ, i64_w, i32_w]
        rfl
       refine pure_ (i := 7) (N := some 86) (v := ?_) (a' := ?_) #[true, true, true, true, true, true, true, true, false, false, false] rfl rfl (any_of HT_.out (by kernel_rfl)) (fun _ _ _ h => h) (Or.inl ⟨by rfl, ?_⟩) ?_ ?_
       rotate_left
       ·intro w'
        go_simp
        with_reducible rfl
       rotate_left
       ·simp only [Act.put, List.setIfInBounds_toArray, List.set_cons_zero, List.set_cons_succ, i64_w, i32_w]
        rfl
       refine one_ (i := 8) (N := some 14) #[true, true, true, true, true, true, true, true, true, false, false] rfl rfl (one_of HT_.out (by kernel_rfl)) (by decide) (fun K hK => ?_)
       refine box_step ?hg (N := 14) ?hd (cs := #[.int .i64 0, .int .i64 0, .slice none 0 0]) (t := 33) ?hr ?_; (case hd => rfl); (case hg => rfl); (case hr => first | (go_simp; done) | (go_simp; rfl))
       intro gb162 hg w143 hbox hb
       have n0_ := Aside0.mk (Kd.R_below (by (with_reducible repeat (first | apply Kd.R_alloc | apply Kd.R_drewN | apply Kd.R_drew)); exact HO_119002.out) hb)
       have n1_ := Aside0.mk (Kd.R_below (by (with_reducible repeat (first | apply Kd.R_alloc | apply Kd.R_drewN | apply Kd.R_drew)); exact HO_125002.out) hb)
       have n2_ := Aside0.mk (Kd.R_below (by (with_reducible repeat (first | apply Kd.R_alloc | apply Kd.R_drewN | apply Kd.R_drew)); exact HO_135002.out) hb)
       have n3_ := Aside0.mk (Kd.R_below (by (with_reducible repeat (first | apply Kd.R_alloc | apply Kd.R_drewN | apply Kd.R_drew)); exact HO152.out) hb)
       have n4_ := Aside0.mk (Kd.R_below (by (with_reducible repeat (first | apply Kd.R_alloc | apply Kd.R_drewN | apply Kd.R_drew)); exact HO160.out) hb)
       have n5_ := Aside0.mk (blk_below (g := gb101) (o := .cells #[.int .i64 a0_0, .int .i64 a0_1, .slice A0_2 l0_2.length c0_2] 26 (0, 0)) (by (with_reducible repeat (first | refine blk_drewN ?_ _ | refine blk_drew ?_ | refine blk_alloc ?_ _)); exact BK101.out) hb)
       have n6_ := Aside0.mk (blk_below (g := gb102) (o := .cells #[.int .i64 a1_0, .int .i64 a1_1, .int .i64 a1_2] 28 (0, 0)) (by (with_reducible repeat (first | refine blk_drewN ?_ _ | refine blk_drew ?_ | refine blk_alloc ?_ _)); exact BK102.out) hb)
       have n7_ := Aside0.mk (blk_below (g := gb118) (o := .cells #[.int .i64 t112, .int .i64 t113, .slice Ao31 t114.length co31] 33 (0, 0)) (by (with_reducible repeat (first | refine blk_drewN ?_ _ | refine blk_drew ?_ | refine blk_alloc ?_ _)); exact BK118.out) hb)
       have n8_ := Aside0.mk (blk_below (g := gb124) (o := .cells #[.int .i64 t119, .int .i64 t120, .slice Ao41 t143.length co41] 33 (0, 0)) (by (with_reducible repeat (first | refine blk_drewN ?_ _ | refine blk_drew ?_ | refine blk_alloc ?_ _)); exact BK124.out) hb)
       have n9_ := Aside0.mk (blk_below (g := gb134) (o := .cells #[.int .i64 t128, .int .i64 t129, .slice Ao50 t130.length co50] 33 (0, 0)) (by (with_reducible repeat (first | refine blk_drewN ?_ _ | refine blk_drew ?_ | refine blk_alloc ?_ _)); exact BK134.out) hb)
       have n10_ := Aside0.mk (below_step (by repeat (first | (with_reducible first | exact HB.out | apply below_alloc | apply pw_below_drewN | apply below_drew1 | refine below_set ?_ GE101.out | refine below_set ?_ GE102.out | refine below_set ?_ GE118.out | refine below_set ?_ GE124.out | refine below_set ?_ GE134.out) | exact HB.out)) hb)
       have n11_ := Aside0.mk (hbox)
       have n12_ := Aside0.mk ((by rw [hg]; exact (below_size (by repeat (first | (with_reducible first | exact HB.out | apply below_alloc | apply pw_below_drewN | apply below_drew1 | refine below_set ?_ GE101.out | refine below_set ?_ GE102.out | refine below_set ?_ GE118.out | refine below_set ?_ GE124.out | refine below_set ?_ GE134.out) | exact HB.out))) : w.heap.size ≤ gb162))
       have n13_ := Aside0.mk ((by rw [hg]; exact (below_size (by repeat (first | (with_reducible first | exact HB.out | apply below_alloc | apply pw_below_drewN | apply below_drew1 | refine below_set ?_ GE101.out | refine below_set ?_ GE102.out | refine below_set ?_ GE118.out | refine below_set ?_ GE124.out | refine below_set ?_ GE134.out) | exact HB.out))) : w.heap.size ≤ gb162))
       have n14_ := Aside0.mk ((by rw [hg]; exact Nat.ne_of_lt (blk_lt (g := gb101) (o := .cells #[.int .i64 a0_0, .int .i64 a0_1, .slice A0_2 l0_2.length c0_2] 26 (0, 0)) (by (with_reducible repeat (first | refine blk_drewN ?_ _ | refine blk_drew ?_ | refine blk_alloc ?_ _)); exact BK101.out)) : gb101 ≠ gb162))
       have n15_ := Aside0.mk ((by rw [hg]; exact Nat.ne_of_gt (blk_lt (g := gb101) (o := .cells #[.int .i64 a0_0, .int .i64 a0_1, .slice A0_2 l0_2.length c0_2] 26 (0, 0)) (by (with_reducible repeat (first | refine blk_drewN ?_ _ | refine blk_drew ?_ | refine blk_alloc ?_ _)); exact BK101.out)) : gb162 ≠ gb101))
       have n16_ := Aside0.mk ((by rw [hg]; exact Nat.ne_of_lt (blk_lt (g := gb102) (o := .cells #[.int .i64 a1_0, .int .i64 a1_1, .int .i64 a1_2] 28 (0, 0)) (by (with_reducible repeat (first | refine blk_drewN ?_ _ | refine blk_drew ?_ | refine blk_alloc ?_ _)); exact BK102.out)) : gb102 ≠ gb162))
       have n17_ := Aside0.mk ((by rw [hg]; exact Nat.ne_of_gt (blk_lt (g := gb102) (o := .cells #[.int .i64 a1_0, .int .i64 a1_1, .int .i64 a1_2] 28 (0, 0)) (by (with_reducible repeat (first | refine blk_drewN ?_ _ | refine blk_drew ?_ | refine blk_alloc ?_ _)); exact BK102.out)) : gb162 ≠ gb102))
       have n18_ := Aside0.mk ((by rw [hg]; exact Nat.ne_of_lt (blk_lt (g := gb118) (o := .cells #[.int .i64 t112, .int .i64 t113, .slice Ao31 t114.length co31] 33 (0, 0)) (by (with_reducible repeat (first | refine blk_drewN ?_ _ | refine blk_drew ?_ | refine blk_alloc ?_ _)); exact BK118.out)) : gb118 ≠ gb162))
       have n19_ := Aside0.mk ((by rw [hg]; exact Nat.ne_of_gt (blk_lt (g := gb118) (o := .cells #[.int .i64 t112, .int .i64 t113, .slice Ao31 t114.length co31] 33 (0, 0)) (by (with_reducible repeat (first | refine blk_drewN ?_ _ | refine blk_drew ?_ | refine blk_alloc ?_ _)); exact BK118.out)) : gb162 ≠ gb118))
       have n20_ := Aside0.mk ((by rw [hg]; exact Nat.ne_of_lt (blk_lt (g := gb124) (o := .cells #[.int .i64 t119, .int .i64 t120, .slice Ao41 t143.length co41] 33 (0, 0)) (by (with_reducible repeat (first | refine blk_drewN ?_ _ | refine blk_drew ?_ | refine blk_alloc ?_ _)); exact BK124.out)) : gb124 ≠ gb162))
       have n21_ := Aside0.mk ((by rw [hg]; exact Nat.ne_of_gt (blk_lt (g := gb124) (o := .cells #[.int .i64 t119, .int .i64 t120, .slice Ao41 t143.length co41] 33 (0, 0)) (by (with_reducible repeat (first | refine blk_drewN ?_ _ | refine blk_drew ?_ | refine blk_alloc ?_ _)); exact BK124.out)) : gb162 ≠ gb124))
       have n22_ := Aside0.mk ((by rw [hg]; exact Nat.ne_of_lt (blk_lt (g := gb134) (o := .cells #[.int .i64 t128, .int .i64 t129, .slice Ao50 t130.length co50] 33 (0, 0)) (by (with_reducible repeat (first | refine blk_drewN ?_ _ | refine blk_drew ?_ | refine blk_alloc ?_ _)); exact BK134.out)) : gb134 ≠ gb162))
       have n23_ := Aside0.mk ((by rw [hg]; exact Nat.ne_of_gt (blk_lt (g := gb134) (o := .cells #[.int .i64 t128, .int .i64 t129, .slice Ao50 t130.length co50] 33 (0, 0)) (by (with_reducible repeat (first | refine blk_drewN ?_ _ | refine blk_drew ?_ | refine blk_alloc ?_ _)); exact BK134.out)) : gb162 ≠ gb134))
       clear HO_119002
       clear HO_125002
       clear HO_135002
       clear HO152
       clear HO160
       clear BK101
       clear BK102
       clear BK118
       clear BK124
       clear BK134
       clear HB
       have HO_119002 := n0_
       have HO_125002 := n1_
       have HO_135002 := n2_
       have HO152 := n3_
       have HO160 := n4_
       have BK101 := n5_
       have BK102 := n6_
       have BK118 := n7_
       have BK124 := n8_
       have BK134 := n9_
       have HB := n10_
       have BK162 := n11_
       have GW162 := n12_
       have GE162 := n13_
       have NB101_162 := n14_
       have NB162_101 := n15_
       have NB102_162 := n16_
       have NB162_102 := n17_
       have NB118_162 := n18_
       have NB162_118 := n19_
       have NB124_162 := n20_
       have NB162_124 := n21_
       have NB134_162 := n22_
       have NB162_134 := n23_
       clear n0_ n1_ n2_ n3_ n4_ n5_ n6_ n7_ n8_ n9_ n10_ n11_ n12_ n13_ n14_ n15_ n16_ n17_ n18_ n19_ n20_ n21_ n22_ n23_
       clear hb hbox hg
       refine hK.out _ _ ⟨(blk_cell BK101.out 0).trans rfl, (blk_cell BK101.out 1).trans rfl, (blk_cell BK101.out 2).trans rfl, (blk_cell BK102.out 0).trans rfl, (blk_cell BK102.out 1).trans rfl, (blk_cell BK102.out 2).trans rfl⟩ (fun hHeld => ?_)
       clear hK K
       refine norm_ (a' := ?_) ?_ ?_
       rotate_left
       ·show Act.put _ (some 14) _ = _
        simp only [Act.put, List.setIfInBounds_toArray, List.set_cons_zero, List.set_cons_succ, i64_w, i32_w]
        rfl
       exact norm_ (by simp only [putAll, Act.put, List.setIfInBounds_toArray, List.set_cons_zero, List.set_cons_succ]) (hCont (.slice Ao141 t150.length co141, v159, gb162) _ ⟨hHeld, (by (with_reducible repeat (first | apply Kd.R_alloc | apply Kd.R_drewN | apply Kd.R_drew)); exact Kd.R_mono HO152.out (fun _ hk => ⟨hk.2, ⟨hk.1.1.1.2, ⟨hk.1.1.2, hk.1.2⟩⟩⟩)), (by (with_reducible repeat (first | apply Kd.R_alloc | apply Kd.R_drewN | apply Kd.R_drew)); exact Kd.R_mono HO160.out (fun _ hk => ⟨hk.2, ⟨hk.1.1.1.2, ⟨hk.1.1.2, hk.1.2⟩⟩⟩)), (by (with_reducible repeat (first | apply Kd.R_alloc | apply Kd.R_drewN | apply Kd.R_drew)); exact Kd.R_mono HO_119002.out (fun _ hk => ⟨hk.1.2, ⟨hk.2, ⟨hk.1.1.1, hk.1.1.2⟩⟩⟩)), (by (with_reducible repeat (first | apply Kd.R_alloc | apply Kd.R_drewN | apply Kd.R_drew)); exact Kd.R_mono HO_125002.out (fun _ hk => ⟨hk.1.2, ⟨hk.2, ⟨hk.1.1.1, hk.1.1.2⟩⟩⟩)), (by (with_reducible repeat (first | apply Kd.R_alloc | apply Kd.R_drewN | apply Kd.R_drew)); exact Kd.R_mono HO_135002.out (fun _ hk => ⟨hk.1.2, ⟨hk.2, ⟨hk.1.1.1, hk.1.1.2⟩⟩⟩)), (by (with_reducible repeat (first | refine blk_drewN ?_ _ | refine blk_drew ?_ | refine blk_alloc ?_ _)); exact BK101.out), (by (with_reducible repeat (first | refine blk_drewN ?_ _ | refine blk_drew ?_ | refine blk_alloc ?_ _)); exact BK102.out), (by (with_reducible repeat (first | refine blk_drewN ?_ _ | refine blk_drew ?_ | refine blk_alloc ?_ _)); exact BK118.out), (by (with_reducible repeat (first | refine blk_drewN ?_ _ | refine blk_drew ?_ | refine blk_alloc ?_ _)); exact BK124.out), (by (with_reducible repeat (first | refine blk_drewN ?_ _ | refine blk_drew ?_ | refine blk_alloc ?_ _)); exact BK134.out), (by (with_reducible repeat (first | refine blk_drewN ?_ _ | refine blk_drew ?_ | refine blk_alloc ?_ _)); exact BK162.out), GW162.out, GE162.out, NB101_162.out, NB162_101.out, NB102_162.out, NB162_102.out, NB118_162.out, NB162_118.out, NB124_162.out, NB162_124.out, NB134_162.out, NB162_134.out, (by repeat (first | (with_reducible first | exact HB.out | apply below_alloc | apply pw_below_drewN | apply below_drew1 | refine below_set ?_ GE101.out | refine below_set ?_ GE102.out | refine below_set ?_ GE118.out | refine below_set ?_ GE124.out | refine below_set ?_ GE134.out | refine below_set ?_ GE162.out) | exact HB.out))⟩)
      ·skip
       refine box_step ?hg (N := 14) ?hd (cs := #[.int .i64 0, .int .i64 0, .slice none 0 0]) (t := 33) ?hr ?_; (case hd => rfl); (case hg => rfl); (case hr => first | (go_simp; done) | (go_simp; rfl))
       intro gb162 hg w141 hbox hb
       have n0_ := Aside0.mk (Kd.R_below (by (with_reducible repeat (first | apply Kd.R_alloc | apply Kd.R_drewN | apply Kd.R_drew)); exact HO_119002.out) hb)
       have n1_ := Aside0.mk (Kd.R_below (by (with_reducible repeat (first | apply Kd.R_alloc | apply Kd.R_drewN | apply Kd.R_drew)); exact HO_125002.out) hb)
       have n2_ := Aside0.mk (Kd.R_below (by (with_reducible repeat (first | apply Kd.R_alloc | apply Kd.R_drewN | apply Kd.R_drew)); exact HO_135002.out) hb)
       have n3_ := Aside0.mk (Kd.R_below (by (with_reducible repeat (first | apply Kd.R_alloc | apply Kd.R_drewN | apply Kd.R_drew)); exact HO152.out) hb)
       have n4_ := Aside0.mk (blk_below (g := gb101) (o := .cells #[.int .i64 a0_0, .int .i64 a0_1, .slice A0_2 l0_2.length c0_2] 26 (0, 0)) (by (with_reducible repeat (first | refine blk_drewN ?_ _ | refine blk_drew ?_ | refine blk_alloc ?_ _)); exact BK101.out) hb)
       have n5_ := Aside0.mk (blk_below (g := gb102) (o := .cells #[.int .i64 a1_0, .int .i64 a1_1, .int .i64 a1_2] 28 (0, 0)) (by (with_reducible repeat (first | refine blk_drewN ?_ _ | refine blk_drew ?_ | refine blk_alloc ?_ _)); exact BK102.out) hb)
       have n6_ := Aside0.mk (blk_below (g := gb118) (o := .cells #[.int .i64 t112, .int .i64 t113, .slice Ao31 t114.length co31] 33 (0, 0)) (by (with_reducible repeat (first | refine blk_drewN ?_ _ | refine blk_drew ?_ | refine blk_alloc ?_ _)); exact BK118.out) hb)
       have n7_ := Aside0.mk (blk_below (g := gb124) (o := .cells #[.int .i64 t119, .int .i64 t120, .slice Ao41 t143.length co41] 33 (0, 0)) (by (with_reducible repeat (first | refine blk_drewN ?_ _ | refine blk_drew ?_ | refine blk_alloc ?_ _)); exact BK124.out) hb)
       have n8_ := Aside0.mk (blk_below (g := gb134) (o := .cells #[.int .i64 t128, .int .i64 t129, .slice Ao50 t130.length co50] 33 (0, 0)) (by (with_reducible repeat (first | refine blk_drewN ?_ _ | refine blk_drew ?_ | refine blk_alloc ?_ _)); exact BK134.out) hb)
       have n9_ := Aside0.mk (below_step (by repeat (first | (with_reducible first | exact HB.out | apply below_alloc | apply pw_below_drewN | apply below_drew1 | refine below_set ?_ GE101.out | refine below_set ?_ GE102.out | refine below_set ?_ GE118.out | refine below_set ?_ GE124.out | refine below_set ?_ GE134.out) | exact HB.out)) hb)
       have n10_ := Aside0.mk (hbox)
       have n11_ := Aside0.mk ((by rw [hg]; exact (below_size (by repeat (first | (with_reducible first | exact HB.out | apply below_alloc | apply pw_below_drewN | apply below_drew1 | refine below_set ?_ GE101.out | refine below_set ?_ GE102.out | refine below_set ?_ GE118.out | refine below_set ?_ GE124.out | refine below_set ?_ GE134.out) | exact HB.out))) : w.heap.size ≤ gb162))
       have n12_ := Aside0.mk ((by rw [hg]; exact (below_size (by repeat (first | (with_reducible first | exact HB.out | apply below_alloc | apply pw_below_drewN | apply below_drew1 | refine below_set ?_ GE101.out | refine below_set ?_ GE102.out | refine below_set ?_ GE118.out | refine below_set ?_ GE124.out | refine below_set ?_ GE134.out) | exact HB.out))) : w.heap.size ≤ gb162))
       have n13_ := Aside0.mk ((by rw [hg]; exact Nat.ne_of_lt (blk_lt (g := gb101) (o := .cells #[.int .i64 a0_0, .int .i64 a0_1, .slice A0_2 l0_2.length c0_2] 26 (0, 0)) (by (with_reducible repeat (first | refine blk_drewN ?_ _ | refine blk_drew ?_ | refine blk_alloc ?_ _)); exact BK101.out)) : gb101 ≠ gb162))
       have n14_ := Aside0.mk ((by rw [hg]; exact Nat.ne_of_gt (blk_lt (g := gb101) (o := .cells #[.int .i64 a0_0, .int .i64 a0_1, .slice A0_2 l0_2.length c0_2] 26 (0, 0)) (by (with_reducible repeat (first | refine blk_drewN ?_ _ | refine blk_drew ?_ | refine blk_alloc ?_ _)); exact BK101.out)) : gb162 ≠ gb101))
       have n15_ := Aside0.mk ((by rw [hg]; exact Nat.ne_of_lt (blk_lt (g := gb102) (o := .cells #[.int .i64 a1_0, .int .i64 a1_1, .int .i64 a1_2] 28 (0, 0)) (by (with_reducible repeat (first | refine blk_drewN ?_ _ | refine blk_drew ?_ | refine blk_alloc ?_ _)); exact BK102.out)) : gb102 ≠ gb162))
       have n16_ := Aside0.mk ((by rw [hg]; exact Nat.ne_of_gt (blk_lt (g := gb102) (o := .cells #[.int .i64 a1_0, .int .i64 a1_1, .int .i64 a1_2] 28 (0, 0)) (by (with_reducible repeat (first | refine blk_drewN ?_ _ | refine blk_drew ?_ | refine blk_alloc ?_ _)); exact BK102.out)) : gb162 ≠ gb102))
       have n17_ := Aside0.mk ((by rw [hg]; exact Nat.ne_of_lt (blk_lt (g := gb118) (o := .cells #[.int .i64 t112, .int .i64 t113, .slice Ao31 t114.length co31] 33 (0, 0)) (by (with_reducible repeat (first | refine blk_drewN ?_ _ | refine blk_drew ?_ | refine blk_alloc ?_ _)); exact BK118.out)) : gb118 ≠ gb162))
       have n18_ := Aside0.mk ((by rw [hg]; exact Nat.ne_of_gt (blk_lt (g := gb118) (o := .cells #[.int .i64 t112, .int .i64 t113, .slice Ao31 t114.length co31] 33 (0, 0)) (by (with_reducible repeat (first | refine blk_drewN ?_ _ | refine blk_drew ?_ | refine blk_alloc ?_ _)); exact BK118.out)) : gb162 ≠ gb118))
       have n19_ := Aside0.mk ((by rw [hg]; exact Nat.ne_of_lt (blk_lt (g := gb124) (o := .cells #[.int .i64 t119, .int .i64 t120, .slice Ao41 t143.length co41] 33 (0, 0)) (by (with_reducible repeat (first | refine blk_drewN ?_ _ | refine blk_drew ?_ | refine blk_alloc ?_ _)); exact BK124.out)) : gb124 ≠ gb162))
       have n20_ := Aside0.mk ((by rw [hg]; exact Nat.ne_of_gt (blk_lt (g := gb124) (o := .cells #[.int .i64 t119, .int .i64 t120, .slice Ao41 t143.length co41] 33 (0, 0)) (by (with_reducible repeat (first | refine blk_drewN ?_ _ | refine blk_drew ?_ | refine blk_alloc ?_ _)); exact BK124.out)) : gb162 ≠ gb124))
       have n21_ := Aside0.mk ((by rw [hg]; exact Nat.ne_of_lt (blk_lt (g := gb134) (o := .cells #[.int .i64 t128, .int .i64 t129, .slice Ao50 t130.length co50] 33 (0, 0)) (by (with_reducible repeat (first | refine blk_drewN ?_ _ | refine blk_drew ?_ | refine blk_alloc ?_ _)); exact BK134.out)) : gb134 ≠ gb162))
       have n22_ := Aside0.mk ((by rw [hg]; exact Nat.ne_of_gt (blk_lt (g := gb134) (o := .cells #[.int .i64 t128, .int .i64 t129, .slice Ao50 t130.length co50] 33 (0, 0)) (by (with_reducible repeat (first | refine blk_drewN ?_ _ | refine blk_drew ?_ | refine blk_alloc ?_ _)); exact BK134.out)) : gb162 ≠ gb134))
       clear HO_119002
       clear HO_125002
       clear HO_135002
       clear HO152
       clear BK101
       clear BK102
       clear BK118
       clear BK124
       clear BK134
       clear HB
       have HO_119002 := n0_
       have HO_125002 := n1_
       have HO_135002 := n2_
       have HO152 := n3_
       have BK101 := n4_
       have BK102 := n5_
       have BK118 := n6_
       have BK124 := n7_
       have BK134 := n8_
       have HB := n9_
       have BK162 := n10_
       have GW162 := n11_
       have GE162 := n12_
       have NB101_162 := n13_
       have NB162_101 := n14_
       have NB102_162 := n15_
       have NB162_102 := n16_
       have NB118_162 := n17_
       have NB162_118 := n18_
       have NB124_162 := n19_
       have NB162_124 := n20_
       have NB134_162 := n21_
       have NB162_134 := n22_
       clear n0_ n1_ n2_ n3_ n4_ n5_ n6_ n7_ n8_ n9_ n10_ n11_ n12_ n13_ n14_ n15_ n16_ n17_ n18_ n19_ n20_ n21_ n22_
       clear hb hbox hg
       obtain ⟨Ao142, co142, eo142⟩ := Kd.R_slice HO152.out
       (first | subst eo142 | (injection eo142 with f1_ f2_ f3_; have f4_ := f1_.symm; have f5_ := f3_.symm; clear f1_ f2_ f3_; subst f4_; subst f5_))
       refine hK.out _ _ ⟨(blk_cell BK101.out 0).trans rfl, (blk_cell BK101.out 1).trans rfl, (blk_cell BK101.out 2).trans rfl, (blk_cell BK102.out 0).trans rfl, (blk_cell BK102.out 1).trans rfl, (blk_cell BK102.out 2).trans rfl⟩ (fun hHeld => ?_)
       clear hK K
       refine norm_ (a' := ?_) ?_ ?_
       rotate_left
       ·show Act.put _ (some 14) _ = _
        simp only [Act.put, List.setIfInBounds_toArray, List.set_cons_zero, List.set_cons_succ, i64_w, i32_w]
        rfl
       refine one_ (i := 4) (N := some 84) #[true, true, true, true, true, false, false, false, true, false, false] rfl rfl (one_of HT_.out (by kernel_rfl)) (by decide) (fun K hK => ?_)
       refine goes_ Try.func10 (by kernel_rfl) rfl #[.agg #[.int .i64 t148, .int .i64 t149, .slice Ao142 t150.length co142], .agg #[.int .i64 t153, .int .i64 t154, .int .i64 t155]] (by rfl) rfl rfl (by (try simp only [List.map_toArray, List.map_cons, List.map_nil]); first | done | rfl | (simp only [List.length_drop, List.length_take]; rfl)) ?_
       with_reducible refine (impl_AddClue.calls t148 t149 _ _ t150 t153 t154 t155 t156 t157 t158 t161 _ ?side1 ?side2 A128.out).mono ?_
       (case side1 => repeat (first | exact (Kd.R_reads' HO152.out).2.2 | (with_reducible refine Kd.C_alloc ?_ _) | (with_reducible refine Kd.C_drewN ?_ _) | (with_reducible refine Kd.C_drew ?_)))
       (case side2 => exact (Kd.R_reads' HO152.out).2.1)
       rintro e w143 ⟨v159, rfl, ho0, hb⟩
       refine ⟨_, rfl, ?_⟩
       have n0_ := Aside0.mk (Kd.R_elder' (by (with_reducible repeat (first | apply Kd.R_alloc | apply Kd.R_drewN | apply Kd.R_drew)); exact HO_119002.out) (Kd.R_base ho0) hb)
       have n1_ := Aside0.mk (Kd.R_elder' (by (with_reducible repeat (first | apply Kd.R_alloc | apply Kd.R_drewN | apply Kd.R_drew)); exact HO_125002.out) (Kd.R_base ho0) hb)
       have n2_ := Aside0.mk (Kd.R_elder' (by (with_reducible repeat (first | apply Kd.R_alloc | apply Kd.R_drewN | apply Kd.R_drew)); exact HO_135002.out) (Kd.R_base ho0) hb)
       have n3_ := Aside0.mk (Kd.R_elder' (by (with_reducible repeat (first | apply Kd.R_alloc | apply Kd.R_drewN | apply Kd.R_drew)); exact HO152.out) (Kd.R_base ho0) hb)
       have n4_ := Aside0.mk (Kd.R_lower (Kd.R_new' (Kd.R_new' (Kd.R_new' (Kd.R_new' ho0 (Kd.R_lt (by (with_reducible repeat (first | apply Kd.R_alloc | apply Kd.R_drewN | apply Kd.R_drew)); exact HO_119002.out))) (Kd.R_lt (by (with_reducible repeat (first | apply Kd.R_alloc | apply Kd.R_drewN | apply Kd.R_drew)); exact HO_125002.out))) (Kd.R_lt (by (with_reducible repeat (first | apply Kd.R_alloc | apply Kd.R_drewN | apply Kd.R_drew)); exact HO_135002.out))) (Kd.R_lt (by (with_reducible repeat (first | apply Kd.R_alloc | apply Kd.R_drewN | apply Kd.R_drew)); exact HO152.out))) (below_size (by repeat (first | (with_reducible first | exact HB.out | apply below_alloc | apply pw_below_drewN | apply below_drew1 | refine below_set ?_ GE101.out | refine below_set ?_ GE102.out | refine below_set ?_ GE118.out | refine below_set ?_ GE124.out | refine below_set ?_ GE134.out | refine below_set ?_ GE162.out) | exact HB.out))))
       have n5_ := Aside0.mk (blk_below (g := gb101) (o := .cells #[.int .i64 a0_0, .int .i64 a0_1, .slice A0_2 l0_2.length c0_2] 26 (0, 0)) (by (with_reducible repeat (first | refine blk_drewN ?_ _ | refine blk_drew ?_ | refine blk_alloc ?_ _)); exact BK101.out) hb)
       have n6_ := Aside0.mk (blk_below (g := gb102) (o := .cells #[.int .i64 a1_0, .int .i64 a1_1, .int .i64 a1_2] 28 (0, 0)) (by (with_reducible repeat (first | refine blk_drewN ?_ _ | refine blk_drew ?_ | refine blk_alloc ?_ _)); exact BK102.out) hb)
       have n7_ := Aside0.mk (blk_below (g := gb118) (o := .cells #[.int .i64 t112, .int .i64 t113, .slice Ao31 t114.length co31] 33 (0, 0)) (by (with_reducible repeat (first | refine blk_drewN ?_ _ | refine blk_drew ?_ | refine blk_alloc ?_ _)); exact BK118.out) hb)
       have n8_ := Aside0.mk (blk_below (g := gb124) (o := .cells #[.int .i64 t119, .int .i64 t120, .slice Ao41 t143.length co41] 33 (0, 0)) (by (with_reducible repeat (first | refine blk_drewN ?_ _ | refine blk_drew ?_ | refine blk_alloc ?_ _)); exact BK124.out) hb)
       have n9_ := Aside0.mk (blk_below (g := gb134) (o := .cells #[.int .i64 t128, .int .i64 t129, .slice Ao50 t130.length co50] 33 (0, 0)) (by (with_reducible repeat (first | refine blk_drewN ?_ _ | refine blk_drew ?_ | refine blk_alloc ?_ _)); exact BK134.out) hb)
       have n10_ := Aside0.mk (blk_below (g := gb162) (o := .cells #[.int .i64 0, .int .i64 0, .slice none 0 0] 33 (0, 0)) (by (with_reducible repeat (first | refine blk_drewN ?_ _ | refine blk_drew ?_ | refine blk_alloc ?_ _)); exact BK162.out) hb)
       have n11_ := Aside0.mk (below_step (by repeat (first | (with_reducible first | exact HB.out | apply below_alloc | apply pw_below_drewN | apply below_drew1 | refine below_set ?_ GE101.out | refine below_set ?_ GE102.out | refine below_set ?_ GE118.out | refine below_set ?_ GE124.out | refine below_set ?_ GE134.out | refine below_set ?_ GE162.out) | exact HB.out)) hb)
       clear HO_119002
       clear HO_125002
       clear HO_135002
       clear HO152
       clear BK101
       clear BK102
       clear BK118
       clear BK124
       clear BK134
       clear BK162
       clear HB
       have HO_119002 := n0_
       have HO_125002 := n1_
       have HO_135002 := n2_
       have HO152 := n3_
       have HO160 := n4_
       have BK101 := n5_
       have BK102 := n6_
       have BK118 := n7_
       have BK124 := n8_
       have BK134 := n9_
       have BK162 := n10_
       have HB := n11_
       clear n0_ n1_ n2_ n3_ n4_ n5_ n6_ n7_ n8_ n9_ n10_ n11_
       (try clear hb)
       (try clear hb2)
       (try clear hk)
       (try clear hi)
       (try clear ho0)
       refine hK.out _ _ ⟨(blk_cell BK101.out 0).trans rfl, (blk_cell BK101.out 1).trans rfl, (blk_cell BK101.out 2).trans rfl, (blk_cell BK102.out 0).trans rfl, (blk_cell BK102.out 1).trans rfl, (blk_cell BK102.out 2).trans rfl⟩ (fun hHeld => ?_)
       clear hK K
       refine norm_ (a' := ?_) ?_ ?_
       rotate_left
       ·show Act.put _ (some 84) _ = _
        simp only [Act.put, List.setIfInBounds_toArray, List.set_cons_zero, List.set_cons_succ, i64_w, i32_w]
        rfl
       refine pure_ (i := 5) (N := some 79) (v := ?_) (a' := ?_) #[true, true, true, true, true, true, false, false, true, false, false] rfl rfl (any_of HT_.out (by kernel_rfl)) (fun _ _ _ h => h) (Or.inl ⟨by rfl, ?_⟩) ?_ ?_
       rotate_left
       ·intro w'
        go_simp
        with_reducible rfl
       rotate_left
       ·simp only [Act.put, List.setIfInBounds_toArray, List.set_cons_zero, List.set_cons_succ, i64_w, i32_w]
        rfl
       refine pure_ (i := 6) (N := some 85) (v := ?_) (a' := ?_) #[true, true, true, true, true, true, true, false, true, false, false] rfl rfl (any_of HT_.out (by kernel_rfl)) (fun _ _ _ h => h) (Or.inl ⟨by rfl, ?_⟩) ?_ ?_
       rotate_left
       ·intro w'
        go_simp
        with_reducible rfl
       rotate_left
       ·simp only [Act.put, List.setIfInBounds_toArray, List.set_cons_zero, List.set_cons_succ, i64_w, i32_w]
        rfl
       refine pure_ (i := 7) (N := some 86) (v := ?_) (a' := ?_) #[true, true, true, true, true, true, true, true, true, false, false] rfl rfl (any_of HT_.out (by kernel_rfl)) (fun _ _ _ h => h) (Or.inl ⟨by rfl, ?_⟩) ?_ ?_
       rotate_left
       ·intro w'
        go_simp
        with_reducible rfl
       rotate_left
       ·simp only [Act.put, List.setIfInBounds_toArray, List.set_cons_zero, List.set_cons_succ, i64_w, i32_w]
        rfl
       exact norm_ (by simp only [putAll, Act.put, List.setIfInBounds_toArray, List.set_cons_zero, List.set_cons_succ]) (hCont (.slice Ao142 t150.length co142, v159, gb162) _ ⟨hHeld, (by (with_reducible repeat (first | apply Kd.R_alloc | apply Kd.R_drewN | apply Kd.R_drew)); exact Kd.R_mono HO152.out (fun _ hk => ⟨hk.2, ⟨hk.1.1.1.2, ⟨hk.1.1.2, hk.1.2⟩⟩⟩)), (by (with_reducible repeat (first | apply Kd.R_alloc | apply Kd.R_drewN | apply Kd.R_drew)); exact Kd.R_mono HO160.out (fun _ hk => ⟨hk.2, ⟨hk.1.1.1.2, ⟨hk.1.1.2, hk.1.2⟩⟩⟩)), (by (with_reducible repeat (first | apply Kd.R_alloc | apply Kd.R_drewN | apply Kd.R_drew)); exact Kd.R_mono HO_119002.out (fun _ hk => ⟨hk.1.2, ⟨hk.2, ⟨hk.1.1.1, hk.1.1.2⟩⟩⟩)), (by (with_reducible repeat (first | apply Kd.R_alloc | apply Kd.R_drewN | apply Kd.R_drew)); exact Kd.R_mono HO_125002.out (fun _ hk => ⟨hk.1.2, ⟨hk.2, ⟨hk.1.1.1, hk.1.1.2⟩⟩⟩)), (by (with_reducible repeat (first | apply Kd.R_alloc | apply Kd.R_drewN | apply Kd.R_drew)); exact Kd.R_mono HO_135002.out (fun _ hk => ⟨hk.1.2, ⟨hk.2, ⟨hk.1.1.1, hk.1.1.2⟩⟩⟩)), (by (with_reducible repeat (first | refine blk_drewN ?_ _ | refine blk_drew ?_ | refine blk_alloc ?_ _)); exact BK101.out), (by (with_reducible repeat (first | refine blk_drewN ?_ _ | refine blk_drew ?_ | refine blk_alloc ?_ _)); exact BK102.out), (by (with_reducible repeat (first | refine blk_drewN ?_ _ | refine blk_drew ?_ | refine blk_alloc ?_ _)); exact BK118.out), (by (with_reducible repeat (first | refine blk_drewN ?_ _ | refine blk_drew ?_ | refine blk_alloc ?_ _)); exact BK124.out), (by (with_reducible repeat (first | refine blk_drewN ?_ _ | refine blk_drew ?_ | refine blk_alloc ?_ _)); exact BK134.out), (by (with_reducible repeat (first | refine blk_drewN ?_ _ | refine blk_drew ?_ | refine blk_alloc ?_ _)); exact BK162.out), GW162.out, GE162.out, NB101_162.out, NB162_101.out, NB102_162.out, NB162_102.out, NB118_162.out, NB162_118.out, NB124_162.out, NB162_124.out, NB134_162.out, NB162_134.out, (by repeat (first | (with_reducible first | exact HB.out | apply below_alloc | apply pw_below_drewN | apply below_drew1 | refine below_set ?_ GE101.out | refine below_set ?_ GE102.out | refine below_set ?_ GE118.out | refine below_set ?_ GE124.out | refine below_set ?_ GE134.out | refine below_set ?_ GE162.out) | exact HB.out))⟩)
     ·skip
      refine box_step ?hg (N := 14) ?hd (cs := #[.int .i64 0, .int .i64 0, .slice none 0 0]) (t := 33) ?hr ?_; (case hd => rfl); (case hg => rfl); (case hr => first | (go_simp; done) | (go_simp; rfl))
      intro gb162 hg w140 hbox hb
      have n0_ := Aside0.mk (Kd.R_below (by (with_reducible repeat (first | apply Kd.R_alloc | apply Kd.R_drewN | apply Kd.R_drew)); exact HO_119002.out) hb)
      have n1_ := Aside0.mk (Kd.R_below (by (with_reducible repeat (first | apply Kd.R_alloc | apply Kd.R_drewN | apply Kd.R_drew)); exact HO_125002.out) hb)
      have n2_ := Aside0.mk (Kd.R_below (by (with_reducible repeat (first | apply Kd.R_alloc | apply Kd.R_drewN | apply Kd.R_drew)); exact HO_135002.out) hb)
      have n3_ := Aside0.mk (Kd.R_below (by (with_reducible repeat (first | apply Kd.R_alloc | apply Kd.R_drewN | apply Kd.R_drew)); exact HO152.out) hb)
      have n4_ := Aside0.mk (blk_below (g := gb101) (o := .cells #[.int .i64 a0_0, .int .i64 a0_1, .slice A0_2 l0_2.length c0_2] 26 (0, 0)) (by (with_reducible repeat (first | refine blk_drewN ?_ _ | refine blk_drew ?_ | refine blk_alloc ?_ _)); exact BK101.out) hb)
      have n5_ := Aside0.mk (blk_below (g := gb102) (o := .cells #[.int .i64 a1_0, .int .i64 a1_1, .int .i64 a1_2] 28 (0, 0)) (by (with_reducible repeat (first | refine blk_drewN ?_ _ | refine blk_drew ?_ | refine blk_alloc ?_ _)); exact BK102.out) hb)
      have n6_ := Aside0.mk (blk_below (g := gb118) (o := .cells #[.int .i64 t112, .int .i64 t113, .slice Ao31 t114.length co31] 33 (0, 0)) (by (with_reducible repeat (first | refine blk_drewN ?_ _ | refine blk_drew ?_ | refine blk_alloc ?_ _)); exact BK118.out) hb)
      have n7_ := Aside0.mk (blk_below (g := gb124) (o := .cells #[.int .i64 t119, .int .i64 t120, .slice Ao41 t143.length co41] 33 (0, 0)) (by (with_reducible repeat (first | refine blk_drewN ?_ _ | refine blk_drew ?_ | refine blk_alloc ?_ _)); exact BK124.out) hb)
      have n8_ := Aside0.mk (blk_below (g := gb134) (o := .cells #[.int .i64 t128, .int .i64 t129, .slice Ao50 t130.length co50] 33 (0, 0)) (by (with_reducible repeat (first | refine blk_drewN ?_ _ | refine blk_drew ?_ | refine blk_alloc ?_ _)); exact BK134.out) hb)
      have n9_ := Aside0.mk (below_step (by repeat (first | (with_reducible first | exact HB.out | apply below_alloc | apply pw_below_drewN | apply below_drew1 | refine below_set ?_ GE101.out | refine below_set ?_ GE102.out | refine below_set ?_ GE118.out | refine below_set ?_ GE124.out | refine below_set ?_ GE134.out) | exact HB.out)) hb)
      have n10_ := Aside0.mk (hbox)
      have n11_ := Aside0.mk ((by rw [hg]; exact (below_size (by repeat (first | (with_reducible first | exact HB.out | apply below_alloc | apply pw_below_drewN | apply below_drew1 | refine below_set ?_ GE101.out | refine below_set ?_ GE102.out | refine below_set ?_ GE118.out | refine below_set ?_ GE124.out | refine below_set ?_ GE134.out) | exact HB.out))) : w.heap.size ≤ gb162))
      have n12_ := Aside0.mk ((by rw [hg]; exact (below_size (by repeat (first | (with_reducible first | exact HB.out | apply below_alloc | apply pw_below_drewN | apply below_drew1 | refine below_set ?_ GE101.out | refine below_set ?_ GE102.out | refine below_set ?_ GE118.out | refine below_set ?_ GE124.out | refine below_set ?_ GE134.out) | exact HB.out))) : w.heap.size ≤ gb162))
      have n13_ := Aside0.mk ((by rw [hg]; exact Nat.ne_of_lt (blk_lt (g := gb101) (o := .cells #[.int .i64 a0_0, .int .i64 a0_1, .slice A0_2 l0_2.length c0_2] 26 (0, 0)) (by (with_reducible repeat (first | refine blk_drewN ?_ _ | refine blk_drew ?_ | refine blk_alloc ?_ _)); exact BK101.out)) : gb101 ≠ gb162))
      have n14_ := Aside0.mk ((by rw [hg]; exact Nat.ne_of_gt (blk_lt (g := gb101) (o := .cells #[.int .i64 a0_0, .int .i64 a0_1, .slice A0_2 l0_2.length c0_2] 26 (0, 0)) (by (with_reducible repeat (first | refine blk_drewN ?_ _ | refine blk_drew ?_ | refine blk_alloc ?_ _)); exact BK101.out)) : gb162 ≠ gb101))
      have n15_ := Aside0.mk ((by rw [hg]; exact Nat.ne_of_lt (blk_lt (g := gb102) (o := .cells #[.int .i64 a1_0, .int .i64 a1_1, .int .i64 a1_2] 28 (0, 0)) (by (with_reducible repeat (first | refine blk_drewN ?_ _ | refine blk_drew ?_ | refine blk_alloc ?_ _)); exact BK102.out)) : gb102 ≠ gb162))
      have n16_ := Aside0.mk ((by rw [hg]; exact Nat.ne_of_gt (blk_lt (g := gb102) (o := .cells #[.int .i64 a1_0, .int .i64 a1_1, .int .i64 a1_2] 28 (0, 0)) (by (with_reducible repeat (first | refine blk_drewN ?_ _ | refine blk_drew ?_ | refine blk_alloc ?_ _)); exact BK102.out)) : gb162 ≠ gb102))
      have n17_ := Aside0.mk ((by rw [hg]; exact Nat.ne_of_lt (blk_lt (g := gb118) (o := .cells #[.int .i64 t112, .int .i64 t113, .slice Ao31 t114.length co31] 33 (0, 0)) (by (with_reducible repeat (first | refine blk_drewN ?_ _ | refine blk_drew ?_ | refine blk_alloc ?_ _)); exact BK118.out)) : gb118 ≠ gb162))
      have n18_ := Aside0.mk ((by rw [hg]; exact Nat.ne_of_gt (blk_lt (g := gb118) (o := .cells #[.int .i64 t112, .int .i64 t113, .slice Ao31 t114.length co31] 33 (0, 0)) (by (with_reducible repeat (first | refine blk_drewN ?_ _ | refine blk_drew ?_ | refine blk_alloc ?_ _)); exact BK118.out)) : gb162 ≠ gb118))
      have n19_ := Aside0.mk ((by rw [hg]; exact Nat.ne_of_lt (blk_lt (g := gb124) (o := .cells #[.int .i64 t119, .int .i64 t120, .slice Ao41 t143.length co41] 33 (0, 0)) (by (with_reducible repeat (first | refine blk_drewN ?_ _ | refine blk_drew ?_ | refine blk_alloc ?_ _)); exact BK124.out)) : gb124 ≠ gb162))
      have n20_ := Aside0.mk ((by rw [hg]; exact Nat.ne_of_gt (blk_lt (g := gb124) (o := .cells #[.int .i64 t119, .int .i64 t120, .slice Ao41 t143.length co41] 33 (0, 0)) (by (with_reducible repeat (first | refine blk_drewN ?_ _ | refine blk_drew ?_ | refine blk_alloc ?_ _)); exact BK124.out)) : gb162 ≠ gb124))
      have n21_ := Aside0.mk ((by rw [hg]; exact Nat.ne_of_lt (blk_lt (g := gb134) (o := .cells #[.int .i64 t128, .int .i64 t129, .slice Ao50 t130.length co50] 33 (0, 0)) (by (with_reducible repeat (first | refine blk_drewN ?_ _ | refine blk_drew ?_ | refine blk_alloc ?_ _)); exact BK134.out)) : gb134 ≠ gb162))
      have n22_ := Aside0.mk ((by rw [hg]; exact Nat.ne_of_gt (blk_lt (g := gb134) (o := .cells #[.int .i64 t128, .int .i64 t129, .slice Ao50 t130.length co50] 33 (0, 0)) (by (with_reducible repeat (first | refine blk_drewN ?_ _ | refine blk_drew ?_ | refine blk_alloc ?_ _)); exact BK134.out)) : gb162 ≠ gb134))
      clear HO_119002
      clear HO_125002
      clear HO_135002
      clear HO152
      clear BK101
      clear BK102
      clear BK118
      clear BK124
      clear BK134
      clear HB
      have HO_119002 := n0_
      have HO_125002 := n1_
      have HO_135002 := n2_
      have HO152 := n3_
      have BK101 := n4_
      have BK102 := n5_
      have BK118 := n6_
      have BK124 := n7_
      have BK134 := n8_
      have HB := n9_
      have BK162 := n10_
      have GW162 := n11_
      have GE162 := n12_
      have NB101_162 := n13_
      have NB162_101 := n14_
      have NB102_162 := n15_
      have NB162_102 := n16_
      have NB118_162 := n17_
      have NB162_118 := n18_
      have NB124_162 := n19_
      have NB162_124 := n20_
      have NB134_162 := n21_
      have NB162_134 := n22_
      clear n0_ n1_ n2_ n3_ n4_ n5_ n6_ n7_ n8_ n9_ n10_ n11_ n12_ n13_ n14_ n15_ n16_ n17_ n18_ n19_ n20_ n21_ n22_
      clear hb hbox hg
      refine hK.out _ _ ⟨(blk_cell BK101.out 0).trans rfl, (blk_cell BK101.out 1).trans rfl, (blk_cell BK101.out 2).trans rfl, (blk_cell BK102.out 0).trans rfl, (blk_cell BK102.out 1).trans rfl, (blk_cell BK102.out 2).trans rfl⟩ (fun hHeld => ?_)
      clear hK K
      refine norm_ (a' := ?_) ?_ ?_
      rotate_left
      ·show Act.put _ (some 14) _ = _
       simp only [Act.put, List.setIfInBounds_toArray, List.set_cons_zero, List.set_cons_succ, i64_w, i32_w]
       rfl
      refine one_ (i := 3) (N := some 83) #[true, true, true, true, false, false, false, false, true, false, false] rfl rfl (one_of HT_.out (by kernel_rfl)) (by decide) (fun K hK => ?_)
      refine goes_ Try.func9 (by kernel_rfl) rfl #[.agg #[.int .i64 a1_0, .int .i64 a1_1, .int .i64 a1_2]] (by rfl) rfl rfl (by (try simp only [List.map_toArray, List.map_cons, List.map_nil]); first | done | rfl | (simp only [List.length_drop, List.length_take]; rfl)) ?_
      with_reducible refine (laws_toClue.calls a1_0 a1_1 a1_2 t153 t154 t155 _ A127.out).mono ?_
      rintro e w141 ⟨rfl, hb⟩
      refine ⟨_, rfl, ?_⟩
      have n0_ := Aside0.mk (Kd.R_below (by (with_reducible repeat (first | apply Kd.R_alloc | apply Kd.R_drewN | apply Kd.R_drew)); exact HO_119002.out) hb)
      have n1_ := Aside0.mk (Kd.R_below (by (with_reducible repeat (first | apply Kd.R_alloc | apply Kd.R_drewN | apply Kd.R_drew)); exact HO_125002.out) hb)
      have n2_ := Aside0.mk (Kd.R_below (by (with_reducible repeat (first | apply Kd.R_alloc | apply Kd.R_drewN | apply Kd.R_drew)); exact HO_135002.out) hb)
      have n3_ := Aside0.mk (Kd.R_below (by (with_reducible repeat (first | apply Kd.R_alloc | apply Kd.R_drewN | apply Kd.R_drew)); exact HO152.out) hb)
      have n4_ := Aside0.mk (blk_below (g := gb101) (o := .cells #[.int .i64 a0_0, .int .i64 a0_1, .slice A0_2 l0_2.length c0_2] 26 (0, 0)) (by (with_reducible repeat (first | refine blk_drewN ?_ _ | refine blk_drew ?_ | refine blk_alloc ?_ _)); exact BK101.out) hb)
      have n5_ := Aside0.mk (blk_below (g := gb102) (o := .cells #[.int .i64 a1_0, .int .i64 a1_1, .int .i64 a1_2] 28 (0, 0)) (by (with_reducible repeat (first | refine blk_drewN ?_ _ | refine blk_drew ?_ | refine blk_alloc ?_ _)); exact BK102.out) hb)
      have n6_ := Aside0.mk (blk_below (g := gb118) (o := .cells #[.int .i64 t112, .int .i64 t113, .slice Ao31 t114.length co31] 33 (0, 0)) (by (with_reducible repeat (first | refine blk_drewN ?_ _ | refine blk_drew ?_ | refine blk_alloc ?_ _)); exact BK118.out) hb)
      have n7_ := Aside0.mk (blk_below (g := gb124) (o := .cells #[.int .i64 t119, .int .i64 t120, .slice Ao41 t143.length co41] 33 (0, 0)) (by (with_reducible repeat (first | refine blk_drewN ?_ _ | refine blk_drew ?_ | refine blk_alloc ?_ _)); exact BK124.out) hb)
      have n8_ := Aside0.mk (blk_below (g := gb134) (o := .cells #[.int .i64 t128, .int .i64 t129, .slice Ao50 t130.length co50] 33 (0, 0)) (by (with_reducible repeat (first | refine blk_drewN ?_ _ | refine blk_drew ?_ | refine blk_alloc ?_ _)); exact BK134.out) hb)
      have n9_ := Aside0.mk (blk_below (g := gb162) (o := .cells #[.int .i64 0, .int .i64 0, .slice none 0 0] 33 (0, 0)) (by (with_reducible repeat (first | refine blk_drewN ?_ _ | refine blk_drew ?_ | refine blk_alloc ?_ _)); exact BK162.out) hb)
      have n10_ := Aside0.mk (below_step (by repeat (first | (with_reducible first | exact HB.out | apply below_alloc | apply pw_below_drewN | apply below_drew1 | refine below_set ?_ GE101.out | refine below_set ?_ GE102.out | refine below_set ?_ GE118.out | refine below_set ?_ GE124.out | refine below_set ?_ GE134.out | refine below_set ?_ GE162.out) | exact HB.out)) hb)
      clear HO_119002
      clear HO_125002
      clear HO_135002
      clear HO152
      clear BK101
      clear BK102
      clear BK118
      clear BK124
      clear BK134
      clear BK162
      clear HB
      have HO_119002 := n0_
      have HO_125002 := n1_
      have HO_135002 := n2_
      have HO152 := n3_
      have BK101 := n4_
      have BK102 := n5_
      have BK118 := n6_
      have BK124 := n7_
      have BK134 := n8_
      have BK162 := n9_
      have HB := n10_
      clear n0_ n1_ n2_ n3_ n4_ n5_ n6_ n7_ n8_ n9_ n10_
      (try clear hb)
      (try clear hb2)
      (try clear hk)
      (try clear hi)
      obtain ⟨Ao142, co142, eo142⟩ := Kd.R_slice HO152.out
      (first | subst eo142 | (injection eo142 with f1_ f2_ f3_; have f4_ := f1_.symm; have f5_ := f3_.symm; clear f1_ f2_ f3_; subst f4_; subst f5_))
      refine hK.out _ _ ⟨(blk_cell BK101.out 0).trans rfl, (blk_cell BK101.out 1).trans rfl, (blk_cell BK101.out 2).trans rfl, (blk_cell BK102.out 0).trans rfl, (blk_cell BK102.out 1).trans rfl, (blk_cell BK102.out 2).trans rfl⟩ (fun hHeld => ?_)
      clear hK K
      refine norm_ (a' := ?_) ?_ ?_
      rotate_left
      ·show Act.put _ (some 83) _ = _
       simp only [Act.put, List.setIfInBounds_toArray, List.set_cons_zero, List.set_cons_succ, i64_w, i32_w]
       rfl
      refine one_ (i := 4) (N := some 84) #[true, true, true, true, true, false, false, false, true, false, false] rfl rfl (one_of HT_.out (by kernel_rfl)) (by decide) (fun K hK => ?_)
      refine goes_ Try.func10 (by kernel_rfl) rfl #[.agg #[.int .i64 t148, .int .i64 t149, .slice Ao142 t150.length co142], .agg #[.int .i64 t153, .int .i64 t154, .int .i64 t155]] (by rfl) rfl rfl (by (try simp only [List.map_toArray, List.map_cons, List.map_nil]); first | done | rfl | (simp only [List.length_drop, List.length_take]; rfl)) ?_
      with_reducible refine (impl_AddClue.calls t148 t149 _ _ t150 t153 t154 t155 t156 t157 t158 t161 _ ?side1 ?side2 A128.out).mono ?_
      (case side1 => repeat (first | exact (Kd.R_reads' HO152.out).2.2 | (with_reducible refine Kd.C_alloc ?_ _) | (with_reducible refine Kd.C_drewN ?_ _) | (with_reducible refine Kd.C_drew ?_)))
      (case side2 => exact (Kd.R_reads' HO152.out).2.1)
      rintro e w143 ⟨v159, rfl, ho0, hb⟩
      refine ⟨_, rfl, ?_⟩
      have n0_ := Aside0.mk (Kd.R_elder' (by (with_reducible repeat (first | apply Kd.R_alloc | apply Kd.R_drewN | apply Kd.R_drew)); exact HO_119002.out) (Kd.R_base ho0) hb)
      have n1_ := Aside0.mk (Kd.R_elder' (by (with_reducible repeat (first | apply Kd.R_alloc | apply Kd.R_drewN | apply Kd.R_drew)); exact HO_125002.out) (Kd.R_base ho0) hb)
      have n2_ := Aside0.mk (Kd.R_elder' (by (with_reducible repeat (first | apply Kd.R_alloc | apply Kd.R_drewN | apply Kd.R_drew)); exact HO_135002.out) (Kd.R_base ho0) hb)
      have n3_ := Aside0.mk (Kd.R_elder' (by (with_reducible repeat (first | apply Kd.R_alloc | apply Kd.R_drewN | apply Kd.R_drew)); exact HO152.out) (Kd.R_base ho0) hb)
      have n4_ := Aside0.mk (Kd.R_lower (Kd.R_new' (Kd.R_new' (Kd.R_new' (Kd.R_new' ho0 (Kd.R_lt (by (with_reducible repeat (first | apply Kd.R_alloc | apply Kd.R_drewN | apply Kd.R_drew)); exact HO_119002.out))) (Kd.R_lt (by (with_reducible repeat (first | apply Kd.R_alloc | apply Kd.R_drewN | apply Kd.R_drew)); exact HO_125002.out))) (Kd.R_lt (by (with_reducible repeat (first | apply Kd.R_alloc | apply Kd.R_drewN | apply Kd.R_drew)); exact HO_135002.out))) (Kd.R_lt (by (with_reducible repeat (first | apply Kd.R_alloc | apply Kd.R_drewN | apply Kd.R_drew)); exact HO152.out))) (below_size (by repeat (first | (with_reducible first | exact HB.out | apply below_alloc | apply pw_below_drewN | apply below_drew1 | refine below_set ?_ GE101.out | refine below_set ?_ GE102.out | refine below_set ?_ GE118.out | refine below_set ?_ GE124.out | refine below_set ?_ GE134.out | refine below_set ?_ GE162.out) | exact HB.out))))
      have n5_ := Aside0.mk (blk_below (g := gb101) (o := .cells #[.int .i64 a0_0, .int .i64 a0_1, .slice A0_2 l0_2.length c0_2] 26 (0, 0)) (by (with_reducible repeat (first | refine blk_drewN ?_ _ | refine blk_drew ?_ | refine blk_alloc ?_ _)); exact BK101.out) hb)
      have n6_ := Aside0.mk (blk_below (g := gb102) (o := .cells #[.int .i64 a1_0, .int .i64 a1_1, .int .i64 a1_2] 28 (0, 0)) (by (with_reducible repeat (first | refine blk_drewN ?_ _ | refine blk_drew ?_ | refine blk_alloc ?_ _)); exact BK102.out) hb)
      have n7_ := Aside0.mk (blk_below (g := gb118) (o := .cells #[.int .i64 t112, .int .i64 t113, .slice Ao31 t114.length co31] 33 (0, 0)) (by (with_reducible repeat (first | refine blk_drewN ?_ _ | refine blk_drew ?_ | refine blk_alloc ?_ _)); exact BK118.out) hb)
      have n8_ := Aside0.mk (blk_below (g := gb124) (o := .cells #[.int .i64 t119, .int .i64 t120, .slice Ao41 t143.length co41] 33 (0, 0)) (by (with_reducible repeat (first | refine blk_drewN ?_ _ | refine blk_drew ?_ | refine blk_alloc ?_ _)); exact BK124.out) hb)
      have n9_ := Aside0.mk (blk_below (g := gb134) (o := .cells #[.int .i64 t128, .int .i64 t129, .slice Ao50 t130.length co50] 33 (0, 0)) (by (with_reducible repeat (first | refine blk_drewN ?_ _ | refine blk_drew ?_ | refine blk_alloc ?_ _)); exact BK134.out) hb)
      have n10_ := Aside0.mk (blk_below (g := gb162) (o := .cells #[.int .i64 0, .int .i64 0, .slice none 0 0] 33 (0, 0)) (by (with_reducible repeat (first | refine blk_drewN ?_ _ | refine blk_drew ?_ | refine blk_alloc ?_ _)); exact BK162.out) hb)
      have n11_ := Aside0.mk (below_step (by repeat (first | (with_reducible first | exact HB.out | apply below_alloc | apply pw_below_drewN | apply below_drew1 | refine below_set ?_ GE101.out | refine below_set ?_ GE102.out | refine below_set ?_ GE118.out | refine below_set ?_ GE124.out | refine below_set ?_ GE134.out | refine below_set ?_ GE162.out) | exact HB.out)) hb)
      clear HO_119002
      clear HO_125002
      clear HO_135002
      clear HO152
      clear BK101
      clear BK102
      clear BK118
      clear BK124
      clear BK134
      clear BK162
      clear HB
      have HO_119002 := n0_
      have HO_125002 := n1_
      have HO_135002 := n2_
      have HO152 := n3_
      have HO160 := n4_
      have BK101 := n5_
      have BK102 := n6_
      have BK118 := n7_
      have BK124 := n8_
      have BK134 := n9_
      have BK162 := n10_
      have HB := n11_
      clear n0_ n1_ n2_ n3_ n4_ n5_ n6_ n7_ n8_ n9_ n10_ n11_
      (try clear hb)
      (try clear hb2)
      (try clear hk)
      (try clear hi)
      (try clear ho0)
      refine hK.out _ _ ⟨(blk_cell BK101.out 0).trans rfl, (blk_cell BK101.out 1).trans rfl, (blk_cell BK101.out 2).trans rfl, (blk_cell BK102.out 0).trans rfl, (blk_cell BK102.out 1).trans rfl, (blk_cell BK102.out 2).trans rfl⟩ (fun hHeld => ?_)
      clear hK K
      refine norm_ (a' := ?_) ?_ ?_
      rotate_left
      ·show Act.put _ (some 84) _ = _
       simp only [Act.put, List.setIfInBounds_toArray, List.set_cons_zero, List.set_cons_succ, i64_w, i32_w]
       rfl
      refine pure_ (i := 5) (N := some 79) (v := ?_) (a' := ?_) #[true, true, true, true, true, true, false, false, true, false, false] rfl rfl (any_of HT_.out (by kernel_rfl)) (fun _ _ _ h => h) (Or.inl ⟨by rfl, ?_⟩) ?_ ?_
      rotate_left
      ·intro w'
       go_simp
       with_reducible rfl
      rotate_left
      ·simp only [Act.put, List.setIfInBounds_toArray, List.set_cons_zero, List.set_cons_succ, i64_w, i32_w]
       rfl
      refine pure_ (i := 6) (N := some 85) (v := ?_) (a' := ?_) #[true, true, true, true, true, true, true, false, true, false, false] rfl rfl (any_of HT_.out (by kernel_rfl)) (fun _ _ _ h => h) (Or.inl ⟨by rfl, ?_⟩) ?_ ?_
      rotate_left
      ·intro w'
       go_simp
       with_reducible rfl
      rotate_left
      ·simp only [Act.put, List.setIfInBounds_toArray, List.set_cons_zero, List.set_cons_succ, i64_w, i32_w]
       rfl
      refine pure_ (i := 7) (N := some 86) (v := ?_) (a' := ?_) #[true, true, true, true, true, true, true, true, true, false, false] rfl rfl (any_of HT_.out (by kernel_rfl)) (fun _ _ _ h => h) (Or.inl ⟨by rfl, ?_⟩) ?_ ?_
      rotate_left
      ·intro w'
       go_simp
       with_reducible rfl
      rotate_left
      ·simp only [Act.put, List.setIfInBounds_toArray, List.set_cons_zero, List.set_cons_succ, i64_w, i32_w]
       rfl
      exact norm_ (by simp only [putAll, Act.put, List.setIfInBounds_toArray, List.set_cons_zero, List.set_cons_succ]) (hCont (.slice Ao142 t150.length co142, v159, gb162) _ ⟨hHeld, (by (with_reducible repeat (first | apply Kd.R_alloc | apply Kd.R_drewN | apply Kd.R_drew)); exact Kd.R_mono HO152.out (fun _ hk => ⟨hk.2, ⟨hk.1.1.1.2, ⟨hk.1.1.2, hk.1.2⟩⟩⟩)), (by (with_reducible repeat (first | apply Kd.R_alloc | apply Kd.R_drewN | apply Kd.R_drew)); exact Kd.R_mono HO160.out (fun _ hk => ⟨hk.2, ⟨hk.1.1.1.2, ⟨hk.1.1.2, hk.1.2⟩⟩⟩)), (by (with_reducible repeat (first | apply Kd.R_alloc | apply Kd.R_drewN | apply Kd.R_drew)); exact Kd.R_mono HO_119002.out (fun _ hk => ⟨hk.1.2, ⟨hk.2, ⟨hk.1.1.1, hk.1.1.2⟩⟩⟩)), (by (with_reducible repeat (first | apply Kd.R_alloc | apply Kd.R_drewN | apply Kd.R_drew)); exact Kd.R_mono HO_125002.out (fun _ hk => ⟨hk.1.2, ⟨hk.2, ⟨hk.1.1.1, hk.1.1.2⟩⟩⟩)), (by (with_reducible repeat (first | apply Kd.R_alloc | apply Kd.R_drewN | apply Kd.R_drew)); exact Kd.R_mono HO_135002.out (fun _ hk => ⟨hk.1.2, ⟨hk.2, ⟨hk.1.1.1, hk.1.1.2⟩⟩⟩)), (by (with_reducible repeat (first | refine blk_drewN ?_ _ | refine blk_drew ?_ | refine blk_alloc ?_ _)); exact BK101.out), (by (with_reducible repeat (first | refine blk_drewN ?_ _ | refine blk_drew ?_ | refine blk_alloc ?_ _)); exact BK102.out), (by (with_reducible repeat (first | refine blk_drewN ?_ _ | refine blk_drew ?_ | refine blk_alloc ?_ _)); exact BK118.out), (by (with_reducible repeat (first | refine blk_drewN ?_ _ | refine blk_drew ?_ | refine blk_alloc ?_ _)); exact BK124.out), (by (with_reducible repeat (first | refine blk_drewN ?_ _ | refine blk_drew ?_ | refine blk_alloc ?_ _)); exact BK134.out), (by (with_reducible repeat (first | refine blk_drewN ?_ _ | refine blk_drew ?_ | refine blk_alloc ?_ _)); exact BK162.out), GW162.out, GE162.out, NB101_162.out, NB162_101.out, NB102_162.out, NB162_102.out, NB118_162.out, NB162_118.out, NB124_162.out, NB162_124.out, NB134_162.out, NB162_134.out, (by repeat (first | (with_reducible first | exact HB.out | apply below_alloc | apply pw_below_drewN | apply below_drew1 | refine below_set ?_ GE101.out | refine below_set ?_ GE102.out | refine below_set ?_ GE118.out | refine below_set ?_ GE124.out | refine below_set ?_ GE134.out | refine below_set ?_ GE162.out) | exact HB.out))⟩)
    ·skip
     refine box_step ?hg (N := 14) ?hd (cs := #[.int .i64 0, .int .i64 0, .slice none 0 0]) (t := 33) ?hr ?_; (case hd => rfl); (case hg => rfl); (case hr => first | (go_simp; done) | (go_simp; rfl))
     intro gb162 hg w139 hbox hb
     have n0_ := Aside0.mk (Kd.R_below (by (with_reducible repeat (first | apply Kd.R_alloc | apply Kd.R_drewN | apply Kd.R_drew)); exact HO_119002.out) hb)
     have n1_ := Aside0.mk (Kd.R_below (by (with_reducible repeat (first | apply Kd.R_alloc | apply Kd.R_drewN | apply Kd.R_drew)); exact HO_125002.out) hb)
     have n2_ := Aside0.mk (Kd.R_below (by (with_reducible repeat (first | apply Kd.R_alloc | apply Kd.R_drewN | apply Kd.R_drew)); exact HO_135002.out) hb)
     have n3_ := Aside0.mk (blk_below (g := gb101) (o := .cells #[.int .i64 a0_0, .int .i64 a0_1, .slice A0_2 l0_2.length c0_2] 26 (0, 0)) (by (with_reducible repeat (first | refine blk_drewN ?_ _ | refine blk_drew ?_ | refine blk_alloc ?_ _)); exact BK101.out) hb)
     have n4_ := Aside0.mk (blk_below (g := gb102) (o := .cells #[.int .i64 a1_0, .int .i64 a1_1, .int .i64 a1_2] 28 (0, 0)) (by (with_reducible repeat (first | refine blk_drewN ?_ _ | refine blk_drew ?_ | refine blk_alloc ?_ _)); exact BK102.out) hb)
     have n5_ := Aside0.mk (blk_below (g := gb118) (o := .cells #[.int .i64 t112, .int .i64 t113, .slice Ao31 t114.length co31] 33 (0, 0)) (by (with_reducible repeat (first | refine blk_drewN ?_ _ | refine blk_drew ?_ | refine blk_alloc ?_ _)); exact BK118.out) hb)
     have n6_ := Aside0.mk (blk_below (g := gb124) (o := .cells #[.int .i64 t119, .int .i64 t120, .slice Ao41 t143.length co41] 33 (0, 0)) (by (with_reducible repeat (first | refine blk_drewN ?_ _ | refine blk_drew ?_ | refine blk_alloc ?_ _)); exact BK124.out) hb)
     have n7_ := Aside0.mk (blk_below (g := gb134) (o := .cells #[.int .i64 t128, .int .i64 t129, .slice Ao50 t130.length co50] 33 (0, 0)) (by (with_reducible repeat (first | refine blk_drewN ?_ _ | refine blk_drew ?_ | refine blk_alloc ?_ _)); exact BK134.out) hb)
     have n8_ := Aside0.mk (below_step (by repeat (first | (with_reducible first | exact HB.out | apply below_alloc | apply pw_below_drewN | apply below_drew1 | refine below_set ?_ GE101.out | refine below_set ?_ GE102.out | refine below_set ?_ GE118.out | refine below_set ?_ GE124.out | refine below_set ?_ GE134.out) | exact HB.out)) hb)
     have n9_ := Aside0.mk (hbox)
     have n10_ := Aside0.mk ((by rw [hg]; exact (below_size (by repeat (first | (with_reducible first | exact HB.out | apply below_alloc | apply pw_below_drewN | apply below_drew1 | refine below_set ?_ GE101.out | refine below_set ?_ GE102.out | refine below_set ?_ GE118.out | refine below_set ?_ GE124.out | refine below_set ?_ GE134.out) | exact HB.out))) : w.heap.size ≤ gb162))
     have n11_ := Aside0.mk ((by rw [hg]; exact (below_size (by repeat (first | (with_reducible first | exact HB.out | apply below_alloc | apply pw_below_drewN | apply below_drew1 | refine below_set ?_ GE101.out | refine below_set ?_ GE102.out | refine below_set ?_ GE118.out | refine below_set ?_ GE124.out | refine below_set ?_ GE134.out) | exact HB.out))) : w.heap.size ≤ gb162))
     have n12_ := Aside0.mk ((by rw [hg]; exact Nat.ne_of_lt (blk_lt (g := gb101) (o := .cells #[.int .i64 a0_0, .int .i64 a0_1, .slice A0_2 l0_2.length c0_2] 26 (0, 0)) (by (with_reducible repeat (first | refine blk_drewN ?_ _ | refine blk_drew ?_ | refine blk_alloc ?_ _)); exact BK101.out)) : gb101 ≠ gb162))
     have n13_ := Aside0.mk ((by rw [hg]; exact Nat.ne_of_gt (blk_lt (g := gb101) (o := .cells #[.int .i64 a0_0, .int .i64 a0_1, .slice A0_2 l0_2.length c0_2] 26 (0, 0)) (by (with_reducible repeat (first | refine blk_drewN ?_ _ | refine blk_drew ?_ | refine blk_alloc ?_ _)); exact BK101.out)) : gb162 ≠ gb101))
     have n14_ := Aside0.mk ((by rw [hg]; exact Nat.ne_of_lt (blk_lt (g := gb102) (o := .cells #[.int .i64 a1_0, .int .i64 a1_1, .int .i64 a1_2] 28 (0, 0)) (by (with_reducible repeat (first | refine blk_drewN ?_ _ | refine blk_drew ?_ | refine blk_alloc ?_ _)); exact BK102.out)) : gb102 ≠ gb162))
     have n15_ := Aside0.mk ((by rw [hg]; exact Nat.ne_of_gt (blk_lt (g := gb102) (o := .cells #[.int .i64 a1_0, .int .i64 a1_1, .int .i64 a1_2] 28 (0, 0)) (by (with_reducible repeat (first | refine blk_drewN ?_ _ | refine blk_drew ?_ | refine blk_alloc ?_ _)); exact BK102.out)) : gb162 ≠ gb102))
     have n16_ := Aside0.mk ((by rw [hg]; exact Nat.ne_of_lt (blk_lt (g := gb118) (o := .cells #[.int .i64 t112, .int .i64 t113, .slice Ao31 t114.length co31] 33 (0, 0)) (by (with_reducible repeat (first | refine blk_drewN ?_ _ | refine blk_drew ?_ | refine blk_alloc ?_ _)); exact BK118.out)) : gb118 ≠ gb162))
     have n17_ := Aside0.mk ((by rw [hg]; exact Nat.ne_of_gt (blk_lt (g := gb118) (o := .cells #[.int .i64 t112, .int .i64 t113, .slice Ao31 t114.length co31] 33 (0, 0)) (by (with_reducible repeat (first | refine blk_drewN ?_ _ | refine blk_drew ?_ | refine blk_alloc ?_ _)); exact BK118.out)) : gb162 ≠ gb118))
     have n18_ := Aside0.mk ((by rw [hg]; exact Nat.ne_of_lt (blk_lt (g := gb124) (o := .cells #[.int .i64 t119, .int .i64 t120, .slice Ao41 t143.length co41] 33 (0, 0)) (by (with_reducible repeat (first | refine blk_drewN ?_ _ | refine blk_drew ?_ | refine blk_alloc ?_ _)); exact BK124.out)) : gb124 ≠ gb162))
     have n19_ := Aside0.mk ((by rw [hg]; exact Nat.ne_of_gt (blk_lt (g := gb124) (o := .cells #[.int .i64 t119, .int .i64 t120, .slice Ao41 t143.length co41] 33 (0, 0)) (by (with_reducible repeat (first | refine blk_drewN ?_ _ | refine blk_drew ?_ | refine blk_alloc ?_ _)); exact BK124.out)) : gb162 ≠ gb124))
     have n20_ := Aside0.mk ((by rw [hg]; exact Nat.ne_of_lt (blk_lt (g := gb134) (o := .cells #[.int .i64 t128, .int .i64 t129, .slice Ao50 t130.length co50] 33 (0, 0)) (by (with_reducible repeat (first | refine blk_drewN ?_ _ | refine blk_drew ?_ | refine blk_alloc ?_ _)); exact BK134.out)) : gb134 ≠ gb162))
     have n21_ := Aside0.mk ((by rw [hg]; exact Nat.ne_of_gt (blk_lt (g := gb134) (o := .cells #[.int .i64 t128, .int .i64 t129, .slice Ao50 t130.length co50] 33 (0, 0)) (by (with_reducible repeat (first | refine blk_drewN ?_ _ | refine blk_drew ?_ | refine blk_alloc ?_ _)); exact BK134.out)) : gb162 ≠ gb134))
     clear HO_119002
     clear HO_125002
     clear HO_135002
     clear BK101
     clear BK102
     clear BK118
     clear BK124
     clear BK134
     clear HB
     have HO_119002 := n0_
     have HO_125002 := n1_
     have HO_135002 := n2_
     have BK101 := n3_
     have BK102 := n4_
     have BK118 := n5_
     have BK124 := n6_
     have BK134 := n7_
     have HB := n8_
     have BK162 := n9_
     have GW162 := n10_
     have GE162 := n11_
     have NB101_162 := n12_
     have NB162_101 := n13_
     have NB102_162 := n14_
     have NB162_102 := n15_
     have NB118_162 := n16_
     have NB162_118 := n17_
     have NB124_162 := n18_
     have NB162_124 := n19_
     have NB134_162 := n20_
     have NB162_134 := n21_
     clear n0_ n1_ n2_ n3_ n4_ n5_ n6_ n7_ n8_ n9_ n10_ n11_ n12_ n13_ n14_ n15_ n16_ n17_ n18_ n19_ n20_ n21_
     clear hb hbox hg
     refine hK.out _ _ ⟨(blk_cell BK101.out 0).trans rfl, (blk_cell BK101.out 1).trans rfl, (blk_cell BK101.out 2).trans rfl, (blk_cell BK102.out 0).trans rfl, (blk_cell BK102.out 1).trans rfl, (blk_cell BK102.out 2).trans rfl⟩ (fun hHeld => ?_)
     clear hK K
     refine norm_ (a' := ?_) ?_ ?_
     rotate_left
     ·show Act.put _ (some 14) _ = _
      simp only [Act.put, List.setIfInBounds_toArray, List.set_cons_zero, List.set_cons_succ, i64_w, i32_w]
      rfl
     refine one_ (i := 1) (N := some 81) #[true, true, true, false, false, false, false, false, true, false, false] rfl rfl (one_of HT_.out (by kernel_rfl)) (by decide) (fun K hK => ?_)
     refine goes_ Try.func8 (by kernel_rfl) rfl #[.agg #[.int .i64 a0_0, .int .i64 a0_1, .slice A0_2 l0_2.length c0_2]] (by rfl) rfl rfl (by (try simp only [List.map_toArray, List.map_cons, List.map_nil]); first | done | rfl | (simp only [List.length_drop, List.length_take]; rfl)) ?_
     with_reducible refine (laws_toPuzzle.calls kj78 a0_0 a0_1 _ _ l0_2 t148 t149 t150 _ ?side1 ?side2 A126.out).mono ?_
     (case side1 => repeat (first | exact (Kd.C_below HR0_2.out HB.out) | (with_reducible refine Kd.C_alloc ?_ _) | (with_reducible refine Kd.C_drewN ?_ _) | (with_reducible refine Kd.C_drew ?_)))
     (case side2 => exact HC0_2.out)
     rintro e w140 ⟨v151, rfl, ho0, hb⟩
     refine ⟨_, rfl, ?_⟩
     have n0_ := Aside0.mk (Kd.R_elder' (by (with_reducible repeat (first | apply Kd.R_alloc | apply Kd.R_drewN | apply Kd.R_drew)); exact HO_119002.out) (Kd.R_base ho0) hb)
     have n1_ := Aside0.mk (Kd.R_elder' (by (with_reducible repeat (first | apply Kd.R_alloc | apply Kd.R_drewN | apply Kd.R_drew)); exact HO_125002.out) (Kd.R_base ho0) hb)
     have n2_ := Aside0.mk (Kd.R_elder' (by (with_reducible repeat (first | apply Kd.R_alloc | apply Kd.R_drewN | apply Kd.R_drew)); exact HO_135002.out) (Kd.R_base ho0) hb)
     have n3_ := Aside0.mk (Kd.R_lower (Kd.R_new' (Kd.R_new' (Kd.R_new' ho0 (Kd.R_lt (by (with_reducible repeat (first | apply Kd.R_alloc | apply Kd.R_drewN | apply Kd.R_drew)); exact HO_119002.out))) (Kd.R_lt (by (with_reducible repeat (first | apply Kd.R_alloc | apply Kd.R_drewN | apply Kd.R_drew)); exact HO_125002.out))) (Kd.R_lt (by (with_reducible repeat (first | apply Kd.R_alloc | apply Kd.R_drewN | apply Kd.R_drew)); exact HO_135002.out))) (below_size (by repeat (first | (with_reducible first | exact HB.out | apply below_alloc | apply pw_below_drewN | apply below_drew1 | refine below_set ?_ GE101.out | refine below_set ?_ GE102.out | refine below_set ?_ GE118.out | refine below_set ?_ GE124.out | refine below_set ?_ GE134.out | refine below_set ?_ GE162.out) | exact HB.out))))
     have n4_ := Aside0.mk (blk_below (g := gb101) (o := .cells #[.int .i64 a0_0, .int .i64 a0_1, .slice A0_2 l0_2.length c0_2] 26 (0, 0)) (by (with_reducible repeat (first | refine blk_drewN ?_ _ | refine blk_drew ?_ | refine blk_alloc ?_ _)); exact BK101.out) hb)
     have n5_ := Aside0.mk (blk_below (g := gb102) (o := .cells #[.int .i64 a1_0, .int .i64 a1_1, .int .i64 a1_2] 28 (0, 0)) (by (with_reducible repeat (first | refine blk_drewN ?_ _ | refine blk_drew ?_ | refine blk_alloc ?_ _)); exact BK102.out) hb)
     have n6_ := Aside0.mk (blk_below (g := gb118) (o := .cells #[.int .i64 t112, .int .i64 t113, .slice Ao31 t114.length co31] 33 (0, 0)) (by (with_reducible repeat (first | refine blk_drewN ?_ _ | refine blk_drew ?_ | refine blk_alloc ?_ _)); exact BK118.out) hb)
     have n7_ := Aside0.mk (blk_below (g := gb124) (o := .cells #[.int .i64 t119, .int .i64 t120, .slice Ao41 t143.length co41] 33 (0, 0)) (by (with_reducible repeat (first | refine blk_drewN ?_ _ | refine blk_drew ?_ | refine blk_alloc ?_ _)); exact BK124.out) hb)
     have n8_ := Aside0.mk (blk_below (g := gb134) (o := .cells #[.int .i64 t128, .int .i64 t129, .slice Ao50 t130.length co50] 33 (0, 0)) (by (with_reducible repeat (first | refine blk_drewN ?_ _ | refine blk_drew ?_ | refine blk_alloc ?_ _)); exact BK134.out) hb)
     have n9_ := Aside0.mk (blk_below (g := gb162) (o := .cells #[.int .i64 0, .int .i64 0, .slice none 0 0] 33 (0, 0)) (by (with_reducible repeat (first | refine blk_drewN ?_ _ | refine blk_drew ?_ | refine blk_alloc ?_ _)); exact BK162.out) hb)
     have n10_ := Aside0.mk (below_step (by repeat (first | (with_reducible first | exact HB.out | apply below_alloc | apply pw_below_drewN | apply below_drew1 | refine below_set ?_ GE101.out | refine below_set ?_ GE102.out | refine below_set ?_ GE118.out | refine below_set ?_ GE124.out | refine below_set ?_ GE134.out | refine below_set ?_ GE162.out) | exact HB.out)) hb)
     clear HO_119002
     clear HO_125002
     clear HO_135002
     clear BK101
     clear BK102
     clear BK118
     clear BK124
     clear BK134
     clear BK162
     clear HB
     have HO_119002 := n0_
     have HO_125002 := n1_
     have HO_135002 := n2_
     have HO152 := n3_
     have BK101 := n4_
     have BK102 := n5_
     have BK118 := n6_
     have BK124 := n7_
     have BK134 := n8_
     have BK162 := n9_
     have HB := n10_
     clear n0_ n1_ n2_ n3_ n4_ n5_ n6_ n7_ n8_ n9_ n10_
     (try clear hb)
     (try clear hb2)
     (try clear hk)
     (try clear hi)
     (try clear ho0)
     refine hK.out _ _ ⟨(blk_cell BK101.out 0).trans rfl, (blk_cell BK101.out 1).trans rfl, (blk_cell BK101.out 2).trans rfl, (blk_cell BK102.out 0).trans rfl, (blk_cell BK102.out 1).trans rfl, (blk_cell BK102.out 2).trans rfl⟩ (fun hHeld => ?_)
     clear hK K
     refine norm_ (a' := ?_) ?_ ?_
     rotate_left
     ·show Act.put _ (some 81) _ = _
      simp only [Act.put, List.setIfInBounds_toArray, List.set_cons_zero, List.set_cons_succ, i64_w, i32_w]
      rfl
     refine one_ (i := 3) (N := some 83) #[true, true, true, true, false, false, false, false, true, false, false] rfl rfl (one_of HT_.out (by kernel_rfl)) (by decide) (fun K hK => ?_)
     refine goes_ Try.func9 (by kernel_rfl) rfl #[.agg #[.int .i64 a1_0, .int .i64 a1_1, .int .i64 a1_2]] (by rfl) rfl rfl (by (try simp only [List.map_toArray, List.map_cons, List.map_nil]); first | done | rfl | (simp only [List.length_drop, List.length_take]; rfl)) ?_
     with_reducible refine (laws_toClue.calls a1_0 a1_1 a1_2 t153 t154 t155 _ A127.out).mono ?_
     rintro e w141 ⟨rfl, hb⟩
     refine ⟨_, rfl, ?_⟩
     have n0_ := Aside0.mk (Kd.R_below (by (with_reducible repeat (first | apply Kd.R_alloc | apply Kd.R_drewN | apply Kd.R_drew)); exact HO_119002.out) hb)
     have n1_ := Aside0.mk (Kd.R_below (by (with_reducible repeat (first | apply Kd.R_alloc | apply Kd.R_drewN | apply Kd.R_drew)); exact HO_125002.out) hb)
     have n2_ := Aside0.mk (Kd.R_below (by (with_reducible repeat (first | apply Kd.R_alloc | apply Kd.R_drewN | apply Kd.R_drew)); exact HO_135002.out) hb)
     have n3_ := Aside0.mk (Kd.R_below (by (with_reducible repeat (first | apply Kd.R_alloc | apply Kd.R_drewN | apply Kd.R_drew)); exact HO152.out) hb)
     have n4_ := Aside0.mk (blk_below (g := gb101) (o := .cells #[.int .i64 a0_0, .int .i64 a0_1, .slice A0_2 l0_2.length c0_2] 26 (0, 0)) (by (with_reducible repeat (first | refine blk_drewN ?_ _ | refine blk_drew ?_ | refine blk_alloc ?_ _)); exact BK101.out) hb)
     have n5_ := Aside0.mk (blk_below (g := gb102) (o := .cells #[.int .i64 a1_0, .int .i64 a1_1, .int .i64 a1_2] 28 (0, 0)) (by (with_reducible repeat (first | refine blk_drewN ?_ _ | refine blk_drew ?_ | refine blk_alloc ?_ _)); exact BK102.out) hb)
     have n6_ := Aside0.mk (blk_below (g := gb118) (o := .cells #[.int .i64 t112, .int .i64 t113, .slice Ao31 t114.length co31] 33 (0, 0)) (by (with_reducible repeat (first | refine blk_drewN ?_ _ | refine blk_drew ?_ | refine blk_alloc ?_ _)); exact BK118.out) hb)
     have n7_ := Aside0.mk (blk_below (g := gb124) (o := .cells #[.int .i64 t119, .int .i64 t120, .slice Ao41 t143.length co41] 33 (0, 0)) (by (with_reducible repeat (first | refine blk_drewN ?_ _ | refine blk_drew ?_ | refine blk_alloc ?_ _)); exact BK124.out) hb)
     have n8_ := Aside0.mk (blk_below (g := gb134) (o := .cells #[.int .i64 t128, .int .i64 t129, .slice Ao50 t130.length co50] 33 (0, 0)) (by (with_reducible repeat (first | refine blk_drewN ?_ _ | refine blk_drew ?_ | refine blk_alloc ?_ _)); exact BK134.out) hb)
     have n9_ := Aside0.mk (blk_below (g := gb162) (o := .cells #[.int .i64 0, .int .i64 0, .slice none 0 0] 33 (0, 0)) (by (with_reducible repeat (first | refine blk_drewN ?_ _ | refine blk_drew ?_ | refine blk_alloc ?_ _)); exact BK162.out) hb)
     have n10_ := Aside0.mk (below_step (by repeat (first | (with_reducible first | exact HB.out | apply below_alloc | apply pw_below_drewN | apply below_drew1 | refine below_set ?_ GE101.out | refine below_set ?_ GE102.out | refine below_set ?_ GE118.out | refine below_set ?_ GE124.out | refine below_set ?_ GE134.out | refine below_set ?_ GE162.out) | exact HB.out)) hb)
     clear HO_119002
     clear HO_125002
     clear HO_135002
     clear HO152
     clear BK101
     clear BK102
     clear BK118
     clear BK124
     clear BK134
     clear BK162
     clear HB
     have HO_119002 := n0_
     have HO_125002 := n1_
     have HO_135002 := n2_
     have HO152 := n3_
     have BK101 := n4_
     have BK102 := n5_
     have BK118 := n6_
     have BK124 := n7_
     have BK134 := n8_
     have BK162 := n9_
     have HB := n10_
     clear n0_ n1_ n2_ n3_ n4_ n5_ n6_ n7_ n8_ n9_ n10_
     (try clear hb)
     (try clear hb2)
     (try clear hk)
     (try clear hi)
     obtain ⟨Ao142, co142, eo142⟩ := Kd.R_slice HO152.out
     (first | subst eo142 | (injection eo142 with f1_ f2_ f3_; have f4_ := f1_.symm; have f5_ := f3_.symm; clear f1_ f2_ f3_; subst f4_; subst f5_))
     refine hK.out _ _ ⟨(blk_cell BK101.out 0).trans rfl, (blk_cell BK101.out 1).trans rfl, (blk_cell BK101.out 2).trans rfl, (blk_cell BK102.out 0).trans rfl, (blk_cell BK102.out 1).trans rfl, (blk_cell BK102.out 2).trans rfl⟩ (fun hHeld => ?_)
     clear hK K
     refine norm_ (a' := ?_) ?_ ?_
     rotate_left
     ·show Act.put _ (some 83) _ = _
      simp only [Act.put, List.setIfInBounds_toArray, List.set_cons_zero, List.set_cons_succ, i64_w, i32_w]
      rfl
     refine one_ (i := 4) (N := some 84) #[true, true, true, true, true, false, false, false, true, false, false] rfl rfl (one_of HT_.out (by kernel_rfl)) (by decide) (fun K hK => ?_)
     refine goes_ Try.func10 (by kernel_rfl) rfl #[.agg #[.int .i64 t148, .int .i64 t149, .slice Ao142 t150.length co142], .agg #[.int .i64 t153, .int .i64 t154, .int .i64 t155]] (by rfl) rfl rfl (by (try simp only [List.map_toArray, List.map_cons, List.map_nil]); first | done | rfl | (simp only [List.length_drop, List.length_take]; rfl)) ?_
     with_reducible refine (impl_AddClue.calls t148 t149 _ _ t150 t153 t154 t155 t156 t157 t158 t161 _ ?side1 ?side2 A128.out).mono ?_
     (case side1 => repeat (first | exact (Kd.R_reads' HO152.out).2.2 | (with_reducible refine Kd.C_alloc ?_ _) | (with_reducible refine Kd.C_drewN ?_ _) | (with_reducible refine Kd.C_drew ?_)))
     (case side2 => exact (Kd.R_reads' HO152.out).2.1)
     rintro e w143 ⟨v159, rfl, ho0, hb⟩
     refine ⟨_, rfl, ?_⟩
     have n0_ := Aside0.mk (Kd.R_elder' (by (with_reducible repeat (first | apply Kd.R_alloc | apply Kd.R_drewN | apply Kd.R_drew)); exact HO_119002.out) (Kd.R_base ho0) hb)
     have n1_ := Aside0.mk (Kd.R_elder' (by (with_reducible repeat (first | apply Kd.R_alloc | apply Kd.R_drewN | apply Kd.R_drew)); exact HO_125002.out) (Kd.R_base ho0) hb)
     have n2_ := Aside0.mk (Kd.R_elder' (by (with_reducible repeat (first | apply Kd.R_alloc | apply Kd.R_drewN | apply Kd.R_drew)); exact HO_135002.out) (Kd.R_base ho0) hb)
     have n3_ := Aside0.mk (Kd.R_elder' (by (with_reducible repeat (first | apply Kd.R_alloc | apply Kd.R_drewN | apply Kd.R_drew)); exact HO152.out) (Kd.R_base ho0) hb)
     have n4_ := Aside0.mk (Kd.R_lower (Kd.R_new' (Kd.R_new' (Kd.R_new' (Kd.R_new' ho0 (Kd.R_lt (by (with_reducible repeat (first | apply Kd.R_alloc | apply Kd.R_drewN | apply Kd.R_drew)); exact HO_119002.out))) (Kd.R_lt (by (with_reducible repeat (first | apply Kd.R_alloc | apply Kd.R_drewN | apply Kd.R_drew)); exact HO_125002.out))) (Kd.R_lt (by (with_reducible repeat (first | apply Kd.R_alloc | apply Kd.R_drewN | apply Kd.R_drew)); exact HO_135002.out))) (Kd.R_lt (by (with_reducible repeat (first | apply Kd.R_alloc | apply Kd.R_drewN | apply Kd.R_drew)); exact HO152.out))) (below_size (by repeat (first | (with_reducible first | exact HB.out | apply below_alloc | apply pw_below_drewN | apply below_drew1 | refine below_set ?_ GE101.out | refine below_set ?_ GE102.out | refine below_set ?_ GE118.out | refine below_set ?_ GE124.out | refine below_set ?_ GE134.out | refine below_set ?_ GE162.out) | exact HB.out))))
     have n5_ := Aside0.mk (blk_below (g := gb101) (o := .cells #[.int .i64 a0_0, .int .i64 a0_1, .slice A0_2 l0_2.length c0_2] 26 (0, 0)) (by (with_reducible repeat (first | refine blk_drewN ?_ _ | refine blk_drew ?_ | refine blk_alloc ?_ _)); exact BK101.out) hb)
     have n6_ := Aside0.mk (blk_below (g := gb102) (o := .cells #[.int .i64 a1_0, .int .i64 a1_1, .int .i64 a1_2] 28 (0, 0)) (by (with_reducible repeat (first | refine blk_drewN ?_ _ | refine blk_drew ?_ | refine blk_alloc ?_ _)); exact BK102.out) hb)
     have n7_ := Aside0.mk (blk_below (g := gb118) (o := .cells #[.int .i64 t112, .int .i64 t113, .slice Ao31 t114.length co31] 33 (0, 0)) (by (with_reducible repeat (first | refine blk_drewN ?_ _ | refine blk_drew ?_ | refine blk_alloc ?_ _)); exact BK118.out) hb)
     have n8_ := Aside0.mk (blk_below (g := gb124) (o := .cells #[.int .i64 t119, .int .i64 t120, .slice Ao41 t143.length co41] 33 (0, 0)) (by (with_reducible repeat (first | refine blk_drewN ?_ _ | refine blk_drew ?_ | refine blk_alloc ?_ _)); exact BK124.out) hb)
     have n9_ := Aside0.mk (blk_below (g := gb134) (o := .cells #[.int .i64 t128, .int .i64 t129, .slice Ao50 t130.length co50] 33 (0, 0)) (by (with_reducible repeat (first | refine blk_drewN ?_ _ | refine blk_drew ?_ | refine blk_alloc ?_ _)); exact BK134.out) hb)
     have n10_ := Aside0.mk (blk_below (g := gb162) (o := .cells #[.int .i64 0, .int .i64 0, .slice none 0 0] 33 (0, 0)) (by (with_reducible repeat (first | refine blk_drewN ?_ _ | refine blk_drew ?_ | refine blk_alloc ?_ _)); exact BK162.out) hb)
     have n11_ := Aside0.mk (below_step (by repeat (first | (with_reducible first | exact HB.out | apply below_alloc | apply pw_below_drewN | apply below_drew1 | refine below_set ?_ GE101.out | refine below_set ?_ GE102.out | refine below_set ?_ GE118.out | refine below_set ?_ GE124.out | refine below_set ?_ GE134.out | refine below_set ?_ GE162.out) | exact HB.out)) hb)
     clear HO_119002
     clear HO_125002
     clear HO_135002
     clear HO152
     clear BK101
     clear BK102
     clear BK118
     clear BK124
     clear BK134
     clear BK162
     clear HB
     have HO_119002 := n0_
     have HO_125002 := n1_
     have HO_135002 := n2_
     have HO152 := n3_
     have HO160 := n4_
     have BK101 := n5_
     have BK102 := n6_
     have BK118 := n7_
     have BK124 := n8_
     have BK134 := n9_
     have BK162 := n10_
     have HB := n11_
     clear n0_ n1_ n2_ n3_ n4_ n5_ n6_ n7_ n8_ n9_ n10_ n11_
     (try clear hb)
     (try clear hb2)
     (try clear hk)
     (try clear hi)
     (try clear ho0)
     refine hK.out _ _ ⟨(blk_cell BK101.out 0).trans rfl, (blk_cell BK101.out 1).trans rfl, (blk_cell BK101.out 2).trans rfl, (blk_cell BK102.out 0).trans rfl, (blk_cell BK102.out 1).trans rfl, (blk_cell BK102.out 2).trans rfl⟩ (fun hHeld => ?_)
     clear hK K
     refine norm_ (a' := ?_) ?_ ?_
     rotate_left
     ·show Act.put _ (some 84) _ = _
      simp only [Act.put, List.setIfInBounds_toArray, List.set_cons_zero, List.set_cons_succ, i64_w, i32_w]
      rfl
     refine pure_ (i := 5) (N := some 79) (v := ?_) (a' := ?_) #[true, true, true, true, true, true, false, false, true, false, false] rfl rfl (any_of HT_.out (by kernel_rfl)) (fun _ _ _ h => h) (Or.inl ⟨by rfl, ?_⟩) ?_ ?_
     rotate_left
     ·intro w'
      go_simp
      with_reducible rfl
     rotate_left
     ·simp only [Act.put, List.setIfInBounds_toArray, List.set_cons_zero, List.set_cons_succ, i64_w, i32_w]
      rfl
     refine pure_ (i := 6) (N := some 85) (v := ?_) (a' := ?_) #[true, true, true, true, true, true, true, false, true, false, false] rfl rfl (any_of HT_.out (by kernel_rfl)) (fun _ _ _ h => h) (Or.inl ⟨by rfl, ?_⟩) ?_ ?_
     rotate_left
     ·intro w'
      go_simp
      with_reducible rfl
     rotate_left
     ·simp only [Act.put, List.setIfInBounds_toArray, List.set_cons_zero, List.set_cons_succ, i64_w, i32_w]
      rfl
     refine pure_ (i := 7) (N := some 86) (v := ?_) (a' := ?_) #[true, true, true, true, true, true, true, true, true, false, false] rfl rfl (any_of HT_.out (by kernel_rfl)) (fun _ _ _ h => h) (Or.inl ⟨by rfl, ?_⟩) ?_ ?_
     rotate_left
     ·intro w'
      go_simp
      with_reducible rfl
     rotate_left
     ·simp only [Act.put, List.setIfInBounds_toArray, List.set_cons_zero, List.set_cons_succ, i64_w, i32_w]
      rfl
     exact norm_ (by simp only [putAll, Act.put, List.setIfInBounds_toArray, List.set_cons_zero, List.set_cons_succ]) (hCont (.slice Ao142 t150.length co142, v159, gb162) _ ⟨hHeld, (by (with_reducible repeat (first | apply Kd.R_alloc | apply Kd.R_drewN | apply Kd.R_drew)); exact Kd.R_mono HO152.out (fun _ hk => ⟨hk.2, ⟨hk.1.1.1.2, ⟨hk.1.1.2, hk.1.2⟩⟩⟩)), (by (with_reducible repeat (first | apply Kd.R_alloc | apply Kd.R_drewN | apply Kd.R_drew)); exact Kd.R_mono HO160.out (fun _ hk => ⟨hk.2, ⟨hk.1.1.1.2, ⟨hk.1.1.2, hk.1.2⟩⟩⟩)), (by (with_reducible repeat (first | apply Kd.R_alloc | apply Kd.R_drewN | apply Kd.R_drew)); exact Kd.R_mono HO_119002.out (fun _ hk => ⟨hk.1.2, ⟨hk.2, ⟨hk.1.1.1, hk.1.1.2⟩⟩⟩)), (by (with_reducible repeat (first | apply Kd.R_alloc | apply Kd.R_drewN | apply Kd.R_drew)); exact Kd.R_mono HO_125002.out (fun _ hk => ⟨hk.1.2, ⟨hk.2, ⟨hk.1.1.1, hk.1.1.2⟩⟩⟩)), (by (with_reducible repeat (first | apply Kd.R_alloc | apply Kd.R_drewN | apply Kd.R_drew)); exact Kd.R_mono HO_135002.out (fun _ hk => ⟨hk.1.2, ⟨hk.2, ⟨hk.1.1.1, hk.1.1.2⟩⟩⟩)), (by (with_reducible repeat (first | refine blk_drewN ?_ _ | refine blk_drew ?_ | refine blk_alloc ?_ _)); exact BK101.out), (by (with_reducible repeat (first | refine blk_drewN ?_ _ | refine blk_drew ?_ | refine blk_alloc ?_ _)); exact BK102.out), (by (with_reducible repeat (first | refine blk_drewN ?_ _ | refine blk_drew ?_ | refine blk_alloc ?_ _)); exact BK118.out), (by (with_reducible repeat (first | refine blk_drewN ?_ _ | refine blk_drew ?_ | refine blk_alloc ?_ _)); exact BK124.out), (by (with_reducible repeat (first | refine blk_drewN ?_ _ | refine blk_drew ?_ | refine blk_alloc ?_ _)); exact BK134.out), (by (with_reducible repeat (first | refine blk_drewN ?_ _ | refine blk_drew ?_ | refine blk_alloc ?_ _)); exact BK162.out), GW162.out, GE162.out, NB101_162.out, NB162_101.out, NB102_162.out, NB162_102.out, NB118_162.out, NB162_118.out, NB124_162.out, NB162_124.out, NB134_162.out, NB162_134.out, (by repeat (first | (with_reducible first | exact HB.out | apply below_alloc | apply pw_below_drewN | apply below_drew1 | refine below_set ?_ GE101.out | refine below_set ?_ GE102.out | refine below_set ?_ GE118.out | refine below_set ?_ GE124.out | refine below_set ?_ GE134.out | refine below_set ?_ GE162.out) | exact HB.out))⟩)
   rintro ⟨v151, v159, gb162⟩ w144 ⟨hS_, h0_, h1_, h2_, h3_, h4_, h5_, h6_, h7_, h8_, h9_, h10_, h11_, h12_, h13_, h14_, h15_, h16_, h17_, h18_, h19_, h20_, h21_, h22_, h23_⟩
   have n0_ : Aside0 (Kd.R k37 37 w144 w.heap.size (fun k_ => some k_ ≠ (v159 : Value).ownBlock ∧ some k_ ≠ (.slice Ao31 t114.length co31 : Value).ownBlock ∧ some k_ ≠ (.slice Ao41 t143.length co41 : Value).ownBlock ∧ some k_ ≠ (.slice Ao50 t130.length co50 : Value).ownBlock) v151 t150) := ⟨h0_⟩
   have n1_ : Aside0 (Kd.R k37 37 w144 w.heap.size (fun k_ => some k_ ≠ (v151 : Value).ownBlock ∧ some k_ ≠ (.slice Ao31 t114.length co31 : Value).ownBlock ∧ some k_ ≠ (.slice Ao41 t143.length co41 : Value).ownBlock ∧ some k_ ≠ (.slice Ao50 t130.length co50 : Value).ownBlock) v159 t158) := ⟨h1_⟩
   have n2_ : Aside0 (Kd.R k37 37 w144 w.heap.size (fun k_ => some k_ ≠ (v151 : Value).ownBlock ∧ some k_ ≠ (v159 : Value).ownBlock ∧ some k_ ≠ (.slice Ao41 t143.length co41 : Value).ownBlock ∧ some k_ ≠ (.slice Ao50 t130.length co50 : Value).ownBlock) (.slice Ao31 t114.length co31) t114) := ⟨h2_⟩
   have n3_ : Aside0 (Kd.R k37 37 w144 w.heap.size (fun k_ => some k_ ≠ (v151 : Value).ownBlock ∧ some k_ ≠ (v159 : Value).ownBlock ∧ some k_ ≠ (.slice Ao31 t114.length co31 : Value).ownBlock ∧ some k_ ≠ (.slice Ao50 t130.length co50 : Value).ownBlock) (.slice Ao41 t143.length co41) t143) := ⟨h3_⟩
   have n4_ : Aside0 (Kd.R k37 37 w144 w.heap.size (fun k_ => some k_ ≠ (v151 : Value).ownBlock ∧ some k_ ≠ (v159 : Value).ownBlock ∧ some k_ ≠ (.slice Ao31 t114.length co31 : Value).ownBlock ∧ some k_ ≠ (.slice Ao41 t143.length co41 : Value).ownBlock) (.slice Ao50 t130.length co50) t146) := ⟨h4_⟩
   have n5_ : Aside0 (w144.heap[gb101]? = some (.cells #[.int .i64 a0_0, .int .i64 a0_1, .slice A0_2 l0_2.length c0_2] 26 (0, 0))) := ⟨h5_⟩
   have n6_ : Aside0 (w144.heap[gb102]? = some (.cells #[.int .i64 a1_0, .int .i64 a1_1, .int .i64 a1_2] 28 (0, 0))) := ⟨h6_⟩
   have n7_ : Aside0 (w144.heap[gb118]? = some (.cells #[.int .i64 t112, .int .i64 t113, .slice Ao31 t114.length co31] 33 (0, 0))) := ⟨h7_⟩
   have n8_ : Aside0 (w144.heap[gb124]? = some (.cells #[.int .i64 t119, .int .i64 t120, .slice Ao41 t143.length co41] 33 (0, 0))) := ⟨h8_⟩
   have n9_ : Aside0 (w144.heap[gb134]? = some (.cells #[.int .i64 t128, .int .i64 t129, .slice Ao50 t130.length co50] 33 (0, 0))) := ⟨h9_⟩
   have n10_ : Aside0 (w144.heap[gb162]? = some (.cells #[.int .i64 0, .int .i64 0, .slice none 0 0] 33 (0, 0))) := ⟨h10_⟩
   have n11_ : Aside0 (w.heap.size ≤ gb162) := ⟨h11_⟩
   have n12_ : Aside0 (w.heap.size ≤ gb162) := ⟨h12_⟩
   have n13_ : Aside0 (gb101 ≠ gb162) := ⟨h13_⟩
   have n14_ : Aside0 (gb162 ≠ gb101) := ⟨h14_⟩
   have n15_ : Aside0 (gb102 ≠ gb162) := ⟨h15_⟩
   have n16_ : Aside0 (gb162 ≠ gb102) := ⟨h16_⟩
   have n17_ : Aside0 (gb118 ≠ gb162) := ⟨h17_⟩
   have n18_ : Aside0 (gb162 ≠ gb118) := ⟨h18_⟩
   have n19_ : Aside0 (gb124 ≠ gb162) := ⟨h19_⟩
   have n20_ : Aside0 (gb162 ≠ gb124) := ⟨h20_⟩
   have n21_ : Aside0 (gb134 ≠ gb162) := ⟨h21_⟩
   have n22_ : Aside0 (gb162 ≠ gb134) := ⟨h22_⟩
   have n23_ : Aside0 (Below w.heap.size w w144) := ⟨h23_⟩
   clear HO_119002
   clear HO_125002
   clear HO_135002
   clear BK101
   clear BK102
   clear BK118
   clear BK124
   clear BK134
   clear HB
   clear h0_ h1_ h2_ h3_ h4_ h5_ h6_ h7_ h8_ h9_ h10_ h11_ h12_ h13_ h14_ h15_ h16_ h17_ h18_ h19_ h20_ h21_ h22_ h23_
   have HO152 := n0_
   have HO160 := n1_
   have HO_119002 := n2_
   have HO_125002 := n3_
   have HO_135002 := n4_
   have BK101 := n5_
   have BK102 := n6_
   have BK118 := n7_
   have BK124 := n8_
   have BK134 := n9_
   have BK162 := n10_
   have GW162 := n11_
   have GE162 := n12_
   have NB101_162 := n13_
   have NB162_101 := n14_
   have NB102_162 := n15_
   have NB162_102 := n16_
   have NB118_162 := n17_
   have NB162_118 := n18_
   have NB124_162 := n19_
   have NB162_124 := n20_
   have NB134_162 := n21_
   have NB162_134 := n22_
   have HB := n23_
   clear n0_ n1_ n2_ n3_ n4_ n5_ n6_ n7_ n8_ n9_ n10_ n11_ n12_ n13_ n14_ n15_ n16_ n17_ n18_ n19_ n20_ n21_ n22_ n23_
   have hHeld : w144.cell? ⟨gb101, 0, none⟩ = some (.int .i64 a0_0) ∧ w144.cell? ⟨gb101, 1, none⟩ = some (.int .i64 a0_1) ∧ w144.cell? ⟨gb101, 2, none⟩ = some (.slice A0_2 l0_2.length c0_2) ∧ w144.cell? ⟨gb102, 0, none⟩ = some (.int .i64 a1_0) ∧ w144.cell? ⟨gb102, 1, none⟩ = some (.int .i64 a1_1) ∧ w144.cell? ⟨gb102, 2, none⟩ = some (.int .i64 a1_2) := hS_
   obtain ⟨Ao147, co147, eo147⟩ := Kd.R_slice HO160.out
   (first | subst eo147 | (injection eo147 with f1_ f2_ f3_; have f4_ := f1_.symm; have f5_ := f3_.symm; clear f1_ f2_ f3_; subst f4_; subst f5_))
   refine norm_ (a' := ?_) ?_ ?_
   rotate_left
   ·simp only [putAll, Act.put, List.setIfInBounds_toArray, List.set_cons_zero, List.set_cons_succ]
    rfl
   refine one_ (i := 9) (N := none) #[true, true, true, true, true, true, true, true, true, true, false] rfl rfl (one_of HT_.out (by kernel_rfl)) (by decide) (fun K hK => ?_)
   have hs145 : w144.cell? ⟨gb162, 0, none⟩ = some (.int .i64 0) := (blk_cell BK162.out 0).trans rfl
   have hfs145 := blk_frozen BK162.out 0
   have hns145_0 := NB101_162.out
   have hns145_1 := NB102_162.out
   have hns145_2 := NB118_162.out
   have hns145_3 := NB124_162.out
   have hns145_4 := NB134_162.out
   have hms145_0 := NB162_101.out
   have hms145_1 := NB162_102.out
   have hms145_2 := NB162_118.out
   have hms145_3 := NB162_124.out
   have hms145_4 := NB162_134.out
   have hs146 : w144.cell? ⟨gb162, 1, none⟩ = some (.int .i64 0) := (blk_cell BK162.out 1).trans rfl
   have hfs146 := blk_frozen BK162.out 1
   have hns146_0 := NB101_162.out
   have hns146_1 := NB102_162.out
   have hns146_2 := NB118_162.out
   have hns146_3 := NB124_162.out
   have hns146_4 := NB134_162.out
   have hms146_0 := NB162_101.out
   have hms146_1 := NB162_102.out
   have hms146_2 := NB162_118.out
   have hms146_3 := NB162_124.out
   have hms146_4 := NB162_134.out
   have hs148 : w144.cell? ⟨gb162, 2, none⟩ = some (.slice none 0 0) := (blk_cell BK162.out 2).trans rfl
   have hfs148 := blk_frozen BK162.out 2
   have hns148_0 := NB101_162.out
   have hns148_1 := NB102_162.out
   have hns148_2 := NB118_162.out
   have hns148_3 := NB124_162.out
   have hns148_4 := NB134_162.out
   have hms148_0 := NB162_101.out
   have hms148_1 := NB162_102.out
   have hms148_2 := NB162_118.out
   have hms148_3 := NB162_124.out
   have hms148_4 := NB162_134.out
   refine skip_ (w1 := ?_) (by rfl) rfl ?_ ?_
   rotate_left
   ·go_simp
    rfl
   refine hK.out _ _ ⟨((cell_far (p := ⟨gb162, _, none⟩) NB101_162.out _).trans (((cell_far (p := ⟨gb162, _, none⟩) NB101_162.out _).trans (((cell_far (p := ⟨gb162, _, none⟩) NB101_162.out _).trans (hHeld.1)))))), ((cell_far (p := ⟨gb162, _, none⟩) NB101_162.out _).trans (((cell_far (p := ⟨gb162, _, none⟩) NB101_162.out _).trans (((cell_far (p := ⟨gb162, _, none⟩) NB101_162.out _).trans (hHeld.2.1)))))), ((cell_far (p := ⟨gb162, _, none⟩) NB101_162.out _).trans (((cell_far (p := ⟨gb162, _, none⟩) NB101_162.out _).trans (((cell_far (p := ⟨gb162, _, none⟩) NB101_162.out _).trans (hHeld.2.2.1)))))), ((cell_far (p := ⟨gb162, _, none⟩) NB102_162.out _).trans (((cell_far (p := ⟨gb162, _, none⟩) NB102_162.out _).trans (((cell_far (p := ⟨gb162, _, none⟩) NB102_162.out _).trans (hHeld.2.2.2.1)))))), ((cell_far (p := ⟨gb162, _, none⟩) NB102_162.out _).trans (((cell_far (p := ⟨gb162, _, none⟩) NB102_162.out _).trans (((cell_far (p := ⟨gb162, _, none⟩) NB102_162.out _).trans (hHeld.2.2.2.2.1)))))), ((cell_far (p := ⟨gb162, _, none⟩) NB102_162.out _).trans (((cell_far (p := ⟨gb162, _, none⟩) NB102_162.out _).trans (((cell_far (p := ⟨gb162, _, none⟩) NB102_162.out _).trans (hHeld.2.2.2.2.2))))))⟩ (fun hHeld => ?_)
   clear hK K
   refine pure_ (i := 10) (N := some 15) (v := ?_) (a' := ?_) #[true, true, true, true, true, true, true, true, true, true, true] rfl rfl (any_of HT_.out (by kernel_rfl)) (fun _ _ _ h => h) (Or.inl ⟨by rfl, ?_⟩) ?_ ?_
   rotate_left
   ·intro w'
    go_simp
    with_reducible rfl
   rotate_left
   ·simp only [Act.put, List.setIfInBounds_toArray, List.set_cons_zero, List.set_cons_succ, i64_w, i32_w]
    rfl
   refine done_ (done_of HT_.out (by kernel_rfl)) ?_
   go_upto_region 25 with (fail)
   go_cut [95] (fun v95 wc => ∃ (kq : Nat) (x95_128 : Bool), v95 = .bool x95_128 ∧ Aside0 (laws_FnExactAddClue.j2 kq t145 x95_128 t128 t129 t146 = some r) ∧ Aside0 (kq ≤ kj78) ∧ Aside0 (Kd.R k37 37 wc w.heap.size (fun k_ => some k_ ≠ ((.slice Ao41 t143.length co41) : Value).ownBlock ∧ some k_ ≠ ((.slice Ao50 t130.length co50) : Value).ownBlock ∧ some k_ ≠ ((.slice Ao147 t158.length co147) : Value).ownBlock) (.slice Ao31 t114.length co31) t114) ∧ Aside0 (Kd.R k37 37 wc w.heap.size (fun k_ => some k_ ≠ ((.slice Ao31 t114.length co31) : Value).ownBlock ∧ some k_ ≠ ((.slice Ao50 t130.length co50) : Value).ownBlock ∧ some k_ ≠ ((.slice Ao147 t158.length co147) : Value).ownBlock) (.slice Ao41 t143.length co41) t143) ∧ Aside0 (Kd.R k37 37 wc w.heap.size (fun k_ => some k_ ≠ ((.slice Ao31 t114.length co31) : Value).ownBlock ∧ some k_ ≠ ((.slice Ao41 t143.length co41) : Value).ownBlock ∧ some k_ ≠ ((.slice Ao147 t158.length co147) : Value).ownBlock) (.slice Ao50 t130.length co50) t146) ∧ Aside0 (Kd.R k37 37 wc w.heap.size (fun k_ => some k_ ≠ ((.slice Ao31 t114.length co31) : Value).ownBlock ∧ some k_ ≠ ((.slice Ao41 t143.length co41) : Value).ownBlock ∧ some k_ ≠ ((.slice Ao50 t130.length co50) : Value).ownBlock) (.slice Ao147 t158.length co147) t158) ∧ Aside0 (wc.heap[gb101]? = some (.cells #[.int .i64 a0_0, .int .i64 a0_1, (.slice A0_2 l0_2.length c0_2)] 26 (0, 0))) ∧ Aside0 (wc.heap[gb102]? = some (.cells #[.int .i64 a1_0, .int .i64 a1_1, .int .i64 a1_2] 28 (0, 0))) ∧ Aside0 (wc.heap[gb118]? = some (.cells #[.int .i64 t112, .int .i64 t113, (.slice Ao31 t114.length co31)] 33 (0, 0))) ∧ Aside0 (wc.heap[gb124]? = some (.cells #[.int .i64 t119, .int .i64 t120, (.slice Ao41 t143.length co41)] 33 (0, 0))) ∧ Aside0 (wc.heap[gb134]? = some (.cells #[.int .i64 t128, .int .i64 t129, (.slice Ao50 t130.length co50)] 33 (0, 0))) ∧ Aside0 (wc.heap[gb162]? = some (.cells #[.int .i64 t156, .int .i64 t157, (.slice Ao147 t158.length co147)] 33 (0, 0))) ∧ Aside0 (Below w.heap.size w wc))
   case first =>
    have H := HC129.out
    clear HC129
    replace H := Option.bind_eq_some_iff.mp H
    obtain ⟨t163, A1490, H⟩ := H
    replace H : (if t163 = true then (laws_FnExactAddClue.j2 kj78 t145 (t161 != t117) t128 t129 t146) else (laws_FnExactAddClue.j2 kj78 t145 true t128 t129 t146)) = some r := H
    have A149 := Aside0.mk A1490
    clear A1490
    by_cases c150 : t163 = true
    ·subst c150
     have H1 : (laws_FnExactAddClue.j2 kj78 t145 (t161 != t117) t128 t129 t146) = some r := by rw [if_pos rfl] at H; exact H
     clear H
     have H := H1
     clear H1
     have H' := Aside0.mk H
     clear H
     have hnb151 := NB162_101.out
     have hnc151 := NB101_162.out
     have hnb152 := NB162_102.out
     have hnc152 := NB102_162.out
     have hnb153 := NB162_118.out
     have hnc153 := NB118_162.out
     have hnb154 := NB162_124.out
     have hnc154 := NB124_162.out
     have hnb155 := NB162_134.out
     have hnc155 := NB134_162.out
     have hcz156_0 : w144.cell? ⟨gb162, 0, none⟩ = some (.int .i64 0) := (blk_cell BK162.out 0).trans rfl
     have hcz156_1 : w144.cell? ⟨gb162, 1, none⟩ = some (.int .i64 0) := (blk_cell BK162.out 1).trans rfl
     have hcz156_2 : w144.cell? ⟨gb162, 2, none⟩ = some (.slice none 0 0) := (blk_cell BK162.out 2).trans rfl
     have hfz156_0 := blk_frozen BK162.out 0
     have hfz156_1 := blk_frozen BK162.out 1
     have hfz156_2 := blk_frozen BK162.out 2
     have hnb157 := NB118_101.out
     have hnc157 := NB101_118.out
     have hnb158 := NB118_102.out
     have hnc158 := NB102_118.out
     have hnb159 := NB118_124.out
     have hnc159 := NB124_118.out
     have hnb160 := NB118_134.out
     have hnc160 := NB134_118.out
     have hcz161_0 : w144.cell? ⟨gb118, 0, none⟩ = some (.int .i64 t112) := (blk_cell BK118.out 0).trans rfl
     have hcz161_1 : w144.cell? ⟨gb118, 1, none⟩ = some (.int .i64 t113) := (blk_cell BK118.out 1).trans rfl
     have hcz161_2 : w144.cell? ⟨gb118, 2, none⟩ = some (.slice Ao31 t114.length co31) := (blk_cell BK118.out 2).trans rfl
     have hfz161_0 := blk_frozen BK118.out 0
     have hfz161_1 := blk_frozen BK118.out 1
     have hfz161_2 := blk_frozen BK118.out 2
     go_wp2_with (first | ((with_reducible refine gate_callee (f := 11) rfl ?_); refine goesL_ (some 89) rfl rfl Try.func11 (by kernel_rfl) rfl #[.agg #[.int .i64 t156, .int .i64 t157, .slice Ao147 t158.length co147], .agg #[.int .i64 t112, .int .i64 t113, .slice Ao31 t114.length co31]] rfl (by (try simp only [List.map_toArray, List.map_cons, List.map_nil]); first | done | rfl | (simp only [List.length_drop, List.length_take]; rfl)) ?_; (with_reducible refine (laws_eqPuzzle.calls kj78 t156 t157 _ _ t158 t112 t113 _ _ t114 true _ ?side1 ?side2 ?side3 ?side4 A149.out).mono ?_); (case side1 => refine (Kd.R_reads' (e := 37) (base := w.heap.size) (ok := fun k_ => (some k_ ≠ (v151 : Value).ownBlock ∧ (some k_ ≠ (.slice Ao31 t114.length co31 : Value).ownBlock ∧ (some k_ ≠ (.slice Ao41 t143.length co41 : Value).ownBlock ∧ some k_ ≠ (.slice Ao50 t130.length co50 : Value).ownBlock)))) (n := t158.length) (c := co147) ?_).2.2; exact (by (with_reducible repeat (first | apply Kd.R_alloc | apply Kd.R_drewN | apply Kd.R_drew)); exact (Kd.R_mono (Kd.R_far (p := ⟨gb162, 2, none⟩) (Kd.R_far (p := ⟨gb162, 1, none⟩) (Kd.R_far (p := ⟨gb162, 0, none⟩) (Kd.R_types HO160.out BK162.out (by decide)) (fun _ hk => hk.2) (.int .i64 t156)) (fun _ hk => hk.2) (.int .i64 t157)) (fun _ hk => hk.2) (.slice Ao147 t158.length co147)) (fun _ h_ => h_.1)))); (case side2 => exact (Kd.R_reads' HO160.out).2.1); (case side3 => refine (Kd.R_reads' (e := 37) (base := w.heap.size) (ok := fun k_ => (some k_ ≠ (v151 : Value).ownBlock ∧ (some k_ ≠ (.slice Ao147 t158.length co147 : Value).ownBlock ∧ (some k_ ≠ (.slice Ao41 t143.length co41 : Value).ownBlock ∧ some k_ ≠ (.slice Ao50 t130.length co50 : Value).ownBlock)))) (n := t114.length) (c := co31) ?_).2.2; exact (by (with_reducible repeat (first | apply Kd.R_alloc | apply Kd.R_drewN | apply Kd.R_drew)); exact (Kd.R_mono (Kd.R_far (p := ⟨gb162, 2, none⟩) (Kd.R_far (p := ⟨gb162, 1, none⟩) (Kd.R_far (p := ⟨gb162, 0, none⟩) (Kd.R_types HO_119002.out BK162.out (by decide)) (fun _ hk => hk.2) (.int .i64 t156)) (fun _ hk => hk.2) (.int .i64 t157)) (fun _ hk => hk.2) (.slice Ao147 t158.length co147)) (fun _ h_ => h_.1)))); (case side4 => exact (Kd.R_reads' HO_119002.out).2.1); rintro e w162 ⟨rfl, hb⟩; refine ⟨_, rfl, ?_⟩; have n0_ := Aside0.mk (Kd.R_below (by (with_reducible repeat (first | apply Kd.R_alloc | apply Kd.R_drewN | apply Kd.R_drew)); exact (Kd.R_mono (Kd.R_far (p := ⟨gb162, 2, none⟩) (Kd.R_far (p := ⟨gb162, 1, none⟩) (Kd.R_far (p := ⟨gb162, 0, none⟩) (Kd.R_types HO_119002.out BK162.out (by decide)) (fun _ hk => hk.2) (.int .i64 t156)) (fun _ hk => hk.2) (.int .i64 t157)) (fun _ hk => hk.2) (.slice Ao147 t158.length co147)) (fun _ h_ => h_.1))) hb); have n1_ := Aside0.mk (Kd.R_below (by (with_reducible repeat (first | apply Kd.R_alloc | apply Kd.R_drewN | apply Kd.R_drew)); exact (Kd.R_mono (Kd.R_far (p := ⟨gb162, 2, none⟩) (Kd.R_far (p := ⟨gb162, 1, none⟩) (Kd.R_far (p := ⟨gb162, 0, none⟩) (Kd.R_types HO_125002.out BK162.out (by decide)) (fun _ hk => hk.2) (.int .i64 t156)) (fun _ hk => hk.2) (.int .i64 t157)) (fun _ hk => hk.2) (.slice Ao147 t158.length co147)) (fun _ h_ => h_.1))) hb); have n2_ := Aside0.mk (Kd.R_below (by (with_reducible repeat (first | apply Kd.R_alloc | apply Kd.R_drewN | apply Kd.R_drew)); exact (Kd.R_mono (Kd.R_far (p := ⟨gb162, 2, none⟩) (Kd.R_far (p := ⟨gb162, 1, none⟩) (Kd.R_far (p := ⟨gb162, 0, none⟩) (Kd.R_types HO_135002.out BK162.out (by decide)) (fun _ hk => hk.2) (.int .i64 t156)) (fun _ hk => hk.2) (.int .i64 t157)) (fun _ hk => hk.2) (.slice Ao147 t158.length co147)) (fun _ h_ => h_.1))) hb); have n3_ := Aside0.mk (Kd.R_below (by (with_reducible repeat (first | apply Kd.R_alloc | apply Kd.R_drewN | apply Kd.R_drew)); exact (Kd.R_mono (Kd.R_far (p := ⟨gb162, 2, none⟩) (Kd.R_far (p := ⟨gb162, 1, none⟩) (Kd.R_far (p := ⟨gb162, 0, none⟩) (Kd.R_types HO152.out BK162.out (by decide)) (fun _ hk => hk.2) (.int .i64 t156)) (fun _ hk => hk.2) (.int .i64 t157)) (fun _ hk => hk.2) (.slice Ao147 t158.length co147)) (fun _ h_ => h_.1))) hb); have n4_ := Aside0.mk (Kd.R_below (by (with_reducible repeat (first | apply Kd.R_alloc | apply Kd.R_drewN | apply Kd.R_drew)); exact (Kd.R_mono (Kd.R_far (p := ⟨gb162, 2, none⟩) (Kd.R_far (p := ⟨gb162, 1, none⟩) (Kd.R_far (p := ⟨gb162, 0, none⟩) (Kd.R_types HO160.out BK162.out (by decide)) (fun _ hk => hk.2) (.int .i64 t156)) (fun _ hk => hk.2) (.int .i64 t157)) (fun _ hk => hk.2) (.slice Ao147 t158.length co147)) (fun _ h_ => h_.1))) hb); have n5_ := Aside0.mk (blk_below (g := gb101) (o := .cells #[.int .i64 a0_0, .int .i64 a0_1, .slice A0_2 l0_2.length c0_2] 26 (0, 0)) (by (with_reducible repeat (first | refine blk_drewN ?_ _ | refine blk_drew ?_ | refine blk_alloc ?_ _)); refine blk_far ?_ NB101_162.out _; (with_reducible repeat (first | refine blk_drewN ?_ _ | refine blk_drew ?_ | refine blk_alloc ?_ _)); refine blk_far ?_ NB101_162.out _; (with_reducible repeat (first | refine blk_drewN ?_ _ | refine blk_drew ?_ | refine blk_alloc ?_ _)); refine blk_far ?_ NB101_162.out _; (with_reducible repeat (first | refine blk_drewN ?_ _ | refine blk_drew ?_ | refine blk_alloc ?_ _)); exact BK101.out) hb); have n6_ := Aside0.mk (blk_below (g := gb102) (o := .cells #[.int .i64 a1_0, .int .i64 a1_1, .int .i64 a1_2] 28 (0, 0)) (by (with_reducible repeat (first | refine blk_drewN ?_ _ | refine blk_drew ?_ | refine blk_alloc ?_ _)); refine blk_far ?_ NB102_162.out _; (with_reducible repeat (first | refine blk_drewN ?_ _ | refine blk_drew ?_ | refine blk_alloc ?_ _)); refine blk_far ?_ NB102_162.out _; (with_reducible repeat (first | refine blk_drewN ?_ _ | refine blk_drew ?_ | refine blk_alloc ?_ _)); refine blk_far ?_ NB102_162.out _; (with_reducible repeat (first | refine blk_drewN ?_ _ | refine blk_drew ?_ | refine blk_alloc ?_ _)); exact BK102.out) hb); have n7_ := Aside0.mk (blk_below (g := gb118) (o := .cells #[.int .i64 t112, .int .i64 t113, .slice Ao31 t114.length co31] 33 (0, 0)) (by (with_reducible repeat (first | refine blk_drewN ?_ _ | refine blk_drew ?_ | refine blk_alloc ?_ _)); refine blk_far ?_ NB118_162.out _; (with_reducible repeat (first | refine blk_drewN ?_ _ | refine blk_drew ?_ | refine blk_alloc ?_ _)); refine blk_far ?_ NB118_162.out _; (with_reducible repeat (first | refine blk_drewN ?_ _ | refine blk_drew ?_ | refine blk_alloc ?_ _)); refine blk_far ?_ NB118_162.out _; (with_reducible repeat (first | refine blk_drewN ?_ _ | refine blk_drew ?_ | refine blk_alloc ?_ _)); exact BK118.out) hb); have n8_ := Aside0.mk (blk_below (g := gb124) (o := .cells #[.int .i64 t119, .int .i64 t120, .slice Ao41 t143.length co41] 33 (0, 0)) (by (with_reducible repeat (first | refine blk_drewN ?_ _ | refine blk_drew ?_ | refine blk_alloc ?_ _)); refine blk_far ?_ NB124_162.out _; (with_reducible repeat (first | refine blk_drewN ?_ _ | refine blk_drew ?_ | refine blk_alloc ?_ _)); refine blk_far ?_ NB124_162.out _; (with_reducible repeat (first | refine blk_drewN ?_ _ | refine blk_drew ?_ | refine blk_alloc ?_ _)); refine blk_far ?_ NB124_162.out _; (with_reducible repeat (first | refine blk_drewN ?_ _ | refine blk_drew ?_ | refine blk_alloc ?_ _)); exact BK124.out) hb); have n9_ := Aside0.mk (blk_below (g := gb134) (o := .cells #[.int .i64 t128, .int .i64 t129, .slice Ao50 t130.length co50] 33 (0, 0)) (by (with_reducible repeat (first | refine blk_drewN ?_ _ | refine blk_drew ?_ | refine blk_alloc ?_ _)); refine blk_far ?_ NB134_162.out _; (with_reducible repeat (first | refine blk_drewN ?_ _ | refine blk_drew ?_ | refine blk_alloc ?_ _)); refine blk_far ?_ NB134_162.out _; (with_reducible repeat (first | refine blk_drewN ?_ _ | refine blk_drew ?_ | refine blk_alloc ?_ _)); refine blk_far ?_ NB134_162.out _; (with_reducible repeat (first | refine blk_drewN ?_ _ | refine blk_drew ?_ | refine blk_alloc ?_ _)); exact BK134.out) hb); have n10_ := Aside0.mk (blk_below (g := gb162) (o := .cells #[.int .i64 t156, .int .i64 t157, .slice Ao147 t158.length co147] 33 (0, 0)) (by (with_reducible repeat (first | refine blk_drewN ?_ _ | refine blk_drew ?_ | refine blk_alloc ?_ _)); refine blk_put (cs := #[.int .i64 t156, .int .i64 t157, .slice none 0 0]) ?_ 2 _ rfl; (with_reducible repeat (first | refine blk_drewN ?_ _ | refine blk_drew ?_ | refine blk_alloc ?_ _)); refine blk_put (cs := #[.int .i64 t156, .int .i64 0, .slice none 0 0]) ?_ 1 _ rfl; (with_reducible repeat (first | refine blk_drewN ?_ _ | refine blk_drew ?_ | refine blk_alloc ?_ _)); refine blk_put (cs := #[.int .i64 0, .int .i64 0, .slice none 0 0]) ?_ 0 _ rfl; (with_reducible repeat (first | refine blk_drewN ?_ _ | refine blk_drew ?_ | refine blk_alloc ?_ _)); exact BK162.out) hb); have n11_ := Aside0.mk (below_step (by repeat (first | (with_reducible first | exact HB.out | apply below_alloc | apply pw_below_drewN | apply below_drew1 | refine below_set ?_ GE101.out | refine below_set ?_ GE102.out | refine below_set ?_ GE118.out | refine below_set ?_ GE124.out | refine below_set ?_ GE134.out | refine below_set ?_ GE162.out) | exact HB.out)) hb); clear HO_119002; clear HO_125002; clear HO_135002; clear HO152; clear HO160; clear BK101; clear BK102; clear BK118; clear BK124; clear BK134; clear BK162; clear HB; have HO_119002 := n0_; have HO_125002 := n1_; have HO_135002 := n2_; have HO152 := n3_; have HO160 := n4_; have BK101 := n5_; have BK102 := n6_; have BK118 := n7_; have BK124 := n8_; have BK134 := n9_; have BK162 := n10_; have HB := n11_; clear n0_ n1_ n2_ n3_ n4_ n5_ n6_ n7_ n8_ n9_ n10_ n11_; (try clear hb); (try clear hb2); (try clear hk); (try clear hi)))
     go_meet
     case rel => exact ⟨_, ((t161 != t117)), (by first | rfl | (simp; done) | (simp [*]; done)), H', ⟨by have := HJ15.out; have := HJ78.out; first | omega | exact Nat.le_refl _⟩, ⟨by (try simp only [hl125002_78]); (with_reducible repeat (first | apply Kd.R_alloc | apply Kd.R_drewN | apply Kd.R_drew)); exact Kd.R_mono HO_119002.out (fun _ hk => ⟨hk.2.2.1, ⟨hk.2.2.2, hk.2.1⟩⟩)⟩, ⟨by (try simp only [hl125002_78]); (with_reducible repeat (first | apply Kd.R_alloc | apply Kd.R_drewN | apply Kd.R_drew)); exact Kd.R_mono HO_125002.out (fun _ hk => ⟨hk.2.2.1, ⟨hk.2.2.2, hk.2.1⟩⟩)⟩, ⟨by (try simp only [hl125002_78]); (with_reducible repeat (first | apply Kd.R_alloc | apply Kd.R_drewN | apply Kd.R_drew)); exact Kd.R_mono HO_135002.out (fun _ hk => ⟨hk.2.2.1, ⟨hk.2.2.2, hk.2.1⟩⟩)⟩, ⟨by (try simp only [hl125002_78]); (with_reducible repeat (first | apply Kd.R_alloc | apply Kd.R_drewN | apply Kd.R_drew)); exact Kd.R_mono HO160.out (fun _ hk => ⟨hk.2.1, ⟨hk.2.2.1, hk.2.2.2⟩⟩)⟩, ⟨by (try simp only [hl125002_78]); (with_reducible repeat (first | refine blk_drewN ?_ _ | refine blk_drew ?_ | refine blk_alloc ?_ _)); exact BK101.out⟩, ⟨by (try simp only [hl125002_78]); (with_reducible repeat (first | refine blk_drewN ?_ _ | refine blk_drew ?_ | refine blk_alloc ?_ _)); exact BK102.out⟩, ⟨by (try simp only [hl125002_78]); (with_reducible repeat (first | refine blk_drewN ?_ _ | refine blk_drew ?_ | refine blk_alloc ?_ _)); exact BK118.out⟩, ⟨by (try simp only [hl125002_78]); (with_reducible repeat (first | refine blk_drewN ?_ _ | refine blk_drew ?_ | refine blk_alloc ?_ _)); exact BK124.out⟩, ⟨by (try simp only [hl125002_78]); (with_reducible repeat (first | refine blk_drewN ?_ _ | refine blk_drew ?_ | refine blk_alloc ?_ _)); exact BK134.out⟩, ⟨by (try simp only [hl125002_78]); (with_reducible repeat (first | refine blk_drewN ?_ _ | refine blk_drew ?_ | refine blk_alloc ?_ _)); exact BK162.out⟩, ⟨by repeat (first | (with_reducible first | exact HB.out | apply below_alloc | apply pw_below_drewN | apply below_drew1 | refine below_set ?_ GE101.out | refine below_set ?_ GE102.out | refine below_set ?_ GE118.out | refine below_set ?_ GE124.out | refine below_set ?_ GE134.out | refine below_set ?_ GE162.out) | exact HB.out)⟩⟩
    ·replace c150 := Bool.eq_false_iff.mpr c150
     subst c150
     have H1 : (laws_FnExactAddClue.j2 kj78 t145 true t128 t129 t146) = some r := by rw [if_neg (show ¬ (false = true) by decide)] at H; exact H
     clear H
     have H := H1
     clear H1
     have H' := Aside0.mk H
     clear H
     have hnb163 := NB162_101.out
     have hnc163 := NB101_162.out
     have hnb164 := NB162_102.out
     have hnc164 := NB102_162.out
     have hnb165 := NB162_118.out
     have hnc165 := NB118_162.out
     have hnb166 := NB162_124.out
     have hnc166 := NB124_162.out
     have hnb167 := NB162_134.out
     have hnc167 := NB134_162.out
     have hcz168_0 : w144.cell? ⟨gb162, 0, none⟩ = some (.int .i64 0) := (blk_cell BK162.out 0).trans rfl
     have hcz168_1 : w144.cell? ⟨gb162, 1, none⟩ = some (.int .i64 0) := (blk_cell BK162.out 1).trans rfl
     have hcz168_2 : w144.cell? ⟨gb162, 2, none⟩ = some (.slice none 0 0) := (blk_cell BK162.out 2).trans rfl
     have hfz168_0 := blk_frozen BK162.out 0
     have hfz168_1 := blk_frozen BK162.out 1
     have hfz168_2 := blk_frozen BK162.out 2
     have hnb169 := NB118_101.out
     have hnc169 := NB101_118.out
     have hnb170 := NB118_102.out
     have hnc170 := NB102_118.out
     have hnb171 := NB118_124.out
     have hnc171 := NB124_118.out
     have hnb172 := NB118_134.out
     have hnc172 := NB134_118.out
     have hcz173_0 : w144.cell? ⟨gb118, 0, none⟩ = some (.int .i64 t112) := (blk_cell BK118.out 0).trans rfl
     have hcz173_1 : w144.cell? ⟨gb118, 1, none⟩ = some (.int .i64 t113) := (blk_cell BK118.out 1).trans rfl
     have hcz173_2 : w144.cell? ⟨gb118, 2, none⟩ = some (.slice Ao31 t114.length co31) := (blk_cell BK118.out 2).trans rfl
     have hfz173_0 := blk_frozen BK118.out 0
     have hfz173_1 := blk_frozen BK118.out 1
     have hfz173_2 := blk_frozen BK118.out 2
     go_wp2_with (first | ((with_reducible refine gate_callee (f := 11) rfl ?_); refine goesL_ (some 89) rfl rfl Try.func11 (by kernel_rfl) rfl #[.agg #[.int .i64 t156, .int .i64 t157, .slice Ao147 t158.length co147], .agg #[.int .i64 t112, .int .i64 t113, .slice Ao31 t114.length co31]] rfl (by (try simp only [List.map_toArray, List.map_cons, List.map_nil]); first | done | rfl | (simp only [List.length_drop, List.length_take]; rfl)) ?_; (with_reducible refine (laws_eqPuzzle.calls kj78 t156 t157 _ _ t158 t112 t113 _ _ t114 false _ ?side1 ?side2 ?side3 ?side4 A149.out).mono ?_); (case side1 => refine (Kd.R_reads' (e := 37) (base := w.heap.size) (ok := fun k_ => (some k_ ≠ (v151 : Value).ownBlock ∧ (some k_ ≠ (.slice Ao31 t114.length co31 : Value).ownBlock ∧ (some k_ ≠ (.slice Ao41 t143.length co41 : Value).ownBlock ∧ some k_ ≠ (.slice Ao50 t130.length co50 : Value).ownBlock)))) (n := t158.length) (c := co147) ?_).2.2; exact (by (with_reducible repeat (first | apply Kd.R_alloc | apply Kd.R_drewN | apply Kd.R_drew)); exact (Kd.R_mono (Kd.R_far (p := ⟨gb162, 2, none⟩) (Kd.R_far (p := ⟨gb162, 1, none⟩) (Kd.R_far (p := ⟨gb162, 0, none⟩) (Kd.R_types HO160.out BK162.out (by decide)) (fun _ hk => hk.2) (.int .i64 t156)) (fun _ hk => hk.2) (.int .i64 t157)) (fun _ hk => hk.2) (.slice Ao147 t158.length co147)) (fun _ h_ => h_.1)))); (case side2 => exact (Kd.R_reads' HO160.out).2.1); (case side3 => refine (Kd.R_reads' (e := 37) (base := w.heap.size) (ok := fun k_ => (some k_ ≠ (v151 : Value).ownBlock ∧ (some k_ ≠ (.slice Ao147 t158.length co147 : Value).ownBlock ∧ (some k_ ≠ (.slice Ao41 t143.length co41 : Value).ownBlock ∧ some k_ ≠ (.slice Ao50 t130.length co50 : Value).ownBlock)))) (n := t114.length) (c := co31) ?_).2.2; exact (by (with_reducible repeat (first | apply Kd.R_alloc | apply Kd.R_drewN | apply Kd.R_drew)); exact (Kd.R_mono (Kd.R_far (p := ⟨gb162, 2, none⟩) (Kd.R_far (p := ⟨gb162, 1, none⟩) (Kd.R_far (p := ⟨gb162, 0, none⟩) (Kd.R_types HO_119002.out BK162.out (by decide)) (fun _ hk => hk.2) (.int .i64 t156)) (fun _ hk => hk.2) (.int .i64 t157)) (fun _ hk => hk.2) (.slice Ao147 t158.length co147)) (fun _ h_ => h_.1)))); (case side4 => exact (Kd.R_reads' HO_119002.out).2.1); rintro e w174 ⟨rfl, hb⟩; refine ⟨_, rfl, ?_⟩; have n0_ := Aside0.mk (Kd.R_below (by (with_reducible repeat (first | apply Kd.R_alloc | apply Kd.R_drewN | apply Kd.R_drew)); exact (Kd.R_mono (Kd.R_far (p := ⟨gb162, 2, none⟩) (Kd.R_far (p := ⟨gb162, 1, none⟩) (Kd.R_far (p := ⟨gb162, 0, none⟩) (Kd.R_types HO_119002.out BK162.out (by decide)) (fun _ hk => hk.2) (.int .i64 t156)) (fun _ hk => hk.2) (.int .i64 t157)) (fun _ hk => hk.2) (.slice Ao147 t158.length co147)) (fun _ h_ => h_.1))) hb); have n1_ := Aside0.mk (Kd.R_below (by (with_reducible repeat (first | apply Kd.R_alloc | apply Kd.R_drewN | apply Kd.R_drew)); exact (Kd.R_mono (Kd.R_far (p := ⟨gb162, 2, none⟩) (Kd.R_far (p := ⟨gb162, 1, none⟩) (Kd.R_far (p := ⟨gb162, 0, none⟩) (Kd.R_types HO_125002.out BK162.out (by decide)) (fun _ hk => hk.2) (.int .i64 t156)) (fun _ hk => hk.2) (.int .i64 t157)) (fun _ hk => hk.2) (.slice Ao147 t158.length co147)) (fun _ h_ => h_.1))) hb); have n2_ := Aside0.mk (Kd.R_below (by (with_reducible repeat (first | apply Kd.R_alloc | apply Kd.R_drewN | apply Kd.R_drew)); exact (Kd.R_mono (Kd.R_far (p := ⟨gb162, 2, none⟩) (Kd.R_far (p := ⟨gb162, 1, none⟩) (Kd.R_far (p := ⟨gb162, 0, none⟩) (Kd.R_types HO_135002.out BK162.out (by decide)) (fun _ hk => hk.2) (.int .i64 t156)) (fun _ hk => hk.2) (.int .i64 t157)) (fun _ hk => hk.2) (.slice Ao147 t158.length co147)) (fun _ h_ => h_.1))) hb); have n3_ := Aside0.mk (Kd.R_below (by (with_reducible repeat (first | apply Kd.R_alloc | apply Kd.R_drewN | apply Kd.R_drew)); exact (Kd.R_mono (Kd.R_far (p := ⟨gb162, 2, none⟩) (Kd.R_far (p := ⟨gb162, 1, none⟩) (Kd.R_far (p := ⟨gb162, 0, none⟩) (Kd.R_types HO152.out BK162.out (by decide)) (fun _ hk => hk.2) (.int .i64 t156)) (fun _ hk => hk.2) (.int .i64 t157)) (fun _ hk => hk.2) (.slice Ao147 t158.length co147)) (fun _ h_ => h_.1))) hb); have n4_ := Aside0.mk (Kd.R_below (by (with_reducible repeat (first | apply Kd.R_alloc | apply Kd.R_drewN | apply Kd.R_drew)); exact (Kd.R_mono (Kd.R_far (p := ⟨gb162, 2, none⟩) (Kd.R_far (p := ⟨gb162, 1, none⟩) (Kd.R_far (p := ⟨gb162, 0, none⟩) (Kd.R_types HO160.out BK162.out (by decide)) (fun _ hk => hk.2) (.int .i64 t156)) (fun _ hk => hk.2) (.int .i64 t157)) (fun _ hk => hk.2) (.slice Ao147 t158.length co147)) (fun _ h_ => h_.1))) hb); have n5_ := Aside0.mk (blk_below (g := gb101) (o := .cells #[.int .i64 a0_0, .int .i64 a0_1, .slice A0_2 l0_2.length c0_2] 26 (0, 0)) (by (with_reducible repeat (first | refine blk_drewN ?_ _ | refine blk_drew ?_ | refine blk_alloc ?_ _)); refine blk_far ?_ NB101_162.out _; (with_reducible repeat (first | refine blk_drewN ?_ _ | refine blk_drew ?_ | refine blk_alloc ?_ _)); refine blk_far ?_ NB101_162.out _; (with_reducible repeat (first | refine blk_drewN ?_ _ | refine blk_drew ?_ | refine blk_alloc ?_ _)); refine blk_far ?_ NB101_162.out _; (with_reducible repeat (first | refine blk_drewN ?_ _ | refine blk_drew ?_ | refine blk_alloc ?_ _)); exact BK101.out) hb); have n6_ := Aside0.mk (blk_below (g := gb102) (o := .cells #[.int .i64 a1_0, .int .i64 a1_1, .int .i64 a1_2] 28 (0, 0)) (by (with_reducible repeat (first | refine blk_drewN ?_ _ | refine blk_drew ?_ | refine blk_alloc ?_ _)); refine blk_far ?_ NB102_162.out _; (with_reducible repeat (first | refine blk_drewN ?_ _ | refine blk_drew ?_ | refine blk_alloc ?_ _)); refine blk_far ?_ NB102_162.out _; (with_reducible repeat (first | refine blk_drewN ?_ _ | refine blk_drew ?_ | refine blk_alloc ?_ _)); refine blk_far ?_ NB102_162.out _; (with_reducible repeat (first | refine blk_drewN ?_ _ | refine blk_drew ?_ | refine blk_alloc ?_ _)); exact BK102.out) hb); have n7_ := Aside0.mk (blk_below (g := gb118) (o := .cells #[.int .i64 t112, .int .i64 t113, .slice Ao31 t114.length co31] 33 (0, 0)) (by (with_reducible repeat (first | refine blk_drewN ?_ _ | refine blk_drew ?_ | refine blk_alloc ?_ _)); refine blk_far ?_ NB118_162.out _; (with_reducible repeat (first | refine blk_drewN ?_ _ | refine blk_drew ?_ | refine blk_alloc ?_ _)); refine blk_far ?_ NB118_162.out _; (with_reducible repeat (first | refine blk_drewN ?_ _ | refine blk_drew ?_ | refine blk_alloc ?_ _)); refine blk_far ?_ NB118_162.out _; (with_reducible repeat (first | refine blk_drewN ?_ _ | refine blk_drew ?_ | refine blk_alloc ?_ _)); exact BK118.out) hb); have n8_ := Aside0.mk (blk_below (g := gb124) (o := .cells #[.int .i64 t119, .int .i64 t120, .slice Ao41 t143.length co41] 33 (0, 0)) (by (with_reducible repeat (first | refine blk_drewN ?_ _ | refine blk_drew ?_ | refine blk_alloc ?_ _)); refine blk_far ?_ NB124_162.out _; (with_reducible repeat (first | refine blk_drewN ?_ _ | refine blk_drew ?_ | refine blk_alloc ?_ _)); refine blk_far ?_ NB124_162.out _; (with_reducible repeat (first | refine blk_drewN ?_ _ | refine blk_drew ?_ | refine blk_alloc ?_ _)); refine blk_far ?_ NB124_162.out _; (with_reducible repeat (first | refine blk_drewN ?_ _ | refine blk_drew ?_ | refine blk_alloc ?_ _)); exact BK124.out) hb); have n9_ := Aside0.mk (blk_below (g := gb134) (o := .cells #[.int .i64 t128, .int .i64 t129, .slice Ao50 t130.length co50] 33 (0, 0)) (by (with_reducible repeat (first | refine blk_drewN ?_ _ | refine blk_drew ?_ | refine blk_alloc ?_ _)); refine blk_far ?_ NB134_162.out _; (with_reducible repeat (first | refine blk_drewN ?_ _ | refine blk_drew ?_ | refine blk_alloc ?_ _)); refine blk_far ?_ NB134_162.out _; (with_reducible repeat (first | refine blk_drewN ?_ _ | refine blk_drew ?_ | refine blk_alloc ?_ _)); refine blk_far ?_ NB134_162.out _; (with_reducible repeat (first | refine blk_drewN ?_ _ | refine blk_drew ?_ | refine blk_alloc ?_ _)); exact BK134.out) hb); have n10_ := Aside0.mk (blk_below (g := gb162) (o := .cells #[.int .i64 t156, .int .i64 t157, .slice Ao147 t158.length co147] 33 (0, 0)) (by (with_reducible repeat (first | refine blk_drewN ?_ _ | refine blk_drew ?_ | refine blk_alloc ?_ _)); refine blk_put (cs := #[.int .i64 t156, .int .i64 t157, .slice none 0 0]) ?_ 2 _ rfl; (with_reducible repeat (first | refine blk_drewN ?_ _ | refine blk_drew ?_ | refine blk_alloc ?_ _)); refine blk_put (cs := #[.int .i64 t156, .int .i64 0, .slice none 0 0]) ?_ 1 _ rfl; (with_reducible repeat (first | refine blk_drewN ?_ _ | refine blk_drew ?_ | refine blk_alloc ?_ _)); refine blk_put (cs := #[.int .i64 0, .int .i64 0, .slice none 0 0]) ?_ 0 _ rfl; (with_reducible repeat (first | refine blk_drewN ?_ _ | refine blk_drew ?_ | refine blk_alloc ?_ _)); exact BK162.out) hb); have n11_ := Aside0.mk (below_step (by repeat (first | (with_reducible first | exact HB.out | apply below_alloc | apply pw_below_drewN | apply below_drew1 | refine below_set ?_ GE101.out | refine below_set ?_ GE102.out | refine below_set ?_ GE118.out | refine below_set ?_ GE124.out | refine below_set ?_ GE134.out | refine below_set ?_ GE162.out) | exact HB.out)) hb); clear HO_119002; clear HO_125002; clear HO_135002; clear HO152; clear HO160; clear BK101; clear BK102; clear BK118; clear BK124; clear BK134; clear BK162; clear HB; have HO_119002 := n0_; have HO_125002 := n1_; have HO_135002 := n2_; have HO152 := n3_; have HO160 := n4_; have BK101 := n5_; have BK102 := n6_; have BK118 := n7_; have BK124 := n8_; have BK134 := n9_; have BK162 := n10_; have HB := n11_; clear n0_ n1_ n2_ n3_ n4_ n5_ n6_ n7_ n8_ n9_ n10_ n11_; (try clear hb); (try clear hb2); (try clear hk); (try clear hi)))
     go_meet
     case rel => exact ⟨_, (true), (by first | rfl | (simp; done) | (simp [*]; done)), H', ⟨by have := HJ15.out; have := HJ78.out; first | omega | exact Nat.le_refl _⟩, ⟨by (try simp only [hl125002_78]); (with_reducible repeat (first | apply Kd.R_alloc | apply Kd.R_drewN | apply Kd.R_drew)); exact Kd.R_mono HO_119002.out (fun _ hk => ⟨hk.2.2.1, ⟨hk.2.2.2, hk.2.1⟩⟩)⟩, ⟨by (try simp only [hl125002_78]); (with_reducible repeat (first | apply Kd.R_alloc | apply Kd.R_drewN | apply Kd.R_drew)); exact Kd.R_mono HO_125002.out (fun _ hk => ⟨hk.2.2.1, ⟨hk.2.2.2, hk.2.1⟩⟩)⟩, ⟨by (try simp only [hl125002_78]); (with_reducible repeat (first | apply Kd.R_alloc | apply Kd.R_drewN | apply Kd.R_drew)); exact Kd.R_mono HO_135002.out (fun _ hk => ⟨hk.2.2.1, ⟨hk.2.2.2, hk.2.1⟩⟩)⟩, ⟨by (try simp only [hl125002_78]); (with_reducible repeat (first | apply Kd.R_alloc | apply Kd.R_drewN | apply Kd.R_drew)); exact Kd.R_mono HO160.out (fun _ hk => ⟨hk.2.1, ⟨hk.2.2.1, hk.2.2.2⟩⟩)⟩, ⟨by (try simp only [hl125002_78]); (with_reducible repeat (first | refine blk_drewN ?_ _ | refine blk_drew ?_ | refine blk_alloc ?_ _)); exact BK101.out⟩, ⟨by (try simp only [hl125002_78]); (with_reducible repeat (first | refine blk_drewN ?_ _ | refine blk_drew ?_ | refine blk_alloc ?_ _)); exact BK102.out⟩, ⟨by (try simp only [hl125002_78]); (with_reducible repeat (first | refine blk_drewN ?_ _ | refine blk_drew ?_ | refine blk_alloc ?_ _)); exact BK118.out⟩, ⟨by (try simp only [hl125002_78]); (with_reducible repeat (first | refine blk_drewN ?_ _ | refine blk_drew ?_ | refine blk_alloc ?_ _)); exact BK124.out⟩, ⟨by (try simp only [hl125002_78]); (with_reducible repeat (first | refine blk_drewN ?_ _ | refine blk_drew ?_ | refine blk_alloc ?_ _)); exact BK134.out⟩, ⟨by (try simp only [hl125002_78]); (with_reducible repeat (first | refine blk_drewN ?_ _ | refine blk_drew ?_ | refine blk_alloc ?_ _)); exact BK162.out⟩, ⟨by repeat (first | (with_reducible first | exact HB.out | apply below_alloc | apply pw_below_drewN | apply below_drew1 | refine below_set ?_ GE101.out | refine below_set ?_ GE102.out | refine below_set ?_ GE118.out | refine below_set ?_ GE124.out | refine below_set ?_ GE134.out | refine below_set ?_ GE162.out) | exact HB.out)⟩⟩
   case rest =>
    clear HC129
    try clear c1
    try clear p2
    try clear c8
    try clear c9
    try clear c10
    try clear c11
    try clear c15
    try clear c16
    try clear c17
    try clear c150
    try clear c151
    try clear c152
    try clear c153
    try clear c154
    try clear c155
    try clear c157
    try clear c158
    try clear c159
    try clear c160
    try clear c163
    try clear c164
    try clear c165
    try clear c166
    try clear c167
    try clear c169
    try clear c170
    try clear c171
    try clear c172
    try clear hcz156_0
    try clear hcz156_1
    try clear hcz156_2
    try clear hcz161_0
    try clear hcz161_1
    try clear hcz161_2
    try clear hcz168_0
    try clear hcz168_1
    try clear hcz168_2
    try clear hcz173_0
    try clear hcz173_1
    try clear hcz173_2
    try clear hfz156_0
    try clear hfz156_1
    try clear hfz156_2
    try clear hfz161_0
    try clear hfz161_1
    try clear hfz161_2
    try clear hfz168_0
    try clear hfz168_1
    try clear hfz168_2
    try clear hfz173_0
    try clear hfz173_1
    try clear hfz173_2
    obtain ⟨kq, x95_128, rfl, HA, HJ128, HO_119002, HO_125002, HO_135002, HO_163002, BK101, BK102, BK118, BK124, BK134, BK162, HB⟩ := hcut
    have hl135002_128 := (Kd.R_reads' HO_135002.out).1
    rw [hl135002_128] at HO_135002
    (try simp only [hl135002_128])
    (try simp only [hl135002_128] at BK101)
    (try simp only [hl135002_128] at BK102)
    (try simp only [hl135002_128] at BK118)
    (try simp only [hl135002_128] at BK124)
    (try simp only [hl135002_128] at BK134)
    (try simp only [hl135002_128] at BK162)
    (try simp only [hl135002_128] at HO_119002)
    (try simp only [hl135002_128] at HO_125002)
    (try simp only [hl135002_128] at HO_163002)
    cases kq with
    | zero => exact absurd HA.out (by simp [laws_FnExactAddClue.j2])
    | succ kj128 =>
     have H := HA.out
     clear HA
     simp only [laws_FnExactAddClue.j2] at H
     by_cases c175 : x95_128 = true
     ·subst c175
      have H1 : (some false) = some r := by rw [if_pos rfl] at H; exact H
      clear H
      have H := H1
      clear H1
      obtain rfl := Option.some.inj H
      go_wp2
      go_ret
      exact ⟨by first | rfl | (simp [errW_none, errW_some] <;> rfl) | (simp [*, errW_none, errW_some] <;> rfl), by repeat (first | (with_reducible first | exact HB.out | apply below_alloc | apply pw_below_drewN | apply below_drew1 | refine below_set ?_ GE101.out | refine below_set ?_ GE102.out | refine below_set ?_ GE118.out | refine below_set ?_ GE124.out | refine below_set ?_ GE134.out | refine below_set ?_ GE162.out) | exact HB.out)⟩
     ·replace c175 := Bool.eq_false_iff.mpr c175
      subst c175
      have H1 : ((laws_heldPuzzle.f kj128 t128 t129 t146 1).bind fun t164 => (if t164 < 0 then (some false) else (if t164 = t145 then (some true) else (some false)))) = some r := by rw [if_neg (show ¬ (false = true) by decide)] at H; exact H
      clear H
      have H := H1
      clear H1
      replace H := Option.bind_eq_some_iff.mp H
      obtain ⟨t164, A1760, H⟩ := H
      replace H : (if t164 < 0 then (some false) else (if t164 = t145 then (some true) else (some false))) = some r := H
      have A176 := Aside0.mk A1760
      clear A1760
      by_cases c177 : t164 < 0
      ·rw [if_pos c177] at H
       have c177b0 : decide (t164 < 0) = true := decide_eq_true c177
       clear c177
       obtain rfl := Option.some.inj H
       have hnb178 := NB134_101.out
       have hnc178 := NB101_134.out
       have hnb179 := NB134_102.out
       have hnc179 := NB102_134.out
       have hnb180 := NB134_118.out
       have hnc180 := NB118_134.out
       have hnb181 := NB134_124.out
       have hnc181 := NB124_134.out
       have hnb182 := NB134_162.out
       have hnc182 := NB162_134.out
       have hcz183_0 : wc.cell? ⟨gb134, 0, none⟩ = some (.int .i64 t128) := (blk_cell BK134.out 0).trans rfl
       have hcz183_1 : wc.cell? ⟨gb134, 1, none⟩ = some (.int .i64 t129) := (blk_cell BK134.out 1).trans rfl
       have hcz183_2 : wc.cell? ⟨gb134, 2, none⟩ = some (.slice Ao50 t146.length co50) := (blk_cell BK134.out 2).trans rfl
       have hfz183_0 := blk_frozen BK134.out 0
       have hfz183_1 := blk_frozen BK134.out 1
       have hfz183_2 := blk_frozen BK134.out 2
       go_wp2_with (first | ((with_reducible refine gate_callee (f := 13) rfl ?_); refine goesL_ (some 98) rfl rfl Try.func13 (by kernel_rfl) rfl #[.agg #[.int .i64 t128, .int .i64 t129, .slice Ao50 t146.length co50], .int .i64 1] rfl (by (try simp only [List.map_toArray, List.map_cons, List.map_nil]); first | done | rfl | (simp only [List.length_drop, List.length_take]; rfl)) ?_; (with_reducible refine (laws_heldPuzzle.calls kj128 t128 t129 _ _ t146 1 t164 _ ?side1 ?side2 A176.out).mono ?_); (case side1 => repeat (first | exact (Kd.R_reads' HO_135002.out).2.2 | (with_reducible refine Kd.C_alloc ?_ _) | (with_reducible refine Kd.C_drewN ?_ _) | (with_reducible refine Kd.C_drew ?_))); (case side2 => exact (Kd.R_reads' HO_135002.out).2.1); rintro e w184 ⟨rfl, hb⟩; refine ⟨_, rfl, ?_⟩; have n0_ := Aside0.mk (Kd.R_below (by (with_reducible repeat (first | apply Kd.R_alloc | apply Kd.R_drewN | apply Kd.R_drew)); exact HO_119002.out) hb); have n1_ := Aside0.mk (Kd.R_below (by (with_reducible repeat (first | apply Kd.R_alloc | apply Kd.R_drewN | apply Kd.R_drew)); exact HO_125002.out) hb); have n2_ := Aside0.mk (Kd.R_below (by (with_reducible repeat (first | apply Kd.R_alloc | apply Kd.R_drewN | apply Kd.R_drew)); exact HO_135002.out) hb); have n3_ := Aside0.mk (Kd.R_below (by (with_reducible repeat (first | apply Kd.R_alloc | apply Kd.R_drewN | apply Kd.R_drew)); exact HO_163002.out) hb); have n4_ := Aside0.mk (blk_below (g := gb101) (o := .cells #[.int .i64 a0_0, .int .i64 a0_1, .slice A0_2 l0_2.length c0_2] 26 (0, 0)) (by (with_reducible repeat (first | refine blk_drewN ?_ _ | refine blk_drew ?_ | refine blk_alloc ?_ _)); exact BK101.out) hb); have n5_ := Aside0.mk (blk_below (g := gb102) (o := .cells #[.int .i64 a1_0, .int .i64 a1_1, .int .i64 a1_2] 28 (0, 0)) (by (with_reducible repeat (first | refine blk_drewN ?_ _ | refine blk_drew ?_ | refine blk_alloc ?_ _)); exact BK102.out) hb); have n6_ := Aside0.mk (blk_below (g := gb118) (o := .cells #[.int .i64 t112, .int .i64 t113, .slice Ao31 t114.length co31] 33 (0, 0)) (by (with_reducible repeat (first | refine blk_drewN ?_ _ | refine blk_drew ?_ | refine blk_alloc ?_ _)); exact BK118.out) hb); have n7_ := Aside0.mk (blk_below (g := gb124) (o := .cells #[.int .i64 t119, .int .i64 t120, .slice Ao41 t143.length co41] 33 (0, 0)) (by (with_reducible repeat (first | refine blk_drewN ?_ _ | refine blk_drew ?_ | refine blk_alloc ?_ _)); exact BK124.out) hb); have n8_ := Aside0.mk (blk_below (g := gb134) (o := .cells #[.int .i64 t128, .int .i64 t129, .slice Ao50 t146.length co50] 33 (0, 0)) (by (with_reducible repeat (first | refine blk_drewN ?_ _ | refine blk_drew ?_ | refine blk_alloc ?_ _)); exact BK134.out) hb); have n9_ := Aside0.mk (blk_below (g := gb162) (o := .cells #[.int .i64 t156, .int .i64 t157, .slice Ao147 t158.length co147] 33 (0, 0)) (by (with_reducible repeat (first | refine blk_drewN ?_ _ | refine blk_drew ?_ | refine blk_alloc ?_ _)); exact BK162.out) hb); have n10_ := Aside0.mk (below_step (by repeat (first | (with_reducible first | exact HB.out | apply below_alloc | apply pw_below_drewN | apply below_drew1 | refine below_set ?_ GE101.out | refine below_set ?_ GE102.out | refine below_set ?_ GE118.out | refine below_set ?_ GE124.out | refine below_set ?_ GE134.out | refine below_set ?_ GE162.out) | exact HB.out)) hb); clear HO_119002; clear HO_125002; clear HO_135002; clear HO_163002; clear BK101; clear BK102; clear BK118; clear BK124; clear BK134; clear BK162; clear HB; have HO_119002 := n0_; have HO_125002 := n1_; have HO_135002 := n2_; have HO_163002 := n3_; have BK101 := n4_; have BK102 := n5_; have BK118 := n6_; have BK124 := n7_; have BK134 := n8_; have BK162 := n9_; have HB := n10_; clear n0_ n1_ n2_ n3_ n4_ n5_ n6_ n7_ n8_ n9_ n10_; (try clear hb); (try clear hb2); (try clear hk); (try clear hi)))
       go_ret
       exact ⟨by first | rfl | (simp [errW_none, errW_some] <;> rfl) | (simp [*, errW_none, errW_some] <;> rfl), by repeat (first | (with_reducible first | exact HB.out | apply below_alloc | apply pw_below_drewN | apply below_drew1 | refine below_set ?_ GE101.out | refine below_set ?_ GE102.out | refine below_set ?_ GE118.out | refine below_set ?_ GE124.out | refine below_set ?_ GE134.out | refine below_set ?_ GE162.out) | exact HB.out)⟩
      ·rw [if_neg c177] at H
       have c177b0 : decide (t164 < 0) = false := decide_eq_false c177
       clear c177
       by_cases c185 : t164 = t145
       ·rw [if_pos c185] at H
        have c185b0 : (t164 == t145) = true := beq_iff_eq.mpr c185
        have c185b1 : (t164 != t145) = false := bne_eq_false_iff_eq.mpr c185
        clear c185
        obtain rfl := Option.some.inj H
        have hnb186 := NB134_101.out
        have hnc186 := NB101_134.out
        have hnb187 := NB134_102.out
        have hnc187 := NB102_134.out
        have hnb188 := NB134_118.out
        have hnc188 := NB118_134.out
        have hnb189 := NB134_124.out
        have hnc189 := NB124_134.out
        have hnb190 := NB134_162.out
        have hnc190 := NB162_134.out
        have hcz191_0 : wc.cell? ⟨gb134, 0, none⟩ = some (.int .i64 t128) := (blk_cell BK134.out 0).trans rfl
        have hcz191_1 : wc.cell? ⟨gb134, 1, none⟩ = some (.int .i64 t129) := (blk_cell BK134.out 1).trans rfl
        have hcz191_2 : wc.cell? ⟨gb134, 2, none⟩ = some (.slice Ao50 t146.length co50) := (blk_cell BK134.out 2).trans rfl
        have hfz191_0 := blk_frozen BK134.out 0
        have hfz191_1 := blk_frozen BK134.out 1
        have hfz191_2 := blk_frozen BK134.out 2
        go_wp2_with (first | ((with_reducible refine gate_callee (f := 13) rfl ?_); refine goesL_ (some 98) rfl rfl Try.func13 (by kernel_rfl) rfl #[.agg #[.int .i64 t128, .int .i64 t129, .slice Ao50 t146.length co50], .int .i64 1] rfl (by (try simp only [List.map_toArray, List.map_cons, List.map_nil]); first | done | rfl | (simp only [List.length_drop, List.length_take]; rfl)) ?_; (with_reducible refine (laws_heldPuzzle.calls kj128 t128 t129 _ _ t146 1 t164 _ ?side1 ?side2 A176.out).mono ?_); (case side1 => repeat (first | exact (Kd.R_reads' HO_135002.out).2.2 | (with_reducible refine Kd.C_alloc ?_ _) | (with_reducible refine Kd.C_drewN ?_ _) | (with_reducible refine Kd.C_drew ?_))); (case side2 => exact (Kd.R_reads' HO_135002.out).2.1); rintro e w192 ⟨rfl, hb⟩; refine ⟨_, rfl, ?_⟩; have n0_ := Aside0.mk (Kd.R_below (by (with_reducible repeat (first | apply Kd.R_alloc | apply Kd.R_drewN | apply Kd.R_drew)); exact HO_119002.out) hb); have n1_ := Aside0.mk (Kd.R_below (by (with_reducible repeat (first | apply Kd.R_alloc | apply Kd.R_drewN | apply Kd.R_drew)); exact HO_125002.out) hb); have n2_ := Aside0.mk (Kd.R_below (by (with_reducible repeat (first | apply Kd.R_alloc | apply Kd.R_drewN | apply Kd.R_drew)); exact HO_135002.out) hb); have n3_ := Aside0.mk (Kd.R_below (by (with_reducible repeat (first | apply Kd.R_alloc | apply Kd.R_drewN | apply Kd.R_drew)); exact HO_163002.out) hb); have n4_ := Aside0.mk (blk_below (g := gb101) (o := .cells #[.int .i64 a0_0, .int .i64 a0_1, .slice A0_2 l0_2.length c0_2] 26 (0, 0)) (by (with_reducible repeat (first | refine blk_drewN ?_ _ | refine blk_drew ?_ | refine blk_alloc ?_ _)); exact BK101.out) hb); have n5_ := Aside0.mk (blk_below (g := gb102) (o := .cells #[.int .i64 a1_0, .int .i64 a1_1, .int .i64 a1_2] 28 (0, 0)) (by (with_reducible repeat (first | refine blk_drewN ?_ _ | refine blk_drew ?_ | refine blk_alloc ?_ _)); exact BK102.out) hb); have n6_ := Aside0.mk (blk_below (g := gb118) (o := .cells #[.int .i64 t112, .int .i64 t113, .slice Ao31 t114.length co31] 33 (0, 0)) (by (with_reducible repeat (first | refine blk_drewN ?_ _ | refine blk_drew ?_ | refine blk_alloc ?_ _)); exact BK118.out) hb); have n7_ := Aside0.mk (blk_below (g := gb124) (o := .cells #[.int .i64 t119, .int .i64 t120, .slice Ao41 t143.length co41] 33 (0, 0)) (by (with_reducible repeat (first | refine blk_drewN ?_ _ | refine blk_drew ?_ | refine blk_alloc ?_ _)); exact BK124.out) hb); have n8_ := Aside0.mk (blk_below (g := gb134) (o := .cells #[.int .i64 t128, .int .i64 t129, .slice Ao50 t146.length co50] 33 (0, 0)) (by (with_reducible repeat (first | refine blk_drewN ?_ _ | refine blk_drew ?_ | refine blk_alloc ?_ _)); exact BK134.out) hb); have n9_ := Aside0.mk (blk_below (g := gb162) (o := .cells #[.int .i64 t156, .int .i64 t157, .slice Ao147 t158.length co147] 33 (0, 0)) (by (with_reducible repeat (first | refine blk_drewN ?_ _ | refine blk_drew ?_ | refine blk_alloc ?_ _)); exact BK162.out) hb); have n10_ := Aside0.mk (below_step (by repeat (first | (with_reducible first | exact HB.out | apply below_alloc | apply pw_below_drewN | apply below_drew1 | refine below_set ?_ GE101.out | refine below_set ?_ GE102.out | refine below_set ?_ GE118.out | refine below_set ?_ GE124.out | refine below_set ?_ GE134.out | refine below_set ?_ GE162.out) | exact HB.out)) hb); clear HO_119002; clear HO_125002; clear HO_135002; clear HO_163002; clear BK101; clear BK102; clear BK118; clear BK124; clear BK134; clear BK162; clear HB; have HO_119002 := n0_; have HO_125002 := n1_; have HO_135002 := n2_; have HO_163002 := n3_; have BK101 := n4_; have BK102 := n5_; have BK118 := n6_; have BK124 := n7_; have BK134 := n8_; have BK162 := n9_; have HB := n10_; clear n0_ n1_ n2_ n3_ n4_ n5_ n6_ n7_ n8_ n9_ n10_; (try clear hb); (try clear hb2); (try clear hk); (try clear hi)))
        go_ret
        exact ⟨by first | rfl | (simp [errW_none, errW_some] <;> rfl) | (simp [*, errW_none, errW_some] <;> rfl), by repeat (first | (with_reducible first | exact HB.out | apply below_alloc | apply pw_below_drewN | apply below_drew1 | refine below_set ?_ GE101.out | refine below_set ?_ GE102.out | refine below_set ?_ GE118.out | refine below_set ?_ GE124.out | refine below_set ?_ GE134.out | refine below_set ?_ GE162.out) | exact HB.out)⟩
       ·rw [if_neg c185] at H
        have c185b0 : (t164 == t145) = false := beq_eq_false_iff_ne.mpr c185
        have c185b1 : (t164 != t145) = true := bne_iff_ne.mpr c185
        obtain rfl := Option.some.inj H
        have hnb193 := NB134_101.out
        have hnc193 := NB101_134.out
        have hnb194 := NB134_102.out
        have hnc194 := NB102_134.out
        have hnb195 := NB134_118.out
        have hnc195 := NB118_134.out
        have hnb196 := NB134_124.out
        have hnc196 := NB124_134.out
        have hnb197 := NB134_162.out
        have hnc197 := NB162_134.out
        have hcz198_0 : wc.cell? ⟨gb134, 0, none⟩ = some (.int .i64 t128) := (blk_cell BK134.out 0).trans rfl
        have hcz198_1 : wc.cell? ⟨gb134, 1, none⟩ = some (.int .i64 t129) := (blk_cell BK134.out 1).trans rfl
        have hcz198_2 : wc.cell? ⟨gb134, 2, none⟩ = some (.slice Ao50 t146.length co50) := (blk_cell BK134.out 2).trans rfl
        have hfz198_0 := blk_frozen BK134.out 0
        have hfz198_1 := blk_frozen BK134.out 1
        have hfz198_2 := blk_frozen BK134.out 2
        go_wp2_with (first | ((with_reducible refine gate_callee (f := 13) rfl ?_); refine goesL_ (some 98) rfl rfl Try.func13 (by kernel_rfl) rfl #[.agg #[.int .i64 t128, .int .i64 t129, .slice Ao50 t146.length co50], .int .i64 1] rfl (by (try simp only [List.map_toArray, List.map_cons, List.map_nil]); first | done | rfl | (simp only [List.length_drop, List.length_take]; rfl)) ?_; (with_reducible refine (laws_heldPuzzle.calls kj128 t128 t129 _ _ t146 1 t164 _ ?side1 ?side2 A176.out).mono ?_); (case side1 => repeat (first | exact (Kd.R_reads' HO_135002.out).2.2 | (with_reducible refine Kd.C_alloc ?_ _) | (with_reducible refine Kd.C_drewN ?_ _) | (with_reducible refine Kd.C_drew ?_))); (case side2 => exact (Kd.R_reads' HO_135002.out).2.1); rintro e w199 ⟨rfl, hb⟩; refine ⟨_, rfl, ?_⟩; have n0_ := Aside0.mk (Kd.R_below (by (with_reducible repeat (first | apply Kd.R_alloc | apply Kd.R_drewN | apply Kd.R_drew)); exact HO_119002.out) hb); have n1_ := Aside0.mk (Kd.R_below (by (with_reducible repeat (first | apply Kd.R_alloc | apply Kd.R_drewN | apply Kd.R_drew)); exact HO_125002.out) hb); have n2_ := Aside0.mk (Kd.R_below (by (with_reducible repeat (first | apply Kd.R_alloc | apply Kd.R_drewN | apply Kd.R_drew)); exact HO_135002.out) hb); have n3_ := Aside0.mk (Kd.R_below (by (with_reducible repeat (first | apply Kd.R_alloc | apply Kd.R_drewN | apply Kd.R_drew)); exact HO_163002.out) hb); have n4_ := Aside0.mk (blk_below (g := gb101) (o := .cells #[.int .i64 a0_0, .int .i64 a0_1, .slice A0_2 l0_2.length c0_2] 26 (0, 0)) (by (with_reducible repeat (first | refine blk_drewN ?_ _ | refine blk_drew ?_ | refine blk_alloc ?_ _)); exact BK101.out) hb); have n5_ := Aside0.mk (blk_below (g := gb102) (o := .cells #[.int .i64 a1_0, .int .i64 a1_1, .int .i64 a1_2] 28 (0, 0)) (by (with_reducible repeat (first | refine blk_drewN ?_ _ | refine blk_drew ?_ | refine blk_alloc ?_ _)); exact BK102.out) hb); have n6_ := Aside0.mk (blk_below (g := gb118) (o := .cells #[.int .i64 t112, .int .i64 t113, .slice Ao31 t114.length co31] 33 (0, 0)) (by (with_reducible repeat (first | refine blk_drewN ?_ _ | refine blk_drew ?_ | refine blk_alloc ?_ _)); exact BK118.out) hb); have n7_ := Aside0.mk (blk_below (g := gb124) (o := .cells #[.int .i64 t119, .int .i64 t120, .slice Ao41 t143.length co41] 33 (0, 0)) (by (with_reducible repeat (first | refine blk_drewN ?_ _ | refine blk_drew ?_ | refine blk_alloc ?_ _)); exact BK124.out) hb); have n8_ := Aside0.mk (blk_below (g := gb134) (o := .cells #[.int .i64 t128, .int .i64 t129, .slice Ao50 t146.length co50] 33 (0, 0)) (by (with_reducible repeat (first | refine blk_drewN ?_ _ | refine blk_drew ?_ | refine blk_alloc ?_ _)); exact BK134.out) hb); have n9_ := Aside0.mk (blk_below (g := gb162) (o := .cells #[.int .i64 t156, .int .i64 t157, .slice Ao147 t158.length co147] 33 (0, 0)) (by (with_reducible repeat (first | refine blk_drewN ?_ _ | refine blk_drew ?_ | refine blk_alloc ?_ _)); exact BK162.out) hb); have n10_ := Aside0.mk (below_step (by repeat (first | (with_reducible first | exact HB.out | apply below_alloc | apply pw_below_drewN | apply below_drew1 | refine below_set ?_ GE101.out | refine below_set ?_ GE102.out | refine below_set ?_ GE118.out | refine below_set ?_ GE124.out | refine below_set ?_ GE134.out | refine below_set ?_ GE162.out) | exact HB.out)) hb); clear HO_119002; clear HO_125002; clear HO_135002; clear HO_163002; clear BK101; clear BK102; clear BK118; clear BK124; clear BK134; clear BK162; clear HB; have HO_119002 := n0_; have HO_125002 := n1_; have HO_135002 := n2_; have HO_163002 := n3_; have BK101 := n4_; have BK102 := n5_; have BK118 := n6_; have BK124 := n7_; have BK134 := n8_; have BK162 := n9_; have HB := n10_; clear n0_ n1_ n2_ n3_ n4_ n5_ n6_ n7_ n8_ n9_ n10_; (try clear hb); (try clear hb2); (try clear hk); (try clear hi)))
        go_ret
        exact ⟨by first | rfl | (simp [errW_none, errW_some] <;> rfl) | (simp [*, errW_none, errW_some] <;> rfl), by repeat (first | (with_reducible first | exact HB.out | apply below_alloc | apply pw_below_drewN | apply below_drew1 | refine below_set ?_ GE101.out | refine below_set ?_ GE102.out | refine below_set ?_ GE118.out | refine below_set ?_ GE124.out | refine below_set ?_ GE134.out | refine below_set ?_ GE162.out) | exact HB.out)⟩
  ·rw [if_neg c125] at H
   have c125b0 : (t147 == t145) = false := beq_eq_false_iff_ne.mpr c125
   have c125b1 : (t147 != t145) = true := bne_iff_ne.mpr c125
   obtain rfl := Option.some.inj H
   have hnb200 := NB134_101.out
   have hnc200 := NB101_134.out
   have hnb201 := NB134_102.out
   have hnc201 := NB102_134.out
   have hnb202 := NB134_118.out
   have hnc202 := NB118_134.out
   have hnb203 := NB134_124.out
   have hnc203 := NB124_134.out
   have hcz204_0 : wc.cell? ⟨gb134, 0, none⟩ = some (.int .i64 t128) := (blk_cell BK134.out 0).trans rfl
   have hcz204_1 : wc.cell? ⟨gb134, 1, none⟩ = some (.int .i64 t129) := (blk_cell BK134.out 1).trans rfl
   have hcz204_2 : wc.cell? ⟨gb134, 2, none⟩ = some (.slice Ao50 t130.length co50) := (blk_cell BK134.out 2).trans rfl
   have hfz204_0 := blk_frozen BK134.out 0
   have hfz204_1 := blk_frozen BK134.out 1
   have hfz204_2 := blk_frozen BK134.out 2
   go_wp2_with (first | ((with_reducible refine gate_callee (f := 12) rfl ?_); refine goesL_ (some 70) rfl rfl Try.func12 (by kernel_rfl) rfl #[.agg #[.int .i64 t128, .int .i64 t129, .slice Ao50 t130.length co50], .int .i64 1] rfl (by (try simp only [List.map_toArray, List.map_cons, List.map_nil]); first | done | rfl | (simp only [List.length_drop, List.length_take]; rfl)) ?_; (with_reducible refine (laws_markPuzzle.calls kj78 t128 t129 (fun k_ => some k_ = (.slice Ao50 t130.length co50 : Value).ownBlock) (.slice Ao50 t130.length co50) t130 1 t145 t146 w _ ?side1 ?side2 A114.out).mono ?_); (case side1 => repeat (first | (with_reducible first | exact HB.out | apply below_alloc | apply pw_below_drewN | apply below_drew1 | refine below_set ?_ GE101.out | refine below_set ?_ GE102.out | refine below_set ?_ GE118.out | refine below_set ?_ GE124.out | refine below_set ?_ GE134.out) | exact HB.out)); (case side2 => exact Kd.R_tight rfl HO_135002.out); rintro e w205 ⟨rfl, hy0, hb, hkp⟩; refine ⟨_, rfl, ?_⟩; have n0_ := Aside0.mk (Kd.R_mono (ok' := fun k_ => some k_ ≠ (.slice Ao41 t143.length co41 : Value).ownBlock ∧ some k_ ≠ (.slice Ao50 t130.length co50 : Value).ownBlock) (Kd.R_keptB (HO_119002.out) hkp (fun k_ hk_ hs_ => (hk_.2) hs_)) (fun k_ hk_ => ⟨hk_.1.1, hk_.1.2⟩)); have n1_ := Aside0.mk (Kd.R_mono (ok' := fun k_ => some k_ ≠ (.slice Ao31 t114.length co31 : Value).ownBlock ∧ some k_ ≠ (.slice Ao50 t130.length co50 : Value).ownBlock) (Kd.R_keptB (HO_125002.out) hkp (fun k_ hk_ hs_ => (hk_.2) hs_)) (fun k_ hk_ => ⟨hk_.1.1, hk_.1.2⟩)); have n2_ := Aside0.mk (Kd.R_reok rfl hy0 (fun k_ e_ => HO_135002.out.1 k_ e_)); have n3_ := Aside0.mk (blk_kept (by (with_reducible repeat (first | refine blk_drewN ?_ _ | refine blk_drew ?_ | refine blk_alloc ?_ _)); exact BK101.out) hkp (fun hs_ => (fun e_ => (Kd.R_ne HO_135002.out BK101.out (by decide)) e_) hs_)); have n4_ := Aside0.mk (blk_kept (by (with_reducible repeat (first | refine blk_drewN ?_ _ | refine blk_drew ?_ | refine blk_alloc ?_ _)); exact BK102.out) hkp (fun hs_ => (fun e_ => (Kd.R_ne HO_135002.out BK102.out (by decide)) e_) hs_)); have n5_ := Aside0.mk (blk_kept (by (with_reducible repeat (first | refine blk_drewN ?_ _ | refine blk_drew ?_ | refine blk_alloc ?_ _)); exact BK118.out) hkp (fun hs_ => (fun e_ => (Kd.R_ne HO_135002.out BK118.out (by decide)) e_) hs_)); have n6_ := Aside0.mk (blk_kept (by (with_reducible repeat (first | refine blk_drewN ?_ _ | refine blk_drew ?_ | refine blk_alloc ?_ _)); exact BK124.out) hkp (fun hs_ => (fun e_ => (Kd.R_ne HO_135002.out BK124.out (by decide)) e_) hs_)); have n7_ := Aside0.mk (blk_kept (by (with_reducible repeat (first | refine blk_drewN ?_ _ | refine blk_drew ?_ | refine blk_alloc ?_ _)); exact BK134.out) hkp (fun hs_ => (fun e_ => (Kd.R_ne HO_135002.out BK134.out (by decide)) e_) hs_)); have n8_ := Aside0.mk (hb); clear HO_119002; clear HO_125002; clear HO_135002; clear BK101; clear BK102; clear BK118; clear BK124; clear BK134; clear HB; have HO_119002 := n0_; have HO_125002 := n1_; have HO_135002 := n2_; have BK101 := n3_; have BK102 := n4_; have BK118 := n5_; have BK124 := n6_; have BK134 := n7_; have HB := n8_; clear n0_ n1_ n2_ n3_ n4_ n5_ n6_ n7_ n8_; (try clear hb); (try clear hkp); (try clear hy0); have hcz206_0 : w205.cell? ⟨gb134, 0, none⟩ = some (.int .i64 t128) := (blk_cell BK134.out 0).trans rfl; have hcz206_1 : w205.cell? ⟨gb134, 1, none⟩ = some (.int .i64 t129) := (blk_cell BK134.out 1).trans rfl; have hcz206_2 : w205.cell? ⟨gb134, 2, none⟩ = some (.slice Ao50 t130.length co50) := (blk_cell BK134.out 2).trans rfl; have hfz206_0 := blk_frozen BK134.out 0; have hfz206_1 := blk_frozen BK134.out 1; have hfz206_2 := blk_frozen BK134.out 2) | ((with_reducible refine gate_callee (f := 13) rfl ?_); refine goesL_ (some 73) rfl rfl Try.func13 (by kernel_rfl) rfl #[.agg #[.int .i64 t128, .int .i64 t129, .slice Ao50 t146.length co50], .int .i64 1] rfl (by (try simp only [List.map_toArray, List.map_cons, List.map_nil]); first | done | (rw [show t146.length = t130.length from (Kd.R_reads' HO_135002.out).1.symm] <;> rfl) | rfl | (simp only [List.length_drop, List.length_take]; rfl)) ?_; (with_reducible refine (laws_heldPuzzle.calls kj78 t128 t129 _ _ t146 1 t147 _ ?side1 ?side2 A115.out).mono ?_); (case side1 => repeat (first | exact (Kd.R_reads' HO_135002.out).2.2 | (with_reducible refine Kd.C_alloc ?_ _) | (with_reducible refine Kd.C_drewN ?_ _) | (with_reducible refine Kd.C_drew ?_))); (case side2 => rw [show t146.length = t130.length from (Kd.R_reads' HO_135002.out).1.symm]; exact (Kd.R_reads' HO_135002.out).2.1); rintro e w207 ⟨rfl, hb⟩; refine ⟨_, rfl, ?_⟩; have n0_ := Aside0.mk (Kd.R_below (by (with_reducible repeat (first | apply Kd.R_alloc | apply Kd.R_drewN | apply Kd.R_drew)); exact HO_119002.out) hb); have n1_ := Aside0.mk (Kd.R_below (by (with_reducible repeat (first | apply Kd.R_alloc | apply Kd.R_drewN | apply Kd.R_drew)); exact HO_125002.out) hb); have n2_ := Aside0.mk (Kd.R_below (by (with_reducible repeat (first | apply Kd.R_alloc | apply Kd.R_drewN | apply Kd.R_drew)); exact HO_135002.out) hb); have n3_ := Aside0.mk (blk_below (g := gb101) (o := .cells #[.int .i64 a0_0, .int .i64 a0_1, .slice A0_2 l0_2.length c0_2] 26 (0, 0)) (by (with_reducible repeat (first | refine blk_drewN ?_ _ | refine blk_drew ?_ | refine blk_alloc ?_ _)); exact BK101.out) hb); have n4_ := Aside0.mk (blk_below (g := gb102) (o := .cells #[.int .i64 a1_0, .int .i64 a1_1, .int .i64 a1_2] 28 (0, 0)) (by (with_reducible repeat (first | refine blk_drewN ?_ _ | refine blk_drew ?_ | refine blk_alloc ?_ _)); exact BK102.out) hb); have n5_ := Aside0.mk (blk_below (g := gb118) (o := .cells #[.int .i64 t112, .int .i64 t113, .slice Ao31 t114.length co31] 33 (0, 0)) (by (with_reducible repeat (first | refine blk_drewN ?_ _ | refine blk_drew ?_ | refine blk_alloc ?_ _)); exact BK118.out) hb); have n6_ := Aside0.mk (blk_below (g := gb124) (o := .cells #[.int .i64 t119, .int .i64 t120, .slice Ao41 t143.length co41] 33 (0, 0)) (by (with_reducible repeat (first | refine blk_drewN ?_ _ | refine blk_drew ?_ | refine blk_alloc ?_ _)); exact BK124.out) hb); have n7_ := Aside0.mk (blk_below (g := gb134) (o := .cells #[.int .i64 t128, .int .i64 t129, .slice Ao50 t130.length co50] 33 (0, 0)) (by (with_reducible repeat (first | refine blk_drewN ?_ _ | refine blk_drew ?_ | refine blk_alloc ?_ _)); exact BK134.out) hb); have n8_ := Aside0.mk (below_step (by repeat (first | (with_reducible first | exact HB.out | apply below_alloc | apply pw_below_drewN | apply below_drew1 | refine below_set ?_ GE101.out | refine below_set ?_ GE102.out | refine below_set ?_ GE118.out | refine below_set ?_ GE124.out | refine below_set ?_ GE134.out) | exact HB.out)) hb); clear HO_119002; clear HO_125002; clear HO_135002; clear BK101; clear BK102; clear BK118; clear BK124; clear BK134; clear HB; have HO_119002 := n0_; have HO_125002 := n1_; have HO_135002 := n2_; have BK101 := n3_; have BK102 := n4_; have BK118 := n5_; have BK124 := n6_; have BK134 := n7_; have HB := n8_; clear n0_ n1_ n2_ n3_ n4_ n5_ n6_ n7_ n8_; (try clear hb); (try clear hb2); (try clear hk); (try clear hi)))
   go_ret
   exact ⟨by first | rfl | (simp [errW_none, errW_some] <;> rfl) | (simp [*, errW_none, errW_some] <;> rfl), by repeat (first | (with_reducible first | exact HB.out | apply below_alloc | apply pw_below_drewN | apply below_drew1 | refine below_set ?_ GE101.out | refine below_set ?_ GE102.out | refine below_set ?_ GE118.out | refine below_set ?_ GE124.out | refine below_set ?_ GE134.out) | exact HB.out)⟩
theorem laws_FnExactAddClue.calls (k : Nat) (a0_0 : Int) (a0_1 : Int) (A0_2 : Option Addr) (c0_2 : Nat) (l0_2 : List (S28)) (a1_0 : Int) (a1_1 : Int) (a1_2 : Int) (r : Bool) (w : World) (hr0_2 : Kd.C k28 w A0_2 l0_2.length l0_2) (hc0_2 : l0_2.length ≤ c0_2) (h : laws_FnExactAddClue.f k a0_0 a0_1 l0_2 a1_0 a1_1 a1_2 = some r) : Calls Try.prog 3 #[.agg #[.int .i64 a0_0, .int .i64 a0_1, .slice A0_2 l0_2.length c0_2], .agg #[.int .i64 a1_0, .int .i64 a1_1, .int .i64 a1_2]] w fun e w' => e = .returned (.bool r) ∧ Below w.heap.size w w' := laws_FnExactAddClue.calls1.2 ⟨laws_FnExactAddClue.calls2⟩ k a0_0 a0_1 A0_2 c0_2 l0_2 a1_0 a1_1 a1_2 r w hr0_2 hc0_2 h
def laws_FnExactAddClue.Pure : Prop := ∀ (a0_0 : Int) (a0_1 : Int) (l0_2 : List (S28)) (a1_0 : Int) (a1_1 : Int) (a1_2 : Int), (Lit.int .i64 a0_0).wf = true → (Lit.int .i64 a0_1).wf = true → l0_2.length ≤ maxLen → (∀ x ∈ l0_2, (Lit.int .i64 x.f0).wf = true ∧ (Lit.int .i64 x.f1).wf = true ∧ (Lit.int .i64 x.f2).wf = true) → (Lit.int .i64 a1_0).wf = true → (Lit.int .i64 a1_1).wf = true → (Lit.int .i64 a1_2).wf = true → ∃ k, laws_FnExactAddClue.f k a0_0 a0_1 l0_2 a1_0 a1_1 a1_2 = some true
theorem laws_FnExactAddClue.walk (P : laws_FnExactAddClue.Pure) (a0_0 : Int) (a0_1 : Int) (A0_2 : Option Addr) (c0_2 : Nat) (l0_2 : List (S28)) (a1_0 : Int) (a1_1 : Int) (a1_2 : Int) (w : World) (hr0_2 : Kd.C k28 w A0_2 l0_2.length l0_2) (hc0_2 : l0_2.length ≤ c0_2) (hw0 : (Lit.int .i64 a0_0).wf = true) (hw1 : (Lit.int .i64 a0_1).wf = true) (hw2 : l0_2.length ≤ maxLen) (hw3 : (∀ x ∈ l0_2, (Lit.int .i64 x.f0).wf = true ∧ (Lit.int .i64 x.f1).wf = true ∧ (Lit.int .i64 x.f2).wf = true)) (hw4 : (Lit.int .i64 a1_0).wf = true) (hw5 : (Lit.int .i64 a1_1).wf = true) (hw6 : (Lit.int .i64 a1_2).wf = true) :
  Calls Try.prog 3 #[.agg #[.int .i64 a0_0, .int .i64 a0_1, .slice A0_2 l0_2.length c0_2], .agg #[.int .i64 a1_0, .int .i64 a1_1, .int .i64 a1_2]] w fun e w' => e = .returned (.bool true) ∧ Below w.heap.size w w' := by
 obtain ⟨k, h⟩ := P a0_0 a0_1 l0_2 a1_0 a1_1 a1_2 hw0 hw1 hw2 hw3 hw4 hw5 hw6
 refine (laws_FnExactAddClue.calls k a0_0 a0_1 A0_2 c0_2 l0_2 a1_0 a1_1 a1_2 true w hr0_2 hc0_2 h).mono ?_
 rintro e w' ⟨rfl, hd⟩
 exact ⟨rfl, hd⟩
end Go.Proofs.Ytcloklakffgbmaa.G
