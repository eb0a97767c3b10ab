/- Texts of this seat's proofs: contracts of its functions and plain laws about them, with no condition beyond those that each theorem states. -/
import Derived.Test.YtcloklakffgbmaaQd4cda658
import Derived.Test.YtcloklakffgbmaaQca8d1d27
import Derived.Test.YtcloklakffgbmaaQb642afe6
import Derived.Test.YtcloklakffgbmaaQ8eefb8ad
import Derived.Test.YtcloklakffgbmaaQd6440bb5
import Derived.Laws.Bits64b
import Derived.JoinedOf
import Derived.KernelRfl
import Derived.Test.YtcloklakffgbmaaRows
import Derived.Deep.Slices
import Derived.Deep.Strs
import Derived.Lib.SmallJoins
import Derived.OpenShut
import Derived.ProofKit
set_option maxHeartbeats 8000000
set_option maxRecDepth 100000
section
namespace Go.Proofs.Ytcloklakffgbmaa.G
open Go.RowKit Go.Proofs.YtcloklakffgbmaaW.PrintWords Go.Proofs.YtcloklakffgbmaaW.PrintLast Go.Proofs.YtcloklakffgbmaaW.PrintMore
attribute [local go_sem] max2_int min2_int max_two min_two max_three min_three max_four min_four
attribute [local go_sem high] eqA37
set_option linter.unusedVariables false
set_option linter.unusedSimpArgs false
def hidden_3 : {Q : Prop // Aside0 Q → hidden_2.1} := ⟨_, fun q_ => by
 intro A0 c0 l0 A1 c1 l1 w k s1 s2 ho cl sd m1 m2 ml nl ok q1 q2 ql h1 h2 hl il one solved three r1 r2 rl x1 x2 x3 b1 b2 al bl four s3 s4 sl kk d1 d2 dl vl six t1 t2 e1 e2 e3 ex fits eight u1 u2 f1 f2 f3 isu hu30 hu33 hu37 HC0 HC1 HBIG HA HRB HCC HRD HE HRF HRG U00 w1 w2 g5 w3 w4 w5 Aml cml LEml g9 w6 w7 w8 Anl cnl LEnl g11 w9 w10 w11 U6M U6N u13 u14 u15 u16 u17 u18 u19 u20 u21 u22 u23 u24 u25 u26 u27 U6O U6P U6Q U6R U6S U6T U6U U6V U6W U6X U6Y U6Z U70 U71 U72 U73 U74 U75 U76 U77 U78 U79 U7a U7b U7c U7d U7e U7f U7g U7h U7i U7j U7k U7l U7m U7n U7o U7p U7q U7r U7s U7t U7u U7v U7w U7x U7y U7z U7A U7B U7C U7D U7E U7F U7G U7H U7I U7J U7K U7L U7M U7N U7O U7P U7Q U7R U7S U7T U7U U7V U7W U7X U7Y U7Z U80 U81 U82 U83 U84 U85 U86 U87 U88 U89 U8a U8b U8c U8d U8e U8f U8g U8h U8i U8j U8k U8l U8m U8n U8o U8p U8q U8r U8s U8t U8u U8v U8w U8x U8y U8z U8A U8B U8C U8D U8E U8F U8G U8H u184 u185 u186 U8I U8J U8K U8L U8M U8N U8O U8P U8Q U8R U8S U8T U8U U8V U8W U8X U8Y U8Z U90 U91 U92 U93 U94 U95 U96 U97 U98 U99 U9a U9b U9c U9d U9e U9f U9g U9h U9i U9j U9k U9l U9m U9n U9o U9p U9q U9r U9s U9t U9u U9v U9w U9x U9y U9z U9A U9B U9C U9D U9E U9F U9G U9H U9I U9J U9K U9L U9M U9N U9O U9P U9Q U9R U9S U9T U9U U9V U9W U9X U9Y U9Z Ua0 Ua1 Ua2 Ua3 Ua4 Ua5 Ua6 Ua7 Ua8 Ua9 Uaa Uab Uac Uad Uae Uaf Uag Uah Uai Uaj Uak Ual Uam Uan Uao Uap Uaq Uar Uas Uat Uau Uav Uaw Uax Uay Uaz UaA UaB UaC UaD UaE UaF UaG UaH UaI UaJ UaK UaL UaM UaN UaO UaP UaQ UaR UaS UaT UaU UaV UaW UaX UaY UaZ Ub0 Ub1 Ub2 Ub3 Ub4 Ub5 Ub6 Ub7 Ub8 Ub9 Uba Ubb Ubc Ubd Ube Ubf Ubg Ubh Ubi Ubj Ubk Ubl Ubm Ubn Ubo Ubp Ubq Ubr Ubs Ubt Ubu Ubv Ubw Ubx Uby Ubz UbA UbB UbC UbD UbE UbF UbG UbH UbI UbJ UbK UbL UbM UbN UbO UbP UbQ UbR UbS UbT UbU UbV UbW UbX UbY UbZ Uc0 Uc1 Uc2 Uc3 Uc4 Uc5 Uc6 Uc7 Uc8 Uc9 Uca Ucb Ucc Ucd Uce Ucf Ucg Uch Uci Ucj Uck Ucl Ucm Ucn Uco Ucp Ucq Ucr Ucs Uct Ucu Ucv Ucw Ucx Ucy Ucz UcA UcB UcC UcD UcE UcF UcG UcH UcI UcJ UcK UcL UcM UcN UcO UcP UcQ w21 Aql cql LEql g28 w22 w23 w24 Ahl chl LEhl g29 w25 w26 w27 Ail cil LEil g31 w28 w29 w30 UcR UcS UcT UcU UcV UcW UcX UcY UcZ Ud0 Ud1 Ud2 Ud3 Ud4 Ud5 Ud6 Ud7 HL Ud8 Ud9 wc u4 u35 u36 u37 u38 u39 u40 u66 u67 u68 u69 u70 u71 u72 u73 u74 u75 u76 u77 u78 u79 u80 u81 u82 u83 u84 u85 u86 u87 u88 u89 u90 u91 u92 u93 u94 u95 u96 u97 u98 u99 u100 u101 u102 u103 u104 u105 u106 u107 u108 u109 u110 u111 u112 u113 u114 u115 u116 u117 u118 u119 u120 u121 u122 u123 u124 u125 u126 u127 u128 u129 u130 u131 u132 u133 u134 u135 u136 u137 u138 u139 u140 u141 u142 u143 u144 u145 u146 u147 u148 u149 u150 u151 u152 u153 u154 u155 u156 u157 u158 u159 u160 u161 u162 u163 u164 u165 u166 u167 u168 u169 u170 u171 u172 u173 u174 u175 u176 u177 u178 u179 u180 u181 u182 u183 u187 u188 u189 u190 u191 u192 u193 u194 u195 u196 u197 u198 u199 u200 u201 u202 u203 u204 u205 u206 u207 u208 u209 u210 u211 u212 u213 u214 u215 u216 u217 u218 u219 u220 u221 u222 u223 u224 u225 u226 u227 u228 u229 u230 u231 u232 u233 u234 u235 u236 u237 u238 u239 u240 u241 u242 u243 u244 u245 u246 u247 u248 u249 u250 u251 u252 u253 u254 u255 u256 u257 u258 u259 u260 u261 u262 u263 u264 u265 u266 u267 u268 u269 u270 u271 u272 u273 u274 u275 u276 u277 u278 u279 u280 u281 u282 u283 u284 u285 u286 u287 u288 u289 u290 u291 u292 u293 u294 u295 u296 u297 u298 u299 u300 u301 u302 u303 u304 u305 u306 u307 u308 u309 u310 u311 u312 u313 u314 u315 u316 u317 u318 u319 u320 u321 u322 u323 u324 u325 u326 u327 u328 u329 u330 u331 u332 u333 u334 u335 u336 u337 u338 u339 u340 u341 u342 u343 u344 u345 u346 u347 u348 u349 u350 u351 u352 u353 u354 u355 u356 u357 u358 u359 u360 u361 u362 u363 u364 u365 u366 u367 u368 u369 u370 u371 u372 u373 u374 u375 u376 u377 u378 u379 u380 u381 u382 u383 u384 u385 u386 u387 u388 u389 u390 u391 u392 u393 u394 u395 u396 u397 u398 u399 u400 u401 u402 u403 u404 u405 u406 u407 u408 u409 u410 u411 u412 u413 u414 u415 u416 u417 u418 u419 u420 u421 u422 u423 u424 u425 u426 u427 u428 u429 u430 u431 u432 u433 u434 u435 u436 u437 u438 u439 u440 u441 u442 u443 hcut
 clear HL
 have HL := hcut
 clear hcut
 go_wp2_with fail
 refine (spec_DrawAddClue.calls k A1 c1 l1 r1 r2 rl x1 x2 x3 _ HL.out.out.1 HC1.out HE.out.draw).mono ?_
 rintro e w36 ⟨v, rfl, ho, hb⟩
 obtain ⟨Arl, crl, rfl⟩ := Kd.R_slice ho
 have LErl := am (Kd.R_reads' ho).2.1
 have HL_ := am ((HL.out.below hb).row (Kd.R_reads' ho).2.2)
 clear HL
 have HL := HL_
 clear HL_
 clear ho hb
 go_wp2_with (first
  | ((with_reducible refine gate_dst (N := 41) rfl ?_); refine uX (N := 41) (cs := #[.int .i64 0, .int .i64 0, .slice none 0 0]) (t := 33) ?_; intro g41 hg w37 hh hb; have hz41_0 := blk_cell hh 0; have hz41_1 := blk_cell hh 1; have hz41_2 := blk_cell hh 2; have hz41_3 := blk_frozen hh 0; have hz41_4 := blk_frozen hh 1; have hz41_5 := blk_frozen hh 2; have HG41 := am (Nat.le_of_eq hg.symm); have HB := am hb; have HH41 := am hh; clear hg hb hh)
  | ((with_reducible refine gate_dst (N := 42) rfl ?_); refine uX (N := 42) (cs := #[.int .i64 0, .int .i64 0, .int .i64 0]) (t := 37) ?_; intro g42 hg w38 hh hb; have hz42_0 := blk_cell hh 0; have hz42_1 := blk_cell hh 1; have hz42_2 := blk_cell hh 2; have hz42_3 := blk_frozen hh 0; have hz42_4 := blk_frozen hh 1; have hz42_5 := blk_frozen hh 2; have HN := am ((by rw [hg]; exact Nat.ne_of_lt (blk_lt HH41.out)) : g41 ≠ g42); have HG42 := am (Nat.le_trans HB.out.size (Nat.le_of_eq hg.symm)); have HB_ := am (below_step HB.out hb); have HH_ := am (blk_below HH41.out hb); clear HB HH41; have HB := HB_; have HH41 := HH_; clear HB_ HH_; have HH42 := am hh; clear hz41_0 hz41_1 hz41_2 hz41_3 hz41_4 hz41_5; have hz41_0 := blk_cell HH41.out 0; have hz41_1 := blk_cell HH41.out 1; have hz41_2 := blk_cell HH41.out 2; have hz41_3 := blk_frozen HH41.out 0; have hz41_4 := blk_frozen HH41.out 1; have hz41_5 := blk_frozen HH41.out 2; clear hg hb hh)
  | ((with_reducible refine gate_store (t := 33) (p := 41) rfl ?_); refine store_event (t := 33) (p := 41) (v := ?vo_w39) (w1 := (((w38.setCell ⟨g41, 0, none⟩ (.int .i64 r1)).setCell ⟨g41, 1, none⟩ (.int .i64 r2)).setCell ⟨g41, 2, none⟩ (.slice Arl rl.length crl))) ?hg ?ho ?hn ?hr ?_; (case ho => rfl); (case hg => rfl); (case hn => rfl); (case hr => first | (go_simp; done) | (go_simp; rfl)); intro w39 ew_; obtain ⟨hb2, hh2⟩ := box3 (x := .int .i64 r1) (y := .int .i64 r2) (z := .slice Arl rl.length crl) HG41.out HH41.out HB.out; rw [← ew_] at hb2 hh2; have hh3 := far3 (x := .int .i64 r1) (y := .int .i64 r2) (z := .slice Arl rl.length crl) HH42.out HN.out.symm; rw [← ew_] at hh3; clear HB HH41 HH42 ew_ hz41_0 hz41_1 hz41_2 hz41_3 hz41_4 hz41_5 hz42_0 hz42_1 hz42_2 hz42_3 hz42_4 hz42_5; have HB := am hb2; have HH41 := am hh2; have HH42 := am hh3; have hz42_0 := blk_cell hh3 0; have hz42_1 := blk_cell hh3 1; have hz42_2 := blk_cell hh3 2; have hz42_3 := blk_frozen hh3 0; have hz42_4 := blk_frozen hh3 1; have hz42_5 := blk_frozen hh3 2; clear hb2 hh2 hh3)
  | ((with_reducible refine gate_store (t := 37) (p := 42) rfl ?_); refine store_event (t := 37) (p := 42) (v := ?vo_w40) (w1 := (((w39.setCell ⟨g42, 0, none⟩ (.int .i64 x1)).setCell ⟨g42, 1, none⟩ (.int .i64 x2)).setCell ⟨g42, 2, none⟩ (.int .i64 x3))) ?hg ?ho ?hn ?hr ?_; (case ho => rfl); (case hg => rfl); (case hn => rfl); (case hr => first | (go_simp; done) | (go_simp; rfl)); intro w40 ew_; obtain ⟨hb2, hh2⟩ := box3 (x := .int .i64 x1) (y := .int .i64 x2) (z := .int .i64 x3) HG42.out HH42.out HB.out; rw [← ew_] at hb2 hh2; have hh3 := far3 (x := .int .i64 x1) (y := .int .i64 x2) (z := .int .i64 x3) HH41.out HN.out; rw [← ew_] at hh3; have HL_ := am (((HL.out.below hb2).box hh3).box hh2); clear HL; have HL := HL_; clear HL_; clear hb2 hh2 hh3 HB HN HH42 HG42 HH41 HG41 ew_ hz42_0 hz42_1 hz42_2 hz42_3 hz42_4 hz42_5; have hx41_0 := blk_cell HL.out.out.2.1 0; have hx41_1 := blk_cell HL.out.out.2.1 1; have hx41_2 := blk_cell HL.out.out.2.1 2; have hx42_0 := blk_cell HL.out.out.1 0; have hx42_1 := blk_cell HL.out.out.1 1; have hx42_2 := blk_cell HL.out.out.1 2)
  | fail)
 refine (impl_AddClue.calls r1 r2 _ _ rl x1 x2 x3 b1 b2 al four _ HL.out.out.2.2.1 LErl.out HE.out.impl).mono ?_
 rintro e w41 ⟨v, rfl, ho, hb⟩
 obtain ⟨Aal, cal, rfl⟩ := Kd.R_slice ho
 have LEal := am (Kd.R_reads' ho).2.1
 have HL_ := am ((HL.out.below hb).row (Kd.R_reads' ho).2.2)
 clear HL
 have HL := HL_
 clear HL_
 clear ho hb
 clear hx41_0 hx41_1 hx41_2 hx42_0 hx42_1 hx42_2
 go_wp2_with (first
  | ((with_reducible refine gate_dst (N := 43) rfl ?_); refine uX (N := 43) (cs := #[.int .i64 0, .int .i64 0, .slice none 0 0]) (t := 33) ?_; intro g43 hg w42 hh hb; have hz43_0 := blk_cell hh 0; have hz43_1 := blk_cell hh 1; have hz43_2 := blk_cell hh 2; have hz43_3 := blk_frozen hh 0; have hz43_4 := blk_frozen hh 1; have hz43_5 := blk_frozen hh 2; have HG43 := am (Nat.le_of_eq hg.symm); have HB := am hb; have HH43 := am hh; clear hg hb hh)
  | ((with_reducible refine gate_store (t := 33) (p := 43) rfl ?_); refine store_event (t := 33) (p := 43) (v := ?vo_w43) (w1 := (((w42.setCell ⟨g43, 0, none⟩ (.int .i64 b1)).setCell ⟨g43, 1, none⟩ (.int .i64 b2)).setCell ⟨g43, 2, none⟩ (.slice Aal al.length cal))) ?hg ?ho ?hn ?hr ?_; (case ho => rfl); (case hg => rfl); (case hn => rfl); (case hr => first | (go_simp; done) | (go_simp; rfl)); intro w43 ew_; obtain ⟨hb2, hh2⟩ := box3 (x := .int .i64 b1) (y := .int .i64 b2) (z := .slice Aal al.length cal) HG43.out HH43.out HB.out; rw [← ew_] at hb2 hh2; have HL_ := am ((HL.out.below hb2).box hh2); clear HL; have HL := HL_; clear HL_; clear hb2 hh2 HB HH43 HG43 ew_ hz43_0 hz43_1 hz43_2 hz43_3 hz43_4 hz43_5; have hx41_0 := blk_cell HL.out.out.2.2.2.1 0; have hx41_1 := blk_cell HL.out.out.2.2.2.1 1; have hx41_2 := blk_cell HL.out.out.2.2.2.1 2; have hx42_0 := blk_cell HL.out.out.2.2.1 0; have hx42_1 := blk_cell HL.out.out.2.2.1 1; have hx42_2 := blk_cell HL.out.out.2.2.1 2)
  | fail)
 refine (spec_AddClue.calls k r1 r2 _ _ rl x1 x2 x3 b1 b2 bl four _ HL.out.out.2.2.2.2.1 LErl.out HE.out.spec).mono ?_
 rintro e w44 ⟨v, rfl, ho, hb⟩
 obtain ⟨Abl, cbl, rfl⟩ := Kd.R_slice ho
 have LEbl := am (Kd.R_reads' ho).2.1
 have HL_ := am ((HL.out.below hb).row (Kd.R_reads' ho).2.2)
 clear HL
 have HL := HL_
 clear HL_
 clear ho hb
 clear hx41_0 hx41_1 hx41_2 hx42_0 hx42_1 hx42_2
 go_wp2_with (first
  | ((with_reducible refine gate_dst (N := 45) rfl ?_); refine uX (N := 45) (cs := #[.int .i64 0, .int .i64 0, .slice none 0 0]) (t := 33) ?_; intro g45 hg w45 hh hb; have hz45_0 := blk_cell hh 0; have hz45_1 := blk_cell hh 1; have hz45_2 := blk_cell hh 2; have hz45_3 := blk_frozen hh 0; have hz45_4 := blk_frozen hh 1; have hz45_5 := blk_frozen hh 2; have HG45 := am (Nat.le_of_eq hg.symm); have HB := am hb; have HH45 := am hh; clear hg hb hh)
  | ((with_reducible refine gate_store (t := 33) (p := 45) rfl ?_); refine store_event (t := 33) (p := 45) (v := ?vo_w46) (w1 := (((w45.setCell ⟨g45, 0, none⟩ (.int .i64 b1)).setCell ⟨g45, 1, none⟩ (.int .i64 b2)).setCell ⟨g45, 2, none⟩ (.slice Abl bl.length cbl))) ?hg ?ho ?hn ?hr ?_; (case ho => rfl); (case hg => rfl); (case hn => rfl); (case hr => first | (go_simp; done) | (go_simp; rfl)); intro w46 ew_; obtain ⟨hb2, hh2⟩ := box3 (x := .int .i64 b1) (y := .int .i64 b2) (z := .slice Abl bl.length cbl) HG45.out HH45.out HB.out; rw [← ew_] at hb2 hh2; have HL_ := am ((HL.out.below hb2).box hh2); clear HL; have HL := HL_; clear HL_; clear hb2 hh2 HB HH45 HG45 ew_ hz45_0 hz45_1 hz45_2 hz45_3 hz45_4 hz45_5)
  | fail)
 refine (spec_DrawDropClue.calls k A1 c1 l1 s3 s4 sl kk _ HL.out.out.2.2.2.2.2.2.2.1 HC1.out HE.out.draw2).mono ?_
 rintro e w47 ⟨v, rfl, ho, hb⟩
 obtain ⟨Asl, csl, rfl⟩ := Kd.R_slice ho
 have LEsl := am (Kd.R_reads' ho).2.1
 have HL_ := am ((HL.out.below hb).row (Kd.R_reads' ho).2.2)
 clear HL
 have HL := HL_
 clear HL_
 clear ho hb
 go_wp2_with (first
  | ((with_reducible refine gate_dst (N := 47) rfl ?_); refine uX (N := 47) (cs := #[.int .i64 0, .int .i64 0, .slice none 0 0]) (t := 33) ?_; intro g47 hg w48 hh hb; have hz47_0 := blk_cell hh 0; have hz47_1 := blk_cell hh 1; have hz47_2 := blk_cell hh 2; have hz47_3 := blk_frozen hh 0; have hz47_4 := blk_frozen hh 1; have hz47_5 := blk_frozen hh 2; have HG47 := am (Nat.le_of_eq hg.symm); have HB := am hb; have HH47 := am hh; clear hg hb hh)
  | ((with_reducible refine gate_store (t := 33) (p := 47) rfl ?_); refine store_event (t := 33) (p := 47) (v := ?vo_w49) (w1 := (((w48.setCell ⟨g47, 0, none⟩ (.int .i64 s3)).setCell ⟨g47, 1, none⟩ (.int .i64 s4)).setCell ⟨g47, 2, none⟩ (.slice Asl sl.length csl))) ?hg ?ho ?hn ?hr ?_; (case ho => rfl); (case hg => rfl); (case hn => rfl); (case hr => first | (go_simp; done) | (go_simp; rfl)); intro w49 ew_; obtain ⟨hb2, hh2⟩ := box3 (x := .int .i64 s3) (y := .int .i64 s4) (z := .slice Asl sl.length csl) HG47.out HH47.out HB.out; rw [← ew_] at hb2 hh2; have HL_ := am ((HL.out.below hb2).box hh2); clear HL; have HL := HL_; clear HL_; clear hb2 hh2 HB HH47 HG47 ew_ hz47_0 hz47_1 hz47_2 hz47_3 hz47_4 hz47_5; have hx47_0 := blk_cell HL.out.out.1 0; have hx47_1 := blk_cell HL.out.out.1 1; have hx47_2 := blk_cell HL.out.out.1 2)
  | fail)
 refine (impl_DropClue.calls s3 s4 _ _ sl kk d1 d2 dl six _ HL.out.out.2.1 LEsl.out HE.out.impl2).mono ?_
 rintro e w50 ⟨v, rfl, ho, hb⟩
 obtain ⟨Adl, cdl, rfl⟩ := Kd.R_slice ho
 have LEdl := am (Kd.R_reads' ho).2.1
 have HL_ := am ((HL.out.below hb).row (Kd.R_reads' ho).2.2)
 clear HL
 have HL := HL_
 clear HL_
 clear ho hb
 clear hx47_0 hx47_1 hx47_2
 go_wp2_with (first
  | ((with_reducible refine gate_dst (N := 49) rfl ?_); refine uX (N := 49) (cs := #[.int .i64 0, .int .i64 0, .slice none 0 0]) (t := 33) ?_; intro g49 hg w51 hh hb; have hz49_0 := blk_cell hh 0; have hz49_1 := blk_cell hh 1; have hz49_2 := blk_cell hh 2; have hz49_3 := blk_frozen hh 0; have hz49_4 := blk_frozen hh 1; have hz49_5 := blk_frozen hh 2; have HG49 := am (Nat.le_of_eq hg.symm); have HB := am hb; have HH49 := am hh; clear hg hb hh)
  | ((with_reducible refine gate_store (t := 33) (p := 49) rfl ?_); refine store_event (t := 33) (p := 49) (v := ?vo_w52) (w1 := (((w51.setCell ⟨g49, 0, none⟩ (.int .i64 d1)).setCell ⟨g49, 1, none⟩ (.int .i64 d2)).setCell ⟨g49, 2, none⟩ (.slice Adl dl.length cdl))) ?hg ?ho ?hn ?hr ?_; (case ho => rfl); (case hg => rfl); (case hn => rfl); (case hr => first | (go_simp; done) | (go_simp; rfl)); intro w52 ew_; obtain ⟨hb2, hh2⟩ := box3 (x := .int .i64 d1) (y := .int .i64 d2) (z := .slice Adl dl.length cdl) HG49.out HH49.out HB.out; rw [← ew_] at hb2 hh2; have HL_ := am ((HL.out.below hb2).box hh2); clear HL; have HL := HL_; clear HL_; clear hb2 hh2 HB HH49 HG49 ew_ hz49_0 hz49_1 hz49_2 hz49_3 hz49_4 hz49_5; have hx47_0 := blk_cell HL.out.out.2.2.1 0; have hx47_1 := blk_cell HL.out.out.2.2.1 1; have hx47_2 := blk_cell HL.out.out.2.2.1 2)
  | fail)
 refine (spec_DropClue.calls k s3 s4 _ _ sl kk d1 d2 vl six _ HL.out.out.2.2.2.1 LEsl.out HE.out.spec2).mono ?_
 rintro e w53 ⟨v, rfl, ho, hb⟩
 obtain ⟨Avl, cvl, rfl⟩ := Kd.R_slice ho
 have LEvl := am (Kd.R_reads' ho).2.1
 have HL_ := am ((HL.out.below hb).row (Kd.R_reads' ho).2.2)
 clear HL
 have HL := HL_
 clear HL_
 clear ho hb
 clear hx47_0 hx47_1 hx47_2
 go_wp2_with (first
  | ((with_reducible refine gate_dst (N := 51) rfl ?_); refine uX (N := 51) (cs := #[.int .i64 0, .int .i64 0, .slice none 0 0]) (t := 33) ?_; intro g51 hg w54 hh hb; have hz51_0 := blk_cell hh 0; have hz51_1 := blk_cell hh 1; have hz51_2 := blk_cell hh 2; have hz51_3 := blk_frozen hh 0; have hz51_4 := blk_frozen hh 1; have hz51_5 := blk_frozen hh 2; have HG51 := am (Nat.le_of_eq hg.symm); have HB := am hb; have HH51 := am hh; clear hg hb hh)
  | ((with_reducible refine gate_store (t := 33) (p := 51) rfl ?_); refine store_event (t := 33) (p := 51) (v := ?vo_w55) (w1 := (((w54.setCell ⟨g51, 0, none⟩ (.int .i64 d1)).setCell ⟨g51, 1, none⟩ (.int .i64 d2)).setCell ⟨g51, 2, none⟩ (.slice Avl vl.length cvl))) ?hg ?ho ?hn ?hr ?_; (case ho => rfl); (case hg => rfl); (case hn => rfl); (case hr => first | (go_simp; done) | (go_simp; rfl)); intro w55 ew_; obtain ⟨hb2, hh2⟩ := box3 (x := .int .i64 d1) (y := .int .i64 d2) (z := .slice Avl vl.length cvl) HG51.out HH51.out HB.out; rw [← ew_] at hb2 hh2; have HL_ := am ((HL.out.below hb2).box hh2); clear HL; have HL := HL_; clear HL_; clear hb2 hh2 HB HH51 HG51 ew_ hz51_0 hz51_1 hz51_2 hz51_3 hz51_4 hz51_5)
  | fail)
 refine (spec_DrawDoesFit.calls k A1 c1 l1 t1 t2 e1 e2 e3 ex _ HL.out.out.2.2.2.2.2.2.2.2.2.2.2.2.2.1 HC1.out HE.out.draw3).mono ?_
 rintro e w56 ⟨rfl, hb⟩
 have HL_ := am (HL.out.below hb)
 clear HL
 have HL := HL_
 clear HL_
 clear hb
 go_wp2_with (first
  | ((with_reducible refine gate_dst (N := 53) rfl ?_); refine uX (N := 53) (cs := #[.int .i64 0, .int .i64 0]) (t := 30) ?_; intro g53 hg w57 hh hb; have hz53_0 := blk_cell hh 0; have hz53_1 := blk_cell hh 1; have hz53_2 := blk_frozen hh 0; have hz53_3 := blk_frozen hh 1; have HG53 := am (Nat.le_of_eq hg.symm); have HB := am hb; have HH53 := am hh; clear hg hb hh)
  | ((with_reducible refine gate_dst (N := 54) rfl ?_); refine uX (N := 54) (cs := #[.int .i64 0, .int .i64 0, .int .i64 0]) (t := 37) ?_; intro g54 hg w58 hh hb; have hz54_0 := blk_cell hh 0; have hz54_1 := blk_cell hh 1; have hz54_2 := blk_cell hh 2; have hz54_3 := blk_frozen hh 0; have hz54_4 := blk_frozen hh 1; have hz54_5 := blk_frozen hh 2; have HN := am ((by rw [hg]; exact Nat.ne_of_lt (blk_lt HH53.out)) : g53 ≠ g54); have HG54 := am (Nat.le_trans HB.out.size (Nat.le_of_eq hg.symm)); have HB_ := am (below_step HB.out hb); have HH_ := am (blk_below HH53.out hb); clear HB HH53; have HB := HB_; have HH53 := HH_; clear HB_ HH_; have HH54 := am hh; clear hz53_0 hz53_1 hz53_2 hz53_3; have hz53_0 := blk_cell HH53.out 0; have hz53_1 := blk_cell HH53.out 1; have hz53_2 := blk_frozen HH53.out 0; have hz53_3 := blk_frozen HH53.out 1; clear hg hb hh)
  | ((with_reducible refine gate_store (t := 30) (p := 53) rfl ?_); refine store_event (t := 30) (p := 53) (v := ?vo_w59) (w1 := ((w58.setCell ⟨g53, 0, none⟩ (.int .i64 t1)).setCell ⟨g53, 1, none⟩ (.int .i64 t2))) ?hg ?ho ?hn ?hr ?_; (case ho => rfl); (case hg => rfl); (case hn => rfl); (case hr => first | (go_simp; done) | (go_simp; rfl)); intro w59 ew_; obtain ⟨hb2, hh2⟩ := box2 (x := .int .i64 t1) (y := .int .i64 t2) HG53.out HH53.out HB.out; rw [← ew_] at hb2 hh2; have hh3 := far2 (x := .int .i64 t1) (y := .int .i64 t2) HH54.out HN.out.symm; rw [← ew_] at hh3; clear HB HH53 HH54 ew_ hz53_0 hz53_1 hz53_2 hz53_3 hz54_0 hz54_1 hz54_2 hz54_3 hz54_4 hz54_5; have HB := am hb2; have HH53 := am hh2; have HH54 := am hh3; have hz54_0 := blk_cell hh3 0; have hz54_1 := blk_cell hh3 1; have hz54_2 := blk_cell hh3 2; have hz54_3 := blk_frozen hh3 0; have hz54_4 := blk_frozen hh3 1; have hz54_5 := blk_frozen hh3 2; clear hb2 hh2 hh3)
  | ((with_reducible refine gate_store (t := 37) (p := 54) rfl ?_); refine store_event (t := 37) (p := 54) (v := ?vo_w60) (w1 := (((w59.setCell ⟨g54, 0, none⟩ (.int .i64 e1)).setCell ⟨g54, 1, none⟩ (.int .i64 e2)).setCell ⟨g54, 2, none⟩ (.int .i64 e3))) ?hg ?ho ?hn ?hr ?_; (case ho => rfl); (case hg => rfl); (case hn => rfl); (case hr => first | (go_simp; done) | (go_simp; rfl)); intro w60 ew_; obtain ⟨hb2, hh2⟩ := box3 (x := .int .i64 e1) (y := .int .i64 e2) (z := .int .i64 e3) HG54.out HH54.out HB.out; rw [← ew_] at hb2 hh2; have hh3 := far3 (x := .int .i64 e1) (y := .int .i64 e2) (z := .int .i64 e3) HH53.out HN.out; rw [← ew_] at hh3; have HL_ := am (((HL.out.below hb2).box hh3).box hh2); clear HL; have HL := HL_; clear HL_; clear hb2 hh2 hh3 HB HN HH54 HG54 HH53 HG53 ew_ hz54_0 hz54_1 hz54_2 hz54_3 hz54_4 hz54_5; have hx53_0 := blk_cell HL.out.out.2.1 0; have hx53_1 := blk_cell HL.out.out.2.1 1; have hx54_0 := blk_cell HL.out.out.1 0; have hx54_1 := blk_cell HL.out.out.1 1; have hx54_2 := blk_cell HL.out.out.1 2)
  | fail)
 refine (impl_DoesFit.calls t1 t2 e1 e2 e3 ex fits eight _ HE.out.impl3).mono ?_
 rintro e w61 ⟨rfl, hb⟩
 have HL_ := am (HL.out.below hb)
 clear HL
 have HL := HL_
 clear HL_
 clear hb
 clear hx53_0 hx53_1 hx54_0 hx54_1 hx54_2
 have hx53_0 := blk_cell HL.out.out.2.1 0
 have hx53_1 := blk_cell HL.out.out.2.1 1
 have hx54_0 := blk_cell HL.out.out.1 0
 have hx54_1 := blk_cell HL.out.out.1 1
 have hx54_2 := blk_cell HL.out.out.1 2
 go_wp2_with fail
 refine (spec_DoesFit.calls t1 t2 e1 e2 e3 ex fits eight _ HE.out.spec3).mono ?_
 rintro e w62 ⟨rfl, hb⟩
 have HL_ := am (HL.out.below hb)
 clear HL
 have HL := HL_
 clear HL_
 clear hb
 clear hx53_0 hx53_1 hx54_0 hx54_1 hx54_2
 go_wp2_with fail
 refine (spec_DrawIsClue.calls k A1 c1 l1 u1 u2 f1 f2 f3 _ HL.out.out.2.2.2.2.2.2.2.2.2.2.2.2.2.2.2.1 HC1.out HE.out.draw4).mono ?_
 rintro e w63 ⟨rfl, hb⟩
 have HL_ := am (HL.out.below hb)
 clear HL
 have HL := HL_
 clear HL_
 clear hb
 rename_i Udy Udz UdA UdB
 revert A0 c0 l0 A1 c1 l1 w k s1 s2 ho cl sd m1 m2 ml nl ok q1 q2 ql h1 h2 hl il one solved three r1 r2 rl x1 x2 x3 b1 b2 al bl four s3 s4 sl kk d1 d2 dl vl six t1 t2 e1 e2 e3 ex fits eight u1 u2 f1 f2 f3 isu hu30 hu33 hu37 HC0 HC1 HBIG HA HRB HCC HRD HE HRF HRG U00 w1 w2 g5 w3 w4 w5 Aml cml LEml g9 w6 w7 w8 Anl cnl LEnl g11 w9 w10 w11 U6M U6N u13 u14 u15 u16 u17 u18 u19 u20 u21 u22 u23 u24 u25 u26 u27 U6O U6P U6Q U6R U6S U6T U6U U6V U6W U6X U6Y U6Z U70 U71 U72 U73 U74 U75 U76 U77 U78 U79 U7a U7b U7c U7d U7e U7f U7g U7h U7i U7j U7k U7l U7m U7n U7o U7p U7q U7r U7s U7t U7u U7v U7w U7x U7y U7z U7A U7B U7C U7D U7E U7F U7G U7H U7I U7J U7K U7L U7M U7N U7O U7P U7Q U7R U7S U7T U7U U7V U7W U7X U7Y U7Z U80 U81 U82 U83 U84 U85 U86 U87 U88 U89 U8a U8b U8c U8d U8e U8f U8g U8h U8i U8j U8k U8l U8m U8n U8o U8p U8q U8r U8s U8t U8u U8v U8w U8x U8y U8z U8A U8B U8C U8D U8E U8F U8G U8H u184 u185 u186 U8I U8J U8K U8L U8M U8N U8O U8P U8Q U8R U8S U8T U8U U8V U8W U8X U8Y U8Z U90 U91 U92 U93 U94 U95 U96 U97 U98 U99 U9a U9b U9c U9d U9e U9f U9g U9h U9i U9j U9k U9l U9m U9n U9o U9p U9q U9r U9s U9t U9u U9v U9w U9x U9y U9z U9A U9B U9C U9D U9E U9F U9G U9H U9I U9J U9K U9L U9M U9N U9O U9P U9Q U9R U9S U9T U9U U9V U9W U9X U9Y U9Z Ua0 Ua1 Ua2 Ua3 Ua4 Ua5 Ua6 Ua7 Ua8 Ua9 Uaa Uab Uac Uad Uae Uaf Uag Uah Uai Uaj Uak Ual Uam Uan Uao Uap Uaq Uar Uas Uat Uau Uav Uaw Uax Uay Uaz UaA UaB UaC UaD UaE UaF UaG UaH UaI UaJ UaK UaL UaM UaN UaO UaP UaQ UaR UaS UaT UaU UaV UaW UaX UaY UaZ Ub0 Ub1 Ub2 Ub3 Ub4 Ub5 Ub6 Ub7 Ub8 Ub9 Uba Ubb Ubc Ubd Ube Ubf Ubg Ubh Ubi Ubj Ubk Ubl Ubm Ubn Ubo Ubp Ubq Ubr Ubs Ubt Ubu Ubv Ubw Ubx Uby Ubz UbA UbB UbC UbD UbE UbF UbG UbH UbI UbJ UbK UbL UbM UbN UbO UbP UbQ UbR UbS UbT UbU UbV UbW UbX UbY UbZ Uc0 Uc1 Uc2 Uc3 Uc4 Uc5 Uc6 Uc7 Uc8 Uc9 Uca Ucb Ucc Ucd Uce Ucf Ucg Uch Uci Ucj Uck Ucl Ucm Ucn Uco Ucp Ucq Ucr Ucs Uct Ucu Ucv Ucw Ucx Ucy Ucz UcA UcB UcC UcD UcE UcF UcG UcH UcI UcJ UcK UcL UcM UcN UcO UcP UcQ w21 Aql cql LEql g28 w22 w23 w24 Ahl chl LEhl g29 w25 w26 w27 Ail cil LEil g31 w28 w29 w30 UcR UcS UcT UcU UcV UcW UcX UcY UcZ Ud0 Ud1 Ud2 Ud3 Ud4 Ud5 Ud6 Ud7 wc u4 u35 u36 u37 u38 u39 u40 u66 u67 u68 u69 u70 u71 u72 u73 u74 u75 u76 u77 u78 u79 u80 u81 u82 u83 u84 u85 u86 u87 u88 u89 u90 u91 u92 u93 u94 u95 u96 u97 u98 u99 u100 u101 u102 u103 u104 u105 u106 u107 u108 u109 u110 u111 u112 u113 u114 u115 u116 u117 u118 u119 u120 u121 u122 u123 u124 u125 u126 u127 u128 u129 u130 u131 u132 u133 u134 u135 u136 u137 u138 u139 u140 u141 u142 u143 u144 u145 u146 u147 u148 u149 u150 u151 u152 u153 u154 u155 u156 u157 u158 u159 u160 u161 u162 u163 u164 u165 u166 u167 u168 u169 u170 u171 u172 u173 u174 u175 u176 u177 u178 u179 u180 u181 u182 u183 u187 u188 u189 u190 u191 u192 u193 u194 u195 u196 u197 u198 u199 u200 u201 u202 u203 u204 u205 u206 u207 u208 u209 u210 u211 u212 u213 u214 u215 u216 u217 u218 u219 u220 u221 u222 u223 u224 u225 u226 u227 u228 u229 u230 u231 u232 u233 u234 u235 u236 u237 u238 u239 u240 u241 u242 u243 u244 u245 u246 u247 u248 u249 u250 u251 u252 u253 u254 u255 u256 u257 u258 u259 u260 u261 u262 u263 u264 u265 u266 u267 u268 u269 u270 u271 u272 u273 u274 u275 u276 u277 u278 u279 u280 u281 u282 u283 u284 u285 u286 u287 u288 u289 u290 u291 u292 u293 u294 u295 u296 u297 u298 u299 u300 u301 u302 u303 u304 u305 u306 u307 u308 u309 u310 u311 u312 u313 u314 u315 u316 u317 u318 u319 u320 u321 u322 u323 u324 u325 u326 u327 u328 u329 u330 u331 u332 u333 u334 u335 u336 u337 u338 u339 u340 u341 u342 u343 u344 u345 u346 u347 u348 u349 u350 u351 u352 u353 u354 u355 u356 u357 u358 u359 u360 u361 u362 u363 u364 u365 u366 u367 u368 u369 u370 u371 u372 u373 u374 u375 u376 u377 u378 u379 u380 u381 u382 u383 u384 u385 u386 u387 u388 u389 u390 u391 u392 u393 u394 u395 u396 u397 u398 u399 u400 u401 u402 u403 u404 u405 u406 u407 u408 u409 u410 u411 u412 u413 u414 u415 u416 u417 u418 u419 u420 u421 u422 u423 u424 u425 u426 u427 u428 u429 u430 u431 u432 u433 u434 u435 u436 u437 u438 u439 u440 u441 u442 u443 w36 Arl crl LErl g41 w37 g42 w38 w39 w40 w41 Aal cal LEal g43 w42 w43 w44 Abl cbl LEbl g45 w45 w46 w47 Asl csl LEsl g47 w48 w49 w50 Adl cdl LEdl g49 w51 w52 w53 Avl cvl LEvl g51 w54 w55 w56 g53 w57 g54 w58 w59 w60 w61 w62 Udy Udz UdA UdB w63 HL
 exact q_.out⟩
end Go.Proofs.Ytcloklakffgbmaa.G
end
section
namespace Go.Proofs.Ytcloklakffgbmaa.G
open Go.RowKit Go.Proofs.YtcloklakffgbmaaW.PrintWords Go.Proofs.YtcloklakffgbmaaW.PrintLast Go.Proofs.YtcloklakffgbmaaW.PrintMore
attribute [local go_sem] max2_int min2_int max_two min_two max_three min_three max_four min_four
attribute [local go_sem high] eqA37
set_option linter.unusedVariables false
set_option linter.unusedSimpArgs false
def hidden_4 : {Q : Prop // Aside0 Q → hidden_3.1} := ⟨_, fun q_ => by
 intro A0 c0 l0 A1 c1 l1 w k s1 s2 ho cl sd m1 m2 ml nl ok q1 q2 ql h1 h2 hl il one solved three r1 r2 rl x1 x2 x3 b1 b2 al bl four s3 s4 sl kk d1 d2 dl vl six t1 t2 e1 e2 e3 ex fits eight u1 u2 f1 f2 f3 isu hu30 hu33 hu37 HC0 HC1 HBIG HA HRB HCC HRD HE HRF HRG U00 w1 w2 g5 w3 w4 w5 Aml cml LEml g9 w6 w7 w8 Anl cnl LEnl g11 w9 w10 w11 U6M U6N u13 u14 u15 u16 u17 u18 u19 u20 u21 u22 u23 u24 u25 u26 u27 U6O U6P U6Q U6R U6S U6T U6U U6V U6W U6X U6Y U6Z U70 U71 U72 U73 U74 U75 U76 U77 U78 U79 U7a U7b U7c U7d U7e U7f U7g U7h U7i U7j U7k U7l U7m U7n U7o U7p U7q U7r U7s U7t U7u U7v U7w U7x U7y U7z U7A U7B U7C U7D U7E U7F U7G U7H U7I U7J U7K U7L U7M U7N U7O U7P U7Q U7R U7S U7T U7U U7V U7W U7X U7Y U7Z U80 U81 U82 U83 U84 U85 U86 U87 U88 U89 U8a U8b U8c U8d U8e U8f U8g U8h U8i U8j U8k U8l U8m U8n U8o U8p U8q U8r U8s U8t U8u U8v U8w U8x U8y U8z U8A U8B U8C U8D U8E U8F U8G U8H u184 u185 u186 U8I U8J U8K U8L U8M U8N U8O U8P U8Q U8R U8S U8T U8U U8V U8W U8X U8Y U8Z U90 U91 U92 U93 U94 U95 U96 U97 U98 U99 U9a U9b U9c U9d U9e U9f U9g U9h U9i U9j U9k U9l U9m U9n U9o U9p U9q U9r U9s U9t U9u U9v U9w U9x U9y U9z U9A U9B U9C U9D U9E U9F U9G U9H U9I U9J U9K U9L U9M U9N U9O U9P U9Q U9R U9S U9T U9U U9V U9W U9X U9Y U9Z Ua0 Ua1 Ua2 Ua3 Ua4 Ua5 Ua6 Ua7 Ua8 Ua9 Uaa Uab Uac Uad Uae Uaf Uag Uah Uai Uaj Uak Ual Uam Uan Uao Uap Uaq Uar Uas Uat Uau Uav Uaw Uax Uay Uaz UaA UaB UaC UaD UaE UaF UaG UaH UaI UaJ UaK UaL UaM UaN UaO UaP UaQ UaR UaS UaT UaU UaV UaW UaX UaY UaZ Ub0 Ub1 Ub2 Ub3 Ub4 Ub5 Ub6 Ub7 Ub8 Ub9 Uba Ubb Ubc Ubd Ube Ubf Ubg Ubh Ubi Ubj Ubk Ubl Ubm Ubn Ubo Ubp Ubq Ubr Ubs Ubt Ubu Ubv Ubw Ubx Uby Ubz UbA UbB UbC UbD UbE UbF UbG UbH UbI UbJ UbK UbL UbM UbN UbO UbP UbQ UbR UbS UbT UbU UbV UbW UbX UbY UbZ Uc0 Uc1 Uc2 Uc3 Uc4 Uc5 Uc6 Uc7 Uc8 Uc9 Uca Ucb Ucc Ucd Uce Ucf Ucg Uch Uci Ucj Uck Ucl Ucm Ucn Uco Ucp Ucq Ucr Ucs Uct Ucu Ucv Ucw Ucx Ucy Ucz UcA UcB UcC UcD UcE UcF UcG UcH UcI UcJ UcK UcL UcM UcN UcO UcP UcQ w21 Aql cql LEql g28 w22 w23 w24 Ahl chl LEhl g29 w25 w26 w27 Ail cil LEil g31 w28 w29 w30 UcR UcS UcT UcU UcV UcW UcX UcY UcZ Ud0 Ud1 Ud2 Ud3 Ud4 Ud5 Ud6 Ud7 wc u4 u35 u36 u37 u38 u39 u40 u66 u67 u68 u69 u70 u71 u72 u73 u74 u75 u76 u77 u78 u79 u80 u81 u82 u83 u84 u85 u86 u87 u88 u89 u90 u91 u92 u93 u94 u95 u96 u97 u98 u99 u100 u101 u102 u103 u104 u105 u106 u107 u108 u109 u110 u111 u112 u113 u114 u115 u116 u117 u118 u119 u120 u121 u122 u123 u124 u125 u126 u127 u128 u129 u130 u131 u132 u133 u134 u135 u136 u137 u138 u139 u140 u141 u142 u143 u144 u145 u146 u147 u148 u149 u150 u151 u152 u153 u154 u155 u156 u157 u158 u159 u160 u161 u162 u163 u164 u165 u166 u167 u168 u169 u170 u171 u172 u173 u174 u175 u176 u177 u178 u179 u180 u181 u182 u183 u187 u188 u189 u190 u191 u192 u193 u194 u195 u196 u197 u198 u199 u200 u201 u202 u203 u204 u205 u206 u207 u208 u209 u210 u211 u212 u213 u214 u215 u216 u217 u218 u219 u220 u221 u222 u223 u224 u225 u226 u227 u228 u229 u230 u231 u232 u233 u234 u235 u236 u237 u238 u239 u240 u241 u242 u243 u244 u245 u246 u247 u248 u249 u250 u251 u252 u253 u254 u255 u256 u257 u258 u259 u260 u261 u262 u263 u264 u265 u266 u267 u268 u269 u270 u271 u272 u273 u274 u275 u276 u277 u278 u279 u280 u281 u282 u283 u284 u285 u286 u287 u288 u289 u290 u291 u292 u293 u294 u295 u296 u297 u298 u299 u300 u301 u302 u303 u304 u305 u306 u307 u308 u309 u310 u311 u312 u313 u314 u315 u316 u317 u318 u319 u320 u321 u322 u323 u324 u325 u326 u327 u328 u329 u330 u331 u332 u333 u334 u335 u336 u337 u338 u339 u340 u341 u342 u343 u344 u345 u346 u347 u348 u349 u350 u351 u352 u353 u354 u355 u356 u357 u358 u359 u360 u361 u362 u363 u364 u365 u366 u367 u368 u369 u370 u371 u372 u373 u374 u375 u376 u377 u378 u379 u380 u381 u382 u383 u384 u385 u386 u387 u388 u389 u390 u391 u392 u393 u394 u395 u396 u397 u398 u399 u400 u401 u402 u403 u404 u405 u406 u407 u408 u409 u410 u411 u412 u413 u414 u415 u416 u417 u418 u419 u420 u421 u422 u423 u424 u425 u426 u427 u428 u429 u430 u431 u432 u433 u434 u435 u436 u437 u438 u439 u440 u441 u442 u443 w36 Arl crl LErl g41 w37 g42 w38 w39 w40 w41 Aal cal LEal g43 w42 w43 w44 Abl cbl LEbl g45 w45 w46 w47 Asl csl LEsl g47 w48 w49 w50 Adl cdl LEdl g49 w51 w52 w53 Avl cvl LEvl g51 w54 w55 w56 g53 w57 g54 w58 w59 w60 w61 w62 Udy Udz UdA UdB w63 HL
 go_upto_region 47 with (first
  | ((with_reducible refine gate_dst (N := 60) rfl ?_); refine uX (N := 60) (cs := #[.int .i64 0, .int .i64 0]) (t := 30) ?_; intro g60 hg w64 hh hb; have hz60_0 := blk_cell hh 0; have hz60_1 := blk_cell hh 1; have hz60_2 := blk_frozen hh 0; have hz60_3 := blk_frozen hh 1; have HG60 := am (Nat.le_of_eq hg.symm); have HB := am hb; have HH60 := am hh; clear hg hb hh)
  | ((with_reducible refine gate_dst (N := 61) rfl ?_); refine uX (N := 61) (cs := #[.int .i64 0, .int .i64 0, .int .i64 0]) (t := 37) ?_; intro g61 hg w65 hh hb; have hz61_0 := blk_cell hh 0; have hz61_1 := blk_cell hh 1; have hz61_2 := blk_cell hh 2; have hz61_3 := blk_frozen hh 0; have hz61_4 := blk_frozen hh 1; have hz61_5 := blk_frozen hh 2; have HN := am ((by rw [hg]; exact Nat.ne_of_lt (blk_lt HH60.out)) : g60 ≠ g61); have HG61 := am (Nat.le_trans HB.out.size (Nat.le_of_eq hg.symm)); have HB_ := am (below_step HB.out hb); have HH_ := am (blk_below HH60.out hb); clear HB HH60; have HB := HB_; have HH60 := HH_; clear HB_ HH_; have HH61 := am hh; clear hz60_0 hz60_1 hz60_2 hz60_3; have hz60_0 := blk_cell HH60.out 0; have hz60_1 := blk_cell HH60.out 1; have hz60_2 := blk_frozen HH60.out 0; have hz60_3 := blk_frozen HH60.out 1; clear hg hb hh)
  | ((with_reducible refine gate_store (t := 30) (p := 60) rfl ?_); refine store_event (t := 30) (p := 60) (v := ?vo_w66) (w1 := ((w65.setCell ⟨g60, 0, none⟩ (.int .i64 u1)).setCell ⟨g60, 1, none⟩ (.int .i64 u2))) ?hg ?ho ?hn ?hr ?_; (case ho => rfl); (case hg => rfl); (case hn => rfl); (case hr => first | (go_simp; done) | (go_simp; rfl)); intro w66 ew_; obtain ⟨hb2, hh2⟩ := box2 (x := .int .i64 u1) (y := .int .i64 u2) HG60.out HH60.out HB.out; rw [← ew_] at hb2 hh2; have hh3 := far2 (x := .int .i64 u1) (y := .int .i64 u2) HH61.out HN.out.symm; rw [← ew_] at hh3; clear HB HH60 HH61 ew_ hz60_0 hz60_1 hz60_2 hz60_3 hz61_0 hz61_1 hz61_2 hz61_3 hz61_4 hz61_5; have HB := am hb2; have HH60 := am hh2; have HH61 := am hh3; have hz61_0 := blk_cell hh3 0; have hz61_1 := blk_cell hh3 1; have hz61_2 := blk_cell hh3 2; have hz61_3 := blk_frozen hh3 0; have hz61_4 := blk_frozen hh3 1; have hz61_5 := blk_frozen hh3 2; clear hb2 hh2 hh3)
  | ((with_reducible refine gate_store (t := 37) (p := 61) rfl ?_); refine store_event (t := 37) (p := 61) (v := ?vo_w67) (w1 := (((w66.setCell ⟨g61, 0, none⟩ (.int .i64 f1)).setCell ⟨g61, 1, none⟩ (.int .i64 f2)).setCell ⟨g61, 2, none⟩ (.int .i64 f3))) ?hg ?ho ?hn ?hr ?_; (case ho => rfl); (case hg => rfl); (case hn => rfl); (case hr => first | (go_simp; done) | (go_simp; rfl)); intro w67 ew_; obtain ⟨hb2, hh2⟩ := box3 (x := .int .i64 f1) (y := .int .i64 f2) (z := .int .i64 f3) HG61.out HH61.out HB.out; rw [← ew_] at hb2 hh2; have hh3 := far3 (x := .int .i64 f1) (y := .int .i64 f2) (z := .int .i64 f3) HH60.out HN.out; rw [← ew_] at hh3; have HL_ := am (((HL.out.below hb2).box hh3).box hh2); clear HL; have HL := HL_; clear HL_; clear hb2 hh2 hh3 HB HN HH61 HG61 HH60 HG60 ew_ hz61_0 hz61_1 hz61_2 hz61_3 hz61_4 hz61_5)
  | fail)
 simp only [Act.put, List.setIfInBounds_toArray, List.set_cons_zero, List.set_cons_succ]
 go_cut [390] from 343 to 390 (fun s390 wx => s390 = .bool false ∧ Aside0 (Held (fun W => W.heap[g49]? = some (.cells #[.int .i64 d1, .int .i64 d2, .slice Adl dl.length cdl] 33 (0, 0)) ∧ Kd.C k37 W Adl dl.length dl ∧ W.heap[g47]? = some (.cells #[.int .i64 s3, .int .i64 s4, .slice Asl sl.length csl] 33 (0, 0)) ∧ Kd.C k37 W Asl sl.length sl ∧ W.heap[g43]? = some (.cells #[.int .i64 b1, .int .i64 b2, .slice Aal al.length cal] 33 (0, 0)) ∧ Kd.C k37 W Aal al.length al ∧ W.heap[g42]? = some (.cells #[.int .i64 x1, .int .i64 x2, .int .i64 x3] 37 (0, 0)) ∧ W.heap[g41]? = some (.cells #[.int .i64 r1, .int .i64 r2, .slice Arl rl.length crl] 33 (0, 0)) ∧ Kd.C k37 W Arl rl.length rl ∧ Below w.heap.size w W) wx))
 case first =>
  have hn4 : (four != four) = false := bne_self_eq_false _
  have hn6 : (six != six) = false := bne_self_eq_false _
  have hn8 : (eight != eight) = false := bne_self_eq_false _
  have hnf : (fits != fits) = false := bne_self_eq_false _
  have hni : (isu != isu) = false := bne_self_eq_false _
  have hcl := HE.out.clue
  cases eight
  ·
   clear hcl
   have HK_ := am (fun W W' => @Stay.step (fun W => W.cell? ⟨g43, 0, none⟩ = some (.int .i64 b1) ∧ W.cell? ⟨g43, 1, none⟩ = some (.int .i64 b2) ∧ W.cell? ⟨g43, 2, none⟩ = some (.slice Aal al.length cal) ∧ W.cell? ⟨g45, 0, none⟩ = some (.int .i64 b1) ∧ W.cell? ⟨g45, 1, none⟩ = some (.int .i64 b2) ∧ W.cell? ⟨g45, 2, none⟩ = some (.slice Abl bl.length cbl) ∧ W.cell? ⟨g49, 0, none⟩ = some (.int .i64 d1) ∧ W.cell? ⟨g49, 1, none⟩ = some (.int .i64 d2) ∧ W.cell? ⟨g49, 2, none⟩ = some (.slice Adl dl.length cdl) ∧ W.cell? ⟨g51, 0, none⟩ = some (.int .i64 d1) ∧ W.cell? ⟨g51, 1, none⟩ = some (.int .i64 d2) ∧ W.cell? ⟨g51, 2, none⟩ = some (.slice Avl vl.length cvl) ∧ W.cell? ⟨g60, 0, none⟩ = some (.int .i64 u1) ∧ W.cell? ⟨g60, 1, none⟩ = some (.int .i64 u2) ∧ W.cell? ⟨g61, 0, none⟩ = some (.int .i64 f1) ∧ W.cell? ⟨g61, 1, none⟩ = some (.int .i64 f2) ∧ W.cell? ⟨g61, 2, none⟩ = some (.int .i64 f3) ∧ Held (fun W => W.heap[g61]? = some (.cells #[.int .i64 f1, .int .i64 f2, .int .i64 f3] 37 (0, 0)) ∧ W.heap[g60]? = some (.cells #[.int .i64 u1, .int .i64 u2] 30 (0, 0)) ∧ W.heap[g54]? = some (.cells #[.int .i64 e1, .int .i64 e2, .int .i64 e3] 37 (0, 0)) ∧ W.heap[g53]? = some (.cells #[.int .i64 t1, .int .i64 t2] 30 (0, 0)) ∧ W.heap[g51]? = some (.cells #[.int .i64 d1, .int .i64 d2, .slice Avl vl.length cvl] 33 (0, 0)) ∧ Kd.C k37 W Avl vl.length vl ∧ W.heap[g49]? = some (.cells #[.int .i64 d1, .int .i64 d2, .slice Adl dl.length cdl] 33 (0, 0)) ∧ Kd.C k37 W Adl dl.length dl ∧ W.heap[g47]? = some (.cells #[.int .i64 s3, .int .i64 s4, .slice Asl sl.length csl] 33 (0, 0)) ∧ Kd.C k37 W Asl sl.length sl ∧ W.heap[g45]? = some (.cells #[.int .i64 b1, .int .i64 b2, .slice Abl bl.length cbl] 33 (0, 0)) ∧ Kd.C k37 W Abl bl.length bl ∧ W.heap[g43]? = some (.cells #[.int .i64 b1, .int .i64 b2, .slice Aal al.length cal] 33 (0, 0)) ∧ Kd.C k37 W Aal al.length al ∧ W.heap[g42]? = some (.cells #[.int .i64 x1, .int .i64 x2, .int .i64 x3] 37 (0, 0)) ∧ W.heap[g41]? = some (.cells #[.int .i64 r1, .int .i64 r2, .slice Arl rl.length crl] 33 (0, 0)) ∧ Kd.C k37 W Arl rl.length rl ∧ Kd.C (Kd.int .u8) W A1 l1.length l1 ∧ Kd.C (Kd.int .u8) W A0 l0.length l0 ∧ Below w.heap.size w W) W) inferInstance W W')
   have HG_ := am (fun W h => (HK_.out W W h (Below.refl _ _)).2.2.2.2.2.2.2.2.2.2.2.2.2.2.2.2.2)
   have HS := am (HK_.out _ _ ⟨blk_cell HL.out.out.2.2.2.2.2.2.2.2.2.2.2.2.1 0, blk_cell HL.out.out.2.2.2.2.2.2.2.2.2.2.2.2.1 1, blk_cell HL.out.out.2.2.2.2.2.2.2.2.2.2.2.2.1 2, blk_cell HL.out.out.2.2.2.2.2.2.2.2.2.2.1 0, blk_cell HL.out.out.2.2.2.2.2.2.2.2.2.2.1 1, blk_cell HL.out.out.2.2.2.2.2.2.2.2.2.2.1 2, blk_cell HL.out.out.2.2.2.2.2.2.1 0, blk_cell HL.out.out.2.2.2.2.2.2.1 1, blk_cell HL.out.out.2.2.2.2.2.2.1 2, blk_cell HL.out.out.2.2.2.2.1 0, blk_cell HL.out.out.2.2.2.2.1 1, blk_cell HL.out.out.2.2.2.2.1 2, blk_cell HL.out.out.2.1 0, blk_cell HL.out.out.2.1 1, blk_cell HL.out.out.1 0, blk_cell HL.out.out.1 1, blk_cell HL.out.out.1 2, HL.out⟩ (Below.refl _ _))
   clear HL
   refine wp_region_noPanic ?_
   refine wp_region_held_drew (S := fun W => W.cell? ⟨g43, 0, none⟩ = some (.int .i64 b1) ∧ W.cell? ⟨g43, 1, none⟩ = some (.int .i64 b2) ∧ W.cell? ⟨g43, 2, none⟩ = some (.slice Aal al.length cal) ∧ W.cell? ⟨g45, 0, none⟩ = some (.int .i64 b1) ∧ W.cell? ⟨g45, 1, none⟩ = some (.int .i64 b2) ∧ W.cell? ⟨g45, 2, none⟩ = some (.slice Abl bl.length cbl) ∧ W.cell? ⟨g49, 0, none⟩ = some (.int .i64 d1) ∧ W.cell? ⟨g49, 1, none⟩ = some (.int .i64 d2) ∧ W.cell? ⟨g49, 2, none⟩ = some (.slice Adl dl.length cdl) ∧ W.cell? ⟨g51, 0, none⟩ = some (.int .i64 d1) ∧ W.cell? ⟨g51, 1, none⟩ = some (.int .i64 d2) ∧ W.cell? ⟨g51, 2, none⟩ = some (.slice Avl vl.length cvl) ∧ W.cell? ⟨g60, 0, none⟩ = some (.int .i64 u1) ∧ W.cell? ⟨g60, 1, none⟩ = some (.int .i64 u2) ∧ W.cell? ⟨g61, 0, none⟩ = some (.int .i64 f1) ∧ W.cell? ⟨g61, 1, none⟩ = some (.int .i64 f2) ∧ W.cell? ⟨g61, 2, none⟩ = some (.int .i64 f3) ∧ Held (fun W => W.heap[g61]? = some (.cells #[.int .i64 f1, .int .i64 f2, .int .i64 f3] 37 (0, 0)) ∧ W.heap[g60]? = some (.cells #[.int .i64 u1, .int .i64 u2] 30 (0, 0)) ∧ W.heap[g54]? = some (.cells #[.int .i64 e1, .int .i64 e2, .int .i64 e3] 37 (0, 0)) ∧ W.heap[g53]? = some (.cells #[.int .i64 t1, .int .i64 t2] 30 (0, 0)) ∧ W.heap[g51]? = some (.cells #[.int .i64 d1, .int .i64 d2, .slice Avl vl.length cvl] 33 (0, 0)) ∧ Kd.C k37 W Avl vl.length vl ∧ W.heap[g49]? = some (.cells #[.int .i64 d1, .int .i64 d2, .slice Adl dl.length cdl] 33 (0, 0)) ∧ Kd.C k37 W Adl dl.length dl ∧ W.heap[g47]? = some (.cells #[.int .i64 s3, .int .i64 s4, .slice Asl sl.length csl] 33 (0, 0)) ∧ Kd.C k37 W Asl sl.length sl ∧ W.heap[g45]? = some (.cells #[.int .i64 b1, .int .i64 b2, .slice Abl bl.length cbl] 33 (0, 0)) ∧ Kd.C k37 W Abl bl.length bl ∧ W.heap[g43]? = some (.cells #[.int .i64 b1, .int .i64 b2, .slice Aal al.length cal] 33 (0, 0)) ∧ Kd.C k37 W Aal al.length al ∧ W.heap[g42]? = some (.cells #[.int .i64 x1, .int .i64 x2, .int .i64 x3] 37 (0, 0)) ∧ W.heap[g41]? = some (.cells #[.int .i64 r1, .int .i64 r2, .slice Arl rl.length crl] 33 (0, 0)) ∧ Kd.C k37 W Arl rl.length rl ∧ Kd.C (Kd.int .u8) W A1 l1.length l1 ∧ Kd.C (Kd.int .u8) W A0 l0.length l0 ∧ Below w.heap.size w W) W) (by kernel_rfl) (by with_reducible exact HK_.out _ _ HS.out ((Below.refl _ _).drew)) (fun hHeld => ?_)
   refine uHt (i := 0) hHeld ?_
   refine uHt (i := 1) hHeld ?_
   refine uHt (i := 2) hHeld ?_
   refine uHt (i := 3) hHeld ?_
   refine uHt (i := 4) hHeld ?_
   refine uHt (i := 5) hHeld ?_
   refine wpAnyH_ready (rs := [6]) (by kernel_rfl) (by simp) ?_
   refine AllReadyH.cons (o := ?o7) ?hi7 (fun K hK => ?_) AllReadyH.nil
   case hi7 => simp only [List.getElem?_toArray, List.getElem?_cons_zero, List.getElem?_cons_succ]; rfl
   go_simp
   go_at_call 19
   with_reducible refine (laws_aPuzzle.calls k b1 b2 _ _ al b1 b2 _ _ bl true _ ?sa LEal.out ?sb LEbl.out HE.out.eq).mono ?_
   case sa => exact (HG_.out _ (by with_reducible assumption)).out.2.2.2.2.2.2.2.2.2.2.2.2.2.1
   case sb => exact (HG_.out _ (by with_reducible assumption)).out.2.2.2.2.2.2.2.2.2.2.2.1
   rintro e w' ⟨rfl, hb⟩
   (try (go_wp2_with fail))
   refine hK.out _ _ ?hS (fun hHeld => ?_)
   case hS => with_reducible exact HK_.out _ _ (by assumption) (by assumption)
   clear hK K
   (try simp only [Act.put, List.setIfInBounds_toArray, List.set_cons_zero, List.set_cons_succ])
   refine uHt (i := 7) hHeld ?_
   refine uHt (i := 8) hHeld ?_
   refine uHt (i := 9) hHeld ?_
   refine uHt (i := 10) hHeld ?_
   refine uHt (i := 11) hHeld ?_
   refine uHt (i := 12) hHeld ?_
   refine uHt (i := 13) hHeld ?_
   refine uHt (i := 14) hHeld ?_
   refine uHt (i := 15) hHeld ?_
   refine uHt (i := 16) hHeld ?_
   refine wpAnyH_ready (rs := [17]) (by kernel_rfl) (by simp) ?_
   refine AllReadyH.cons (o := ?o18) ?hi18 (fun K hK => ?_) AllReadyH.nil
   case hi18 => simp only [List.getElem?_toArray, List.getElem?_cons_zero, List.getElem?_cons_succ]; rfl
   go_simp
   go_at_call 19
   with_reducible refine (laws_aPuzzle.calls k d1 d2 _ _ dl d1 d2 _ _ vl true _ ?sa LEdl.out ?sb LEvl.out HE.out.eq2).mono ?_
   case sa => exact (HG_.out _ (by with_reducible assumption)).out.2.2.2.2.2.2.2.1
   case sb => exact (HG_.out _ (by with_reducible assumption)).out.2.2.2.2.2.1
   rintro e w' ⟨rfl, hb⟩
   (try (go_wp2_with fail))
   refine hK.out _ _ ?hS (fun hHeld => ?_)
   case hS => with_reducible exact HK_.out _ _ (by assumption) (by assumption)
   clear hK K
   (try simp only [Act.put, List.setIfInBounds_toArray, List.set_cons_zero, List.set_cons_succ])
   refine uHt (i := 18) hHeld ?_
   refine uHt (i := 19) hHeld ?_
   refine uHt (i := 20) hHeld ?_
   refine uHt (i := 21) hHeld ?_
   refine uHt (i := 22) hHeld ?_
   refine uHt (i := 23) hHeld ?_
   refine uHt (i := 24) hHeld ?_
   refine uHt (i := 25) hHeld ?_
   refine uHt (i := 26) hHeld ?_
   refine uHt (i := 27) hHeld ?_
   refine uHt (i := 28) hHeld ?_
   refine uHt (i := 29) hHeld ?_
   refine uHt (i := 30) hHeld ?_
   refine uHt (i := 31) hHeld ?_
   refine uHt (i := 32) hHeld ?_
   refine uHt (i := 34) hHeld ?_
   refine uHt (i := 35) hHeld ?_
   refine wpAnyH_ready (rs := [33]) (by kernel_rfl) (by simp) ?_
   refine AllReadyH.cons (o := ?o36) ?hi36 (fun K hK => ?_) AllReadyH.nil
   case hi36 => simp only [List.getElem?_toArray, List.getElem?_cons_zero, List.getElem?_cons_succ]; rfl
   go_simp
   go_at_call 38
   with_reducible refine (impl_IsClue.calls u1 u2 f1 f2 f3 isu _ HE.out.impl4).mono ?_
   rintro e w' ⟨rfl, hb⟩
   (try (go_wp2_with fail))
   refine hK.out _ _ ?hS (fun hHeld => ?_)
   case hS => with_reducible exact HK_.out _ _ (by assumption) (by assumption)
   clear hK K
   (try simp only [Act.put, List.setIfInBounds_toArray, List.set_cons_zero, List.set_cons_succ])
   refine wpAnyH_ready (rs := [36]) (by kernel_rfl) (by simp) ?_
   refine AllReadyH.cons (o := ?o37) ?hi37 (fun K hK => ?_) AllReadyH.nil
   case hi37 => simp only [List.getElem?_toArray, List.getElem?_cons_zero, List.getElem?_cons_succ]; rfl
   go_simp
   go_at_call 39
   with_reducible refine (spec_IsClue.calls u1 u2 f1 f2 f3 isu _ HE.out.spec4).mono ?_
   rintro e w' ⟨rfl, hb⟩
   (try (go_wp2_with fail))
   refine hK.out _ _ ?hS (fun hHeld => ?_)
   case hS => with_reducible exact HK_.out _ _ (by assumption) (by assumption)
   clear hK K
   (try simp only [Act.put, List.setIfInBounds_toArray, List.set_cons_zero, List.set_cons_succ])
   refine uHt (i := 37) hHeld ?_
   refine uHt (i := 38) hHeld ?_
   refine uHt (i := 39) hHeld ?_
   refine uHt (i := 40) hHeld ?_
   refine uHt (i := 41) hHeld ?_
   refine uHs (i := 42) hHeld ?_
   refine uHs (i := 43) hHeld ?_
   refine uHs (i := 44) hHeld ?_
   refine uHs (i := 45) hHeld ?_
   refine uHt (i := 46) hHeld ?_
   refine uHt (i := 47) hHeld ?_
   refine wpAnyH_done (by kernel_rfl) ?_ _
   refine NoPanic.normal ?_
   go_wp2
   go_meet
   exact ⟨rfl, ⟨⟨(HG_.out _ (by with_reducible assumption)).out.2.2.2.2.2.2.1, (HG_.out _ (by with_reducible assumption)).out.2.2.2.2.2.2.2.1, (HG_.out _ (by with_reducible assumption)).out.2.2.2.2.2.2.2.2.1, (HG_.out _ (by with_reducible assumption)).out.2.2.2.2.2.2.2.2.2.1, (HG_.out _ (by with_reducible assumption)).out.2.2.2.2.2.2.2.2.2.2.2.2.1, (HG_.out _ (by with_reducible assumption)).out.2.2.2.2.2.2.2.2.2.2.2.2.2.1, (HG_.out _ (by with_reducible assumption)).out.2.2.2.2.2.2.2.2.2.2.2.2.2.2.1, (HG_.out _ (by with_reducible assumption)).out.2.2.2.2.2.2.2.2.2.2.2.2.2.2.2.1, (HG_.out _ (by with_reducible assumption)).out.2.2.2.2.2.2.2.2.2.2.2.2.2.2.2.2.1, (HG_.out _ (by with_reducible assumption)).out.2.2.2.2.2.2.2.2.2.2.2.2.2.2.2.2.2.2.2⟩⟩⟩
  ·
   have HCL := am (hcl rfl)
   clear hcl
   have HK_ := am (fun W W' => @Stay.step (fun W => W.cell? ⟨g43, 0, none⟩ = some (.int .i64 b1) ∧ W.cell? ⟨g43, 1, none⟩ = some (.int .i64 b2) ∧ W.cell? ⟨g43, 2, none⟩ = some (.slice Aal al.length cal) ∧ W.cell? ⟨g45, 0, none⟩ = some (.int .i64 b1) ∧ W.cell? ⟨g45, 1, none⟩ = some (.int .i64 b2) ∧ W.cell? ⟨g45, 2, none⟩ = some (.slice Abl bl.length cbl) ∧ W.cell? ⟨g49, 0, none⟩ = some (.int .i64 d1) ∧ W.cell? ⟨g49, 1, none⟩ = some (.int .i64 d2) ∧ W.cell? ⟨g49, 2, none⟩ = some (.slice Adl dl.length cdl) ∧ W.cell? ⟨g51, 0, none⟩ = some (.int .i64 d1) ∧ W.cell? ⟨g51, 1, none⟩ = some (.int .i64 d2) ∧ W.cell? ⟨g51, 2, none⟩ = some (.slice Avl vl.length cvl) ∧ W.cell? ⟨g60, 0, none⟩ = some (.int .i64 u1) ∧ W.cell? ⟨g60, 1, none⟩ = some (.int .i64 u2) ∧ W.cell? ⟨g61, 0, none⟩ = some (.int .i64 f1) ∧ W.cell? ⟨g61, 1, none⟩ = some (.int .i64 f2) ∧ W.cell? ⟨g61, 2, none⟩ = some (.int .i64 f3) ∧ W.cell? ⟨g53, 0, none⟩ = some (.int .i64 t1) ∧ W.cell? ⟨g53, 1, none⟩ = some (.int .i64 t2) ∧ W.cell? ⟨g54, 0, none⟩ = some (.int .i64 e1) ∧ W.cell? ⟨g54, 1, none⟩ = some (.int .i64 e2) ∧ W.cell? ⟨g54, 2, none⟩ = some (.int .i64 e3) ∧ Held (fun W => W.heap[g61]? = some (.cells #[.int .i64 f1, .int .i64 f2, .int .i64 f3] 37 (0, 0)) ∧ W.heap[g60]? = some (.cells #[.int .i64 u1, .int .i64 u2] 30 (0, 0)) ∧ W.heap[g54]? = some (.cells #[.int .i64 e1, .int .i64 e2, .int .i64 e3] 37 (0, 0)) ∧ W.heap[g53]? = some (.cells #[.int .i64 t1, .int .i64 t2] 30 (0, 0)) ∧ W.heap[g51]? = some (.cells #[.int .i64 d1, .int .i64 d2, .slice Avl vl.length cvl] 33 (0, 0)) ∧ Kd.C k37 W Avl vl.length vl ∧ W.heap[g49]? = some (.cells #[.int .i64 d1, .int .i64 d2, .slice Adl dl.length cdl] 33 (0, 0)) ∧ Kd.C k37 W Adl dl.length dl ∧ W.heap[g47]? = some (.cells #[.int .i64 s3, .int .i64 s4, .slice Asl sl.length csl] 33 (0, 0)) ∧ Kd.C k37 W Asl sl.length sl ∧ W.heap[g45]? = some (.cells #[.int .i64 b1, .int .i64 b2, .slice Abl bl.length cbl] 33 (0, 0)) ∧ Kd.C k37 W Abl bl.length bl ∧ W.heap[g43]? = some (.cells #[.int .i64 b1, .int .i64 b2, .slice Aal al.length cal] 33 (0, 0)) ∧ Kd.C k37 W Aal al.length al ∧ W.heap[g42]? = some (.cells #[.int .i64 x1, .int .i64 x2, .int .i64 x3] 37 (0, 0)) ∧ W.heap[g41]? = some (.cells #[.int .i64 r1, .int .i64 r2, .slice Arl rl.length crl] 33 (0, 0)) ∧ Kd.C k37 W Arl rl.length rl ∧ Kd.C (Kd.int .u8) W A1 l1.length l1 ∧ Kd.C (Kd.int .u8) W A0 l0.length l0 ∧ Below w.heap.size w W) W) inferInstance W W')
   have HG_ := am (fun W h => (HK_.out W W h (Below.refl _ _)).2.2.2.2.2.2.2.2.2.2.2.2.2.2.2.2.2.2.2.2.2.2)
   have HS := am (HK_.out _ _ ⟨blk_cell HL.out.out.2.2.2.2.2.2.2.2.2.2.2.2.1 0, blk_cell HL.out.out.2.2.2.2.2.2.2.2.2.2.2.2.1 1, blk_cell HL.out.out.2.2.2.2.2.2.2.2.2.2.2.2.1 2, blk_cell HL.out.out.2.2.2.2.2.2.2.2.2.2.1 0, blk_cell HL.out.out.2.2.2.2.2.2.2.2.2.2.1 1, blk_cell HL.out.out.2.2.2.2.2.2.2.2.2.2.1 2, blk_cell HL.out.out.2.2.2.2.2.2.1 0, blk_cell HL.out.out.2.2.2.2.2.2.1 1, blk_cell HL.out.out.2.2.2.2.2.2.1 2, blk_cell HL.out.out.2.2.2.2.1 0, blk_cell HL.out.out.2.2.2.2.1 1, blk_cell HL.out.out.2.2.2.2.1 2, blk_cell HL.out.out.2.1 0, blk_cell HL.out.out.2.1 1, blk_cell HL.out.out.1 0, blk_cell HL.out.out.1 1, blk_cell HL.out.out.1 2, blk_cell HL.out.out.2.2.2.1 0, blk_cell HL.out.out.2.2.2.1 1, blk_cell HL.out.out.2.2.1 0, blk_cell HL.out.out.2.2.1 1, blk_cell HL.out.out.2.2.1 2, HL.out⟩ (Below.refl _ _))
   clear HL
   go_region_held3 (fun W => W.cell? ⟨g43, 0, none⟩ = some (.int .i64 b1) ∧ W.cell? ⟨g43, 1, none⟩ = some (.int .i64 b2) ∧ W.cell? ⟨g43, 2, none⟩ = some (.slice Aal al.length cal) ∧ W.cell? ⟨g45, 0, none⟩ = some (.int .i64 b1) ∧ W.cell? ⟨g45, 1, none⟩ = some (.int .i64 b2) ∧ W.cell? ⟨g45, 2, none⟩ = some (.slice Abl bl.length cbl) ∧ W.cell? ⟨g49, 0, none⟩ = some (.int .i64 d1) ∧ W.cell? ⟨g49, 1, none⟩ = some (.int .i64 d2) ∧ W.cell? ⟨g49, 2, none⟩ = some (.slice Adl dl.length cdl) ∧ W.cell? ⟨g51, 0, none⟩ = some (.int .i64 d1) ∧ W.cell? ⟨g51, 1, none⟩ = some (.int .i64 d2) ∧ W.cell? ⟨g51, 2, none⟩ = some (.slice Avl vl.length cvl) ∧ W.cell? ⟨g60, 0, none⟩ = some (.int .i64 u1) ∧ W.cell? ⟨g60, 1, none⟩ = some (.int .i64 u2) ∧ W.cell? ⟨g61, 0, none⟩ = some (.int .i64 f1) ∧ W.cell? ⟨g61, 1, none⟩ = some (.int .i64 f2) ∧ W.cell? ⟨g61, 2, none⟩ = some (.int .i64 f3) ∧ W.cell? ⟨g53, 0, none⟩ = some (.int .i64 t1) ∧ W.cell? ⟨g53, 1, none⟩ = some (.int .i64 t2) ∧ W.cell? ⟨g54, 0, none⟩ = some (.int .i64 e1) ∧ W.cell? ⟨g54, 1, none⟩ = some (.int .i64 e2) ∧ W.cell? ⟨g54, 2, none⟩ = some (.int .i64 e3) ∧ Held (fun W => W.heap[g61]? = some (.cells #[.int .i64 f1, .int .i64 f2, .int .i64 f3] 37 (0, 0)) ∧ W.heap[g60]? = some (.cells #[.int .i64 u1, .int .i64 u2] 30 (0, 0)) ∧ W.heap[g54]? = some (.cells #[.int .i64 e1, .int .i64 e2, .int .i64 e3] 37 (0, 0)) ∧ W.heap[g53]? = some (.cells #[.int .i64 t1, .int .i64 t2] 30 (0, 0)) ∧ W.heap[g51]? = some (.cells #[.int .i64 d1, .int .i64 d2, .slice Avl vl.length cvl] 33 (0, 0)) ∧ Kd.C k37 W Avl vl.length vl ∧ W.heap[g49]? = some (.cells #[.int .i64 d1, .int .i64 d2, .slice Adl dl.length cdl] 33 (0, 0)) ∧ Kd.C k37 W Adl dl.length dl ∧ W.heap[g47]? = some (.cells #[.int .i64 s3, .int .i64 s4, .slice Asl sl.length csl] 33 (0, 0)) ∧ Kd.C k37 W Asl sl.length sl ∧ W.heap[g45]? = some (.cells #[.int .i64 b1, .int .i64 b2, .slice Abl bl.length cbl] 33 (0, 0)) ∧ Kd.C k37 W Abl bl.length bl ∧ W.heap[g43]? = some (.cells #[.int .i64 b1, .int .i64 b2, .slice Aal al.length cal] 33 (0, 0)) ∧ Kd.C k37 W Aal al.length al ∧ W.heap[g42]? = some (.cells #[.int .i64 x1, .int .i64 x2, .int .i64 x3] 37 (0, 0)) ∧ W.heap[g41]? = some (.cells #[.int .i64 r1, .int .i64 r2, .slice Arl rl.length crl] 33 (0, 0)) ∧ Kd.C k37 W Arl rl.length rl ∧ Kd.C (Kd.int .u8) W A1 l1.length l1 ∧ Kd.C (Kd.int .u8) W A0 l0.length l0 ∧ Below w.heap.size w W) W) (first | (with_reducible exact HK_.out _ _ HS.out ((Below.refl _ _).drew)) | (with_reducible assumption) | (with_reducible exact HK_.out _ _ (by assumption) (by assumption))) (first | (go_at_call 19; with_reducible refine (laws_aPuzzle.calls k b1 b2 _ _ al b1 b2 _ _ bl true _ ?sa LEal.out ?sb LEbl.out HE.out.eq).mono ?_; (case sa => exact (HG_.out _ (by with_reducible assumption)).out.2.2.2.2.2.2.2.2.2.2.2.2.2.1); (case sb => exact (HG_.out _ (by with_reducible assumption)).out.2.2.2.2.2.2.2.2.2.2.2.1); rintro e w' ⟨rfl, hb⟩) | (go_at_call 19; with_reducible refine (laws_aPuzzle.calls k d1 d2 _ _ dl d1 d2 _ _ vl true _ ?sa LEdl.out ?sb LEvl.out HE.out.eq2).mono ?_; (case sa => exact (HG_.out _ (by with_reducible assumption)).out.2.2.2.2.2.2.2.1); (case sb => exact (HG_.out _ (by with_reducible assumption)).out.2.2.2.2.2.1); rintro e w' ⟨rfl, hb⟩) | (go_at_call 38; with_reducible refine (impl_IsClue.calls u1 u2 f1 f2 f3 isu _ HE.out.impl4).mono ?_; rintro e w' ⟨rfl, hb⟩) | (go_at_call 39; with_reducible refine (spec_IsClue.calls u1 u2 f1 f2 f3 isu _ HE.out.spec4).mono ?_; rintro e w' ⟨rfl, hb⟩) | (go_at_call 38; with_reducible refine (impl_IsClue.calls t1 t2 e1 e2 e3 true _ HCL.out).mono ?_; rintro e w' ⟨rfl, hb⟩))
   all_goals
    go_wp2
    go_meet
    exact ⟨rfl, ⟨⟨(HG_.out _ (by with_reducible assumption)).out.2.2.2.2.2.2.1, (HG_.out _ (by with_reducible assumption)).out.2.2.2.2.2.2.2.1, (HG_.out _ (by with_reducible assumption)).out.2.2.2.2.2.2.2.2.1, (HG_.out _ (by with_reducible assumption)).out.2.2.2.2.2.2.2.2.2.1, (HG_.out _ (by with_reducible assumption)).out.2.2.2.2.2.2.2.2.2.2.2.2.1, (HG_.out _ (by with_reducible assumption)).out.2.2.2.2.2.2.2.2.2.2.2.2.2.1, (HG_.out _ (by with_reducible assumption)).out.2.2.2.2.2.2.2.2.2.2.2.2.2.2.1, (HG_.out _ (by with_reducible assumption)).out.2.2.2.2.2.2.2.2.2.2.2.2.2.2.2.1, (HG_.out _ (by with_reducible assumption)).out.2.2.2.2.2.2.2.2.2.2.2.2.2.2.2.2.1, (HG_.out _ (by with_reducible assumption)).out.2.2.2.2.2.2.2.2.2.2.2.2.2.2.2.2.2.2.2⟩⟩⟩
 obtain ⟨rfl, HL2⟩ := hcut
 clear HL
 have HL := HL2
 clear HL2
 rename_i Ukk Ukl Ukm Ukn Uko Ukp Ukq Ukr Uks Ukt Uku Ukv Ukw Ukx Uky Ukz UkA UkB UkC UkD UkE UkF UkG UkH UkI UkJ UkK UkL UkM UkN UkO UkP UkQ UkR UkS UkT UkU UkV UkW UkX UkY UkZ Ul0 Ul1 Ul2 Ul3 Ul4 Ul5 Ul6 Ul7 Ul8 Ul9
 revert A0 c0 l0 A1 c1 l1 w k s1 s2 ho cl sd m1 m2 ml nl ok q1 q2 ql h1 h2 hl il one solved three r1 r2 rl x1 x2 x3 b1 b2 al bl four s3 s4 sl kk d1 d2 dl vl six t1 t2 e1 e2 e3 ex fits eight u1 u2 f1 f2 f3 isu hu30 hu33 hu37 HC0 HC1 HBIG HA HRB HCC HRD HE HRF HRG U00 w1 w2 g5 w3 w4 w5 Aml cml LEml g9 w6 w7 w8 Anl cnl LEnl g11 w9 w10 w11 U6M U6N u13 u14 u15 u16 u17 u18 u19 u20 u21 u22 u23 u24 u25 u26 u27 U6O U6P U6Q U6R U6S U6T U6U U6V U6W U6X U6Y U6Z U70 U71 U72 U73 U74 U75 U76 U77 U78 U79 U7a U7b U7c U7d U7e U7f U7g U7h U7i U7j U7k U7l U7m U7n U7o U7p U7q U7r U7s U7t U7u U7v U7w U7x U7y U7z U7A U7B U7C U7D U7E U7F U7G U7H U7I U7J U7K U7L U7M U7N U7O U7P U7Q U7R U7S U7T U7U U7V U7W U7X U7Y U7Z U80 U81 U82 U83 U84 U85 U86 U87 U88 U89 U8a U8b U8c U8d U8e U8f U8g U8h U8i U8j U8k U8l U8m U8n U8o U8p U8q U8r U8s U8t U8u U8v U8w U8x U8y U8z U8A U8B U8C U8D U8E U8F U8G U8H u184 u185 u186 U8I U8J U8K U8L U8M U8N U8O U8P U8Q U8R U8S U8T U8U U8V U8W U8X U8Y U8Z U90 U91 U92 U93 U94 U95 U96 U97 U98 U99 U9a U9b U9c U9d U9e U9f U9g U9h U9i U9j U9k U9l U9m U9n U9o U9p U9q U9r U9s U9t U9u U9v U9w U9x U9y U9z U9A U9B U9C U9D U9E U9F U9G U9H U9I U9J U9K U9L U9M U9N U9O U9P U9Q U9R U9S U9T U9U U9V U9W U9X U9Y U9Z Ua0 Ua1 Ua2 Ua3 Ua4 Ua5 Ua6 Ua7 Ua8 Ua9 Uaa Uab Uac Uad Uae Uaf Uag Uah Uai Uaj Uak Ual Uam Uan Uao Uap Uaq Uar Uas Uat Uau Uav Uaw Uax Uay Uaz UaA UaB UaC UaD UaE UaF UaG UaH UaI UaJ UaK UaL UaM UaN UaO UaP UaQ UaR UaS UaT UaU UaV UaW UaX UaY UaZ Ub0 Ub1 Ub2 Ub3 Ub4 Ub5 Ub6 Ub7 Ub8 Ub9 Uba Ubb Ubc Ubd Ube Ubf Ubg Ubh Ubi Ubj Ubk Ubl Ubm Ubn Ubo Ubp Ubq Ubr Ubs Ubt Ubu Ubv Ubw Ubx Uby Ubz UbA UbB UbC UbD UbE UbF UbG UbH UbI UbJ UbK UbL UbM UbN UbO UbP UbQ UbR UbS UbT UbU UbV UbW UbX UbY UbZ Uc0 Uc1 Uc2 Uc3 Uc4 Uc5 Uc6 Uc7 Uc8 Uc9 Uca Ucb Ucc Ucd Uce Ucf Ucg Uch Uci Ucj Uck Ucl Ucm Ucn Uco Ucp Ucq Ucr Ucs Uct Ucu Ucv Ucw Ucx Ucy Ucz UcA UcB UcC UcD UcE UcF UcG UcH UcI UcJ UcK UcL UcM UcN UcO UcP UcQ w21 Aql cql LEql g28 w22 w23 w24 Ahl chl LEhl g29 w25 w26 w27 Ail cil LEil g31 w28 w29 w30 UcR UcS UcT UcU UcV UcW UcX UcY UcZ Ud0 Ud1 Ud2 Ud3 Ud4 Ud5 Ud6 Ud7 Ukk u4 u35 u36 u37 u38 u39 u40 u66 u67 u68 u69 u70 u71 u72 u73 u74 u75 u76 u77 u78 u79 u80 u81 u82 u83 u84 u85 u86 u87 u88 u89 u90 u91 u92 u93 u94 u95 u96 u97 u98 u99 u100 u101 u102 u103 u104 u105 u106 u107 u108 u109 u110 u111 u112 u113 u114 u115 u116 u117 u118 u119 u120 u121 u122 u123 u124 u125 u126 u127 u128 u129 u130 u131 u132 u133 u134 u135 u136 u137 u138 u139 u140 u141 u142 u143 u144 u145 u146 u147 u148 u149 u150 u151 u152 u153 u154 u155 u156 u157 u158 u159 u160 u161 u162 u163 u164 u165 u166 u167 u168 u169 u170 u171 u172 u173 u174 u175 u176 u177 u178 u179 u180 u181 u182 u183 u187 u188 u189 u190 u191 u192 u193 u194 u195 u196 u197 u198 u199 u200 u201 u202 u203 u204 u205 u206 u207 u208 u209 u210 u211 u212 u213 u214 u215 u216 u217 u218 u219 u220 u221 u222 u223 u224 u225 u226 u227 u228 u229 u230 u231 u232 u233 u234 u235 u236 u237 u238 u239 u240 u241 u242 u243 u244 u245 u246 u247 u248 u249 u250 u251 u252 u253 u254 u255 u256 u257 u258 u259 u260 u261 u262 u263 u264 u265 u266 u267 u268 u269 u270 u271 u272 u273 u274 u275 u276 u277 u278 u279 u280 u281 u282 u283 u284 u285 u286 u287 u288 u289 u290 u291 u292 u293 u294 u295 u296 u297 u298 u299 u300 u301 u302 u303 u304 u305 u306 u307 u308 u309 u310 u311 u312 u313 u314 u315 u316 u317 u318 u319 u320 u321 u322 u323 u324 u325 u326 u327 u328 u329 u330 u331 u332 u333 u334 u335 u336 u337 u338 u339 u340 u341 u342 Ukl Ukm Ukn Uko Ukp Ukq Ukr Uks Ukt Uku Ukv Ukw Ukx Uky Ukz UkA UkB UkC UkD UkE UkF UkG UkH UkI UkJ UkK UkL UkM UkN UkO UkP UkQ UkR UkS UkT UkU UkV UkW UkX UkY UkZ Ul0 Ul1 Ul2 Ul3 Ul4 Ul5 u390 u391 u392 u393 u394 u395 u396 u397 u398 u399 u400 u401 u402 u403 u404 u405 u406 u407 u408 u409 u410 u411 u412 u413 u414 u415 u416 u417 u418 u419 u420 u421 u422 u423 u424 u425 u426 u427 u428 u429 u430 u431 u432 u433 u434 u435 u436 u437 u438 u439 u440 u441 u442 u443 w36 Arl crl LErl g41 w37 g42 w38 w39 w40 w41 Aal cal LEal g43 w42 w43 w44 Abl cbl LEbl g45 w45 w46 w47 Asl csl LEsl g47 w48 w49 w50 Adl cdl LEdl g49 w51 w52 w53 Avl cvl LEvl g51 w54 w55 w56 g53 w57 g54 w58 w59 w60 w61 w62 w63 g60 w64 g61 w65 w66 w67 Ul6 Ul7 Ul8 Ul9 wc u343 u344 u345 u346 u347 u348 u349 u350 u351 u352 u353 u354 u355 u356 u357 u358 u359 u360 u361 u362 u363 u364 u365 u366 u367 u368 u369 u370 u371 u372 u373 u374 u375 u376 u377 u378 u379 u380 u381 u382 u383 u384 u385 u386 u387 u388 u389 HL
 exact q_.out⟩
end Go.Proofs.Ytcloklakffgbmaa.G
end
section
namespace Go.Proofs.Ytcloklakffgbmaa.G
open Go.RowKit Go.Proofs.YtcloklakffgbmaaW.PrintWords Go.Proofs.YtcloklakffgbmaaW.PrintLast Go.Proofs.YtcloklakffgbmaaW.PrintMore
attribute [local go_sem] max2_int min2_int max_two min_two max_three min_three max_four min_four
attribute [local go_sem high] eqA37
set_option linter.unusedVariables false
set_option linter.unusedSimpArgs false
def hidden_5 : {Q : Prop // Aside0 Q → hidden_4.1} := ⟨_, fun q_ => by
 intro A0 c0 l0 A1 c1 l1 w k s1 s2 ho cl sd m1 m2 ml nl ok q1 q2 ql h1 h2 hl il one solved three r1 r2 rl x1 x2 x3 b1 b2 al bl four s3 s4 sl kk d1 d2 dl vl six t1 t2 e1 e2 e3 ex fits eight u1 u2 f1 f2 f3 isu hu30 hu33 hu37 HC0 HC1 HBIG HA HRB HCC HRD HE HRF HRG U00 w1 w2 g5 w3 w4 w5 Aml cml LEml g9 w6 w7 w8 Anl cnl LEnl g11 w9 w10 w11 U6M U6N u13 u14 u15 u16 u17 u18 u19 u20 u21 u22 u23 u24 u25 u26 u27 U6O U6P U6Q U6R U6S U6T U6U U6V U6W U6X U6Y U6Z U70 U71 U72 U73 U74 U75 U76 U77 U78 U79 U7a U7b U7c U7d U7e U7f U7g U7h U7i U7j U7k U7l U7m U7n U7o U7p U7q U7r U7s U7t U7u U7v U7w U7x U7y U7z U7A U7B U7C U7D U7E U7F U7G U7H U7I U7J U7K U7L U7M U7N U7O U7P U7Q U7R U7S U7T U7U U7V U7W U7X U7Y U7Z U80 U81 U82 U83 U84 U85 U86 U87 U88 U89 U8a U8b U8c U8d U8e U8f U8g U8h U8i U8j U8k U8l U8m U8n U8o U8p U8q U8r U8s U8t U8u U8v U8w U8x U8y U8z U8A U8B U8C U8D U8E U8F U8G U8H u184 u185 u186 U8I U8J U8K U8L U8M U8N U8O U8P U8Q U8R U8S U8T U8U U8V U8W U8X U8Y U8Z U90 U91 U92 U93 U94 U95 U96 U97 U98 U99 U9a U9b U9c U9d U9e U9f U9g U9h U9i U9j U9k U9l U9m U9n U9o U9p U9q U9r U9s U9t U9u U9v U9w U9x U9y U9z U9A U9B U9C U9D U9E U9F U9G U9H U9I U9J U9K U9L U9M U9N U9O U9P U9Q U9R U9S U9T U9U U9V U9W U9X U9Y U9Z Ua0 Ua1 Ua2 Ua3 Ua4 Ua5 Ua6 Ua7 Ua8 Ua9 Uaa Uab Uac Uad Uae Uaf Uag Uah Uai Uaj Uak Ual Uam Uan Uao Uap Uaq Uar Uas Uat Uau Uav Uaw Uax Uay Uaz UaA UaB UaC UaD UaE UaF UaG UaH UaI UaJ UaK UaL UaM UaN UaO UaP UaQ UaR UaS UaT UaU UaV UaW UaX UaY UaZ Ub0 Ub1 Ub2 Ub3 Ub4 Ub5 Ub6 Ub7 Ub8 Ub9 Uba Ubb Ubc Ubd Ube Ubf Ubg Ubh Ubi Ubj Ubk Ubl Ubm Ubn Ubo Ubp Ubq Ubr Ubs Ubt Ubu Ubv Ubw Ubx Uby Ubz UbA UbB UbC UbD UbE UbF UbG UbH UbI UbJ UbK UbL UbM UbN UbO UbP UbQ UbR UbS UbT UbU UbV UbW UbX UbY UbZ Uc0 Uc1 Uc2 Uc3 Uc4 Uc5 Uc6 Uc7 Uc8 Uc9 Uca Ucb Ucc Ucd Uce Ucf Ucg Uch Uci Ucj Uck Ucl Ucm Ucn Uco Ucp Ucq Ucr Ucs Uct Ucu Ucv Ucw Ucx Ucy Ucz UcA UcB UcC UcD UcE UcF UcG UcH UcI UcJ UcK UcL UcM UcN UcO UcP UcQ w21 Aql cql LEql g28 w22 w23 w24 Ahl chl LEhl g29 w25 w26 w27 Ail cil LEil g31 w28 w29 w30 UcR UcS UcT UcU UcV UcW UcX UcY UcZ Ud0 Ud1 Ud2 Ud3 Ud4 Ud5 Ud6 Ud7 Ukk u4 u35 u36 u37 u38 u39 u40 u66 u67 u68 u69 u70 u71 u72 u73 u74 u75 u76 u77 u78 u79 u80 u81 u82 u83 u84 u85 u86 u87 u88 u89 u90 u91 u92 u93 u94 u95 u96 u97 u98 u99 u100 u101 u102 u103 u104 u105 u106 u107 u108 u109 u110 u111 u112 u113 u114 u115 u116 u117 u118 u119 u120 u121 u122 u123 u124 u125 u126 u127 u128 u129 u130 u131 u132 u133 u134 u135 u136 u137 u138 u139 u140 u141 u142 u143 u144 u145 u146 u147 u148 u149 u150 u151 u152 u153 u154 u155 u156 u157 u158 u159 u160 u161 u162 u163 u164 u165 u166 u167 u168 u169 u170 u171 u172 u173 u174 u175 u176 u177 u178 u179 u180 u181 u182 u183 u187 u188 u189 u190 u191 u192 u193 u194 u195 u196 u197 u198 u199 u200 u201 u202 u203 u204 u205 u206 u207 u208 u209 u210 u211 u212 u213 u214 u215 u216 u217 u218 u219 u220 u221 u222 u223 u224 u225 u226 u227 u228 u229 u230 u231 u232 u233 u234 u235 u236 u237 u238 u239 u240 u241 u242 u243 u244 u245 u246 u247 u248 u249 u250 u251 u252 u253 u254 u255 u256 u257 u258 u259 u260 u261 u262 u263 u264 u265 u266 u267 u268 u269 u270 u271 u272 u273 u274 u275 u276 u277 u278 u279 u280 u281 u282 u283 u284 u285 u286 u287 u288 u289 u290 u291 u292 u293 u294 u295 u296 u297 u298 u299 u300 u301 u302 u303 u304 u305 u306 u307 u308 u309 u310 u311 u312 u313 u314 u315 u316 u317 u318 u319 u320 u321 u322 u323 u324 u325 u326 u327 u328 u329 u330 u331 u332 u333 u334 u335 u336 u337 u338 u339 u340 u341 u342 Ukl Ukm Ukn Uko Ukp Ukq Ukr Uks Ukt Uku Ukv Ukw Ukx Uky Ukz UkA UkB UkC UkD UkE UkF UkG UkH UkI UkJ UkK UkL UkM UkN UkO UkP UkQ UkR UkS UkT UkU UkV UkW UkX UkY UkZ Ul0 Ul1 Ul2 Ul3 Ul4 Ul5 u390 u391 u392 u393 u394 u395 u396 u397 u398 u399 u400 u401 u402 u403 u404 u405 u406 u407 u408 u409 u410 u411 u412 u413 u414 u415 u416 u417 u418 u419 u420 u421 u422 u423 u424 u425 u426 u427 u428 u429 u430 u431 u432 u433 u434 u435 u436 u437 u438 u439 u440 u441 u442 u443 w36 Arl crl LErl g41 w37 g42 w38 w39 w40 w41 Aal cal LEal g43 w42 w43 w44 Abl cbl LEbl g45 w45 w46 w47 Asl csl LEsl g47 w48 w49 w50 Adl cdl LEdl g49 w51 w52 w53 Avl cvl LEvl g51 w54 w55 w56 g53 w57 g54 w58 w59 w60 w61 w62 w63 g60 w64 g61 w65 w66 w67 Ul6 Ul7 Ul8 Ul9 wc u343 u344 u345 u346 u347 u348 u349 u350 u351 u352 u353 u354 u355 u356 u357 u358 u359 u360 u361 u362 u363 u364 u365 u366 u367 u368 u369 u370 u371 u372 u373 u374 u375 u376 u377 u378 u379 u380 u381 u382 u383 u384 u385 u386 u387 u388 u389 HL
 go_upto_if 391 with fail
 go_cut [62, 63] (fun s62 s63 wx => Aside0 (Held (fun W => W.heap[g49]? = some (.cells #[.int .i64 d1, .int .i64 d2, .slice Adl dl.length cdl] 33 (0, 0)) ∧ Kd.C k37 W Adl dl.length dl ∧ W.heap[g47]? = some (.cells #[.int .i64 s3, .int .i64 s4, .slice Asl sl.length csl] 33 (0, 0)) ∧ Kd.C k37 W Asl sl.length sl ∧ Below w.heap.size w W) wx))
 case first =>
  cases four
  ·go_wp2_with fail
   go_meet
   exact ⟨⟨HL.out.out.1, HL.out.out.2.1, HL.out.out.2.2.1, HL.out.out.2.2.2.1, HL.out.out.2.2.2.2.2.2.2.2.2⟩⟩
  ·
   obtain ⟨z1, z2, zl, rf⟩ := HRF.out rfl
   have HF1 := am rf
   clear rf
   have hx43_0 := blk_cell HL.out.out.2.2.2.2.1 0
   have hx43_1 := blk_cell HL.out.out.2.2.2.2.1 1
   have hx43_2 := blk_cell HL.out.out.2.2.2.2.1 2
   have hx41_0 := blk_cell HL.out.out.2.2.2.2.2.2.2.1 0
   have hx41_1 := blk_cell HL.out.out.2.2.2.2.2.2.2.1 1
   have hx41_2 := blk_cell HL.out.out.2.2.2.2.2.2.2.1 2
   go_wp2_with fail
   refine (impl_DropClue.calls b1 b2 _ _ al (rl.length : Int) z1 z2 zl true _ HL.out.out.2.2.2.2.2.1 LEal.out HF1.out.drop).mono ?_
   rintro e w68 ⟨v, rfl, ho, hb⟩
   obtain ⟨Azl, czl, rfl⟩ := Kd.R_slice ho
   have LEzl := am (Kd.R_reads' ho).2.1
   have HL_ := am ((HL.out.below hb).row (Kd.R_reads' ho).2.2)
   clear HL
   have HL := HL_
   clear HL_
   clear ho hb
   clear hx43_0 hx43_1 hx43_2 hx41_0 hx41_1 hx41_2
   go_wp2_with (first
    | ((with_reducible refine gate_dst (N := 62) rfl ?_); refine uX (N := 62) (cs := #[.int .i64 0, .int .i64 0, .slice none 0 0]) (t := 33) ?_; intro g62 hg w69 hh hb; have hz62_0 := blk_cell hh 0; have hz62_1 := blk_cell hh 1; have hz62_2 := blk_cell hh 2; have hz62_3 := blk_frozen hh 0; have hz62_4 := blk_frozen hh 1; have hz62_5 := blk_frozen hh 2; have HG62 := am (Nat.le_of_eq hg.symm); have HB := am hb; have HH62 := am hh; clear hg hb hh)
    | ((with_reducible refine gate_store (t := 33) (p := 62) rfl ?_); refine store_event (t := 33) (p := 62) (v := ?vo_w70) (w1 := (((w69.setCell ⟨g62, 0, none⟩ (.int .i64 z1)).setCell ⟨g62, 1, none⟩ (.int .i64 z2)).setCell ⟨g62, 2, none⟩ (.slice Azl zl.length czl))) ?hg ?ho ?hn ?hr ?_; (case ho => rfl); (case hg => rfl); (case hn => rfl); (case hr => first | (go_simp; done) | (go_simp; rfl)); intro w70 ew_; obtain ⟨hb2, hh2⟩ := box3 (x := .int .i64 z1) (y := .int .i64 z2) (z := .slice Azl zl.length czl) HG62.out HH62.out HB.out; rw [← ew_] at hb2 hh2; have HL_ := am ((HL.out.below hb2).box hh2); clear HL; have HL := HL_; clear HL_; clear hb2 hh2 HB HH62 HG62 ew_ hz62_0 hz62_1 hz62_2 hz62_3 hz62_4 hz62_5)
    | fail)
   have hlt := HF1.out.lt
   have hsm := HF1.out.small
   obtain ⟨ad, e, h0, h1, h2⟩ := at_T37 HL.out.out.2.2.2.2.2.2.2.1 (rl.length : Int) (by omega) (by omega)
   rw [HF1.out.rd] at h0 h1 h2
   simp only [Int.toNat_natCast] at h0 h1 h2
   cases e
   have q0 : (0 : Int) ≤ (rl.length : Int) := by omega
   have q1 : (rl.length : Int) < (al.length : Int) := by omega
   have p0 : (0 ≤ (rl.length : Int)) = True := eq_true (by omega)
   have p1 : ((rl.length : Int) < (al.length : Int)) = True := eq_true (by omega)
   have HK_ := am (fun W W' => @Stay.step (fun W => W.cell? ⟨g62, 0, none⟩ = some (.int .i64 z1) ∧ W.cell? ⟨g62, 1, none⟩ = some (.int .i64 z2) ∧ W.cell? ⟨g62, 2, none⟩ = some (.slice Azl zl.length czl) ∧ W.cell? ⟨g41, 0, none⟩ = some (.int .i64 r1) ∧ W.cell? ⟨g41, 1, none⟩ = some (.int .i64 r2) ∧ W.cell? ⟨g41, 2, none⟩ = some (.slice Arl rl.length crl) ∧ W.cell? ⟨g43, 0, none⟩ = some (.int .i64 b1) ∧ W.cell? ⟨g43, 1, none⟩ = some (.int .i64 b2) ∧ W.cell? ⟨g43, 2, none⟩ = some (.slice (some ad) al.length cal) ∧ W.cell? ⟨g42, 0, none⟩ = some (.int .i64 x1) ∧ W.cell? ⟨g42, 1, none⟩ = some (.int .i64 x2) ∧ W.cell? ⟨g42, 2, none⟩ = some (.int .i64 x3) ∧ W.cell? (ad.add (rl.length * 3)) = some (.int .i64 x1) ∧ W.cell? ⟨(ad.add (rl.length * 3)).block, (ad.add (rl.length * 3)).off + 1, none⟩ = some (.int .i64 x2) ∧ W.cell? ⟨(ad.add (rl.length * 3)).block, (ad.add (rl.length * 3)).off + 2, none⟩ = some (.int .i64 x3) ∧ Held (fun W => W.heap[g62]? = some (.cells #[.int .i64 z1, .int .i64 z2, .slice Azl zl.length czl] 33 (0, 0)) ∧ Kd.C k37 W Azl zl.length zl ∧ W.heap[g49]? = some (.cells #[.int .i64 d1, .int .i64 d2, .slice Adl dl.length cdl] 33 (0, 0)) ∧ Kd.C k37 W Adl dl.length dl ∧ W.heap[g47]? = some (.cells #[.int .i64 s3, .int .i64 s4, .slice Asl sl.length csl] 33 (0, 0)) ∧ Kd.C k37 W Asl sl.length sl ∧ W.heap[g43]? = some (.cells #[.int .i64 b1, .int .i64 b2, .slice (some ad) al.length cal] 33 (0, 0)) ∧ Kd.C k37 W (some ad) al.length al ∧ W.heap[g42]? = some (.cells #[.int .i64 x1, .int .i64 x2, .int .i64 x3] 37 (0, 0)) ∧ W.heap[g41]? = some (.cells #[.int .i64 r1, .int .i64 r2, .slice Arl rl.length crl] 33 (0, 0)) ∧ Kd.C k37 W Arl rl.length rl ∧ Below w.heap.size w W) W) inferInstance W W')
   have HG_ := am (fun W h => (HK_.out W W h (Below.refl _ _)).2.2.2.2.2.2.2.2.2.2.2.2.2.2.2)
   have HS := am (HK_.out _ _ ⟨blk_cell HL.out.out.1 0, blk_cell HL.out.out.1 1, blk_cell HL.out.out.1 2, blk_cell HL.out.out.2.2.2.2.2.2.2.2.2.1 0, blk_cell HL.out.out.2.2.2.2.2.2.2.2.2.1 1, blk_cell HL.out.out.2.2.2.2.2.2.2.2.2.1 2, blk_cell HL.out.out.2.2.2.2.2.2.1 0, blk_cell HL.out.out.2.2.2.2.2.2.1 1, blk_cell HL.out.out.2.2.2.2.2.2.1 2, blk_cell HL.out.out.2.2.2.2.2.2.2.2.1 0, blk_cell HL.out.out.2.2.2.2.2.2.2.2.1 1, blk_cell HL.out.out.2.2.2.2.2.2.2.2.1 2, h0, h1, h2, HL.out⟩ (Below.refl _ _))
   clear HL
   go_region_held3 (fun W => W.cell? ⟨g62, 0, none⟩ = some (.int .i64 z1) ∧ W.cell? ⟨g62, 1, none⟩ = some (.int .i64 z2) ∧ W.cell? ⟨g62, 2, none⟩ = some (.slice Azl zl.length czl) ∧ W.cell? ⟨g41, 0, none⟩ = some (.int .i64 r1) ∧ W.cell? ⟨g41, 1, none⟩ = some (.int .i64 r2) ∧ W.cell? ⟨g41, 2, none⟩ = some (.slice Arl rl.length crl) ∧ W.cell? ⟨g43, 0, none⟩ = some (.int .i64 b1) ∧ W.cell? ⟨g43, 1, none⟩ = some (.int .i64 b2) ∧ W.cell? ⟨g43, 2, none⟩ = some (.slice (some ad) al.length cal) ∧ W.cell? ⟨g42, 0, none⟩ = some (.int .i64 x1) ∧ W.cell? ⟨g42, 1, none⟩ = some (.int .i64 x2) ∧ W.cell? ⟨g42, 2, none⟩ = some (.int .i64 x3) ∧ W.cell? (ad.add (rl.length * 3)) = some (.int .i64 x1) ∧ W.cell? ⟨(ad.add (rl.length * 3)).block, (ad.add (rl.length * 3)).off + 1, none⟩ = some (.int .i64 x2) ∧ W.cell? ⟨(ad.add (rl.length * 3)).block, (ad.add (rl.length * 3)).off + 2, none⟩ = some (.int .i64 x3) ∧ Held (fun W => W.heap[g62]? = some (.cells #[.int .i64 z1, .int .i64 z2, .slice Azl zl.length czl] 33 (0, 0)) ∧ Kd.C k37 W Azl zl.length zl ∧ W.heap[g49]? = some (.cells #[.int .i64 d1, .int .i64 d2, .slice Adl dl.length cdl] 33 (0, 0)) ∧ Kd.C k37 W Adl dl.length dl ∧ W.heap[g47]? = some (.cells #[.int .i64 s3, .int .i64 s4, .slice Asl sl.length csl] 33 (0, 0)) ∧ Kd.C k37 W Asl sl.length sl ∧ W.heap[g43]? = some (.cells #[.int .i64 b1, .int .i64 b2, .slice (some ad) al.length cal] 33 (0, 0)) ∧ Kd.C k37 W (some ad) al.length al ∧ W.heap[g42]? = some (.cells #[.int .i64 x1, .int .i64 x2, .int .i64 x3] 37 (0, 0)) ∧ W.heap[g41]? = some (.cells #[.int .i64 r1, .int .i64 r2, .slice Arl rl.length crl] 33 (0, 0)) ∧ Kd.C k37 W Arl rl.length rl ∧ Below w.heap.size w W) W) (first | (with_reducible exact HK_.out _ _ HS.out ((Below.refl _ _).drew)) | (with_reducible assumption) | (with_reducible exact HK_.out _ _ (by assumption) (by assumption))) (first | (go_at_call 19; with_reducible refine (laws_aPuzzle.calls k z1 z2 _ _ zl r1 r2 _ _ rl true _ ?sa LEzl.out ?sb LErl.out HF1.out.eq).mono ?_; (case sa => exact (HG_.out _ (by with_reducible assumption)).out.2.1); (case sb => exact (HG_.out _ (by with_reducible assumption)).out.2.2.2.2.2.2.2.2.2.2.1); rintro e w' ⟨rfl, hb⟩))
   all_goals
    go_wp2
    go_meet
    exact ⟨⟨(HG_.out _ (by with_reducible assumption)).out.2.2.1, (HG_.out _ (by with_reducible assumption)).out.2.2.2.1, (HG_.out _ (by with_reducible assumption)).out.2.2.2.2.1, (HG_.out _ (by with_reducible assumption)).out.2.2.2.2.2.1, (HG_.out _ (by with_reducible assumption)).out.2.2.2.2.2.2.2.2.2.2.2⟩⟩
 rename_i Ur6 Ur7 Ur8 Ur9 Ura Urb Urc Urd Ure Urf Urg Urh Uri Urj Urk Url Urm Urn Uro Urp Urq Urr Urs Urt Uru Urv Urw Urx Ury Urz UrA UrB UrC UrD UrE UrF UrG UrH UrI UrJ UrK UrL UrM UrN UrO UrP UrQ UrR UrS UrT UrU UrV UrW UrX UrY UrZ Us0 Us1 Us2 Us3 Us4 Us5 Us6 Us7 Us8 Us9 Usa Usb Usc Usd Use Usf Usg Ush Usi Usj Usk Usl Usm Usn Uso Usp Usq Usr Uss Ust Usu Usv Usw Usx Usy Usz UsA UsB UsC UsD UsE UsF UsG UsH UsI UsJ UsK UsL UsM UsN UsO UsP UsQ UsR UsS UsT UsU UsV UsW UsX UsY UsZ Ut0 Ut1 Ut2 Ut3 Ut4 Ut5 Ut6 Ut7 Ut8 Ut9 Uta Utb Utc Utd Ute Utf Utg Uth Uti Utj Utk Utl Utm Utn Uto Utp Utq Utr Uts Utt Utu Utv Utw Utx Uty Utz UtA UtB UtC UtD UtE UtF UtG UtH UtI UtJ UtK UtL UtM UtN UtO UtP UtQ UtR UtS UtT UtU UtV UtW UtX UtY UtZ Uu0 Uu1 Uu2 Uu3 Uu4 Uu5 Uu6 Uu7 Uu8 Uu9 Uua Uub Uuc Uud Uue Uuf Uug Uuh Uui Uuj Uuk Uul Uum Uun Uuo Uup Uuq Uur Uus Uut Uuu Uuv Uuw Uux Uuy Uuz UuA UuB UuC UuD UuE UuF UuG UuH UuI UuJ UuK UuL UuM UuN UuO UuP UuQ UuR UuS UuT UuU UuV UuW UuX UuY UuZ Uv0 Uv1 Uv2 Uv3 Uv4 Uv5 Uv6 Uv7 Uv8 Uv9 Uva Uvb Uvc Uvd Uve Uvf Uvg Uvh Uvi Uvj Uvk Uvl Uvm Uvn Uvo Uvp Uvq Uvr Uvs Uvt Uvu Uvv Uvw Uvx Uvy Uvz UvA UvB UvC UvD UvE UvF UvG UvH UvI UvJ UvK UvL UvM UvN UvO UvP UvQ UvR UvS UvT UvU UvV UvW UvX UvY UvZ Uw0 Uw1 Uw2 Uw3 Uw4 Uw5 Uw6 Uw7 Uw8 Uw9 Uwa Uwb Uwc Uwd Uwe Uwf Uwg Uwh Uwi Uwj Uwk Uwl Uwm Uwn Uwo Uwp Uwq Uwr Uws Uwt Uwu Uwv Uww Uwx Uwy Uwz UwA UwB UwC UwD UwE UwF UwG UwH UwI UwJ UwK UwL UwM UwN UwO UwP UwQ UwR UwS UwT UwU UwV UwW UwX UwY UwZ Ux0 Ux1 Ux2 Ux3 Ux4 Ux5 Ux6 Ux7 Ux8 Ux9 Uxa Uxb Uxc
 revert A0 c0 l0 A1 c1 l1 w k s1 s2 ho cl sd m1 m2 ml nl ok q1 q2 ql h1 h2 hl il one solved three r1 r2 rl x1 x2 x3 b1 b2 al bl four s3 s4 sl kk d1 d2 dl vl six t1 t2 e1 e2 e3 ex fits eight u1 u2 f1 f2 f3 isu hu30 hu33 hu37 HC0 HC1 HBIG HA HRB HCC HRD HE HRF HRG U00 w1 w2 g5 w3 w4 w5 Aml cml LEml g9 w6 w7 w8 Anl cnl LEnl g11 w9 w10 w11 U6M U6N u13 u14 u15 u16 u17 u18 u19 u20 u21 u22 u23 u24 u25 u26 u27 U6O U6P U6Q U6R U6S U6T U6U U6V U6W U6X U6Y U6Z U70 U71 U72 U73 U74 U75 U76 U77 U78 U79 U7a U7b U7c U7d U7e U7f U7g U7h U7i U7j U7k U7l U7m U7n U7o U7p U7q U7r U7s U7t U7u U7v U7w U7x U7y U7z U7A U7B U7C U7D U7E U7F U7G U7H U7I U7J U7K U7L U7M U7N U7O U7P U7Q U7R U7S U7T U7U U7V U7W U7X U7Y U7Z U80 U81 U82 U83 U84 U85 U86 U87 U88 U89 U8a U8b U8c U8d U8e U8f U8g U8h U8i U8j U8k U8l U8m U8n U8o U8p U8q U8r U8s U8t U8u U8v U8w U8x U8y U8z U8A U8B U8C U8D U8E U8F U8G U8H u184 u185 u186 U8I U8J U8K U8L U8M U8N U8O U8P U8Q U8R U8S U8T U8U U8V U8W U8X U8Y U8Z U90 U91 U92 U93 U94 U95 U96 U97 U98 U99 U9a U9b U9c U9d U9e U9f U9g U9h U9i U9j U9k U9l U9m U9n U9o U9p U9q U9r U9s U9t U9u U9v U9w U9x U9y U9z U9A U9B U9C U9D U9E U9F U9G U9H U9I U9J U9K U9L U9M U9N U9O U9P U9Q U9R U9S U9T U9U U9V U9W U9X U9Y U9Z Ua0 Ua1 Ua2 Ua3 Ua4 Ua5 Ua6 Ua7 Ua8 Ua9 Uaa Uab Uac Uad Uae Uaf Uag Uah Uai Uaj Uak Ual Uam Uan Uao Uap Uaq Uar Uas Uat Uau Uav Uaw Uax Uay Uaz UaA UaB UaC UaD UaE UaF UaG UaH UaI UaJ UaK UaL UaM UaN UaO UaP UaQ UaR UaS UaT UaU UaV UaW UaX UaY UaZ Ub0 Ub1 Ub2 Ub3 Ub4 Ub5 Ub6 Ub7 Ub8 Ub9 Uba Ubb Ubc Ubd Ube Ubf Ubg Ubh Ubi Ubj Ubk Ubl Ubm Ubn Ubo Ubp Ubq Ubr Ubs Ubt Ubu Ubv Ubw Ubx Uby Ubz UbA UbB UbC UbD UbE UbF UbG UbH UbI UbJ UbK UbL UbM UbN UbO UbP UbQ UbR UbS UbT UbU UbV UbW UbX UbY UbZ Uc0 Uc1 Uc2 Uc3 Uc4 Uc5 Uc6 Uc7 Uc8 Uc9 Uca Ucb Ucc Ucd Uce Ucf Ucg Uch Uci Ucj Uck Ucl Ucm Ucn Uco Ucp Ucq Ucr Ucs Uct Ucu Ucv Ucw Ucx Ucy Ucz UcA UcB UcC UcD UcE UcF UcG UcH UcI UcJ UcK UcL UcM UcN UcO UcP UcQ w21 Aql cql LEql g28 w22 w23 w24 Ahl chl LEhl g29 w25 w26 w27 Ail cil LEil g31 w28 w29 w30 UcR UcS UcT UcU UcV UcW UcX UcY UcZ Ud0 Ud1 Ud2 Ud3 Ud4 Ud5 Ud6 Ud7 Ukk Ur6 u35 u36 u37 u38 u39 u40 Ur7 Ur8 Ur9 Ura Urb Urc Urd Ure Urf Urg Urh Uri Urj Urk Url Urm Urn Uro Urp Urq Urr Urs Urt Uru Urv Urw Urx Ury Urz UrA UrB UrC UrD UrE UrF UrG UrH UrI UrJ UrK UrL UrM UrN UrO UrP UrQ UrR UrS UrT UrU UrV UrW UrX UrY UrZ Us0 Us1 Us2 Us3 Us4 Us5 Us6 Us7 Us8 Us9 Usa Usb Usc Usd Use Usf Usg Ush Usi Usj Usk Usl Usm Usn Uso Usp Usq Usr Uss Ust Usu Usv Usw Usx Usy Usz UsA UsB UsC UsD UsE UsF UsG UsH UsI UsJ UsK UsL UsM UsN UsO UsP UsQ UsR UsS UsT UsU UsV UsW UsX UsY UsZ Ut0 Ut1 Ut2 Ut3 Ut4 Ut5 Ut6 Ut7 Ut8 Ut9 Uta Utb Utc Utd Ute Utf Utg Uth Uti Utj Utk Utl Utm Utn Uto Utp Utq Utr Uts Utt Utu Utv Utw Utx Uty Utz UtA UtB UtC UtD UtE UtF UtG UtH UtI UtJ UtK UtL UtM UtN UtO UtP UtQ UtR UtS UtT UtU UtV UtW UtX UtY UtZ Uu0 Uu1 Uu2 Uu3 Uu4 Uu5 Uu6 Uu7 Uu8 Uu9 Uua Uub Uuc Uud Uue Uuf Uug Uuh Uui Uuj Uuk Uul Uum Uun Uuo Uup Uuq Uur Uus Uut Uuu Uuv Uuw Uux Uuy Uuz UuA UuB UuC UuD UuE UuF UuG UuH UuI UuJ UuK UuL UuM UuN UuO UuP UuQ UuR UuS UuT UuU UuV UuW UuX UuY UuZ Uv0 Uv1 Uv2 Uv3 Uv4 Uv5 Uv6 Uv7 Uv8 Uv9 Uva Uvb Uvc Uvd Uve Uvf Uvg Uvh Uvi Uvj Uvk Uvl Uvm Uvn Uvo Uvp Uvq Uvr Uvs Uvt Uvu Uvv Uvw Ukl Ukm Ukn Uko Ukp Ukq Ukr Uks Ukt Uku Ukv Ukw Ukx Uky Ukz UkA UkB UkC UkD UkE UkF UkG UkH UkI UkJ UkK UkL UkM UkN UkO UkP UkQ UkR UkS UkT UkU UkV UkW UkX UkY UkZ Ul0 Ul1 Ul2 Ul3 Ul4 Ul5 Uvx Uvy Uvz UvA UvB UvC UvD UvE UvF UvG UvH UvI UvJ UvK UvL UvM UvN UvO UvP UvQ UvR UvS UvT UvU UvV UvW UvX UvY UvZ Uw0 Uw1 Uw2 Uw3 Uw4 Uw5 Uw6 Uw7 Uw8 Uw9 Uwa Uwb Uwc Uwd Uwe Uwf Uwg Uwh Uwi Uwj Uwk Uwl Uwm Uwn Uwo w36 Arl crl LErl g41 w37 g42 w38 w39 w40 w41 Aal cal LEal g43 w42 w43 w44 Abl cbl LEbl g45 w45 w46 w47 Asl csl LEsl g47 w48 w49 w50 Adl cdl LEdl g49 w51 w52 w53 Avl cvl LEvl g51 w54 w55 w56 g53 w57 g54 w58 w59 w60 w61 w62 w63 g60 w64 g61 w65 w66 w67 Uwp Uwq Uwr Uws Uwt Uwu Uwv Uww Uwx Uwy Uwz UwA UwB UwC UwD UwE UwF UwG UwH UwI UwJ UwK UwL UwM UwN UwO UwP UwQ UwR UwS UwT UwU UwV UwW UwX UwY UwZ Ux0 Ux1 Ux2 Ux3 Ux4 Ux5 Ux6 Ux7 Ux8 Ux9 Uxa HL Uxb Uxc wc u4 u62 u63 u66 u67 u68 u69 u70 u71 u72 u73 u74 u75 u76 u77 u78 u79 u80 u81 u82 u83 u84 u85 u86 u87 u88 u89 u90 u91 u92 u93 u94 u95 u96 u97 u98 u99 u100 u101 u102 u103 u104 u105 u106 u107 u108 u109 u110 u111 u112 u113 u114 u115 u116 u117 u118 u119 u120 u121 u122 u123 u124 u125 u126 u127 u128 u129 u130 u131 u132 u133 u134 u135 u136 u137 u138 u139 u140 u141 u142 u143 u144 u145 u146 u147 u148 u149 u150 u151 u152 u153 u154 u155 u156 u157 u158 u159 u160 u161 u162 u163 u164 u165 u166 u167 u168 u169 u170 u171 u172 u173 u174 u175 u176 u177 u178 u179 u180 u181 u182 u183 u187 u188 u189 u190 u191 u192 u193 u194 u195 u196 u197 u198 u199 u200 u201 u202 u203 u204 u205 u206 u207 u208 u209 u210 u211 u212 u213 u214 u215 u216 u217 u218 u219 u220 u221 u222 u223 u224 u225 u226 u227 u228 u229 u230 u231 u232 u233 u234 u235 u236 u237 u238 u239 u240 u241 u242 u243 u244 u245 u246 u247 u248 u249 u250 u251 u252 u253 u254 u255 u256 u257 u258 u259 u260 u261 u262 u263 u264 u265 u266 u267 u268 u269 u270 u271 u272 u273 u274 u275 u276 u277 u278 u279 u280 u281 u282 u283 u284 u285 u286 u287 u288 u289 u290 u291 u292 u293 u294 u295 u296 u297 u298 u299 u300 u301 u302 u303 u304 u305 u306 u307 u308 u309 u310 u311 u312 u313 u314 u315 u316 u317 u318 u319 u320 u321 u322 u323 u324 u325 u326 u327 u328 u329 u330 u331 u332 u333 u334 u335 u336 u337 u338 u339 u340 u341 u342 u343 u344 u345 u346 u347 u348 u349 u350 u351 u352 u353 u354 u355 u356 u357 u358 u359 u360 u361 u362 u363 u364 u365 u366 u367 u368 u369 u370 u371 u372 u373 u374 u375 u376 u377 u378 u379 u380 u381 u382 u383 u384 u385 u386 u387 u388 u389 u390 u391 u392 u393 u394 u395 u396 u397 u398 u399 u400 u401 u402 u403 u404 u405 u406 u407 u408 u409 u410 u411 u412 u413 u414 u415 u416 u417 u418 u419 u420 u421 u422 u423 u424 u425 u426 u427 u428 u429 u430 u431 u432 u433 u434 u435 u436 u437 u438 u439 u440 u441 u442 u443 hcut
 exact q_.out⟩
end Go.Proofs.Ytcloklakffgbmaa.G
end
section
namespace Go.Proofs.Ytcloklakffgbmaa.G
open Go.RowKit Go.Proofs.YtcloklakffgbmaaW.PrintWords Go.Proofs.YtcloklakffgbmaaW.PrintLast Go.Proofs.YtcloklakffgbmaaW.PrintMore
attribute [local go_sem] max2_int min2_int max_two min_two max_three min_three max_four min_four
attribute [local go_sem high] eqA37
set_option linter.unusedVariables false
set_option linter.unusedSimpArgs false
theorem hidden_6 : hidden_5.1 := by
 intro A0 c0 l0 A1 c1 l1 w k s1 s2 ho cl sd m1 m2 ml nl ok q1 q2 ql h1 h2 hl il one solved three r1 r2 rl x1 x2 x3 b1 b2 al bl four s3 s4 sl kk d1 d2 dl vl six t1 t2 e1 e2 e3 ex fits eight u1 u2 f1 f2 f3 isu hu30 hu33 hu37 HC0 HC1 HBIG HA HRB HCC HRD HE HRF HRG U00 w1 w2 g5 w3 w4 w5 Aml cml LEml g9 w6 w7 w8 Anl cnl LEnl g11 w9 w10 w11 U6M U6N u13 u14 u15 u16 u17 u18 u19 u20 u21 u22 u23 u24 u25 u26 u27 U6O U6P U6Q U6R U6S U6T U6U U6V U6W U6X U6Y U6Z U70 U71 U72 U73 U74 U75 U76 U77 U78 U79 U7a U7b U7c U7d U7e U7f U7g U7h U7i U7j U7k U7l U7m U7n U7o U7p U7q U7r U7s U7t U7u U7v U7w U7x U7y U7z U7A U7B U7C U7D U7E U7F U7G U7H U7I U7J U7K U7L U7M U7N U7O U7P U7Q U7R U7S U7T U7U U7V U7W U7X U7Y U7Z U80 U81 U82 U83 U84 U85 U86 U87 U88 U89 U8a U8b U8c U8d U8e U8f U8g U8h U8i U8j U8k U8l U8m U8n U8o U8p U8q U8r U8s U8t U8u U8v U8w U8x U8y U8z U8A U8B U8C U8D U8E U8F U8G U8H u184 u185 u186 U8I U8J U8K U8L U8M U8N U8O U8P U8Q U8R U8S U8T U8U U8V U8W U8X U8Y U8Z U90 U91 U92 U93 U94 U95 U96 U97 U98 U99 U9a U9b U9c U9d U9e U9f U9g U9h U9i U9j U9k U9l U9m U9n U9o U9p U9q U9r U9s U9t U9u U9v U9w U9x U9y U9z U9A U9B U9C U9D U9E U9F U9G U9H U9I U9J U9K U9L U9M U9N U9O U9P U9Q U9R U9S U9T U9U U9V U9W U9X U9Y U9Z Ua0 Ua1 Ua2 Ua3 Ua4 Ua5 Ua6 Ua7 Ua8 Ua9 Uaa Uab Uac Uad Uae Uaf Uag Uah Uai Uaj Uak Ual Uam Uan Uao Uap Uaq Uar Uas Uat Uau Uav Uaw Uax Uay Uaz UaA UaB UaC UaD UaE UaF UaG UaH UaI UaJ UaK UaL UaM UaN UaO UaP UaQ UaR UaS UaT UaU UaV UaW UaX UaY UaZ Ub0 Ub1 Ub2 Ub3 Ub4 Ub5 Ub6 Ub7 Ub8 Ub9 Uba Ubb Ubc Ubd Ube Ubf Ubg Ubh Ubi Ubj Ubk Ubl Ubm Ubn Ubo Ubp Ubq Ubr Ubs Ubt Ubu Ubv Ubw Ubx Uby Ubz UbA UbB UbC UbD UbE UbF UbG UbH UbI UbJ UbK UbL UbM UbN UbO UbP UbQ UbR UbS UbT UbU UbV UbW UbX UbY UbZ Uc0 Uc1 Uc2 Uc3 Uc4 Uc5 Uc6 Uc7 Uc8 Uc9 Uca Ucb Ucc Ucd Uce Ucf Ucg Uch Uci Ucj Uck Ucl Ucm Ucn Uco Ucp Ucq Ucr Ucs Uct Ucu Ucv Ucw Ucx Ucy Ucz UcA UcB UcC UcD UcE UcF UcG UcH UcI UcJ UcK UcL UcM UcN UcO UcP UcQ w21 Aql cql LEql g28 w22 w23 w24 Ahl chl LEhl g29 w25 w26 w27 Ail cil LEil g31 w28 w29 w30 UcR UcS UcT UcU UcV UcW UcX UcY UcZ Ud0 Ud1 Ud2 Ud3 Ud4 Ud5 Ud6 Ud7 Ukk Ur6 u35 u36 u37 u38 u39 u40 Ur7 Ur8 Ur9 Ura Urb Urc Urd Ure Urf Urg Urh Uri Urj Urk Url Urm Urn Uro Urp Urq Urr Urs Urt Uru Urv Urw Urx Ury Urz UrA UrB UrC UrD UrE UrF UrG UrH UrI UrJ UrK UrL UrM UrN UrO UrP UrQ UrR UrS UrT UrU UrV UrW UrX UrY UrZ Us0 Us1 Us2 Us3 Us4 Us5 Us6 Us7 Us8 Us9 Usa Usb Usc Usd Use Usf Usg Ush Usi Usj Usk Usl Usm Usn Uso Usp Usq Usr Uss Ust Usu Usv Usw Usx Usy Usz UsA UsB UsC UsD UsE UsF UsG UsH UsI UsJ UsK UsL UsM UsN UsO UsP UsQ UsR UsS UsT UsU UsV UsW UsX UsY UsZ Ut0 Ut1 Ut2 Ut3 Ut4 Ut5 Ut6 Ut7 Ut8 Ut9 Uta Utb Utc Utd Ute Utf Utg Uth Uti Utj Utk Utl Utm Utn Uto Utp Utq Utr Uts Utt Utu Utv Utw Utx Uty Utz UtA UtB UtC UtD UtE UtF UtG UtH UtI UtJ UtK UtL UtM UtN UtO UtP UtQ UtR UtS UtT UtU UtV UtW UtX UtY UtZ Uu0 Uu1 Uu2 Uu3 Uu4 Uu5 Uu6 Uu7 Uu8 Uu9 Uua Uub Uuc Uud Uue Uuf Uug Uuh Uui Uuj Uuk Uul Uum Uun Uuo Uup Uuq Uur Uus Uut Uuu Uuv Uuw Uux Uuy Uuz UuA UuB UuC UuD UuE UuF UuG UuH UuI UuJ UuK UuL UuM UuN UuO UuP UuQ UuR UuS UuT UuU UuV UuW UuX UuY UuZ Uv0 Uv1 Uv2 Uv3 Uv4 Uv5 Uv6 Uv7 Uv8 Uv9 Uva Uvb Uvc Uvd Uve Uvf Uvg Uvh Uvi Uvj Uvk Uvl Uvm Uvn Uvo Uvp Uvq Uvr Uvs Uvt Uvu Uvv Uvw Ukl Ukm Ukn Uko Ukp Ukq Ukr Uks Ukt Uku Ukv Ukw Ukx Uky Ukz UkA UkB UkC UkD UkE UkF UkG UkH UkI UkJ UkK UkL UkM UkN UkO UkP UkQ UkR UkS UkT UkU UkV UkW UkX UkY UkZ Ul0 Ul1 Ul2 Ul3 Ul4 Ul5 Uvx Uvy Uvz UvA UvB UvC UvD UvE UvF UvG UvH UvI UvJ UvK UvL UvM UvN UvO UvP UvQ UvR UvS UvT UvU UvV UvW UvX UvY UvZ Uw0 Uw1 Uw2 Uw3 Uw4 Uw5 Uw6 Uw7 Uw8 Uw9 Uwa Uwb Uwc Uwd Uwe Uwf Uwg Uwh Uwi Uwj Uwk Uwl Uwm Uwn Uwo w36 Arl crl LErl g41 w37 g42 w38 w39 w40 w41 Aal cal LEal g43 w42 w43 w44 Abl cbl LEbl g45 w45 w46 w47 Asl csl LEsl g47 w48 w49 w50 Adl cdl LEdl g49 w51 w52 w53 Avl cvl LEvl g51 w54 w55 w56 g53 w57 g54 w58 w59 w60 w61 w62 w63 g60 w64 g61 w65 w66 w67 Uwp Uwq Uwr Uws Uwt Uwu Uwv Uww Uwx Uwy Uwz UwA UwB UwC UwD UwE UwF UwG UwH UwI UwJ UwK UwL UwM UwN UwO UwP UwQ UwR UwS UwT UwU UwV UwW UwX UwY UwZ Ux0 Ux1 Ux2 Ux3 Ux4 Ux5 Ux6 Ux7 Ux8 Ux9 Uxa HL Uxb Uxc wc u4 u62 u63 u66 u67 u68 u69 u70 u71 u72 u73 u74 u75 u76 u77 u78 u79 u80 u81 u82 u83 u84 u85 u86 u87 u88 u89 u90 u91 u92 u93 u94 u95 u96 u97 u98 u99 u100 u101 u102 u103 u104 u105 u106 u107 u108 u109 u110 u111 u112 u113 u114 u115 u116 u117 u118 u119 u120 u121 u122 u123 u124 u125 u126 u127 u128 u129 u130 u131 u132 u133 u134 u135 u136 u137 u138 u139 u140 u141 u142 u143 u144 u145 u146 u147 u148 u149 u150 u151 u152 u153 u154 u155 u156 u157 u158 u159 u160 u161 u162 u163 u164 u165 u166 u167 u168 u169 u170 u171 u172 u173 u174 u175 u176 u177 u178 u179 u180 u181 u182 u183 u187 u188 u189 u190 u191 u192 u193 u194 u195 u196 u197 u198 u199 u200 u201 u202 u203 u204 u205 u206 u207 u208 u209 u210 u211 u212 u213 u214 u215 u216 u217 u218 u219 u220 u221 u222 u223 u224 u225 u226 u227 u228 u229 u230 u231 u232 u233 u234 u235 u236 u237 u238 u239 u240 u241 u242 u243 u244 u245 u246 u247 u248 u249 u250 u251 u252 u253 u254 u255 u256 u257 u258 u259 u260 u261 u262 u263 u264 u265 u266 u267 u268 u269 u270 u271 u272 u273 u274 u275 u276 u277 u278 u279 u280 u281 u282 u283 u284 u285 u286 u287 u288 u289 u290 u291 u292 u293 u294 u295 u296 u297 u298 u299 u300 u301 u302 u303 u304 u305 u306 u307 u308 u309 u310 u311 u312 u313 u314 u315 u316 u317 u318 u319 u320 u321 u322 u323 u324 u325 u326 u327 u328 u329 u330 u331 u332 u333 u334 u335 u336 u337 u338 u339 u340 u341 u342 u343 u344 u345 u346 u347 u348 u349 u350 u351 u352 u353 u354 u355 u356 u357 u358 u359 u360 u361 u362 u363 u364 u365 u366 u367 u368 u369 u370 u371 u372 u373 u374 u375 u376 u377 u378 u379 u380 u381 u382 u383 u384 u385 u386 u387 u388 u389 u390 u391 u392 u393 u394 u395 u396 u397 u398 u399 u400 u401 u402 u403 u404 u405 u406 u407 u408 u409 u410 u411 u412 u413 u414 u415 u416 u417 u418 u419 u420 u421 u422 u423 u424 u425 u426 u427 u428 u429 u430 u431 u432 u433 u434 u435 u436 u437 u438 u439 u440 u441 u442 u443 hcut
 clear HL
 have HL := hcut
 clear hcut
 have hsl := HE.out.small
 by_cases hg6 : six = true ∧ kk = (sl.length : Int) - 1
 ·
  obtain ⟨hg6, hg7⟩ := hg6
  subst hg6
  obtain ⟨c1_, c2_, c3_, y1, y2, yl, rg⟩ := HRG.out rfl hg7
  have HG1 := am rg
  clear rg
  have hpos := HG1.out.pos
  have hk1 : (kk = (sl.length : Int) - 1) = True := eq_true hg7
  have hk2 : decide (kk = (sl.length : Int) - 1) = true := decide_eq_true hg7
  have hk3 : (kk == (sl.length : Int) - 1) = true := by rw [hg7]; exact beq_self_eq_true _
  have hx47_0 := blk_cell HL.out.out.2.2.1 0
  have hx47_1 := blk_cell HL.out.out.2.2.1 1
  have hx47_2 := blk_cell HL.out.out.2.2.1 2
  go_upto_region 54 with fail
  clear hx47_0 hx47_1 hx47_2
  clear hk1 hk2 hk3
  go_cut [64, 65] from 428 to 437 (fun s64 s65 wx => ∃ (g64 : Nat) (Ayl : Option Addr) (cyl : Nat), s64 = .pointer (some ⟨g64, 0, none⟩) ∧ s65 = .bool true ∧ yl.length ≤ cyl ∧ Aside0 (Held (fun W => W.heap[g64]? = some (.cells #[.int .i64 y1, .int .i64 y2, .slice Ayl yl.length cyl] 33 (0, 0)) ∧ Kd.C k37 W Ayl yl.length yl ∧ W.heap[g47]? = some (.cells #[.int .i64 s3, .int .i64 s4, .slice Asl sl.length csl] 33 (0, 0)) ∧ Kd.C k37 W Asl sl.length sl ∧ Below w.heap.size w W) wx))
  case first =>
   obtain ⟨ad, e, h0, h1, h2⟩ := at_T37 HL.out.out.2.2.2.1 kk (by omega) (by omega)
   rw [HG1.out.rd] at h0 h1 h2
   cases e
   have q0 : (0 : Int) ≤ kk := by omega
   have q1 : kk < (sl.length : Int) := by omega
   have p0 : (0 ≤ kk) = True := eq_true (by omega)
   have p1 : (kk < (sl.length : Int)) = True := eq_true (by omega)
   clear hg7 hsl hpos
   have HK_ := am (fun W W' => @Stay.step (fun W => W.cell? ⟨g49, 0, none⟩ = some (.int .i64 d1) ∧ W.cell? ⟨g49, 1, none⟩ = some (.int .i64 d2) ∧ W.cell? ⟨g49, 2, none⟩ = some (.slice Adl dl.length cdl) ∧ W.cell? ⟨g47, 0, none⟩ = some (.int .i64 s3) ∧ W.cell? ⟨g47, 1, none⟩ = some (.int .i64 s4) ∧ W.cell? ⟨g47, 2, none⟩ = some (.slice (some ad) sl.length csl) ∧ W.cell? (ad.add (kk.toNat * 3)) = some (.int .i64 c1_) ∧ W.cell? ⟨(ad.add (kk.toNat * 3)).block, (ad.add (kk.toNat * 3)).off + 1, none⟩ = some (.int .i64 c2_) ∧ W.cell? ⟨(ad.add (kk.toNat * 3)).block, (ad.add (kk.toNat * 3)).off + 2, none⟩ = some (.int .i64 c3_) ∧ Held (fun W => W.heap[g49]? = some (.cells #[.int .i64 d1, .int .i64 d2, .slice Adl dl.length cdl] 33 (0, 0)) ∧ Kd.C k37 W Adl dl.length dl ∧ W.heap[g47]? = some (.cells #[.int .i64 s3, .int .i64 s4, .slice (some ad) sl.length csl] 33 (0, 0)) ∧ Kd.C k37 W (some ad) sl.length sl ∧ Below w.heap.size w W) W) inferInstance W W')
   have HG_ := am (fun W h => (HK_.out W W h (Below.refl _ _)).2.2.2.2.2.2.2.2.2)
   have HS := am (HK_.out _ _ ⟨blk_cell HL.out.out.1 0, blk_cell HL.out.out.1 1, blk_cell HL.out.out.1 2, blk_cell HL.out.out.2.2.1 0, blk_cell HL.out.out.2.2.1 1, blk_cell HL.out.out.2.2.1 2, h0, h1, h2, HL.out⟩ (Below.refl _ _))
   clear HL
   go_region_held3 (fun W => W.cell? ⟨g49, 0, none⟩ = some (.int .i64 d1) ∧ W.cell? ⟨g49, 1, none⟩ = some (.int .i64 d2) ∧ W.cell? ⟨g49, 2, none⟩ = some (.slice Adl dl.length cdl) ∧ W.cell? ⟨g47, 0, none⟩ = some (.int .i64 s3) ∧ W.cell? ⟨g47, 1, none⟩ = some (.int .i64 s4) ∧ W.cell? ⟨g47, 2, none⟩ = some (.slice (some ad) sl.length csl) ∧ W.cell? (ad.add (kk.toNat * 3)) = some (.int .i64 c1_) ∧ W.cell? ⟨(ad.add (kk.toNat * 3)).block, (ad.add (kk.toNat * 3)).off + 1, none⟩ = some (.int .i64 c2_) ∧ W.cell? ⟨(ad.add (kk.toNat * 3)).block, (ad.add (kk.toNat * 3)).off + 2, none⟩ = some (.int .i64 c3_) ∧ Held (fun W => W.heap[g49]? = some (.cells #[.int .i64 d1, .int .i64 d2, .slice Adl dl.length cdl] 33 (0, 0)) ∧ Kd.C k37 W Adl dl.length dl ∧ W.heap[g47]? = some (.cells #[.int .i64 s3, .int .i64 s4, .slice (some ad) sl.length csl] 33 (0, 0)) ∧ Kd.C k37 W (some ad) sl.length sl ∧ Below w.heap.size w W) W) (first | (with_reducible exact HK_.out _ _ HS.out ((Below.refl _ _).drew)) | (with_reducible assumption) | (with_reducible exact HK_.out _ _ (by assumption) (by assumption)) | (with_reducible exact HK_.out _ _ (by assumption) ((Below.refl _ _).alloc (Nat.le_refl _) _)) | exact HK_.out _ _ HS.out (below_alloc (below_step ((Below.refl _ _).drew) hb) _) | exact HK_.out _ _ HS.out (below_set (below_set (below_set (box_below hb0) (Nat.le_refl _)) (Nat.le_refl _)) (Nat.le_refl _))) (first | (go_at_call 10; with_reducible refine (impl_AddClue.calls d1 d2 _ _ dl c1_ c2_ c3_ y1 y2 yl true _ ?sa LEdl.out HG1.out.add).mono ?_; (case sa => exact (HG_.out _ (by with_reducible assumption)).out.2.1); rintro e w' ⟨v, rfl, ho, hb⟩; obtain ⟨Ayl, cyl, rfl⟩ := Kd.R_slice ho; (try (have hb0 : Below (wc.alloc (.cells #[.int .i64 0, .int .i64 0, .slice none 0 0] 33 (0, 0))).heap.size (wc.alloc (.cells #[.int .i64 0, .int .i64 0, .slice none 0 0] 33 (0, 0))) w' := undrew hb; have hN := blk_below (blk_new _ _) hb0; have hn0 := blk_cell hN 0; have hn1 := blk_cell hN 1; have hn2 := blk_cell hN 2; have hf0 := blk_frozen hN 0; have hf1 := blk_frozen hN 1; have hf2 := blk_frozen hN 2))))
   all_goals go_wp2
   all_goals have hr := Kd.R_reads' ho
   all_goals go_meet
   ·exact ⟨_, Ayl, cyl, rfl, rfl, hr.2.1, ⟨⟨blk_new w' _, Kd.C_below hr.2.2 ((Below.refl _ _).alloc (Nat.le_refl _) _), (HG_.out _ (by with_reducible assumption)).out.2.2.1, (HG_.out _ (by with_reducible assumption)).out.2.2.2.1, (HG_.out _ (by with_reducible assumption)).out.2.2.2.2⟩⟩⟩
   ·have hB := box3 (x := .int .i64 y1) (y := .int .i64 y2) (z := .slice Ayl yl.length cyl) (Nat.le_refl _) hN (box_below hb0)
    have r3 := Kd.R_set (Kd.R_set (Kd.R_set ho hN (by decide) 0 (.int .i64 y1)) (blk_set hN 0 _) (by decide) 1 (.int .i64 y2)) (blk_set (blk_set hN 0 _) 1 _) (by decide) 2 (.slice Ayl yl.length cyl)
    exact ⟨_, Ayl, cyl, rfl, rfl, hr.2.1, ⟨⟨hB.2, (Kd.R_reads' r3).2.2, (HG_.out _ (by with_reducible assumption)).out.2.2.1, (HG_.out _ (by with_reducible assumption)).out.2.2.2.1, (HG_.out _ (by with_reducible assumption)).out.2.2.2.2⟩⟩⟩
  clear HL hg7 hsl hpos
  obtain ⟨g64, Ayl, cyl, rfl, rfl, leyl, HL⟩ := hcut
  have LEyl := am leyl
  clear leyl
  have hx64_0 := blk_cell HL.out.out.1 0
  have hx64_1 := blk_cell HL.out.out.1 1
  have hx64_2 := blk_cell HL.out.out.1 2
  have hx47_0 := blk_cell HL.out.out.2.2.1 0
  have hx47_1 := blk_cell HL.out.out.2.2.1 1
  have hx47_2 := blk_cell HL.out.out.2.2.1 2
  go_wp2_with fail
  refine (laws_aPuzzle.calls k y1 y2 _ _ yl s3 s4 _ _ sl true _ HL.out.out.2.1 LEyl.out HL.out.out.2.2.2.1 LEsl.out HG1.out.eq).mono ?_
  rintro e w71 ⟨rfl, hb⟩
  have HL_ := am (HL.out.below hb)
  clear HL
  have HL := HL_
  clear HL_
  clear hb
  clear hx64_0 hx64_1 hx64_2 hx47_0 hx47_1 hx47_2
  go_wp2
  go_ret
  exact ⟨rfl, HL.out.out.2.2.2.2⟩
 ·cases six
  ·go_wp2
   go_ret
   exact ⟨rfl, HL.out.out.2.2.2.2⟩
  ·have hne : ¬ kk = (sl.length : Int) - 1 := fun h => hg6 ⟨rfl, h⟩
   have hk1 : (kk = (sl.length : Int) - 1) = False := eq_false hne
   have hk2 : decide (kk = (sl.length : Int) - 1) = false := decide_eq_false hne
   have hk3 : (kk == (sl.length : Int) - 1) = false := by simpa using hne
   clear hne hg6
   have hx47_0 := blk_cell HL.out.out.2.2.1 0
   have hx47_1 := blk_cell HL.out.out.2.2.1 1
   have hx47_2 := blk_cell HL.out.out.2.2.1 2
   go_wp2
   go_ret
   exact ⟨rfl, HL.out.out.2.2.2.2⟩
end Go.Proofs.Ytcloklakffgbmaa.G
end
section
namespace Go.Proofs.Ytcloklakffgbmaa.G
open Go.RowKit Go.Proofs.YtcloklakffgbmaaW.PrintWords Go.Proofs.YtcloklakffgbmaaW.PrintLast Go.Proofs.YtcloklakffgbmaaW.PrintMore
attribute [local go_sem] max2_int min2_int max_two min_two max_three min_three max_four min_four
attribute [local go_sem high] eqA37
set_option linter.unusedVariables false
set_option linter.unusedSimpArgs false
theorem hh_walk (Q : HhPure) (A0 : Option Addr) (c0 : Nat) (l0 : List Int) (A1 : Option Addr) (c1 : Nat) (l1 : List Int) (w : World) (hr0 : Kd.C (Kd.int .u8) w A0 l0.length l0) (hc0 : l0.length ≤ c0) (hr1 : Kd.C (Kd.int .u8) w A1 l1.length l1) (hc1 : l1.length ≤ c1)
  (hw0 : l0.length ≤ maxLen) (hw1 : ∀ x ∈ l0, (Lit.int .u8 x).wf = true) (hw2 : l1.length ≤ maxLen) (hw3 : ∀ x ∈ l1, (Lit.int .u8 x).wf = true) : Calls Try.prog 5 #[.slice A0 l0.length c0, .slice A1 l1.length c1] w fun e w' => e = .returned (.bool true) ∧ Below w.heap.size w w' := by
 rcases Q l0 l1 hw0 hw1 hw2 hw3 with hbig | ⟨big, k, s1, s2, ho, cl, sd, m1, m2, ml, nl, ok, ra, rb, q1, q2, ql, h1, h2, hl, il, one, solved, three, rc, rd, r1, r2, rl, x1, x2, x3, b1, b2, al, bl, four, s3, s4, sl, kk, d1, d2, dl, vl, six, t1, t2, e1, e2, e3, ex, fits, eight, u1, u2, f1, f2, f3, isu, re, rf, rg⟩
 ·have HC0 := am hc0
  have HC1 := am hc1
  have HR0 := am hr0
  have HR1 := am hr1
  have HBIG := am hbig
  clear hc0 hc1 hr0 hr1 hbig hw0 hw1 hw2 hw3 Q
  go_enter Try.func5, Try.ntmps5
  go_wp2_with fail
  refine (laws_big.calls A0 c0 l0 A1 c1 l1 true _ HR0.out HC0.out HR1.out HC1.out HBIG.out).mono ?_
  rintro e w1 ⟨rfl, hd⟩
  have HB := am hd.below
  clear hd
  go_wp2
  go_ret
  exact ⟨rfl, HB.out⟩
 ·exact (hidden_1.2 ⟨hidden_2.2 ⟨hidden_3.2 ⟨hidden_4.2 ⟨hidden_5.2 ⟨hidden_6⟩⟩⟩⟩⟩) A0 c0 l0 A1 c1 l1 w hr0 hc0 hr1 hc1 k s1 s2 ho cl sd m1 m2 ml nl ok big ra rb q1 q2 ql h1 h2 hl il one solved three rc rd r1 r2 rl x1 x2 x3 b1 b2 al bl four s3 s4 sl kk d1 d2 dl vl six t1 t2 e1 e2 e3 ex fits eight u1 u2 f1 f2 f3 isu re rf rg
end Go.Proofs.Ytcloklakffgbmaa.G
end
section
namespace Go.Proofs.Ytcloklakffgbmaa.G
open Go.RowKit Go.Proofs.YtcloklakffgbmaaW.PrintWords Go.Proofs.YtcloklakffgbmaaW.PrintLast Go.Proofs.YtcloklakffgbmaaW.PrintMore
attribute [local go_sem] max2_int min2_int max_two min_two max_three min_three max_four min_four
set_option linter.unusedVariables false
set_option linter.unusedSimpArgs false
def laws_FnHousesHidden.Pure : Prop := HhPure
theorem laws_FnHousesHidden.walk (Q : laws_FnHousesHidden.Pure) (A0 : Option Addr) (c0 : Nat) (l0 : List Int) (A1 : Option Addr) (c1 : Nat) (l1 : List Int) (w : World) (hr0 : Kd.C (Kd.int .u8) w A0 l0.length l0) (hc0 : l0.length ≤ c0) (hr1 : Kd.C (Kd.int .u8) w A1 l1.length l1) (hc1 : l1.length ≤ c1)
  (hw0 : l0.length ≤ maxLen) (hw1 : ∀ x ∈ l0, (Lit.int .u8 x).wf = true) (hw2 : l1.length ≤ maxLen) (hw3 : ∀ x ∈ l1, (Lit.int .u8 x).wf = true) :
  Calls Try.prog 5 #[.slice A0 l0.length c0, .slice A1 l1.length c1] w fun e w' => e = .returned (.bool true) ∧ Below w.heap.size w w' :=
 hh_walk Q A0 c0 l0 A1 c1 l1 w hr0 hc0 hr1 hc1 hw0 hw1 hw2 hw3
end Go.Proofs.Ytcloklakffgbmaa.G
end
section
namespace Go.Proofs.Ytcloklakffgbmaa.Pz
open Go.RowKit Go.Proofs.Ytcloklakffgbmaa.G Go.Proofs.YtcloklakffgbmaaW.PrintWords
def inB (a b c : Int) : Bool := decide (b ≤ a) && decide (a ≤ c)
theorem within_val (a b c : Int) : impl_within.f a b c = some (inB a b c) := by
 unfold impl_within.f inB
 by_cases h : a ≥ b
 ·rw [if_pos h]; simp [show b ≤ a from h]
 ·rw [if_neg h]; simp [show ¬ b ≤ a from h]
theorem l1In_val (a b c : Int) : spec_l1In.f a b c = some (inB a b c) := within_val a b c
def street (k p : Int) : Bool := inB k 0 2 && inB p 1 1000
def hid (k p : Int) : Bool := street k p && decide (p ≤ 20)
theorem isStreet_val (k p : Int) : impl_IsStreet.f k p = some (street k p) := by
 unfold impl_IsStreet.f street
 rw [within_val, within_val]
 cases inB k 0 2 <;> rfl
theorem hidden_val (k p : Int) : impl_isHiddenStreet.f k p = some (hid k p) := by
 unfold impl_isHiddenStreet.f hid
 rw [isStreet_val]
 cases street k p <;> rfl
theorem pzStreet_val (k p : Int) : spec_pzStreet.f k p = some (hid k p) := hidden_val k p
def clueB (k a b : Int) : Bool :=
 if k = 0 then decide (a = 0) && inB b 0 1 else if k = 1 then decide (a = 0) && inB b 0 20 else if k = 2 then inB a 2 9 && inB b 0 1 else
 if k = 3 then decide (a = 0) && inB b 1 13 else if k = 4 then inB a 1 40 && inB b 0 1 else if k = 5 then decide (a = 0) && inB b 0 40 else false
theorem isClue_val (k a b : Int) : impl_isClue.f k a b = some (clueB k a b) := by
 unfold impl_isClue.f clueB
 simp only [within_val, Option.bind_some]
 repeat' split
 all_goals simp_all
theorem pzClue_val (k a b : Int) : spec_pzClue.f k a b = some (clueB k a b) := isClue_val k a b
end Go.Proofs.Ytcloklakffgbmaa.Pz
end
section
namespace Go.Proofs.Ytcloklakffgbmaa.Pz
open Go.RowKit Go.Proofs.Ytcloklakffgbmaa.G Go.Proofs.YtcloklakffgbmaaW.PrintWords Go.Proofs.YtcloklakffgbmaaW.PrintLast Go.Proofs.YtcloklakffgbmaaW.PrintMore
theorem w64 {x : Int} (h0 : -9223372036854775808 ≤ x) (h1 : x ≤ 9223372036854775807) : wrap64 x = x := by unfold wrap64; omega
def conv (x : S28) : S37 := ⟨x.f0, x.f1, x.f2⟩
end Go.Proofs.Ytcloklakffgbmaa.Pz
end
section
namespace Go.Proofs.Ytcloklakffgbmaa.Pz
open Go.RowKit Go.Proofs.Ytcloklakffgbmaa.G Go.Proofs.YtcloklakffgbmaaW.PrintWords Go.Proofs.YtcloklakffgbmaaW.PrintLast Go.Proofs.YtcloklakffgbmaaW.PrintMore
theorem tdiv_nn {x y : Int} (h : 0 ≤ x) : Int.tdiv x y = x / y := Int.tdiv_eq_ediv_of_nonneg h
theorem tmod_nn {x y : Int} (h : 0 ≤ x) : Int.tmod x y = x % y := Int.tmod_eq_emod_of_nonneg h
def houses (a b : Int) : Int := if a = 0 then b else 2 * b
theorem hid_facts {a b : Int} (h : hid a b = true) : (a = 0 ∨ a = 1 ∨ a = 2) ∧ 1 ≤ b ∧ b ≤ 20 := by
 unfold hid street inB at h
 simp at h
 omega
theorem houses_le {a b : Int} (h : hid a b = true) : 1 ≤ houses a b ∧ houses a b ≤ 40 := by
 have := hid_facts h
 unfold houses
 split <;> omega
theorem housesOf_val {a b : Int} (h : hid a b = true) : impl_housesOf.f a b = some (houses a b) := by
 have := hid_facts h
 unfold impl_housesOf.f houses
 split
 ·rfl
 ·rw [w64 (by omega) (by omega)]
theorem nuHouses_val {a b : Int} (h : hid a b = true) : spec_nuHouses.f a b = some (houses a b) := housesOf_val h
theorem plot_eq (a b h : Int) (h1 : 1 ≤ h) (h2 : h ≤ 1000000) : spec_nuPlot.f a b h = impl_plotOf.f a b h := by
 unfold spec_nuPlot.f impl_plotOf.f
 split
 ·have e : wrap64 (1 - Int.tmod h 2) = Int.tmod (wrap64 (h - 1)) 2 := by
   rw [w64 (x := h - 1) (by omega) (by omega), tmod_nn (by omega), tmod_nn (by omega), w64 (by omega) (by omega)]
   omega
  rw [e]
 ·rfl
theorem value_eq (a b k n h : Int) (c : Int) (h1 : 1 ≤ h) (h2 : h ≤ 1000000) : spec_pzValue.f a b k n h = impl_toldBy.f a b k n c h := by
 unfold spec_pzValue.f impl_toldBy.f
 rw [plot_eq a b h h1 h2]
 rfl
theorem fits_eq (a b k n c h : Int) (h1 : 1 ≤ h) (h2 : h ≤ 1000000) : spec_pzFits.f a b k n c h = impl_doesFit.f a b k n c h := by
 unfold spec_pzFits.f impl_doesFit.f
 rw [value_eq a b k n h c h1 h2]
theorem plotOf_some (a b h : Int) : ∃ p, impl_plotOf.f a b h = some p := by
 unfold impl_plotOf.f
 split
 ·exact ⟨_, rfl⟩
 ·split <;> exact ⟨_, rfl⟩
theorem numberAt_some (a b s p : Int) : ∃ v, impl_numberAt.f a b s p = some v := by
 unfold impl_numberAt.f
 split
 ·exact ⟨_, rfl⟩
 ·split <;> exact ⟨_, rfl⟩
theorem oneIf_some (b : Bool) : ∃ v, impl_oneIf.f b = some v := by
 unfold impl_oneIf.f
 split <;> exact ⟨_, rfl⟩
theorem toldBy_some (a b k n c h : Int) (hn : k = 2 → n ≠ 0) : ∃ v, impl_toldBy.f a b k n c h = some v := by
 unfold impl_toldBy.f
 obtain ⟨p, hp⟩ := plotOf_some a b h
 rw [hp]
 simp only [Option.bind_some]
 split
 ·exact ⟨_, rfl⟩
 split
 ·exact ⟨_, rfl⟩
 split
 ·rename_i h2
  rw [if_neg (hn h2)]
  obtain ⟨v, hv⟩ := oneIf_some (Int.tmod h n == 0)
  rw [hv]
  exact ⟨_, rfl⟩
 split
 ·exact ⟨_, rfl⟩
 split
 ·obtain ⟨v, hv⟩ := oneIf_some (decide (h > n))
  rw [hv]
  exact ⟨_, rfl⟩
 split
 ·exact ⟨_, rfl⟩
 ·obtain ⟨v, hv⟩ := numberAt_some a b (wrap64 (1 - p.1)) p.2
  rw [hv]
  exact ⟨_, rfl⟩
theorem clueB_two {k n c : Int} (h : clueB k n c = true) : k = 2 → n ≠ 0 := by
 rintro rfl rfl
 simp [clueB, inB] at h
def fitB (a b : Int) (x : S37) (h : Int) : Bool := (impl_doesFit.f a b x.f0 x.f1 x.f2 h).getD false
def okC (x : S37) : Bool := clueB x.f0 x.f1 x.f2
theorem clueOk_eq (x : S37) : clueOk x = okC x := by
 have := isClue_some x
 rw [isClue_val] at this
 exact (Option.some.inj this).symm
theorem doesFit_val (a b : Int) (x : S37) (h : Int) (hx : okC x = true) : impl_doesFit.f a b x.f0 x.f1 x.f2 h = some (fitB a b x h) := by
 obtain ⟨v, hv⟩ := toldBy_some a b x.f0 x.f1 x.f2 h (clueB_two hx)
 unfold fitB impl_doesFit.f
 rw [hv]
 rfl
def allFit (a b : Int) (l : List S37) (h : Int) : Bool := l.all fun x => fitB a b x h
theorem fitsAll_val (a b : Int) (l : List S37) (h : Int) (hl : l.all okC = true) : fitsAll a b l h = some (allFit a b l h) := by
 unfold fitsAll allFit
 have h1 : (l.all fun x => (impl_doesFit.f a b x.f0 x.f1 x.f2 h).isSome) = true := by
  rw [List.all_eq_true]
  intro x hx
  rw [doesFit_val a b x h (List.all_eq_true.1 hl x hx)]
  rfl
 rw [if_pos h1]
 congr 1
 have e : (fun x : S37 => !((impl_doesFit.f a b x.f0 x.f1 x.f2 h).getD false)) = fun x => !(fitB a b x h) := rfl
 rw [e, List.not_any_eq_all_not]
 simp
def solB (a b : Int) (l : List S37) : Nat → Int → List Int
 | 0, _ => []
 | m + 1, h => if allFit a b l h = true then h :: solB a b l m (h + 1) else solB a b l m (h + 1)
theorem solB_len (a b : Int) (l : List S37) : ∀ (m : Nat) (h : Int), (solB a b l m h).length ≤ m
 | 0, _ => by simp [solB]
 | m + 1, h => by
  have := solB_len a b l m (h + 1)
  unfold solB
  split <;> simp <;> omega
theorem solGo_val (a b : Int) (l : List S37) (hl : l.all okC = true) : ∀ (m : Nat) (acc : List Int) (h : Int), acc.length + m ≤ 1000 → solGo a b l m acc h = some (acc ++ solB a b l m h) := by
 intro m
 induction m with
 | zero => intro acc h _; simp [solGo, solB]
 | succ m ih =>
  intro acc h hm
  unfold solGo solB
  rw [fitsAll_val a b l h hl]
  simp only [Option.bind_some]
  by_cases hf : allFit a b l h = true
  ·rw [if_pos hf, if_pos hf, if_pos (by omega), ih (acc ++ [h]) (h + 1) (by simp; omega)]
   simp
  ·rw [if_neg hf, if_neg hf, ih acc (h + 1) (by omega)]
def sols (a b : Int) (l : List S37) : List Int := solB a b l (houses a b).toNat 1
theorem sols_len {a b : Int} (l : List S37) (h : hid a b = true) : (sols a b l).length ≤ 40 := by
 have := houses_le h
 have := solB_len a b l (houses a b).toNat 1
 unfold sols
 omega
theorem solutions_val {a b : Int} {l : List S37} (h : hid a b = true) (hl : l.all okC = true) : impl_solutions.f a b l = some (sols a b l) := by
 have := houses_le h
 unfold impl_solutions.f
 rw [housesOf_val h]
 simp only [Option.bind_some]
 rw [if_pos (by omega), solGo_val a b l hl _ _ _ (by simp; omega)]
 simp [sols]
theorem pzAll_l1 (a b : Int) (l acc : List _) (h : Int) (hl : l.all okC = true) (h1 : 1 ≤ h) (h2 : h ≤ 1000) (hn : l.length ≤ 1000) (ha : acc.length ≤ 1000) : ∀ (d i k : Nat) (f : Bool), i + d = l.length →
  spec_pzAll.l1 (k + d + 1) l acc h f l (l.length : Int) (i : Int) a b = if (f && (l.drop i).all fun x => fitB a b x h) = true then spec_pzAll.l0 k l (acc ++ [h]) (h + 1) a b else spec_pzAll.l0 k l acc (h + 1) a b := by
 intro d
 induction d with
 | zero =>
  intro i k f hi
  obtain rfl : i = l.length := by omega
  have hL : acc.length < 17592186044416 := by omega
  rw [Nat.add_zero, spec_pzAll.l1, if_neg (by omega), w64 (by omega) (by omega), if_pos hL]
  simp
 | succ d ih =>
  intro i k f hi
  rw [show k + (d + 1) + 1 = (k + d + 1) + 1 from rfl, spec_pzAll.l1]
  have hx : l[i]? = some l[i] := List.getElem?_eq_getElem (by omega)
  have hrd : rd_T37 l (i : Int) = l[i] := by simp [rd_T37, List.getD, hx]
  have hok : okC l[i] = true := List.all_eq_true.1 hl _ (List.getElem_mem _)
  rw [if_pos (by omega), if_pos (by omega), if_pos (by omega), hrd, fits_eq _ _ _ _ _ _ h1 (by omega), doesFit_val a b l[i] h hok, Option.bind_some, w64 (by omega) (by omega), show ((i : Int) + 1) = ((i + 1 : Nat) : Int) by omega, List.drop_eq_getElem_cons (by omega), List.all_cons]
  cases f with
  | true =>
   rw [if_pos rfl, ih (i + 1) k _ (by omega)]
   simp
  | false =>
   rw [if_neg (by decide), ih (i + 1) k _ (by omega)]
   simp
theorem pzAll_l0 (a b : Int) (l : List S37) (hh : hid a b = true) (hl : l.all okC = true) (hn : l.length ≤ 1000) : ∀ (m : Nat) (acc : List Int) (h : Int) (k : Nat), 1 ≤ h → h + m = houses a b + 1 → acc.length + m ≤ 100 → m * (l.length + 2) < k →
  spec_pzAll.l0 k l acc h a b = some (acc ++ solB a b l m h) := by
 have hb := houses_le hh
 intro m
 induction m with
 | zero =>
  intro acc h k h1 hm _ hk
  obtain ⟨k, rfl⟩ : ∃ m, k = m + 1 := ⟨k - 1, by omega⟩
  simp only [spec_pzAll.l0, nuHouses_val hh, Option.bind_some]
  rw [if_neg (by omega)]
  simp [solB]
 | succ m ih =>
  intro acc h k h1 hm ha hk
  rw [Nat.succ_mul] at hk
  obtain ⟨k, rfl⟩ : ∃ q, k = (q + l.length + 1) + 1 := ⟨k - (l.length + 2), by omega⟩
  simp only [spec_pzAll.l0, nuHouses_val hh, Option.bind_some]
  rw [if_pos (by omega)]
  have := pzAll_l1 a b l acc h hl h1 (by omega) hn (by omega) l.length 0 k true (by omega)
  simp only [List.drop_zero, Bool.true_and] at this
  rw [show ((0 : Nat) : Int) = 0 from rfl] at this
  rw [this]
  unfold solB
  change (if allFit a b l h = true then _ else _) = _
  by_cases hf : allFit a b l h = true
  ·rw [if_pos hf, if_pos hf, ih (acc ++ [h]) (h + 1) k (by omega) (by omega) (by simp; omega) (by omega)]
   simp
  ·rw [if_neg hf, if_neg hf, ih acc (h + 1) k (by omega) (by omega) (by omega) (by omega)]
def good (a b : Int) (l : List S37) : Bool := hid a b && (decide (l.length ≤ 6) && l.all okC)
theorem isPuzzle_val (a b : Int) (l : List S37) : impl_IsPuzzle.f a b l = some (good a b l) := by
 unfold impl_IsPuzzle.f good
 rw [hidden_val]
 simp only [Option.bind_some]
 cases hid a b with
 | false => rfl
 | true =>
  rw [if_pos rfl]
  by_cases h : l.length ≤ 6
  ·rw [if_pos (by omega)]
   have e : (fun x => !clueOk x) = fun x : S37 => !(okC x) := by funext x; rw [clueOk_eq]
   rw [e, List.not_any_eq_all_not]
   simp [h]
  ·rw [if_neg (by omega)]
   simp [h]
theorem pzGood_l0 (l : List S37) (hn : l.length ≤ 1000) : ∀ (d i k : Nat), i + d = l.length → d < k → spec_pzGood.l0 k l (l.length : Int) (i : Int) = some ((l.drop i).all okC) := by
 intro d
 induction d with
 | zero =>
  intro i k hi hk
  obtain ⟨k, rfl⟩ : ∃ m, k = m + 1 := ⟨k - 1, by omega⟩
  obtain rfl : i = l.length := by omega
  simp only [spec_pzGood.l0]
  rw [if_neg (by omega)]
  simp
 | succ d ih =>
  intro i k hi hk
  obtain ⟨k, rfl⟩ : ∃ m, k = m + 1 := ⟨k - 1, by omega⟩
  simp only [spec_pzGood.l0]
  have hx : l[i]? = some l[i] := List.getElem?_eq_getElem (by omega)
  have hrd : rd_T37 l (i : Int) = l[i] := by simp [rd_T37, List.getD, hx]
  rw [if_pos (by omega), if_pos (by omega), if_pos (by omega), hrd, pzClue_val, w64 (by omega) (by omega), show ((i : Int) + 1) = ((i + 1 : Nat) : Int) by omega, List.drop_eq_getElem_cons (by omega), List.all_cons]
  simp only [Option.bind_some]
  have e : clueB l[i].f0 l[i].f1 l[i].f2 = okC l[i] := rfl
  rw [e]
  cases okC l[i] with
  | true => rw [if_pos rfl, ih (i + 1) k (by omega) (by omega)]; simp
  | false => rw [if_neg (by decide)]; simp
theorem pzGood_ev (a b : Int) (l : List S37) : Ev (fun k => spec_pzGood.f k a b l) (good a b l) := by
 refine Ev.of (k := 1002) (fun k => spec_pzGood.mono a b l k) ?_
 unfold spec_pzGood.f good
 rw [pzStreet_val]
 simp only [Option.bind_some]
 cases hid a b with
 | false =>
  rw [if_neg (by decide)]
  simp [spec_pzGood.j0]
 | true =>
  rw [if_pos rfl]
  by_cases h : l.length ≤ 6
  ·have h6 : decide ((l.length : Int) > 6) = false := by simp; omega
   have := pzGood_l0 l (by omega) l.length 0 1001 (by omega) (by omega)
   rw [show ((0 : Nat) : Int) = 0 from rfl] at this
   simp [h6, spec_pzGood.j0, h, this]
  ·have h6 : decide ((l.length : Int) > 6) = true := by simp; omega
   simp [h6, spec_pzGood.j0, h]
theorem good_facts {a b : Int} {l : List S37} (h : good a b l = true) : hid a b = true ∧ l.length ≤ 6 ∧ l.all okC = true := by
 unfold good at h
 simp only [Bool.and_eq_true, decide_eq_true_eq] at h
 exact h
end Go.Proofs.Ytcloklakffgbmaa.Pz
end
section
namespace Go.Proofs.Ytcloklakffgbmaa.Pz
open Go.RowKit Go.Proofs.Ytcloklakffgbmaa.G Go.Proofs.YtcloklakffgbmaaW.PrintWords Go.Proofs.YtcloklakffgbmaaW.PrintLast Go.Proofs.YtcloklakffgbmaaW.PrintMore
def nx (z : Int) : Int := Int.tmod (wrap64 ((wrap64 (z * 233)) + 1871)) 10007
theorem nx_range {z : Int} (h0 : 0 ≤ z) (h1 : z ≤ 10006) : 0 ≤ nx z ∧ nx z ≤ 10006 := by
 unfold nx
 rw [w64 (x := z * 233) (by omega) (by omega), w64 (by omega) (by omega), tmod_nn (by omega)]
 omega
theorem pzNext_val (z : Int) : spec_pzNext.f z = some (nx z) := by
 unfold spec_pzNext.f nx
 rw [Int.mul_comm]
def mkA (kind z : Int) : Int := if kind = 2 then wrap64 ((Int.tmod z 8) + 2) else if kind = 4 then wrap64 ((Int.tmod z 40) + 1) else 0
def mkB (a b kind n h : Int) : Int := (impl_toldBy.f a b kind n 0 h).getD 0
def mkC (a b h z : Int) : S37 := ⟨Int.tmod (nx z) 6, mkA (Int.tmod (nx z) 6) (nx (nx z)), mkB a b (Int.tmod (nx z) 6) (mkA (Int.tmod (nx z) 6) (nx (nx z))) h⟩
def mkL (a b h : Int) : Nat → Int → List S37 → List S37
 | 0, _, acc => acc
 | d + 1, z, acc => mkL a b h d (nx (nx z)) (acc ++ [mkC a b h z])
theorem mkL_len (a b h : Int) : ∀ (d : Nat) (z : Int) (acc : List S37), (mkL a b h d z acc).length = acc.length + d := by
 intro d
 induction d with
 | zero => intro z acc; rfl
 | succ d ih =>
  intro z acc
  simp only [mkL]
  rw [ih]
  simp
  omega
theorem told_mk (a b kind z h : Int) (hz : 0 ≤ z) : impl_toldBy.f a b kind (mkA kind z) 0 h = some (mkB a b kind (mkA kind z) h) := by
 obtain ⟨v, hv⟩ := toldBy_some a b kind (mkA kind z) 0 h (fun e => by
  unfold mkA
  rw [if_pos e, tmod_nn hz, w64 (by omega) (by omega)]
  omega)
 unfold mkB
 rw [hv]
 rfl
theorem make_impl (a b h : Int) (n : Nat) (hn : n ≤ 6) : ∀ (d i k : Nat) (z : Int) (acc : List S37), i + d = n → d < k → 0 ≤ z → z ≤ 10006 → acc.length ≤ i →
  impl_MakePuzzle.l0 k h z (n : Int) (i : Int) a b a b acc = some (a, b, mkL a b h d z acc, true) := by
 intro d
 induction d with
 | zero =>
  intro i k z acc hi hk h0 h1 ha
  obtain ⟨k, rfl⟩ : ∃ m, k = m + 1 := ⟨k - 1, by omega⟩
  simp only [impl_MakePuzzle.l0]
  rw [if_neg (by omega)]
  rfl
 | succ d ih =>
  intro i k z acc hi hk h0 h1 ha
  obtain ⟨k, rfl⟩ : ∃ m, k = m + 1 := ⟨k - 1, by omega⟩
  obtain ⟨r0, r1⟩ := nx_range h0 h1
  obtain ⟨s0, s1⟩ := nx_range r0 r1
  simp only [impl_MakePuzzle.l0]
  rw [if_pos (by omega)]
  have e1 : Int.tmod (wrap64 ((wrap64 (z * 233)) + 1871)) 10007 = nx z := rfl
  have e2 : Int.tmod (wrap64 ((wrap64 (nx z * 233)) + 1871)) 10007 = nx (nx z) := rfl
  simp only [e1, e2]
  rw [w64 (x := (i : Int) + 1) (by omega) (by omega), show ((i : Int) + 1) = ((i + 1 : Nat) : Int) by omega]
  have ht := told_mk a b (Int.tmod (nx z) 6) (nx (nx z)) h s0
  have hr := ih (i + 1) k (nx (nx z)) (acc ++ [mkC a b h z]) (by omega) (by omega) s0 s1 (by simp; omega)
  have hl : acc.length < 5864062014805 := by omega
  simp only [mkL]
  rw [← hr]
  by_cases c2 : Int.tmod (nx z) 6 = 2
  ·rw [if_pos c2]
   have hA : mkA (Int.tmod (nx z) 6) (nx (nx z)) = wrap64 ((Int.tmod (nx (nx z)) 8) + 2) := by rw [mkA, if_pos c2]
   rw [hA] at ht
   rw [ht, Option.bind_some, if_pos hl]
   simp only [mkC, hA]
  ·rw [if_neg c2]
   by_cases c4 : Int.tmod (nx z) 6 = 4
   ·rw [if_pos c4]
    have hA : mkA (Int.tmod (nx z) 6) (nx (nx z)) = wrap64 ((Int.tmod (nx (nx z)) 40) + 1) := by rw [mkA, if_neg c2, if_pos c4]
    rw [hA] at ht
    rw [ht, Option.bind_some, if_pos hl]
    simp only [mkC, hA]
   ·rw [if_neg c4]
    have hA : mkA (Int.tmod (nx z) 6) (nx (nx z)) = 0 := by rw [mkA, if_neg c2, if_neg c4]
    rw [hA] at ht
    rw [ht, Option.bind_some, if_pos hl]
    simp only [mkC, hA]
theorem pzOf_val (a b h z : Int) (h1 : 1 ≤ h) (h2 : h ≤ 1000000) (hz : 0 ≤ nx (nx z)) : spec_pzOf.f a b (Int.tmod (nx z) 6) (nx (nx z)) h = some ((mkC a b h z).f0, (mkC a b h z).f1, (mkC a b h z).f2) := by
 have ht := told_mk a b (Int.tmod (nx z) 6) (nx (nx z)) h hz
 rw [← value_eq a b (Int.tmod (nx z) 6) (mkA (Int.tmod (nx z) 6) (nx (nx z))) h 0 h1 h2] at ht
 unfold spec_pzOf.f
 by_cases c2 : Int.tmod (nx z) 6 = 2
 ·have hA : mkA (Int.tmod (nx z) 6) (nx (nx z)) = wrap64 ((Int.tmod (nx (nx z)) 8) + 2) := by rw [mkA, if_pos c2]
  rw [hA] at ht
  rw [if_pos c2, ht, Option.bind_some]
  simp only [mkC, hA]
 ·by_cases c4 : Int.tmod (nx z) 6 = 4
  ·have hA : mkA (Int.tmod (nx z) 6) (nx (nx z)) = wrap64 ((Int.tmod (nx (nx z)) 40) + 1) := by rw [mkA, if_neg c2, if_pos c4]
   rw [hA] at ht
   rw [if_neg c2, if_pos c4, ht, Option.bind_some]
   simp only [mkC, hA]
  ·have hA : mkA (Int.tmod (nx z) 6) (nx (nx z)) = 0 := by rw [mkA, if_neg c2, if_neg c4]
   rw [hA] at ht
   rw [if_neg c2, if_neg c4, ht, Option.bind_some]
   simp only [mkC, hA]
theorem make_spec (a b h : Int) (h1 : 1 ≤ h) (h2 : h ≤ 1000000) : ∀ (d k : Nat) (z : Int) (acc : List S37), d ≤ 6 → d < k → 0 ≤ z → z ≤ 10006 → acc.length ≤ 100 - d →
  spec_MakePuzzle.l0 k h (d : Int) z a b a b acc = some (a, b, mkL a b h d z acc, true) := by
 intro d
 induction d with
 | zero =>
  intro k z acc hd hk h0 h1 ha
  obtain ⟨k, rfl⟩ : ∃ m, k = m + 1 := ⟨k - 1, by omega⟩
  simp only [spec_MakePuzzle.l0]
  rw [if_neg (by omega)]
  rfl
 | succ d ih =>
  intro k z acc hd hk h0 hz ha
  obtain ⟨k, rfl⟩ : ∃ m, k = m + 1 := ⟨k - 1, by omega⟩
  obtain ⟨r0, r1⟩ := nx_range h0 hz
  obtain ⟨s0, s1⟩ := nx_range r0 r1
  simp only [spec_MakePuzzle.l0]
  rw [if_pos (by omega), pzNext_val, Option.bind_some, pzNext_val, Option.bind_some, pzOf_val a b h z h1 h2 s0, Option.bind_some, if_pos (by omega), w64 (by omega) (by omega), show (((d + 1 : Nat) : Int) - 1) = (d : Int) by omega]
  exact ih k (nx (nx z)) (acc ++ [mkC a b h z]) (by omega) (by omega) s0 s1 (by simp; omega)
theorem MakePuzzle_both (a b h c s : Int) : ∃ v, Ev (fun k => spec_MakePuzzle.f k a b h c s) v ∧ Ev (fun k => impl_MakePuzzle.f k a b h c s) v ∧ v.2.2.1.length ≤ 40 := by
 have bad : ∀ k, 1 ≤ k → spec_MakePuzzle.j0 k h c s true a b = some (0, 0, [], false) := fun k hk => by
  obtain ⟨k, rfl⟩ : ∃ m, k = m + 1 := ⟨k - 1, by omega⟩
  simp only [spec_MakePuzzle.j0]
  rw [if_pos trivial]
 have bad' : ∀ k, 1 ≤ k → impl_MakePuzzle.j0 k h c s true a b = some (0, 0, [], false) := fun k hk => by
  obtain ⟨k, rfl⟩ : ∃ m, k = m + 1 := ⟨k - 1, by omega⟩
  simp only [impl_MakePuzzle.j0]
  rw [if_pos trivial]
 cases hh : hid a b with
 | false =>
  refine ⟨(0, 0, [], false), ⟨1, fun k hk => ?_⟩, ⟨1, fun k hk => ?_⟩, by simp⟩
  ·show spec_MakePuzzle.f k a b h c s = _
   simp [spec_MakePuzzle.f, spec_pzHidden.f, pzStreet_val, hh, bad k hk]
  ·show impl_MakePuzzle.f k a b h c s = _
   simp [impl_MakePuzzle.f, hidden_val, hh, bad' k hk]
 | true =>
  have hs : street a b = true := by
   unfold hid at hh
   simp at hh
   exact hh.1
  obtain ⟨g1, g2⟩ := houses_le hh
  have e1 : impl_isHouse.f a b h = some (inB h 1 (houses a b)) := by
   simp [impl_isHouse.f, isStreet_val, hs, housesOf_val hh, within_val]
  have e2 : spec_pzHidden.f a b h = some (inB h 1 (houses a b)) := by
   simp [spec_pzHidden.f, pzStreet_val, hh, nuHouses_val hh, l1In_val]
  cases hb : inB h 1 (houses a b) with
  | false =>
   rw [hb] at e1 e2
   refine ⟨(0, 0, [], false), ⟨1, fun k hk => ?_⟩, ⟨1, fun k hk => ?_⟩, by simp⟩
   ·show spec_MakePuzzle.f k a b h c s = _
    simp [spec_MakePuzzle.f, e2, bad k hk]
   ·show impl_MakePuzzle.f k a b h c s = _
    simp [impl_MakePuzzle.f, hidden_val, hh, e1, bad' k hk]
  | true =>
   rw [hb] at e1 e2
   have hb' : 1 ≤ h ∧ h ≤ houses a b := by unfold inB at hb; simpa using hb
   cases hc : inB c 0 6 with
   | false =>
    refine ⟨(0, 0, [], false), ⟨1, fun k hk => ?_⟩, ⟨1, fun k hk => ?_⟩, by simp⟩
    ·show spec_MakePuzzle.f k a b h c s = _
     simp [spec_MakePuzzle.f, e2, l1In_val, hc, bad k hk]
    ·show impl_MakePuzzle.f k a b h c s = _
     simp [impl_MakePuzzle.f, hidden_val, hh, e1, within_val, hc, bad' k hk]
   | true =>
    have hc' : 0 ≤ c ∧ c ≤ 6 := by unfold inB at hc; simpa using hc
    cases hz : inB s 0 9999 with
    | false =>
     refine ⟨(0, 0, [], false), ⟨1, fun k hk => ?_⟩, ⟨1, fun k hk => ?_⟩, by simp⟩
     ·show spec_MakePuzzle.f k a b h c s = _
      simp [spec_MakePuzzle.f, e2, l1In_val, hc, hz, bad k hk]
     ·show impl_MakePuzzle.f k a b h c s = _
      simp [impl_MakePuzzle.f, hidden_val, hh, e1, within_val, hc, hz, bad' k hk]
    | true =>
     have hz' : 0 ≤ s ∧ s ≤ 9999 := by unfold inB at hz; simpa using hz
     obtain ⟨n, rfl⟩ : ∃ n : Nat, c = (n : Int) := ⟨c.toNat, by omega⟩
     refine ⟨(a, b, mkL a b h n s [], true), ⟨n + 5, fun k hk => ?_⟩, ⟨n + 5, fun k hk => ?_⟩, by rw [mkL_len]; simp; omega⟩
     ·show spec_MakePuzzle.f k a b h n s = _
      obtain ⟨k, rfl⟩ : ∃ m, k = m + 1 := ⟨k - 1, by omega⟩
      have := make_spec a b h hb'.1 (by omega) n k s [] (by omega) (by omega) (by omega) (by omega) (by simp)
      simp [spec_MakePuzzle.f, e2, l1In_val, hc, hz, spec_MakePuzzle.j0, this]
     ·show impl_MakePuzzle.f k a b h n s = _
      obtain ⟨k, rfl⟩ : ∃ m, k = m + 1 := ⟨k - 1, by omega⟩
      have := make_impl a b h n (by omega) n 0 k s [] (by omega) (by omega) (by omega) (by omega) (by simp)
      rw [show ((0 : Nat) : Int) = 0 from rfl] at this
      simp [impl_MakePuzzle.f, hidden_val, hh, e1, within_val, hc, hz, impl_MakePuzzle.j0, this]
end Go.Proofs.Ytcloklakffgbmaa.Pz
end
section
namespace Go.Proofs.Ytcloklakffgbmaa.Pz
open Go.RowKit Go.Proofs.Ytcloklakffgbmaa.G Go.Proofs.YtcloklakffgbmaaW.PrintWords Go.Proofs.YtcloklakffgbmaaW.PrintLast Go.Proofs.YtcloklakffgbmaaW.PrintMore
theorem pzAll_k {a b : Int} {l : List S37} (hh : hid a b = true) (hl : l.all okC = true) (hn : l.length ≤ 1000) {k : Nat} (hk : 50000 ≤ k) : spec_pzAll.f k a b l = some (sols a b l) := by
 have hb := houses_le hh
 have h0 : spec_pzAll.f 40081 a b l = some (sols a b l) := by
  unfold spec_pzAll.f
  have hmul : (houses a b).toNat * (l.length + 2) ≤ 40 * 1002 := Nat.mul_le_mul (by omega) (by omega)
  rw [pzAll_l0 a b l hh hl hn (houses a b).toNat [] 1 _ (by omega) (by omega) (by simp; omega) (by omega)]
  rfl
 exact at_rounds (fun k => spec_pzAll.mono a b l k) (by omega) h0
theorem pzGood_k (a b : Int) (l : List S37) {k : Nat} (hk : 50000 ≤ k) : spec_pzGood.f k a b l = some (good a b l) := by
 obtain ⟨K, h⟩ := pzGood_ev a b l
 have h : ∀ k, K ≤ k → spec_pzGood.f k a b l = some (good a b l) := h
 have h0 : spec_pzGood.f 1002 a b l = some (good a b l) := by
  have hs : ∃ r, spec_pzGood.f 1002 a b l = some r := by
   unfold spec_pzGood.f
   rw [pzStreet_val, Option.bind_some]
   cases hid a b with
   | false => exact ⟨_, by rw [if_neg (by decide), spec_pzGood.j0, if_pos rfl]⟩
   | true =>
    rw [if_pos rfl]
    by_cases h : l.length ≤ 6
    ·have h6 : decide ((l.length : Int) > 6) = false := by simp; omega
     have := pzGood_l0 l (by omega) l.length 0 1001 (by omega) (by omega)
     rw [show ((0 : Nat) : Int) = 0 from rfl] at this
     exact ⟨_, by rw [h6, spec_pzGood.j0, if_neg (by decide)]; exact this⟩
    ·have h6 : decide ((l.length : Int) > 6) = true := by simp; omega
     exact ⟨_, by rw [h6, spec_pzGood.j0, if_pos rfl]⟩
  obtain ⟨r, hr⟩ := hs
  have h1 := at_rounds (fun k => spec_pzGood.mono a b l k) (Nat.le_max_left 1002 K) hr
  rw [h _ (Nat.le_max_right 1002 K)] at h1
  rw [hr, h1]
 exact at_rounds (fun k => spec_pzGood.mono a b l k) (by omega) h0
theorem all_sub {l m : List S37} (h : l.all okC = true) (hm : ∀ x ∈ m, x ∈ l) : m.all okC = true := by
 rw [List.all_eq_true] at h ⊢
 exact fun x hx => h x (hm x hx)
def cnt (a b : Int) (l : List S37) : Int := ((sols a b l).length : Int)
theorem pzWithout_val (l : List S37) (i : Nat) (h : i < l.length) (hn : l.length ≤ 1000) : spec_pzWithout.f l (i : Int) = some (l.eraseIdx i) := by
 unfold spec_pzWithout.f
 rw [Option.bind_some, if_pos (by omega), if_pos (by omega), Option.bind_some, if_pos (by simp; omega), Option.bind_some, w64 (by omega) (by omega), if_pos (by omega), if_pos (by omega), Option.bind_some, if_pos (by simp; omega), show ((i : Int) + 1).toNat = i + 1 by omega, Int.toNat_natCast, List.eraseIdx_eq_take_drop_succ]
 rfl
theorem withoutClue_val (l : List S37) (i : Nat) (h : i < l.length) (hn : l.length ≤ 1000) : impl_withoutClue.f l (i : Int) = some (l.eraseIdx i) := by
 unfold impl_withoutClue.f
 rw [if_pos (by omega), Int.toNat_natCast]
theorem erase_ok {l : List S37} (h : l.all okC = true) (i : Nat) : (l.eraseIdx i).all okC = true := all_sub h (fun _ hx => List.mem_of_mem_eraseIdx hx)
def ng (a b : Int) (l : List S37) : Nat → Nat → List Int → List Int
 | 0, _, acc => acc
 | d + 1, i, acc => if cnt a b (l.eraseIdx i) = cnt a b l then ng a b l d (i + 1) (acc ++ [(i : Int)]) else ng a b l d (i + 1) acc
theorem need_impl (a b : Int) (l : List S37) (hg : good a b l = true) : ∀ (d i k : Nat) (acc : List Int), i + d = l.length → acc.length ≤ i → d + 60000 < k → impl_NeedlessClues.l0 k (cnt a b l) acc (l.length : Int) (i : Int) a b l = some (ng a b l d i acc, true) := by
 obtain ⟨g1, g2, g3⟩ := good_facts hg
 intro d
 induction d with
 | zero =>
  intro i k acc hi ha hk
  obtain ⟨k, rfl⟩ : ∃ m, k = m + 1 := ⟨k - 1, by omega⟩
  rw [impl_NeedlessClues.l0, if_neg (by omega)]
  rfl
 | succ d ih =>
  intro i k acc hi ha hk
  obtain ⟨k, rfl⟩ : ∃ m, k = m + 1 := ⟨k - 1, by omega⟩
  have hs := solutions_val g1 (erase_ok g3 i)
  rw [impl_NeedlessClues.l0, if_pos (by omega), withoutClue_val l i (by omega) (by omega), Option.bind_some, hs, Option.bind_some, if_pos (show acc.length < 17592186044416 by omega), w64 (by omega) (by omega), show ((i : Int) + 1) = ((i + 1 : Nat) : Int) by omega, ih (i + 1) k _ (by omega) (by simp; omega) (by omega), ih (i + 1) k _ (by omega) (by omega) (by omega)]
  conv => rhs; unfold ng
  show (if cnt a b (l.eraseIdx i) = cnt a b l then _ else _) = _
  split <;> rfl
def hg_ (a b : Int) : Nat → List S37 → Nat → List S37
 | 0, l, _ => l
 | d + 1, l, i => if cnt a b (l.eraseIdx i) = 1 then hg_ a b d (l.eraseIdx i) i else hg_ a b d l (i + 1)
theorem hg_len (a b : Int) : ∀ (d : Nat) (l : List S37) (i : Nat), (hg_ a b d l i).length ≤ l.length
 | 0, _, _ => Nat.le_refl _
 | d + 1, l, i => by
  unfold hg_
  split
  ·have := hg_len a b d (l.eraseIdx i) i
   have h2 : (l.eraseIdx i).length ≤ l.length := List.length_eraseIdx_le ..
   omega
  ·exact hg_len a b d l (i + 1)
theorem hard_spec (a b : Int) (l0 : List S37) (g1 : hid a b = true) : ∀ (d i k : Nat) (l : List S37), l.all okC = true → l.length ≤ 6 → i + d = l.length → d + 60000 < k → spec_HarderPuzzle.l0 k l (i : Int) a b l0 = some (a, b, hg_ a b d l i, true) := by
 intro d
 induction d with
 | zero =>
  intro i k l g3 g2 hi hk
  obtain ⟨k, rfl⟩ : ∃ m, k = m + 1 := ⟨k - 1, by omega⟩
  rw [spec_HarderPuzzle.l0, if_neg (by omega)]
  rfl
 | succ d ih =>
  intro i k l g3 g2 hi hk
  obtain ⟨k, rfl⟩ : ∃ m, k = m + 1 := ⟨k - 1, by omega⟩
  have hlen : (l.eraseIdx i).length = l.length - 1 := List.length_eraseIdx_of_lt (by omega)
  have hs := pzAll_k (k := k) g1 (erase_ok g3 i) (by omega) (by omega)
  have hsv : spec_pzSolved.f k a b (l.eraseIdx i) = some (cnt a b (l.eraseIdx i) == 1) := by
   unfold spec_pzSolved.f
   rw [hs]
   rfl
  rw [spec_HarderPuzzle.l0, if_pos (by omega), pzWithout_val l i (by omega) (by omega), Option.bind_some, hsv, Option.bind_some, ih i k (l.eraseIdx i) (erase_ok g3 i) (by omega) (by omega) (by omega), w64 (by omega) (by omega), show ((i : Int) + 1) = ((i + 1 : Nat) : Int) by omega, ih (i + 1) k l g3 g2 (by omega) (by omega)]
  conv => rhs; unfold hg_
  by_cases hc : cnt a b (l.eraseIdx i) = 1
  ·rw [if_pos (by simpa using hc), if_pos hc]
  ·rw [if_neg (by simpa using hc), if_neg hc]
theorem hard_impl (a b : Int) (l0 : List S37) (g1 : hid a b = true) : ∀ (d i k : Nat) (l : List S37), l.all okC = true → l.length ≤ 6 → i + d = l.length → d + 60000 < k → impl_HarderPuzzle.l0 k l (i : Int) a b l0 = some (a, b, hg_ a b d l i, true) := by
 intro d
 induction d with
 | zero =>
  intro i k l g3 g2 hi hk
  obtain ⟨k, rfl⟩ : ∃ m, k = m + 1 := ⟨k - 1, by omega⟩
  rw [impl_HarderPuzzle.l0, if_neg (by omega)]
  rfl
 | succ d ih =>
  intro i k l g3 g2 hi hk
  obtain ⟨k, rfl⟩ : ∃ m, k = m + 1 := ⟨k - 1, by omega⟩
  have hlen : (l.eraseIdx i).length = l.length - 1 := List.length_eraseIdx_of_lt (by omega)
  rw [impl_HarderPuzzle.l0, if_pos (by omega), withoutClue_val l i (by omega) (by omega), Option.bind_some, solutions_val g1 (erase_ok g3 i), Option.bind_some, ih i k (l.eraseIdx i) (erase_ok g3 i) (by omega) (by omega) (by omega), w64 (by omega) (by omega), show ((i : Int) + 1) = ((i + 1 : Nat) : Int) by omega, ih (i + 1) k l g3 g2 (by omega) (by omega)]
  conv => rhs; unfold hg_
  show (if cnt a b (l.eraseIdx i) = 1 then _ else _) = _
  split <;> rfl
theorem HarderPuzzle_is (a b : Int) (l : List S37) : ∃ v, Ev (fun k => spec_HarderPuzzle.f k a b l) v ∧ Ev (fun k => impl_HarderPuzzle.f k a b l) v ∧ v.2.2.1.length ≤ 40 ∧ ((v = (0, 0, [], false) ∧ ¬ (good a b l = true ∧ cnt a b l = 1)) ∨ (good a b l = true ∧ cnt a b l = 1 ∧ v = (a, b, hg_ a b l.length l 0, true))) := by
 cases hg : good a b l with
 | false =>
  refine ⟨(0, 0, [], false), ⟨60000, fun k hk => ?_⟩, ⟨60000, fun k hk => ?_⟩, by simp, Or.inl ⟨rfl, fun h => by cases h.1⟩⟩
  ·obtain ⟨k, rfl⟩ : ∃ m, k = m + 1 := ⟨k - 1, by omega⟩
   show spec_HarderPuzzle.f (k + 1) a b l = _
   rw [spec_HarderPuzzle.f, pzGood_k a b l (by omega), hg, Option.bind_some, if_neg (by decide), spec_HarderPuzzle.j0, if_pos rfl]
  ·obtain ⟨k, rfl⟩ : ∃ m, k = m + 1 := ⟨k - 1, by omega⟩
   show impl_HarderPuzzle.f (k + 1) a b l = _
   rw [impl_HarderPuzzle.f, isPuzzle_val, hg, Option.bind_some, if_neg (by decide), impl_HarderPuzzle.j0, if_pos rfl]
 | true =>
  obtain ⟨g1, g2, g3⟩ := good_facts hg
  have hsv : ∀ k, 50000 ≤ k → spec_pzSolved.f k a b l = some (cnt a b l == 1) := fun k hk => by
   unfold spec_pzSolved.f
   rw [pzAll_k g1 g3 (by omega) hk]
   rfl
  have hi := solutions_val g1 g3
  by_cases hc : cnt a b l = 1
  ·have c1 : (!(cnt a b l == 1)) = false := by simp [hc]
   have c2 : (((sols a b l).length : Int) != 1) = false := by show (cnt a b l != 1) = false; simp [hc]
   refine ⟨(a, b, hg_ a b l.length l 0, true), ⟨70000, fun k hk => ?_⟩, ⟨70000, fun k hk => ?_⟩, Nat.le_trans (hg_len a b l.length l 0) (by omega), Or.inr ⟨rfl, hc, rfl⟩⟩
   ·obtain ⟨k, rfl⟩ : ∃ m, k = m + 1 := ⟨k - 1, by omega⟩
    show spec_HarderPuzzle.f (k + 1) a b l = _
    have := hard_spec a b l g1 l.length 0 k l g3 g2 (by omega) (by omega)
    rw [spec_HarderPuzzle.f, pzGood_k a b l (by omega), hg, Option.bind_some, if_pos rfl, hsv _ (by omega), Option.bind_some, c1, spec_HarderPuzzle.j0, if_neg (by decide), Option.bind_some, if_pos (by simp; omega), List.nil_append]
    exact this
   ·obtain ⟨k, rfl⟩ : ∃ m, k = m + 1 := ⟨k - 1, by omega⟩
    show impl_HarderPuzzle.f (k + 1) a b l = _
    have := hard_impl a b l g1 l.length 0 k l g3 g2 (by omega) (by omega)
    rw [impl_HarderPuzzle.f, isPuzzle_val, hg, Option.bind_some, if_pos rfl, hi, Option.bind_some, c2, impl_HarderPuzzle.j0, if_neg (by decide)]
    unfold impl_Clue_44.f
    rw [if_pos (by omega), Option.bind_some]
    exact this
  ·have c1 : (!(cnt a b l == 1)) = true := by simp [hc]
   have c2 : (((sols a b l).length : Int) != 1) = true := by show (cnt a b l != 1) = true; simp [hc]
   refine ⟨(0, 0, [], false), ⟨60000, fun k hk => ?_⟩, ⟨60000, fun k hk => ?_⟩, by simp, Or.inl ⟨rfl, fun h => hc h.2⟩⟩
   ·obtain ⟨k, rfl⟩ : ∃ m, k = m + 1 := ⟨k - 1, by omega⟩
    show spec_HarderPuzzle.f (k + 1) a b l = _
    rw [spec_HarderPuzzle.f, pzGood_k a b l (by omega), hg, Option.bind_some, if_pos rfl, hsv _ (by omega), Option.bind_some, c1, spec_HarderPuzzle.j0, if_pos rfl]
   ·obtain ⟨k, rfl⟩ : ∃ m, k = m + 1 := ⟨k - 1, by omega⟩
    show impl_HarderPuzzle.f (k + 1) a b l = _
    rw [impl_HarderPuzzle.f, isPuzzle_val, hg, Option.bind_some, if_pos rfl, hi, Option.bind_some, c2, impl_HarderPuzzle.j0, if_pos rfl]
theorem DropClue_is (a b : Int) (l : List S37) (q : Int) : ∃ v, Ev (fun k => spec_DropClue.f k a b l q) v ∧ impl_DropClue.f a b l q = some v ∧ v.2.2.1.length ≤ 40 ∧ ((v = (0, 0, [], false) ∧ ¬ (good a b l = true ∧ 0 ≤ q ∧ q < l.length)) ∨ (good a b l = true ∧ 0 ≤ q ∧ q < l.length ∧ v = (a, b, l.eraseIdx q.toNat, true))) := by
 cases hg : good a b l with
 | false =>
  refine ⟨(0, 0, [], false), ⟨60000, fun k hk => ?_⟩, ?_, by simp, Or.inl ⟨rfl, fun h => by cases h.1⟩⟩
  ·show spec_DropClue.f k a b l q = _
   rw [spec_DropClue.f, pzGood_k a b l (by omega), hg, Option.bind_some, if_neg (by decide)]
  ·rw [impl_DropClue.f, isPuzzle_val, hg, Option.bind_some, if_neg (by decide)]
 | true =>
  obtain ⟨g1, g2, g3⟩ := good_facts hg
  cases hq : inB q 0 ((l.length : Int) - 1) with
  | false =>
   refine ⟨(0, 0, [], false), ⟨60000, fun k hk => ?_⟩, ?_, by simp, Or.inl ⟨rfl, fun h => by simp [inB] at hq; omega⟩⟩
   ·show spec_DropClue.f k a b l q = _
    rw [spec_DropClue.f, pzGood_k a b l (by omega), hg, Option.bind_some, if_pos rfl, w64 (by omega) (by omega), l1In_val, hq, Option.bind_some, if_neg (by decide)]
   ·rw [impl_DropClue.f, isPuzzle_val, hg, Option.bind_some, if_pos rfl, w64 (by omega) (by omega), within_val, hq, Option.bind_some, if_neg (by decide)]
  | true =>
   have hq' : 0 ≤ q ∧ q ≤ (l.length : Int) - 1 := by
    unfold inB at hq
    simpa using hq
   obtain ⟨i, rfl⟩ := Int.eq_ofNat_of_zero_le hq'.1
   refine ⟨(a, b, l.eraseIdx i, true), ⟨60000, fun k hk => ?_⟩, ?_, ?_, Or.inr ⟨rfl, by omega, by omega, rfl⟩⟩
   ·show spec_DropClue.f k a b l (i : Int) = _
    rw [spec_DropClue.f, pzGood_k a b l (by omega), hg, Option.bind_some, if_pos rfl, w64 (by omega) (by omega), l1In_val, hq, Option.bind_some, if_pos rfl, pzWithout_val l i (by omega) (by omega), Option.bind_some]
   ·rw [impl_DropClue.f, isPuzzle_val, hg, Option.bind_some, if_pos rfl, w64 (by omega) (by omega), within_val, hq, Option.bind_some, if_pos rfl, withoutClue_val l i (by omega) (by omega), Option.bind_some]
   ·have : (l.eraseIdx i).length ≤ l.length := List.length_eraseIdx_le ..
    show (l.eraseIdx i).length ≤ 40
    omega
theorem good_add (a b : Int) (l : List S37) (c : S37) : good a b (l ++ [c]) = (good a b l && (okC c && decide (¬ (l.length : Int) = 6))) := by
 unfold good
 rw [List.all_append, List.length_append]
 have e : decide (l.length + [c].length ≤ 6) = (decide (l.length ≤ 6) && decide (¬ (l.length : Int) = 6)) := by
  rw [Bool.eq_iff_iff]
  simp
  omega
 rw [e]
 simp only [List.all_cons, List.all_nil, Bool.and_true]
 cases hid a b <;> cases decide (l.length ≤ 6) <;> cases l.all okC <;> cases okC c <;> cases decide (¬ (l.length : Int) = 6) <;> rfl
theorem AddClue_is (a b : Int) (l : List S37) (hl : l.length ≤ 1048576) (x y z : Int) : ∃ v, Ev (fun k => spec_AddClue.f k a b l x y z) v ∧ impl_AddClue.f a b l x y z = some v ∧ v.2.2.1.length ≤ 40 ∧ ((v = (0, 0, [], false) ∧ ¬ (good a b l = true ∧ clueB x y z = true ∧ ¬ (l.length : Int) = 6)) ∨ (good a b l = true ∧ clueB x y z = true ∧ ¬ (l.length : Int) = 6 ∧ v = (a, b, l ++ [⟨x, y, z⟩], true))) := by
 obtain ⟨K, hg⟩ := pzGood_ev a b l
 have hg : ∀ k, K ≤ k → spec_pzGood.f k a b l = some (good a b l) := hg
 have himpl : impl_AddClue.f a b l x y z = if good a b (l ++ [⟨x, y, z⟩]) = true then some (a, b, l ++ [⟨x, y, z⟩], true) else some (0, 0, [], false) := by
  unfold impl_AddClue.f impl_Clue_44.f
  rw [if_pos (by omega), Option.bind_some, Option.bind_some, if_pos (by simp; omega), Option.bind_some, isPuzzle_val, Option.bind_some]
 rw [good_add] at himpl
 have hc : okC ⟨x, y, z⟩ = clueB x y z := rfl
 rw [hc] at himpl
 cases h1 : good a b l with
 | false =>
  rw [h1] at himpl
  exact ⟨(0, 0, [], false), ⟨K, fun k hk => by simp [spec_AddClue.f, hg k hk, h1]⟩, by simpa using himpl, by simp, Or.inl ⟨rfl, fun h => by simp at h⟩⟩
 | true =>
  rw [h1] at himpl
  obtain ⟨_, g2, _⟩ := good_facts h1
  cases h2 : clueB x y z with
  | false =>
   rw [h2] at himpl
   exact ⟨(0, 0, [], false), ⟨K, fun k hk => by simp [spec_AddClue.f, hg k hk, h1, pzClue_val, h2]⟩, by simpa using himpl, by simp, Or.inl ⟨rfl, fun h => by simp at h⟩⟩
  | true =>
   rw [h2] at himpl
   by_cases h3 : (l.length : Int) = 6
   ·refine ⟨(0, 0, [], false), ⟨K, fun k hk => ?_⟩, ?_, by simp, Or.inl ⟨rfl, fun h => h.2.2 h3⟩⟩
    ·show spec_AddClue.f k a b l x y z = _
     rw [spec_AddClue.f, hg k hk, h1, Option.bind_some, if_pos rfl, pzClue_val, h2, Option.bind_some, if_pos rfl, if_pos h3]
    ·rw [himpl, if_neg (by simp [h3])]
   ·refine ⟨(a, b, l ++ [⟨x, y, z⟩], true), ⟨K, fun k hk => ?_⟩, ?_, by simp; omega, Or.inr ⟨rfl, rfl, h3, rfl⟩⟩
    ·show spec_AddClue.f k a b l x y z = _
     rw [spec_AddClue.f, hg k hk, h1, Option.bind_some, if_pos rfl, pzClue_val, h2, Option.bind_some, if_pos rfl, if_neg h3, Option.bind_some, if_pos (by simp; omega), Option.bind_some, Option.bind_some, if_pos (by simp; omega), List.nil_append]
    ·rw [himpl, if_pos (by simp [h3])]
theorem MakePuzzle_is (a b h c s : Int) : ∃ v, Ev (fun k => spec_MakePuzzle.f k a b h c s) v ∧ Ev (fun k => impl_MakePuzzle.f k a b h c s) v ∧ v.2.2.1.length ≤ 40 ∧ (v = (0, 0, [], false) ∨ (hid a b = true ∧ 1 ≤ h ∧ h ≤ houses a b ∧ 0 ≤ c ∧ c ≤ 6 ∧ 0 ≤ s ∧ s ≤ 9999 ∧ v = (a, b, mkL a b h c.toNat s [], true))) := by
 have bad : ∀ k, 1 ≤ k → spec_MakePuzzle.j0 k h c s true a b = some (0, 0, [], false) := fun k hk => by
  obtain ⟨k, rfl⟩ : ∃ m, k = m + 1 := ⟨k - 1, by omega⟩
  simp only [spec_MakePuzzle.j0]
  rw [if_pos trivial]
 have bad' : ∀ k, 1 ≤ k → impl_MakePuzzle.j0 k h c s true a b = some (0, 0, [], false) := fun k hk => by
  obtain ⟨k, rfl⟩ : ∃ m, k = m + 1 := ⟨k - 1, by omega⟩
  simp only [impl_MakePuzzle.j0]
  rw [if_pos trivial]
 cases hh : hid a b with
 | false =>
  refine ⟨(0, 0, [], false), ⟨1, fun k hk => ?_⟩, ⟨1, fun k hk => ?_⟩, by simp, Or.inl rfl⟩
  ·show spec_MakePuzzle.f k a b h c s = _
   simp [spec_MakePuzzle.f, spec_pzHidden.f, pzStreet_val, hh, bad k hk]
  ·show impl_MakePuzzle.f k a b h c s = _
   simp [impl_MakePuzzle.f, hidden_val, hh, bad' k hk]
 | true =>
  have hs : street a b = true := by
   unfold hid at hh
   simp at hh
   exact hh.1
  obtain ⟨g1, g2⟩ := houses_le hh
  have e1 : impl_isHouse.f a b h = some (inB h 1 (houses a b)) := by
   simp [impl_isHouse.f, isStreet_val, hs, housesOf_val hh, within_val]
  have e2 : spec_pzHidden.f a b h = some (inB h 1 (houses a b)) := by
   simp [spec_pzHidden.f, pzStreet_val, hh, nuHouses_val hh, l1In_val]
  cases hb : inB h 1 (houses a b) with
  | false =>
   rw [hb] at e1 e2
   refine ⟨(0, 0, [], false), ⟨1, fun k hk => ?_⟩, ⟨1, fun k hk => ?_⟩, by simp, Or.inl rfl⟩
   ·show spec_MakePuzzle.f k a b h c s = _
    simp [spec_MakePuzzle.f, e2, bad k hk]
   ·show impl_MakePuzzle.f k a b h c s = _
    simp [impl_MakePuzzle.f, hidden_val, hh, e1, bad' k hk]
  | true =>
   rw [hb] at e1 e2
   have hb' : 1 ≤ h ∧ h ≤ houses a b := by unfold inB at hb; simpa using hb
   cases hc : inB c 0 6 with
   | false =>
    refine ⟨(0, 0, [], false), ⟨1, fun k hk => ?_⟩, ⟨1, fun k hk => ?_⟩, by simp, Or.inl rfl⟩
    ·show spec_MakePuzzle.f k a b h c s = _
     simp [spec_MakePuzzle.f, e2, l1In_val, hc, bad k hk]
    ·show impl_MakePuzzle.f k a b h c s = _
     simp [impl_MakePuzzle.f, hidden_val, hh, e1, within_val, hc, bad' k hk]
   | true =>
    have hc' : 0 ≤ c ∧ c ≤ 6 := by unfold inB at hc; simpa using hc
    cases hz : inB s 0 9999 with
    | false =>
     refine ⟨(0, 0, [], false), ⟨1, fun k hk => ?_⟩, ⟨1, fun k hk => ?_⟩, by simp, Or.inl rfl⟩
     ·show spec_MakePuzzle.f k a b h c s = _
      simp [spec_MakePuzzle.f, e2, l1In_val, hc, hz, bad k hk]
     ·show impl_MakePuzzle.f k a b h c s = _
      simp [impl_MakePuzzle.f, hidden_val, hh, e1, within_val, hc, hz, bad' k hk]
    | true =>
     have hz' : 0 ≤ s ∧ s ≤ 9999 := by unfold inB at hz; simpa using hz
     obtain ⟨n, rfl⟩ : ∃ n : Nat, c = (n : Int) := ⟨c.toNat, by omega⟩
     refine ⟨(a, b, mkL a b h n s [], true), ⟨n + 5, fun k hk => ?_⟩, ⟨n + 5, fun k hk => ?_⟩, by rw [mkL_len]; simp; omega, Or.inr ⟨rfl, hb'.1, hb'.2, hc'.1, hc'.2, hz'.1, hz'.2, rfl⟩⟩
     ·show spec_MakePuzzle.f k a b h n s = _
      obtain ⟨k, rfl⟩ : ∃ m, k = m + 1 := ⟨k - 1, by omega⟩
      have := make_spec a b h hb'.1 (by omega) n k s [] (by omega) (by omega) (by omega) (by omega) (by simp)
      simp [spec_MakePuzzle.f, e2, l1In_val, hc, hz, spec_MakePuzzle.j0, this]
     ·show impl_MakePuzzle.f k a b h n s = _
      obtain ⟨k, rfl⟩ : ∃ m, k = m + 1 := ⟨k - 1, by omega⟩
      have := make_impl a b h n (by omega) n 0 k s [] (by omega) (by omega) (by omega) (by omega) (by simp)
      rw [show ((0 : Nat) : Int) = 0 from rfl] at this
      simp [impl_MakePuzzle.f, hidden_val, hh, e1, within_val, hc, hz, impl_MakePuzzle.j0, this]
theorem IsSolved_val (a b : Int) (l : List S37) : impl_IsSolved.f a b l = some (if good a b l = true then (cnt a b l == 1, true) else (false, false)) := by
 unfold impl_IsSolved.f
 rw [isPuzzle_val, Option.bind_some]
 split
 ·rename_i hg
  obtain ⟨g1, g2, g3⟩ := good_facts hg
  rw [solutions_val g1 g3]
  rfl
 ·rfl
theorem Solutions_val {a b : Int} {l : List S37} (hg : good a b l = true) : impl_Solutions.f a b l = some (sols a b l, true) := by
 obtain ⟨g1, g2, g3⟩ := good_facts hg
 unfold impl_Solutions.f
 rw [isPuzzle_val, Option.bind_some, if_pos hg, solutions_val g1 g3]
 rfl
theorem Needless_val {a b : Int} {l : List S37} (hg : good a b l = true) : Ev (fun k => impl_NeedlessClues.f k a b l) (ng a b l l.length 0 [], true) := by
 obtain ⟨g1, g2, g3⟩ := good_facts hg
 refine ⟨70000, fun k hk => ?_⟩
 show impl_NeedlessClues.f k a b l = _
 have := need_impl a b l hg l.length 0 k [] (by omega) (by simp) (by omega)
 rw [impl_NeedlessClues.f, isPuzzle_val, hg, Option.bind_some, if_pos rfl, solutions_val g1 g3, Option.bind_some]
 exact this
end Go.Proofs.Ytcloklakffgbmaa.Pz
end
section
namespace Go.Proofs.Ytcloklakffgbmaa.Pz
open Go.RowKit Go.Proofs.Ytcloklakffgbmaa.G Go.Proofs.YtcloklakffgbmaaW.PrintWords Go.Proofs.YtcloklakffgbmaaW.PrintLast Go.Proofs.YtcloklakffgbmaaW.PrintMore
def Gv {α : Type} (g : Nat → Option α) (P : α → Prop) : Prop := ∃ r, Ev g r ∧ P r
theorem Gv.some {α : Type} {r : α} {P : α → Prop} (h : P r) : Gv (fun _ => Option.some r) P := ⟨r, Ev.now r, h⟩
theorem Gv.is {α : Type} {o : Option α} {r : α} {P : α → Prop} (e : o = Option.some r) (h : P r) : Gv (fun _ => o) P := ⟨r, ⟨0, fun _ _ => e⟩, h⟩
theorem Gv.bind {α β : Type} {g : Nat → Option α} {f : Nat → α → Option β} {P : α → Prop} {Q : β → Prop} (h : Gv g P) (k : ∀ r, P r → Gv (fun n => f n r) Q) : Gv (fun n => (g n).bind (f n)) Q := by
 obtain ⟨r, hr, hp⟩ := h
 obtain ⟨q, hq, hq'⟩ := k r hp
 exact ⟨q, hr.bind hq, hq'⟩
theorem Gv.imp {α : Type} {g : Nat → Option α} {P Q : α → Prop} (h : Gv g P) (k : ∀ r, P r → Q r) : Gv g Q := by
 obtain ⟨r, hr, hp⟩ := h
 exact ⟨r, hr, k r hp⟩
theorem Gv.step {α : Type} {g f : Nat → Option α} {P : α → Prop} (h : ∀ k, g (k + 1) = f k) (k : Gv f P) : Gv g P := by
 obtain ⟨r, hr, hp⟩ := k
 exact ⟨r, hr.step h, hp⟩
theorem Gv.ev {α : Type} {g : Nat → Option α} {r : α} (h : Ev g r) {P : α → Prop} (hp : P r) : Gv g P := ⟨r, h, hp⟩
theorem Gv.out {α : Type} {o : Option α} {P : α → Prop} (h : Gv (fun _ => o) P) : ∃ r, o = Option.some r ∧ P r := by
 obtain ⟨r, ⟨K, hK⟩, hp⟩ := h
 exact ⟨r, hK K (Nat.le_refl K), hp⟩
def byt (l : List Int) : Prop := ∀ x ∈ l, 0 ≤ x ∧ x ≤ 255
theorem byt_of {l : List Int} (h : ∀ x ∈ l, (Lit.int .u8 x).wf = true) : byt l := by
 intro x hx
 have := h x hx
 have e0 : IntKind.u8.min = 0 := rfl
 have e1 : IntKind.u8.max = 255 := rfl
 simp [Lit.wf, e0, e1] at this
 omega
theorem emod_self_le {a n : Int} (ha : 0 ≤ a) (hn : 0 < n) : a % n ≤ a := by
 have h := Int.mul_ediv_add_emod a n
 have := Int.mul_nonneg (Int.le_of_lt hn) (Int.ediv_nonneg ha (Int.le_of_lt hn))
 omega
theorem byt_rd {l : List Int} (h : byt l) (i : Int) : 0 ≤ rd l i ∧ rd l i ≤ 255 := by
 unfold rd
 rw [List.getD_eq_getElem?_getD]
 cases hx : l[i.toNat]? with
 | none => simp
 | some x =>
  obtain ⟨hl, rfl⟩ := List.getElem?_eq_some_iff.1 hx
  exact h _ (List.getElem_mem hl)
def at_ (N i : Int) : Prop := 0 ≤ i ∧ i ≤ N
theorem wr_in {x : Int} (h0 : 0 ≤ x) (h1 : x ≤ 9223372036854775807) : wrap64 x = x := by unfold wrap64; omega
theorem low8 (s : Int) : 0 ≤ wrap64 (Go.bits .and .u64 ((IntKind.u64.wrap s) / 1099511627776) 255) ∧ wrap64 (Go.bits .and .u64 ((IntKind.u64.wrap s) / 1099511627776) 255) ≤ 255 := by
 rw [IntKind.wrap_u64]
 have e := bits_and_u64_nat ((s % 18446744073709551616) / 1099511627776).toNat 255 (by omega) (by omega)
 have e2 : ((((s % 18446744073709551616) / 1099511627776).toNat : Nat) : Int) = (s % 18446744073709551616) / 1099511627776 := by omega
 rw [e2] at e
 have hle : ((s % 18446744073709551616) / 1099511627776).toNat &&& 255 ≤ 255 := Nat.and_le_right
 have e3 : Go.bits .and .u64 ((s % 18446744073709551616) / 1099511627776) 255 = ((((s % 18446744073709551616) / 1099511627776).toNat &&& 255 : Nat) : Int) := e
 rw [e3, wr_in (by omega) (by omega)]
 omega
theorem next_gv {l : List Int} (hb : byt l) {N i : Int} (s : Int) (hN : N ≤ 2000000000) (hi : at_ N i) : Gv (fun _ => spec_l1Cur_next.f l i s) (fun r => 0 ≤ r.1 ∧ r.1 ≤ 255 ∧ at_ (N + 1) r.2.1) := by
 obtain ⟨h0, h1⟩ := hi
 have hw : wrap64 (i + 1) = i + 1 := wr_in (by omega) (by omega)
 have ha : at_ (N + 1) (i + 1) := ⟨by omega, by omega⟩
 obtain ⟨b0, b1⟩ := byt_rd hb i
 unfold spec_l1Cur_next.f
 rw [hw, if_pos h0]
 split
 ·split
  ·exact Gv.some ⟨by rw [wr_in (by omega) (by omega)]; exact b0, by rw [wr_in (by omega) (by omega)]; exact b1, ha⟩
  ·exact Gv.some ⟨(low8 _).1, (low8 _).2, ha⟩
 ·split
  ·exact Gv.some ⟨by show (0 : Int) ≤ 0; omega, by show (0 : Int) ≤ 255; omega, ha⟩
  ·exact Gv.some ⟨(low8 _).1, (low8 _).2, ha⟩
theorem pick_gv {l : List Int} (hb : byt l) {N i : Int} (s n : Int) (hN : N ≤ 1000000000) (hi : at_ N i) : Gv (fun _ => spec_l1Cur_pick.f l i s n) (fun r => 0 ≤ r.1 ∧ r.1 ≤ 65535 ∧ (1 ≤ n → r.1 < n) ∧ at_ (N + 2) r.2.1) := by
 unfold spec_l1Cur_pick.f
 split
 ·obtain ⟨h0, h1⟩ := hi
  exact Gv.some ⟨by show (0 : Int) ≤ 0; omega, by show (0 : Int) ≤ 65535; omega, fun h => by show (0 : Int) < n; omega, h0, by show i ≤ N + 2; omega⟩
 ·rename_i hn
  refine Gv.bind (next_gv hb s (by omega) hi) ?_
  rintro ⟨v, i1, s1⟩ ⟨v0, v1, h1⟩
  dsimp only at v0 v1 h1 ⊢
  split
  ·refine Gv.bind (next_gv (N := N + 1) hb s1 (by omega) h1) ?_
   rintro ⟨v', i2, s2⟩ ⟨u0, u1, h2⟩
   dsimp only at u0 u1 h2 ⊢
   rw [if_neg (show ¬ n = 0 by omega), wr_in (x := v * 256) (by omega) (by omega), wr_in (by omega) (by omega), Int.tmod_eq_emod_of_nonneg (by omega)]
   have m1 := Int.emod_nonneg (v * 256 + v') (show n ≠ 0 by omega)
   have m2 := Int.emod_lt_of_pos (v * 256 + v') (show 0 < n by omega)
   have m3 := emod_self_le (a := v * 256 + v') (n := n) (by omega) (by omega)
   obtain ⟨k0, k1⟩ := h2
   exact Gv.some ⟨m1, by dsimp only; omega, fun _ => m2, k0, by dsimp only; omega⟩
  ·rw [if_neg (show ¬ n = 0 by omega), Int.tmod_eq_emod_of_nonneg v0]
   have m1 := Int.emod_nonneg v (show n ≠ 0 by omega)
   have m2 := Int.emod_lt_of_pos v (show 0 < n by omega)
   have m3 := emod_self_le (a := v) (n := n) (by omega) (by omega)
   obtain ⟨k0, k1⟩ := h1
   exact Gv.some ⟨m1, by dsimp only; omega, fun _ => m2, k0, by dsimp only; omega⟩
theorem one_gv {l : List Int} (hb : byt l) {N i : Int} (s n : Int) (hN : N ≤ 1000000000) (hi : at_ N i) : Gv (fun _ => spec_l1Cur_one.f l i s n) (fun r => at_ (N + 2) r.2.1) := by
 unfold spec_l1Cur_one.f
 refine Gv.bind (pick_gv hb s n hN hi) ?_
 rintro ⟨v, i1, s1⟩ ⟨_, _, _, h⟩
 exact Gv.some h
theorem among_gv {l : List Int} (hb : byt l) {N i : Int} (s : Int) (m : List Int) (hN : N ≤ 1000000000) (hi : at_ N i) (hm : 0 < m.length) : Gv (fun _ => spec_l1Cur_among.f l i s m) (fun r => r.1 ∈ m ∧ at_ (N + 2) r.2.1) := by
 unfold spec_l1Cur_among.f
 refine Gv.bind (pick_gv hb s _ hN hi) ?_
 rintro ⟨v, i1, s1⟩ ⟨v0, _, v2, h⟩
 dsimp only at v0 v2 h ⊢
 have v3 := v2 (by omega)
 rw [if_pos v0, if_pos v3]
 refine Gv.some ⟨?_, h⟩
 dsimp only
 unfold rd
 rw [List.getD_eq_getElem?_getD, List.getElem?_eq_getElem (by omega)]
 exact List.getElem_mem (by omega)
end Go.Proofs.Ytcloklakffgbmaa.Pz
end
section
namespace Go.Proofs.Ytcloklakffgbmaa.Pz
open Go.RowKit Go.Proofs.Ytcloklakffgbmaa.G Go.Proofs.YtcloklakffgbmaaW.PrintWords Go.Proofs.YtcloklakffgbmaaW.PrintLast Go.Proofs.YtcloklakffgbmaaW.PrintMore
theorem at_up {N M i : Int} (h : at_ N i) (hle : N ≤ M) : at_ M i := ⟨h.1, by have := h.2; omega⟩
theorem hidden_gv {l : List Int} (hb : byt l) {N i : Int} (s : Int) (hN : N ≤ 900000000) (hi : at_ N i) : Gv (fun _ => spec_l1Cur_hidden.f l i s) (fun r => hid r.1 r.2.1 = true ∧ 1 ≤ r.2.2.1 ∧ r.2.2.1 ≤ houses r.1 r.2.1 ∧ at_ (N + 6) r.2.2.2.1) := by
 unfold spec_l1Cur_hidden.f
 refine Gv.bind (pick_gv hb s 3 (by omega) hi) ?_
 rintro ⟨a, i1, s1⟩ ⟨a0, _, a2, h1⟩
 dsimp only at a0 a2 h1 ⊢
 refine Gv.bind (pick_gv hb s1 20 (N := N + 2) (by omega) h1) ?_
 rintro ⟨b, i2, s2⟩ ⟨b0, _, b2, h2⟩
 dsimp only at b0 b2 h2 ⊢
 have a3 := a2 (by decide)
 have b3 := b2 (by decide)
 rw [wr_in (x := 1 + b) (by omega) (by omega)]
 have hh : hid a (1 + b) = true := by
  unfold hid street inB
  simp
  omega
 have hl := houses_le hh
 refine Gv.bind (Gv.is (P := fun r => r = houses a (1 + b)) (nuHouses_val hh) rfl) ?_
 rintro _ rfl
 refine Gv.bind (pick_gv hb s2 (houses a (1 + b)) (N := N + 2 + 2) (by omega) h2) ?_
 rintro ⟨c, i3, s3⟩ ⟨c0, _, c2, h3⟩
 dsimp only at c0 c2 h3 ⊢
 have c3 := c2 hl.1
 rw [wr_in (x := 1 + c) (by omega) (by omega)]
 exact Gv.some ⟨hh, by dsimp only; omega, by dsimp only; omega, at_up h3 (by omega)⟩
theorem street_gv {l : List Int} (hb : byt l) {N i : Int} (s : Int) (hN : N ≤ 900000000) (hi : at_ N i) : Gv (fun _ => spec_l1Cur_street.f l i s) (fun r => at_ (N + 8) r.2.2.1) := by
 unfold spec_l1Cur_street.f spec_l1Cur_sureStreet.f
 refine Gv.bind (P := fun r => at_ (N + 4) r.2.2.1) (Gv.bind (pick_gv hb s 3 (by omega) hi) ?_) ?_
 ·rintro ⟨a, i1, s1⟩ ⟨_, _, _, h1⟩
  dsimp only at h1 ⊢
  refine Gv.bind (pick_gv hb s1 12 (N := N + 2) (by omega) h1) ?_
  rintro ⟨b, i2, s2⟩ ⟨_, _, _, h2⟩
  exact Gv.some (at_up h2 (by omega))
 ·rintro ⟨a, b, i1, s1⟩ h1
  dsimp only at h1 ⊢
  refine Gv.bind (pick_gv hb s1 14 (N := N + 4) (by omega) h1) ?_
  rintro ⟨c, i2, s2⟩ ⟨_, _, _, h2⟩
  dsimp only at h2 ⊢
  split
  ·refine Gv.bind (among_gv hb s2 _ (N := N + 4 + 2) (by omega) h2 (by decide)) ?_
   rintro ⟨d, i3, s3⟩ ⟨_, h3⟩
   exact Gv.some (at_up h3 (by omega))
  ·split
   ·refine Gv.bind (among_gv hb s2 _ (N := N + 4 + 2) (by omega) h2 (by decide)) ?_
    rintro ⟨d, i3, s3⟩ ⟨_, h3⟩
    exact Gv.some (at_up h3 (by omega))
   ·exact Gv.some (at_up h2 (by omega))
theorem clue_gv {l : List Int} (hb : byt l) {N i : Int} (s : Int) (hN : N ≤ 900000000) (hi : at_ N i) : Gv (fun k => spec_l1Cur_clue.f k l i s) (fun r => at_ (N + 16) r.2.2.2.1) := by
 have tail : ∀ (b : Bool) (i' s' x y z : Int), at_ (N + 10) i' → Gv (fun k => spec_l1Cur_clue.j0 k b l i' s' x y z) (fun r => at_ (N + 16) r.2.2.2.1) := by
  intro b i' s' x y z h
  refine Gv.step (fun k => by rw [spec_l1Cur_clue.j0]) ?_
  split
  ·refine Gv.bind (pick_gv hb s' 10 (N := N + 10) (by omega) h) ?_
   rintro ⟨a, i1, s1⟩ ⟨_, _, _, h1⟩
   dsimp only at h1 ⊢
   refine Gv.bind (pick_gv hb s1 3 (N := N + 10 + 2) (by omega) h1) ?_
   rintro ⟨c, i2, s2⟩ ⟨_, _, _, h2⟩
   dsimp only at h2 ⊢
   refine Gv.bind (pick_gv hb s2 9 (N := N + 10 + 2 + 2) (by omega) h2) ?_
   rintro ⟨d, i3, s3⟩ ⟨_, _, _, h3⟩
   exact Gv.some (at_up h3 (by omega))
  ·exact Gv.some (at_up h (by omega))
 unfold spec_l1Cur_clue.f
 refine Gv.bind (pick_gv hb s 6 (by omega) hi) ?_
 rintro ⟨a, i1, s1⟩ ⟨_, _, _, h1⟩
 dsimp only at h1 ⊢
 refine Gv.bind (pick_gv hb s1 9 (N := N + 2) (by omega) h1) ?_
 rintro ⟨b, i2, s2⟩ ⟨_, _, _, h2⟩
 dsimp only at h2 ⊢
 refine Gv.bind (pick_gv hb s2 9 (N := N + 2 + 2) (by omega) h2) ?_
 rintro ⟨c, i3, s3⟩ ⟨_, _, _, h3⟩
 dsimp only at h3 ⊢
 refine Gv.bind (pick_gv hb s3 9 (N := N + 2 + 2 + 2) (by omega) h3) ?_
 rintro ⟨d, i4, s4⟩ ⟨_, _, _, h4⟩
 dsimp only at h4 ⊢
 split
 ·exact tail _ _ _ _ _ _ (at_up h4 (by omega))
 ·split
  ·exact tail _ _ _ _ _ _ (at_up h4 (by omega))
  ·refine Gv.bind (one_gv hb s4 10 (N := N + 2 + 2 + 2 + 2) (by omega) h4) ?_
   rintro ⟨e, i5, s5⟩ h5
   exact tail _ _ _ _ _ _ (at_up h5 (by omega))
theorem make_gv (a b h c s : Int) : Gv (fun k => spec_MakePuzzle.f k a b h c s) (fun r => r.2.2.1.length ≤ 40) := by
 obtain ⟨v, h1, _, hv⟩ := MakePuzzle_both a b h c s
 exact ⟨v, h1, hv⟩
theorem sure_gv {l : List Int} (hb : byt l) {N i : Int} (s most : Int) (hN : N ≤ 900000000) (hi : at_ N i) : Gv (fun k => spec_l1Cur_surePuzzle.f k l i s most) (fun r => r.2.2.1.length ≤ 40 ∧ at_ (N + 10) r.2.2.2.1) := by
 unfold spec_l1Cur_surePuzzle.f
 refine Gv.bind (hidden_gv hb s hN hi) ?_
 rintro ⟨a, b, h, i1, s1⟩ ⟨_, _, _, h1⟩
 dsimp only at h1 ⊢
 refine Gv.bind (pick_gv hb s1 _ (N := N + 6) (by omega) h1) ?_
 rintro ⟨c, i2, s2⟩ ⟨_, _, _, h2⟩
 dsimp only at h2 ⊢
 refine Gv.bind (pick_gv hb s2 _ (N := N + 6 + 2) (by omega) h2) ?_
 rintro ⟨d, i3, s3⟩ ⟨_, _, _, h3⟩
 dsimp only at h3 ⊢
 refine Gv.bind (make_gv a b h c d) ?_
 rintro ⟨p, q, r, ok⟩ hr
 exact Gv.some ⟨hr, at_up h3 (by omega)⟩
theorem puzzle_l0 {l : List Int} (hb : byt l) (a b : Int) : ∀ (d : Nat) (N i s : Int) (acc : List S37), N + 2 * d ≤ 1000000000 → at_ N i → acc.length ≤ 40 → 8 ≤ acc.length + d → Gv (fun k => spec_l1Cur_puzzle.l0 k l i s a b acc) (fun r => r.2.2.1.length ≤ 40 ∧ at_ (N + 2 * (d + 1)) r.2.2.2.1) := by
 intro d
 induction d with
 | zero =>
  intro N i s acc hN hi ha hd
  refine Gv.step (fun k => by rw [spec_l1Cur_puzzle.l0]) ?_
  refine Gv.bind (pick_gv hb s 2 (by omega) hi) ?_
  rintro ⟨c, i1, s1⟩ ⟨c0, _, c2, h1⟩
  dsimp only at c0 c2 h1 ⊢
  have c3 := c2 (by decide)
  rw [wr_in (x := 6 + c) (by omega) (by omega)]
  split
  ·exfalso
   omega
  ·exact Gv.some ⟨ha, at_up h1 (by omega)⟩
 | succ d ih =>
  intro N i s acc hN hi ha hd
  refine Gv.step (fun k => by rw [spec_l1Cur_puzzle.l0]) ?_
  refine Gv.bind (pick_gv hb s 2 (by omega) hi) ?_
  rintro ⟨c, i1, s1⟩ ⟨c0, _, c2, h1⟩
  dsimp only at c0 c2 h1 ⊢
  have c3 := c2 (by decide)
  rw [wr_in (x := 6 + c) (by omega) (by omega)]
  split
  ·have hlt : acc.length < 5864062014805 := by omega
   simp only [hlt, if_true]
   refine Gv.imp (ih (N + 2) i1 s1 (acc ++ [⟨3, 0, 5⟩]) (by omega) h1 (by simp; omega) (by simp; omega)) ?_
   rintro r ⟨r0, r1⟩
   exact ⟨r0, at_up r1 (by omega)⟩
  ·exact Gv.some ⟨ha, at_up h1 (by omega)⟩
theorem puzzle_gv {l : List Int} (hb : byt l) {N i : Int} (s : Int) (hN : N ≤ 800000000) (hi : at_ N i) : Gv (fun k => spec_l1Cur_puzzle.f k l i s) (fun r => r.2.2.1.length ≤ 41 ∧ at_ (N + 40) r.2.2.2.1) := by
 unfold spec_l1Cur_puzzle.f
 refine Gv.bind (sure_gv hb s 5 (by omega) hi) ?_
 rintro ⟨a, b, p, i1, s1⟩ ⟨hp, h1⟩
 dsimp only at hp h1 ⊢
 refine Gv.bind (pick_gv hb s1 12 (N := N + 10) (by omega) h1) ?_
 rintro ⟨c, i2, s2⟩ ⟨_, _, _, h2⟩
 dsimp only at h2 ⊢
 split
 ·refine Gv.bind (street_gv hb s2 (N := N + 10 + 2) (by omega) h2) ?_
  rintro ⟨x, y, i3, s3⟩ h3
  exact Gv.some ⟨by dsimp only; omega, at_up h3 (by omega)⟩
 ·split
  ·refine Gv.bind (clue_gv hb s2 (N := N + 10 + 2) (by omega) h2) ?_
   rintro ⟨x, y, z, i3, s3⟩ h3
   dsimp only at h3 ⊢
   rw [if_pos (by omega)]
   exact Gv.some ⟨by simp; omega, at_up h3 (by omega)⟩
  ·split
   ·refine Gv.imp (puzzle_l0 hb a b 8 (N + 10 + 2) i2 s2 p (by omega) h2 hp (by omega)) ?_
    rintro r ⟨r0, r1⟩
    exact ⟨by omega, at_up r1 (by omega)⟩
   ·exact Gv.some ⟨by dsimp only; omega, at_up h2 (by omega)⟩
end Go.Proofs.Ytcloklakffgbmaa.Pz
end
section
namespace Go.Proofs.Ytcloklakffgbmaa.Pz
open Go.RowKit Go.Proofs.Ytcloklakffgbmaa.G Go.Proofs.YtcloklakffgbmaaW.PrintWords Go.Proofs.YtcloklakffgbmaaW.PrintLast Go.Proofs.YtcloklakffgbmaaW.PrintMore
theorem aPuzzle_l0 (a b : Int) (l : List S37) (hn : l.length ≤ 1000000) : ∀ (d i k : Nat), i + d = l.length → d < k → laws_aPuzzle.l0 k (l.length : Int) (i : Int) a b l a b l = some true := by
 intro d
 induction d with
 | zero =>
  intro i k hi hk
  obtain ⟨k, rfl⟩ : ∃ m, k = m + 1 := ⟨k - 1, by omega⟩
  rw [laws_aPuzzle.l0, if_neg (by omega)]
 | succ d ih =>
  intro i k hi hk
  obtain ⟨k, rfl⟩ : ∃ m, k = m + 1 := ⟨k - 1, by omega⟩
  rw [laws_aPuzzle.l0, if_pos (by omega), if_pos (by omega), if_pos (by omega), if_pos (by omega), if_neg (by simp), w64 (by omega) (by omega), show ((i : Int) + 1) = ((i + 1 : Nat) : Int) by omega]
  exact ih (i + 1) k (by omega) (by omega)
theorem aPuzzle_ev (a b : Int) (l : List S37) (hn : l.length ≤ 1000000) : Ev (fun k => laws_aPuzzle.f k a b l a b l) true := by
 refine ⟨l.length + 5, fun k hk => ?_⟩
 obtain ⟨k, rfl⟩ : ∃ m, k = m + 1 := ⟨k - 1, by omega⟩
 have := aPuzzle_l0 a b l hn l.length 0 k (by omega) (by omega)
 show laws_aPuzzle.f (k + 1) a b l a b l = some true
 rw [laws_aPuzzle.f, if_neg (by simp), laws_aPuzzle.j0, if_neg (by simp)]
 exact this
theorem aSame_l0 (l : List Int) (hn : l.length ≤ 1000000) : ∀ (d i k : Nat), i + d = l.length → d < k → laws_aSame.l0 k l l (l.length : Int) (i : Int) = some true := by
 intro d
 induction d with
 | zero =>
  intro i k hi hk
  obtain ⟨k, rfl⟩ : ∃ m, k = m + 1 := ⟨k - 1, by omega⟩
  rw [laws_aSame.l0, if_neg (by omega)]
 | succ d ih =>
  intro i k hi hk
  obtain ⟨k, rfl⟩ : ∃ m, k = m + 1 := ⟨k - 1, by omega⟩
  rw [laws_aSame.l0, if_pos (by omega), if_pos (by omega), if_pos (by omega), if_pos (by omega), if_pos rfl, w64 (by omega) (by omega), show ((i : Int) + 1) = ((i + 1 : Nat) : Int) by omega]
  exact ih (i + 1) k (by omega) (by omega)
theorem aSame_ev (l : List Int) (hn : l.length ≤ 1000000) : Ev (fun k => laws_aSame.f k l l) true := by
 refine ⟨l.length + 5, fun k hk => ?_⟩
 have := aSame_l0 l hn l.length 0 k (by omega) (by omega)
 show laws_aSame.f k l l = some true
 rw [laws_aSame.f, if_pos rfl]
 exact this
theorem isHouse_val {a b h : Int} (hh : hid a b = true) (h1 : 1 ≤ h) (h2 : h ≤ houses a b) : impl_isHouse.f a b h = some true := by
 have hs : street a b = true := by
  unfold hid at hh
  simp at hh
  exact hh.1
 have : inB h 1 (houses a b) = true := by simp [inB]; omega
 simp [impl_isHouse.f, isStreet_val, hs, housesOf_val hh, within_val, this]
def pl (a b h : Int) : Int × Int := if a = 1 then ((h - 1) % 2, (h - 1) / 2) else if h > b then (1, 2 * b - h) else (0, h - 1)
theorem plotOf_val {a b h : Int} (hh : hid a b = true) (h1 : 1 ≤ h) (h2 : h ≤ houses a b) : impl_plotOf.f a b h = some (pl a b h) := by
 have hf := hid_facts hh
 have hl := houses_le hh
 unfold impl_plotOf.f pl
 split
 ·rw [w64 (x := h - 1) (by omega) (by omega), tmod_nn (by omega), tdiv_nn (by omega), w64 (by omega) (by omega)]
 ·split
  ·rw [w64 (x := 2 * b) (by omega) (by omega), w64 (by omega) (by omega)]
  ·rw [w64 (by omega) (by omega)]
theorem pl_range {a b h : Int} (hh : hid a b = true) (h1 : 1 ≤ h) (h2 : h ≤ houses a b) : 0 ≤ (pl a b h).1 ∧ (pl a b h).1 ≤ 1 ∧ 0 ≤ (pl a b h).2 ∧ (pl a b h).2 ≤ b - 1 := by
 have hf := hid_facts hh
 unfold houses at h2
 unfold pl
 split
 ·rw [if_neg (by omega)] at h2
  dsimp only
  omega
 ·split
  ·split at h2
   ·omega
   ·dsimp only
    omega
  ·dsimp only
   omega
def ov (a b h : Int) : Int := if a = 1 then 2 * (pl a b h).2 + 1 + (1 - (pl a b h).1) else if (pl a b h).1 = 0 then 2 * b - (pl a b h).2 else (pl a b h).2 + 1
theorem over_val {a b h : Int} (hh : hid a b = true) (h1 : 1 ≤ h) (h2 : h ≤ houses a b) : impl_numberAt.f a b (wrap64 (1 - (pl a b h).1)) (pl a b h).2 = some (ov a b h) ∧ 0 ≤ ov a b h ∧ ov a b h ≤ 40 := by
 have hf := hid_facts hh
 have hr := pl_range hh h1 h2
 generalize hp : pl a b h = p at hr
 obtain ⟨u, v⟩ := p
 dsimp only at hr ⊢
 rw [w64 (x := 1 - u) (by omega) (by omega)]
 unfold impl_numberAt.f ov
 rw [hp]
 dsimp only
 split
 ·rw [w64 (x := 2 * v) (by omega) (by omega), w64 (x := 2 * v + 1) (by omega) (by omega), w64 (by omega) (by omega)]
  exact ⟨rfl, by omega, by omega⟩
 ·by_cases hu : u = 0
  ·rw [if_pos (by omega), if_pos hu, w64 (x := 2 * b) (by omega) (by omega), w64 (by omega) (by omega)]
   exact ⟨rfl, by omega, by omega⟩
  ·rw [if_neg (by omega), if_neg hu, w64 (by omega) (by omega)]
   exact ⟨rfl, by omega, by omega⟩
theorem fit_true {a b h k n v : Int} (hh : hid a b = true) (h1 : 1 ≤ h) (h2 : h ≤ houses a b) (ht : impl_toldBy.f a b k n v h = some v) (hc : clueB k n v = true) : impl_DoesFit.f a b k n v h = some (true, true) := by
 unfold impl_DoesFit.f impl_doesFit.f
 rw [hidden_val, hh, isClue_val, hc, isHouse_val hh h1 h2, ht]
 simp
theorem told_any (a b k n c c' h : Int) : impl_toldBy.f a b k n c h = impl_toldBy.f a b k n c' h := rfl
theorem told0 {a b h : Int} (hh : hid a b = true) (h1 : 1 ≤ h) (h2 : h ≤ houses a b) (n c : Int) : impl_toldBy.f a b 0 n c h = some (pl a b h).1 := by
 unfold impl_toldBy.f
 rw [plotOf_val hh h1 h2]
 rfl
theorem told1 {a b h : Int} (hh : hid a b = true) (h1 : 1 ≤ h) (h2 : h ≤ houses a b) (n c : Int) : impl_toldBy.f a b 1 n c h = some (pl a b h).2 := by
 unfold impl_toldBy.f
 rw [plotOf_val hh h1 h2]
 rfl
theorem told5 {a b h : Int} (hh : hid a b = true) (h1 : 1 ≤ h) (h2 : h ≤ houses a b) (n c : Int) : impl_toldBy.f a b 5 n c h = some (if a = 0 then 0 else ov a b h) := by
 unfold impl_toldBy.f
 rw [plotOf_val hh h1 h2, Option.bind_some, if_neg (by decide), if_neg (by decide), if_neg (by decide), if_neg (by decide), if_neg (by decide)]
 split
 ·rfl
 ·rw [(over_val hh h1 h2).1]
  rfl
theorem fit0 {a b h : Int} (hh : hid a b = true) (h1 : 1 ≤ h) (h2 : h ≤ houses a b) : impl_DoesFit.f a b 0 0 (pl a b h).1 h = some (true, true) := by
 have hr := pl_range hh h1 h2
 exact fit_true hh h1 h2 (told0 hh h1 h2 _ _) (by simp [clueB, inB]; omega)
theorem fit1 {a b h : Int} (hh : hid a b = true) (h1 : 1 ≤ h) (h2 : h ≤ houses a b) : impl_DoesFit.f a b 1 0 (pl a b h).2 h = some (true, true) := by
 have hr := pl_range hh h1 h2
 have hf := hid_facts hh
 exact fit_true hh h1 h2 (told1 hh h1 h2 _ _) (by simp [clueB, inB]; omega)
theorem fit5 {a b h : Int} (hh : hid a b = true) (h1 : 1 ≤ h) (h2 : h ≤ houses a b) : impl_DoesFit.f a b 5 0 (if a = 0 then 0 else ov a b h) h = some (true, true) := by
 have hr := over_val hh h1 h2
 refine fit_true hh h1 h2 (told5 hh h1 h2 _ _) ?_
 split <;> simp [clueB, inB] <;> omega
theorem PlotOf_val {a b h : Int} (hh : hid a b = true) (h1 : 1 ≤ h) (h2 : h ≤ houses a b) : impl_PlotOf.f a b h = some ((pl a b h).1, (pl a b h).2, true) := by
 unfold impl_PlotOf.f
 rw [isHouse_val hh h1 h2, plotOf_val hh h1 h2]
 rfl
theorem OppositeOf_ev {a b h : Int} (hh : hid a b = true) (h1 : 1 ≤ h) (h2 : h ≤ houses a b) : Ev (fun k => impl_OppositeOf.f k a b h) (if a = 0 then 0 else ov a b h, !(a == 0)) := by
 refine ⟨1, fun k hk => ?_⟩
 obtain ⟨k, rfl⟩ : ∃ m, k = m + 1 := ⟨k - 1, by omega⟩
 show impl_OppositeOf.f (k + 1) a b h = _
 rw [impl_OppositeOf.f, isHouse_val hh h1 h2, Option.bind_some, if_pos rfl, impl_OppositeOf.j0]
 by_cases ha : a = 0
 ·simp [ha]
 ·rw [if_neg (by simpa using ha), plotOf_val hh h1 h2, Option.bind_some, (over_val hh h1 h2).1, Option.bind_some, if_neg ha]
  simp [ha]
theorem oneIf_val (c : Bool) : impl_oneIf.f c = some (if c = true then 1 else 0) := by
 unfold impl_oneIf.f
 split <;> rfl
theorem mkC_ok {a b h z : Int} (hh : hid a b = true) (h1 : 1 ≤ h) (h2 : h ≤ houses a b) (z0 : 0 ≤ z) (z1 : z ≤ 10006) : okC (mkC a b h z) = true ∧ impl_DoesFit.f a b (mkC a b h z).f0 (mkC a b h z).f1 (mkC a b h z).f2 h = some (true, true) := by
 obtain ⟨r0, r1⟩ := nx_range z0 z1
 obtain ⟨s0, s1⟩ := nx_range r0 r1
 have hl := houses_le hh
 have ht := told_mk a b (Int.tmod (nx z) 6) (nx (nx z)) h s0
 have hk : 0 ≤ Int.tmod (nx z) 6 ∧ Int.tmod (nx z) 6 ≤ 5 := by
  rw [tmod_nn r0]
  omega
 have key : okC (mkC a b h z) = true := by
  unfold okC mkC
  dsimp only
  generalize Int.tmod (nx z) 6 = k at ht hk
  generalize nx (nx z) = y at ht s0 s1
  generalize mkB a b k (mkA k y) h = v at ht
  have hr := pl_range hh h1 h2
  have hov := over_val hh h1 h2
  have hf := hid_facts hh
  have hk' : k = 0 ∨ k = 1 ∨ k = 2 ∨ k = 3 ∨ k = 4 ∨ k = 5 := by omega
  rcases hk' with rfl | rfl | rfl | rfl | rfl | rfl
  ·rw [told0 hh h1 h2] at ht
   obtain rfl := Option.some.inj ht
   simp [clueB, inB, mkA]
   omega
  ·rw [told1 hh h1 h2] at ht
   obtain rfl := Option.some.inj ht
   simp [clueB, inB, mkA]
   omega
  ·have e : mkA 2 y = y % 8 + 2 := by
    unfold mkA
    rw [if_pos rfl, tmod_nn s0, w64 (by omega) (by omega)]
   rw [e] at ht ⊢
   unfold impl_toldBy.f at ht
   rw [plotOf_val hh h1 h2, Option.bind_some, if_neg (by decide), if_neg (by decide), if_pos rfl, if_neg (by omega), oneIf_val] at ht
   have hv := Option.some.inj ht
   have : v = 0 ∨ v = 1 := by
    rw [← hv]
    split <;> simp
   simp [clueB, inB]
   omega
  ·unfold impl_toldBy.f at ht
   rw [plotOf_val hh h1 h2, Option.bind_some, if_neg (by decide), if_neg (by decide), if_neg (by decide), if_pos rfl, tdiv_nn (by omega), tmod_nn (by omega), w64 (x := h / 10) (by omega) (by omega), w64 (by omega) (by omega)] at ht
   have hv := Option.some.inj ht
   simp [clueB, inB, mkA]
   omega
  ·have e : mkA 4 y = y % 40 + 1 := by
    unfold mkA
    rw [if_neg (by decide), if_pos rfl, tmod_nn s0, w64 (by omega) (by omega)]
   rw [e] at ht ⊢
   unfold impl_toldBy.f at ht
   rw [plotOf_val hh h1 h2, Option.bind_some, if_neg (by decide), if_neg (by decide), if_neg (by decide), if_neg (by decide), if_pos rfl, oneIf_val] at ht
   have hv := Option.some.inj ht
   have : v = 0 ∨ v = 1 := by
    rw [← hv]
    split <;> simp
   simp [clueB, inB]
   omega
  ·rw [told5 hh h1 h2] at ht
   have hv := Option.some.inj ht
   have : 0 ≤ v ∧ v ≤ 40 := by
    rw [← hv]
    split <;> omega
   simp [clueB, inB, mkA]
   omega
 exact ⟨key, fit_true hh h1 h2 (by rw [told_any a b _ _ _ 0]; exact ht) key⟩
theorem mkL_mem (a b h : Int) : ∀ (d : Nat) (z : Int) (acc : List S37), 0 ≤ z → z ≤ 10006 → ∀ x ∈ mkL a b h d z acc, x ∈ acc ∨ ∃ z', 0 ≤ z' ∧ z' ≤ 10006 ∧ x = mkC a b h z' := by
 intro d
 induction d with
 | zero => intro z acc _ _ x hx; exact Or.inl hx
 | succ d ih =>
  intro z acc z0 z1 x hx
  obtain ⟨r0, r1⟩ := nx_range z0 z1
  obtain ⟨s0, s1⟩ := nx_range r0 r1
  simp only [mkL] at hx
  rcases ih (nx (nx z)) _ s0 s1 x hx with hx | hx
  ·rcases List.mem_append.1 hx with hx | hx
   ·exact Or.inl hx
   ·exact Or.inr ⟨z, z0, z1, List.mem_singleton.1 hx⟩
  ·exact Or.inr hx
theorem made {a b h s : Int} (n : Nat) (hn : n ≤ 6) (hh : hid a b = true) (h1 : 1 ≤ h) (h2 : h ≤ houses a b) (s0 : 0 ≤ s) (s1 : s ≤ 9999) : good a b (mkL a b h n s []) = true ∧ (mkL a b h n s []).length = n ∧ ∀ x ∈ mkL a b h n s [], impl_DoesFit.f a b x.f0 x.f1 x.f2 h = some (true, true) := by
 have hlen : (mkL a b h n s []).length = n := by rw [mkL_len]; simp
 have hm : ∀ x ∈ mkL a b h n s [], ∃ z', 0 ≤ z' ∧ z' ≤ 10006 ∧ x = mkC a b h z' := fun x hx => by
  rcases mkL_mem a b h n s [] s0 (by omega) x hx with h | h
  ·cases h
  ·exact h
 refine ⟨?_, hlen, fun x hx => ?_⟩
 ·unfold good
  rw [hh, hlen]
  simp only [Bool.true_and, Bool.and_eq_true, decide_eq_true_eq, List.all_eq_true]
  refine ⟨hn, fun x hx => ?_⟩
  obtain ⟨z', z0, z1, rfl⟩ := hm x hx
  exact (mkC_ok hh h1 h2 z0 z1).1
 ·obtain ⟨z', z0, z1, rfl⟩ := hm x hx
  exact (mkC_ok hh h1 h2 z0 z1).2
theorem allFit_sub (a b h : Int) {l m : List S37} (hm : ∀ x ∈ m, x ∈ l) (hf : allFit a b l h = true) : allFit a b m h = true := by
 unfold allFit at hf ⊢
 rw [List.all_eq_true] at hf ⊢
 exact fun x hx => hf x (hm x hx)
theorem solB_sub (a b : Int) {l m : List S37} (hm : ∀ x ∈ m, x ∈ l) : ∀ (d : Nat) (h : Int), (solB a b l d h).Sublist (solB a b m d h) := by
 intro d
 induction d with
 | zero => intro h; exact List.Sublist.refl _
 | succ d ih =>
  intro h
  simp only [solB]
  by_cases hf : allFit a b l h = true
  ·rw [if_pos hf, if_pos (allFit_sub a b h hm hf)]
   exact (ih (h + 1)).cons_cons h
  ·rw [if_neg hf]
   split
   ·exact (ih (h + 1)).cons h
   ·exact ih (h + 1)
theorem sols_sub (a b : Int) {l m : List S37} (hm : ∀ x ∈ m, x ∈ l) : (sols a b l).Sublist (sols a b m) := solB_sub a b hm _ _
theorem cnt_sub (a b : Int) {l m : List S37} (hm : ∀ x ∈ m, x ∈ l) : cnt a b l ≤ cnt a b m := by
 have := (sols_sub a b hm).length_le
 unfold cnt
 omega
theorem hard_inv (a b : Int) : ∀ (d : Nat) (l : List S37) (i : Nat), i + d = l.length → cnt a b l = 1 → (∀ j, j < i → 2 ≤ cnt a b (l.eraseIdx j)) →
  (∀ x ∈ hg_ a b d l i, x ∈ l) ∧ cnt a b (hg_ a b d l i) = 1 ∧ ∀ j, j < (hg_ a b d l i).length → 2 ≤ cnt a b ((hg_ a b d l i).eraseIdx j) := by
 intro d
 induction d with
 | zero =>
  intro l i hi hc hj
  simp only [hg_]
  exact ⟨fun x hx => hx, hc, fun j h => hj j (by omega)⟩
 | succ d ih =>
  intro l i hi hc hj
  simp only [hg_]
  have hsub : ∀ j, ∀ x ∈ l.eraseIdx j, x ∈ l := fun j x hx => List.mem_of_mem_eraseIdx hx
  split
  ·rename_i h1
   have hlen : (l.eraseIdx i).length = l.length - 1 := List.length_eraseIdx_of_lt (by omega)
   obtain ⟨g1, g2, g3⟩ := ih (l.eraseIdx i) i (by omega) h1 (fun j hji => by
    refine Int.le_trans (hj j hji) (cnt_sub a b fun x hx => ?_)
    have e : (l.eraseIdx i).eraseIdx j = (l.eraseIdx j).eraseIdx (i - 1) := by
     apply List.ext_getElem?
     intro n
     simp only [List.getElem?_eraseIdx]
     repeat' split
     all_goals first | rfl | (exfalso; omega) | (congr 1; omega)
    rw [e] at hx
    exact List.mem_of_mem_eraseIdx hx)
   exact ⟨fun x hx => hsub i x (g1 x hx), g2, g3⟩
  ·rename_i h1
   have hge : cnt a b l ≤ cnt a b (l.eraseIdx i) := cnt_sub a b (hsub i)
   exact ih l (i + 1) (by omega) hc (fun j hji => by
    by_cases h : j = i
    ·subst h
     omega
    ·exact hj j (by omega))
theorem ng_none (a b : Int) (l : List S37) : ∀ (d i : Nat) (acc : List Int), i + d = l.length → (∀ j, j < l.length → ¬ cnt a b (l.eraseIdx j) = cnt a b l) → ng a b l d i acc = acc := by
 intro d
 induction d with
 | zero => intro i acc _ _; rfl
 | succ d ih =>
  intro i acc hi h
  rw [ng, if_neg (h i (by omega))]
  exact ih (i + 1) acc (by omega) h
theorem hard_done {a b : Int} {l : List S37} (hg : good a b l = true) (hc : cnt a b l = 1) : let m := hg_ a b l.length l 0
  good a b m = true ∧ sols a b m = sols a b l ∧ ng a b m m.length 0 [] = [] ∧ m.length ≤ l.length := by
 obtain ⟨g1, g2, g3⟩ := good_facts hg
 obtain ⟨h1, h2, h3⟩ := hard_inv a b l.length l 0 (by omega) hc (fun j h => by omega)
 have hlen := hg_len a b l.length l 0
 refine ⟨?_, ?_, ?_, hlen⟩
 ·unfold good
  rw [g1]
  simp only [Bool.true_and, Bool.and_eq_true, decide_eq_true_eq]
  exact ⟨by omega, all_sub g3 h1⟩
 ·refine ((sols_sub a b h1).eq_of_length ?_).symm
  have e1 : cnt a b (hg_ a b l.length l 0) = ((sols a b (hg_ a b l.length l 0)).length : Int) := rfl
  have e2 : cnt a b l = ((sols a b l).length : Int) := rfl
  omega
 ·exact ng_none a b _ _ 0 [] (by omega) (fun j hj => by have := h3 j hj; omega)
end Go.Proofs.Ytcloklakffgbmaa.Pz
end
section
namespace Go.Proofs.Ytcloklakffgbmaa.Pure
open Go.RowKit Go.Proofs.Ytcloklakffgbmaa.G Go.Proofs.YtcloklakffgbmaaW.PrintWords Go.Proofs.Ytcloklakffgbmaa.Pz
theorem big_val (l0 l1 : List Int) : ∃ b, laws_big.f l0 l1 = some b := by
 unfold laws_big.f
 split
 ·exact ⟨_, rfl⟩
 ·exact ⟨_, rfl⟩
theorem both_fit (a b k n c h : Int) : ∃ v, spec_DoesFit.f a b k n c h = some v ∧ impl_DoesFit.f a b k n c h = some v ∧ (v.2 = true → Pz.hid a b = true ∧ clueB k n c = true) := by
 by_cases hh : Pz.hid a b = true
 ·have hst : street a b = true := by
   unfold Pz.hid at hh
   exact (Bool.and_eq_true_iff.1 hh).1
  by_cases hi : inB h 1 (houses a b) = true
  ·by_cases hc : clueB k n c = true
   ·have hb : 1 ≤ h ∧ h ≤ houses a b := by simpa [inB] using hi
    have hl := (houses_le hh).2
    have e1 := fits_eq a b k n c h hb.1 (by omega)
    have e2 : impl_doesFit.f a b k n c h = some (fitB a b ⟨k, n, c⟩ h) := doesFit_val a b ⟨k, n, c⟩ h hc
    exact ⟨(fitB a b ⟨k, n, c⟩ h, true), by simp [spec_DoesFit.f, spec_pzHidden.f, pzStreet_val, nuHouses_val hh, l1In_val, pzClue_val, hh, hc, hi, e1, e2], by simp [impl_DoesFit.f, hidden_val, isClue_val, impl_isHouse.f, isStreet_val, housesOf_val hh, within_val, hh, hst, hc, hi, e2], fun _ => ⟨hh, hc⟩⟩
   ·exact ⟨(false, false), by simp [spec_DoesFit.f, spec_pzHidden.f, pzStreet_val, nuHouses_val hh, l1In_val, pzClue_val, hh, hc, hi], by simp [impl_DoesFit.f, hidden_val, isClue_val, hh, hc], fun h => by cases h⟩
  ·refine ⟨(false, false), by simp [spec_DoesFit.f, spec_pzHidden.f, pzStreet_val, nuHouses_val hh, l1In_val, hh, hi], ?_, fun h => by cases h⟩
   by_cases hc : clueB k n c = true
   ·simp [impl_DoesFit.f, hidden_val, isClue_val, impl_isHouse.f, isStreet_val, housesOf_val hh, within_val, hh, hst, hc, hi]
   ·simp [impl_DoesFit.f, hidden_val, isClue_val, hh, hc]
 ·exact ⟨(false, false), by simp [spec_DoesFit.f, spec_pzHidden.f, pzStreet_val, hh], by simp [impl_DoesFit.f, hidden_val, hh], fun h => by cases h⟩
theorem isClue_both (a b k n c : Int) : impl_IsClue.f a b k n c = some (Pz.hid a b && clueB k n c) ∧ spec_IsClue.f a b k n c = some (Pz.hid a b && clueB k n c) := by
 unfold impl_IsClue.f spec_IsClue.f
 rw [hidden_val, pzStreet_val, isClue_val, pzClue_val]
 cases Pz.hid a b <;> simp
theorem at0 : at_ 0 0 := ⟨Int.le_refl _, Int.le_refl _⟩
theorem draw_make {l : List Int} (hb : byt l) : ∃ r, spec_DrawMakePuzzle.f l = some r := by
 have : Gv (fun _ => spec_DrawMakePuzzle.f l) (fun _ => True) := by
  unfold spec_DrawMakePuzzle.f
  refine Gv.bind (one_gv hb 0 12 (N := 0) (by decide) at0) ?_
  rintro ⟨o, i1, s1⟩ h1
  dsimp only at h1 ⊢
  split
  ·refine Gv.bind (street_gv hb s1 (N := 0 + 2) (by decide) h1) ?_
   rintro ⟨a, b, i2, s2⟩ h2
   dsimp only at h2 ⊢
   refine Gv.bind (among_gv hb s2 _ (N := 0 + 2 + 8) (by decide) h2 (by decide)) ?_
   rintro ⟨c, i3, s3⟩ ⟨_, h3⟩
   dsimp only at h3 ⊢
   refine Gv.bind (among_gv hb s3 _ (N := 0 + 2 + 8 + 2) (by decide) h3 (by decide)) ?_
   rintro ⟨d, i4, s4⟩ ⟨_, h4⟩
   dsimp only at h4 ⊢
   refine Gv.bind (among_gv hb s4 _ (N := 0 + 2 + 8 + 2 + 2) (by decide) h4 (by decide)) ?_
   rintro ⟨e, i5, s5⟩ _
   exact Gv.some trivial
  ·refine Gv.bind (hidden_gv hb s1 (N := 0 + 2) (by decide) h1) ?_
   rintro ⟨a, b, c, i2, s2⟩ ⟨_, _, _, h2⟩
   dsimp only at h2 ⊢
   refine Gv.bind (pick_gv hb s2 7 (N := 0 + 2 + 6) (by decide) h2) ?_
   rintro ⟨d, i3, s3⟩ ⟨_, _, _, h3⟩
   dsimp only at h3 ⊢
   refine Gv.bind (pick_gv hb s3 10000 (N := 0 + 2 + 6 + 2) (by decide) h3) ?_
   rintro ⟨e, i4, s4⟩ _
   exact Gv.some trivial
 obtain ⟨r, h, _⟩ := this.out
 exact ⟨r, h⟩
theorem draw_hard {l : List Int} (hb : byt l) : Gv (fun k => spec_DrawHarderPuzzle.f k l) (fun r => r.2.2.length ≤ 50) := by
 unfold spec_DrawHarderPuzzle.f
 refine Gv.bind (one_gv hb 0 4 (N := 0) (by decide) at0) ?_
 rintro ⟨o, i1, s1⟩ h1
 dsimp only at h1 ⊢
 split
 ·refine Gv.bind (puzzle_gv hb s1 (N := 0 + 2) (by decide) h1) ?_
  rintro ⟨a, b, p, i2, s2⟩ ⟨hp, _⟩
  exact Gv.some (by dsimp only at hp ⊢; omega)
 ·refine Gv.bind (hidden_gv hb s1 (N := 0 + 2) (by decide) h1) ?_
  rintro ⟨a, b, h, i2, s2⟩ ⟨hh, g1, g2, h2⟩
  dsimp only at hh g1 g2 h2 ⊢
  have hl := houses_le hh
  refine Gv.bind (pick_gv hb s2 4 (N := 0 + 2 + 6) (by decide) h2) ?_
  rintro ⟨d, i3, s3⟩ ⟨_, _, _, h3⟩
  dsimp only at h3 ⊢
  refine Gv.bind (pick_gv hb s3 10000 (N := 0 + 2 + 6 + 2) (by decide) h3) ?_
  rintro ⟨e, i4, s4⟩ _
  dsimp only
  refine Gv.bind (make_gv a b h d e) ?_
  rintro ⟨x, y, p, ok⟩ hp
  dsimp only at hp ⊢
  have z0 : spec_pzOf.f a b 0 0 h = some (0, 0, (pl a b h).1) := by
   unfold spec_pzOf.f
   rw [if_neg (by decide), if_neg (by decide), value_eq a b 0 0 h 0 g1 (by omega), told0 hh g1 g2]
   rfl
  have z1 : spec_pzOf.f a b 1 0 h = some (1, 0, (pl a b h).2) := by
   unfold spec_pzOf.f
   rw [if_neg (by decide), if_neg (by decide), value_eq a b 1 0 h 0 g1 (by omega), told1 hh g1 g2]
   rfl
  refine Gv.bind (Gv.is z0 (P := fun r => r = (0, 0, (pl a b h).1)) rfl) ?_
  rintro _ rfl
  refine Gv.bind (Gv.is z1 (P := fun r => r = (1, 0, (pl a b h).2)) rfl) ?_
  rintro _ rfl
  refine Gv.bind (Gv.some (P := fun r : List S37 => r.length = 2) rfl) ?_
  intro r hr
  have hlt : p.length + r.length < 5864062014805 := by omega
  simp only [hlt, if_true]
  exact Gv.some (by simp; omega)
theorem draw_add {l : List Int} (hb : byt l) : Gv (fun k => spec_DrawAddClue.f k l) (fun r => r.2.2.1.length ≤ 50) := by
 unfold spec_DrawAddClue.f
 refine Gv.bind (puzzle_gv hb 0 (N := 0) (by decide) at0) ?_
 rintro ⟨a, b, p, i1, s1⟩ ⟨hp, h1⟩
 dsimp only at hp h1 ⊢
 refine Gv.bind (clue_gv hb s1 (N := 0 + 40) (by decide) h1) ?_
 rintro ⟨x, y, z, i2, s2⟩ _
 exact Gv.some (by dsimp only; omega)
theorem draw_drop {l : List Int} (hb : byt l) : Gv (fun k => spec_DrawDropClue.f k l) (fun r => r.2.2.1.length ≤ 50) := by
 unfold spec_DrawDropClue.f
 refine Gv.bind (puzzle_gv hb 0 (N := 0) (by decide) at0) ?_
 rintro ⟨a, b, p, i1, s1⟩ ⟨hp, h1⟩
 dsimp only at hp h1 ⊢
 refine Gv.bind (pick_gv hb s1 6 (N := 0 + 40) (by decide) h1) ?_
 rintro ⟨x, i2, s2⟩ ⟨_, _, _, h2⟩
 dsimp only at h2 ⊢
 refine Gv.bind (pick_gv hb s2 9 (N := 0 + 40 + 2) (by decide) h2) ?_
 rintro ⟨y, i3, s3⟩ _
 exact Gv.some (by dsimp only; omega)
theorem draw_fit {l : List Int} (hb : byt l) : Gv (fun k => spec_DrawDoesFit.f k l) (fun _ => True) := by
 have tail : ∀ (h : Int) (o : Bool) (i s a b x y : Int) (p : List S37), at_ 12 i → (o = true → 0 < p.length) → Gv (fun k => spec_DrawDoesFit.j0 k h o l i s a b x y p) (fun _ => True) := by
  intro h o i s a b x y p hi hp
  refine Gv.step (fun k => by rw [spec_DrawDoesFit.j0]) ?_
  split
  ·rename_i ho
   have hlt : 0 < (p.length : Int) := by have := hp ho; omega
   simp only [hlt, if_true]
   exact Gv.some trivial
  ·refine Gv.bind (one_gv hb s 10 (N := 12) (by decide) hi) ?_
   rintro ⟨o2, i1, s1⟩ h1
   dsimp only at h1 ⊢
   split
   ·refine Gv.bind (among_gv hb s1 _ (N := 12 + 2) (by decide) h1 (by decide)) ?_
    rintro ⟨c, i2, s2⟩ ⟨_, h2⟩
    dsimp only at h2 ⊢
    refine Gv.bind (clue_gv hb s2 (N := 12 + 2 + 2) (by decide) h2) ?_
    intro r _
    exact Gv.some trivial
   ·refine Gv.bind (clue_gv hb s1 (N := 12 + 2) (by decide) h1) ?_
    intro r _
    exact Gv.some trivial
 unfold spec_DrawDoesFit.f
 refine Gv.bind (hidden_gv hb 0 (N := 0) (by decide) at0) ?_
 rintro ⟨a, b, h, i1, s1⟩ ⟨_, _, _, h1⟩
 dsimp only at h1 ⊢
 refine Gv.bind (pick_gv hb s1 10000 (N := 0 + 6) (by decide) h1) ?_
 rintro ⟨e, i2, s2⟩ ⟨_, _, _, h2⟩
 dsimp only at h2 ⊢
 obtain ⟨v, hv, _, _, hor⟩ := MakePuzzle_is a b h 1 e
 refine Gv.bind (Gv.ev hv (P := fun r => r = v) rfl) ?_
 intro r hr
 subst r
 have hlen : v.2.2.2 = true → 0 < v.2.2.1.length := by
  rcases hor with rfl | ⟨_, _, _, _, _, _, _, rfl⟩
  ·intro h
   cases h
  ·intro _
   show 0 < (mkL _ _ _ _ _ _).length
   rw [mkL_len]
   decide
 split
 ·rename_i ho
  refine Gv.bind (one_gv hb s2 3 (N := 0 + 6 + 2) (by decide) h2) ?_
  rintro ⟨o2, i3, s3⟩ h3
  exact tail _ _ _ _ _ _ _ _ _ (at_up h3 (by decide)) (fun _ => hlen ho)
 ·exact tail _ _ _ _ _ _ _ _ _ (at_up h2 (by decide)) (fun h => by cases h)
theorem draw_isc {l : List Int} (hb : byt l) : Gv (fun k => spec_DrawIsClue.f k l) (fun _ => True) := by
 unfold spec_DrawIsClue.f
 refine Gv.bind (one_gv hb 0 3 (N := 0) (by decide) at0) ?_
 rintro ⟨o, i1, s1⟩ h1
 dsimp only at h1 ⊢
 split
 ·refine Gv.bind (street_gv hb s1 (N := 0 + 2) (by decide) h1) ?_
  rintro ⟨a, b, i2, s2⟩ h2
  dsimp only at h2 ⊢
  refine Gv.bind (pick_gv hb s2 7 (N := 0 + 2 + 8) (by decide) h2) ?_
  rintro ⟨c, i3, s3⟩ ⟨_, _, _, h3⟩
  dsimp only at h3 ⊢
  refine Gv.bind (pick_gv hb s3 9 (N := 0 + 2 + 8 + 2) (by decide) h3) ?_
  rintro ⟨d, i4, s4⟩ ⟨_, _, _, h4⟩
  dsimp only at h4 ⊢
  refine Gv.bind (among_gv hb s4 _ (N := 0 + 2 + 8 + 2 + 2) (by decide) h4 (by decide)) ?_
  rintro ⟨e, i5, s5⟩ ⟨_, h5⟩
  dsimp only at h5 ⊢
  refine Gv.bind (among_gv hb s5 _ (N := 0 + 2 + 8 + 2 + 2 + 2) (by decide) h5 (by decide)) ?_
  intro r _
  exact Gv.some trivial
 ·refine Gv.bind (hidden_gv hb s1 (N := 0 + 2) (by decide) h1) ?_
  rintro ⟨a, b, h, i2, s2⟩ ⟨_, _, _, h2⟩
  dsimp only at h2 ⊢
  refine Gv.bind (clue_gv hb s2 (N := 0 + 2 + 6) (by decide) h2) ?_
  intro r _
  exact Gv.some trivial
theorem FnHousesHidden : laws_FnHousesHidden.Pure := by
 intro l0 l1 hm0 hw0 hm1 hw1
 obtain ⟨bg, hbig⟩ := big_val l0 l1
 cases bg with
 | true => exact Or.inl hbig
 | false =>
  refine Or.inr ⟨hbig, ?_⟩
  have hb0 := byt_of hw0
  have hb1 := byt_of hw1
  obtain ⟨⟨s1, s2, ho, cl, sd⟩, d0⟩ := draw_make hb0
  obtain ⟨⟨m1, m2, ml, ok⟩, ⟨K1, e1⟩, ⟨K2, e2⟩, lm, vm⟩ := MakePuzzle_is s1 s2 ho cl sd
  obtain ⟨K3, e3⟩ := aPuzzle_ev m1 m2 ml (by dsimp only at lm; omega)
  obtain ⟨⟨q1, q2, ql⟩, ⟨K4, e4⟩, lq⟩ := draw_hard hb1
  obtain ⟨⟨h1, h2, hl, one⟩, ⟨K5, e5⟩, ⟨K6, e6⟩, lh, vh⟩ := HarderPuzzle_is q1 q2 ql
  obtain ⟨K7, e7⟩ := aPuzzle_ev h1 h2 hl (by dsimp only at lh; omega)
  obtain ⟨⟨r1, r2, rl, x1, x2, x3⟩, ⟨K8, e8⟩, lr⟩ := draw_add hb1
  dsimp only at lm lq lh lr
  obtain ⟨⟨b1, b2, al, four⟩, ⟨K9, e9⟩, f9, la, va⟩ := AddClue_is r1 r2 rl (by omega) x1 x2 x3
  obtain ⟨K10, e10⟩ := aPuzzle_ev b1 b2 al (by dsimp only at la; omega)
  obtain ⟨⟨s3, s4, sl, kk⟩, ⟨K11, e11⟩, ls⟩ := draw_drop hb1
  obtain ⟨⟨d1, d2, dl, six⟩, ⟨K12, e12⟩, f12, ld, vd⟩ := DropClue_is s3 s4 sl kk
  obtain ⟨K13, e13⟩ := aPuzzle_ev d1 d2 dl (by dsimp only at ld; omega)
  obtain ⟨⟨t1, t2, c1, c2, c3, ex⟩, ⟨K14, e14⟩, _⟩ := draw_fit hb1
  obtain ⟨⟨fits, eight⟩, f15, g15, h15⟩ := both_fit t1 t2 c1 c2 c3 ex
  obtain ⟨⟨u1, u2, v1, v2, v3⟩, ⟨K16, e16⟩, _⟩ := draw_isc hb1
  obtain ⟨f17, g17⟩ := isClue_both u1 u2 v1 v2 v3
  obtain ⟨K18, e18⟩ : ∃ K, ok = true → ∀ k, K ≤ k → impl_OppositeOf.f k s1 s2 ho = some (if s1 = 0 then 0 else ov s1 s2 ho, !(s1 == 0)) := by
   rcases vm with h | ⟨g1, g2, g3, _⟩
   ·exact ⟨0, fun h' => by cases h; cases h'⟩
   ·obtain ⟨K, hK⟩ := OppositeOf_ev g1 g2 g3
    exact ⟨K, fun _ => hK⟩
  obtain ⟨K19, e19⟩ : ∃ K, one = true → ∀ k, K ≤ k → impl_NeedlessClues.f k h1 h2 hl = some ([], true) ∧ laws_aSame.f k (sols q1 q2 ql) (sols q1 q2 ql) = some true := by
   rcases vh with ⟨h, _⟩ | ⟨g1, g2, h⟩
   ·exact ⟨0, fun h' => by cases h; cases h'⟩
   ·cases h
    obtain ⟨p1, p2, p3, p4⟩ := hard_done g1 g2
    obtain ⟨K, hK⟩ := Needless_val p1
    have hl40 := sols_len (a := q1) (b := q2) ql (good_facts g1).1
    obtain ⟨K', hK'⟩ := aSame_ev (sols q1 q2 ql) (by omega)
    exact ⟨K + K', fun _ k hk => ⟨by rw [p3] at hK; exact hK k (by omega), hK' k (by omega)⟩⟩
  obtain ⟨K20, e20⟩ : ∃ K, ∀ k, K ≤ k → laws_aPuzzle.f k r1 r2 rl r1 r2 rl = some true := aPuzzle_ev r1 r2 rl (by omega)
  obtain ⟨K21, e21⟩ : ∃ K, ∀ k, K ≤ k → laws_aPuzzle.f k s3 s4 sl s3 s4 sl = some true := aPuzzle_ev s3 s4 sl (by dsimp only at ls; omega)
  dsimp only at la ls ld
  let k := K1 + K2 + K3 + K4 + K5 + K6 + K7 + K8 + K9 + K10 + K11 + K12 + K13 + K14 + K16 + K18 + K19 + K20 + K21
  have hslv := IsSolved_val q1 q2 ql
  refine ⟨k, s1, s2, ho, cl, sd, m1, m2, ml, ml, ok, ⟨d0, e2 k (by omega), e1 k (by omega), e3 k (by omega)⟩, fun hok => ?_, q1, q2, ql, h1, h2, hl, hl, one, (if good q1 q2 ql = true then (cnt q1 q2 ql == 1, true) else (false, false)).1, (if good q1 q2 ql = true then (cnt q1 q2 ql == 1, true) else (false, false)).2, ⟨e4 k (by omega), e6 k (by omega), e5 k (by omega), e7 k (by omega), hslv, ?_⟩, fun hone => ?_, r1, r2, rl, x1, x2, x3, b1, b2, al, al, four, s3, s4, sl, kk, d1, d2, dl, dl, six, t1, t2, c1, c2, c3, ex, fits, eight, u1, u2, v1, v2, v3, _, ⟨e8 k (by omega), f9, e9 k (by omega), e10 k (by omega), e11 k (by omega), f12, e12 k (by omega), e13 k (by omega), e14 k (by omega), g15, f15, e16 k (by omega), f17, g17, by omega, fun h8 => ?_⟩, fun h4 => ?_, fun h6 hk6 => ?_⟩
  ·rcases vm with h | ⟨g1, g2, g3, g4, g5, g6, g7, h⟩
   ·cases h
    cases hok
   ·cases h
    obtain ⟨n, rfl⟩ : ∃ n : Nat, cl = (n : Int) := ⟨cl.toNat, by omega⟩
    obtain ⟨w1, w2, w3⟩ := made n (by omega) g1 g2 g3 g6 g7
    simp only [Int.toNat_natCast] at lm ⊢
    refine ⟨(pl s1 s2 ho).1, (pl s1 s2 ho).2, if s1 = 0 then 0 else ov s1 s2 ho, !(s1 == 0), PlotOf_val g1 g2 g3, fit0 g1 g2 g3, fit1 g1 g2 g3, e18 hok k (by omega), ?_, fit5 g1 g2 g3, ?_, by rw [w2], by omega, w3⟩
    ·by_cases h0 : s1 = 0 <;> simp [h0]
    ·rw [isPuzzle_val, w1]
  ·rcases vh with ⟨h, hn⟩ | ⟨g1, g2, h⟩
   ·cases h
    by_cases hg : good q1 q2 ql = true
    ·have : ¬ cnt q1 q2 ql = 1 := fun hc => hn ⟨hg, hc⟩
     simp [hg, this]
    ·simp [hg]
   ·cases h
    simp [g1, g2]
  ·rcases vh with ⟨h, _⟩ | ⟨g1, g2, h⟩
   ·cases h
    cases hone
   ·cases h
    obtain ⟨p1, p2, p3, p4⟩ := hard_done g1 g2
    exact ⟨sols q1 q2 ql, sols q1 q2 ql, [], Solutions_val g1, by rw [← p2]; exact Solutions_val p1, (e19 rfl k (by omega)).1, (e19 rfl k (by omega)).2, rfl, p4⟩
  ·obtain ⟨y1, y2⟩ := h15 h8
   rw [(isClue_both t1 t2 c1 c2 c3).1, y1, y2]
   rfl
  ·rcases va with ⟨h, _⟩ | ⟨g1, g2, g3, h⟩
   ·cases h
    cases h4
   ·cases h
    obtain ⟨v, _, hv, _, hor⟩ := DropClue_is r1 r2 (rl ++ [⟨x1, x2, x3⟩]) (rl.length : Int)
    have hgood : good r1 r2 (rl ++ [⟨x1, x2, x3⟩]) = true := by
     rw [good_add, g1]
     have : okC ⟨x1, x2, x3⟩ = true := g2
     simp [this]
     omega
    have hv2 : v = (r1, r2, rl, true) := by
     rcases hor with ⟨_, hn⟩ | ⟨_, _, _, h⟩
     ·exact absurd ⟨hgood, by omega, by simp; omega⟩ hn
     ·rw [h, Int.toNat_natCast, List.eraseIdx_append_of_length_le (Nat.le_refl _)]
      simp
    rw [hv2] at hv
    exact ⟨r1, r2, rl, hv, e20 k (by omega), by simp [rd_T37, List.getD], by simp, by simp; omega⟩
  ·rcases vd with ⟨h, _⟩ | ⟨g1, g2, g3, h⟩
   ·cases h
    cases h6
   ·cases h
    obtain ⟨n, hn⟩ : ∃ n : Nat, sl.length = n + 1 := ⟨sl.length - 1, by omega⟩
    have hkn : kk = (n : Int) := by omega
    subst hkn
    obtain ⟨c, hc⟩ : ∃ c, sl[n]? = some c := ⟨sl[n], List.getElem?_eq_getElem (by omega)⟩
    have hsplit : sl = sl.eraseIdx n ++ [c] := by
     rw [List.eraseIdx_eq_take_drop_succ, List.drop_eq_nil_of_le (by omega), List.append_nil]
     apply List.ext_getElem?
     intro j
     by_cases hj : j < n
     ·rw [List.getElem?_append_left (by simp; omega), List.getElem?_take_of_lt hj]
     ·rw [List.getElem?_append_right (by simp; omega)]
      by_cases hj2 : j = n
      ·subst hj2
       simp [hc]
       rw [show min j sl.length = j by omega]
       simp
      ·rw [List.getElem?_eq_none (by omega), List.getElem?_eq_none (by simp; omega)]
    obtain ⟨gf1, gf2, gf3⟩ := good_facts g1
    have hgd : good s3 s4 (sl.eraseIdx n) = true := by
     unfold good
     rw [gf1]
     have : (sl.eraseIdx n).length ≤ sl.length := List.length_eraseIdx_le ..
     simp only [Bool.true_and, Bool.and_eq_true, decide_eq_true_eq]
     exact ⟨by omega, erase_ok gf3 n⟩
    have hlen : (sl.eraseIdx n).length = n := by rw [List.length_eraseIdx_of_lt (by omega)]; omega
    have hokc : okC c = true := List.all_eq_true.1 gf3 c (List.mem_of_getElem? hc)
    obtain ⟨v, _, hv, _, hor⟩ := AddClue_is s3 s4 (sl.eraseIdx n) (by omega) c.f0 c.f1 c.f2
    have hv2 : v = (s3, s4, sl, true) := by
     rcases hor with ⟨_, hnn⟩ | ⟨_, _, _, h⟩
     ·exact absurd ⟨hgd, hokc, by omega⟩ hnn
     ·rw [h]
      congr 2
      rw [← hsplit]
    rw [hv2] at hv
    refine ⟨c.f0, c.f1, c.f2, s3, s4, sl, by omega, ?_, by simpa using hv, e21 k (by omega)⟩
    simp [rd_T37, List.getD, hc]
end Go.Proofs.Ytcloklakffgbmaa.Pure
end
section
namespace Go.Proofs.Ytcloklakffgbmaa.Facts
open Go
set_option maxRecDepth 100000
def signs : List Char := [Char.ofNat 104, Char.ofNat 97, Char.ofNat 114, Char.ofNat 110, Char.ofNat 101, Char.ofNat 115, Char.ofNat 115, Char.ofNat 32, Char.ofNat 48, Char.ofNat 100, Char.ofNat 97, Char.ofNat 50, Char.ofNat 50, Char.ofNat 102, Char.ofNat 48, Char.ofNat 49, Char.ofNat 98, Char.ofNat 49, Char.ofNat 99, Char.ofNat 54, Char.ofNat 52, Char.ofNat 102, Char.ofNat 48, Char.ofNat 55, Char.ofNat 101, Char.ofNat 52, Char.ofNat 100, Char.ofNat 54, Char.ofNat 51, Char.ofNat 55, Char.ofNat 48, Char.ofNat 55, Char.ofNat 98, Char.ofNat 53, Char.ofNat 102, Char.ofNat 50, Char.ofNat 57, Char.ofNat 52, Char.ofNat 101, Char.ofNat 98, Char.ofNat 102, Char.ofNat 56, Char.ofNat 53, Char.ofNat 97, Char.ofNat 53, Char.ofNat 50, Char.ofNat 49, Char.ofNat 50, Char.ofNat 50, Char.ofNat 54, Char.ofNat 98, Char.ofNat 100, Char.ofNat 101, Char.ofNat 54, Char.ofNat 101, Char.ofNat 56, Char.ofNat 102, Char.ofNat 97, Char.ofNat 50, Char.ofNat 53, Char.ofNat 51, Char.ofNat 101, Char.ofNat 52, Char.ofNat 48, Char.ofNat 51, Char.ofNat 102, Char.ofNat 53, Char.ofNat 51, Char.ofNat 51, Char.ofNat 53, Char.ofNat 101, Char.ofNat 56, Char.ofNat 32, Char.ofNat 99, Char.ofNat 117, Char.ofNat 116, Char.ofNat 32, Char.ofNat 97, Char.ofNat 116, Char.ofNat 32, Char.ofNat 108, Char.ofNat 111, Char.ofNat 111, Char.ofNat 112, Char.ofNat 46, Char.ofNat 101, Char.ofNat 120, Char.ofNat 97, Char.ofNat 109, Char.ofNat 112, Char.ofNat 108, Char.ofNat 101, Char.ofNat 47, Char.ofNat 103, Char.ofNat 48, Char.ofNat 49, Char.ofNat 51, Char.ofNat 51, Char.ofNat 54, Char.ofNat 47, Char.ofNat 108, Char.ofNat 97, Char.ofNat 119, Char.ofNat 115, Char.ofNat 46, Char.ofNat 70, Char.ofNat 110, Char.ofNat 69, Char.ofNat 120, Char.ofNat 97, Char.ofNat 99, Char.ofNat 116, Char.ofNat 65, Char.ofNat 100, Char.ofNat 100, Char.ofNat 67, Char.ofNat 108, Char.ofNat 117, Char.ofNat 101, Char.ofNat 32, Char.ofNat 108, Char.ofNat 111, Char.ofNat 111, Char.ofNat 112, Char.ofNat 46, Char.ofNat 101, Char.ofNat 120, Char.ofNat 97, Char.ofNat 109, Char.ofNat 112, Char.ofNat 108, Char.ofNat 101, Char.ofNat 47, Char.ofNat 103, Char.ofNat 48, Char.ofNat 49, Char.ofNat 51, Char.ofNat 51, Char.ofNat 54, Char.ofNat 47, Char.ofNat 108, Char.ofNat 97, Char.ofNat 119, Char.ofNat 115, Char.ofNat 46, Char.ofNat 70, Char.ofNat 110, Char.ofNat 69, Char.ofNat 120, Char.ofNat 97, Char.ofNat 99, Char.ofNat 116, Char.ofNat 77, Char.ofNat 97, Char.ofNat 107, Char.ofNat 101, Char.ofNat 80, Char.ofNat 117, Char.ofNat 122, Char.ofNat 122, Char.ofNat 108, Char.ofNat 101, Char.ofNat 32, Char.ofNat 108, Char.ofNat 111, Char.ofNat 111, Char.ofNat 112, Char.ofNat 46, Char.ofNat 101, Char.ofNat 120, Char.ofNat 97, Char.ofNat 109, Char.ofNat 112, Char.ofNat 108, Char.ofNat 101, Char.ofNat 47, Char.ofNat 103, Char.ofNat 48, Char.ofNat 49, Char.ofNat 51, Char.ofNat 51, Char.ofNat 54, Char.ofNat 47, Char.ofNat 108, Char.ofNat 97, Char.ofNat 119, Char.ofNat 115, Char.ofNat 46, Char.ofNat 70, Char.ofNat 110, Char.ofNat 72, Char.ofNat 111, Char.ofNat 117, Char.ofNat 115, Char.ofNat 101, Char.ofNat 115, Char.ofNat 72, Char.ofNat 105, Char.ofNat 100, Char.ofNat 100, Char.ofNat 101, Char.ofNat 110]
theorem order : Try.prog.initOrder = String.ofList signs := by kernel_rfl
theorem orderL : Try.prog.initOrder.toList = signs := by rw [order, String.toList_ofList]
def rest : List (List Char) := [[Char.ofNat 97, Char.ofNat 116], [Char.ofNat 108, Char.ofNat 111, Char.ofNat 111, Char.ofNat 112, Char.ofNat 46, Char.ofNat 101, Char.ofNat 120, Char.ofNat 97, Char.ofNat 109, Char.ofNat 112, Char.ofNat 108, Char.ofNat 101, Char.ofNat 47, Char.ofNat 103, Char.ofNat 48, Char.ofNat 49, Char.ofNat 51, Char.ofNat 51, Char.ofNat 54, Char.ofNat 47, Char.ofNat 108, Char.ofNat 97, Char.ofNat 119, Char.ofNat 115, Char.ofNat 46, Char.ofNat 70, Char.ofNat 110, Char.ofNat 69, Char.ofNat 120, Char.ofNat 97, Char.ofNat 99, Char.ofNat 116, Char.ofNat 65, Char.ofNat 100, Char.ofNat 100, Char.ofNat 67, Char.ofNat 108, Char.ofNat 117, Char.ofNat 101], [Char.ofNat 108, Char.ofNat 111, Char.ofNat 111, Char.ofNat 112, Char.ofNat 46, Char.ofNat 101, Char.ofNat 120, Char.ofNat 97, Char.ofNat 109, Char.ofNat 112, Char.ofNat 108, Char.ofNat 101, Char.ofNat 47, Char.ofNat 103, Char.ofNat 48, Char.ofNat 49, Char.ofNat 51, Char.ofNat 51, Char.ofNat 54, Char.ofNat 47, Char.ofNat 108, Char.ofNat 97, Char.ofNat 119, Char.ofNat 115, Char.ofNat 46, Char.ofNat 70, Char.ofNat 110, Char.ofNat 69, Char.ofNat 120, Char.ofNat 97, Char.ofNat 99, Char.ofNat 116, Char.ofNat 77, Char.ofNat 97, Char.ofNat 107, Char.ofNat 101, Char.ofNat 80, Char.ofNat 117, Char.ofNat 122, Char.ofNat 122, Char.ofNat 108, Char.ofNat 101], [Char.ofNat 108, Char.ofNat 111, Char.ofNat 111, Char.ofNat 112, Char.ofNat 46, Char.ofNat 101, Char.ofNat 120, Char.ofNat 97, Char.ofNat 109, Char.ofNat 112, Char.ofNat 108, Char.ofNat 101, Char.ofNat 47, Char.ofNat 103, Char.ofNat 48, Char.ofNat 49, Char.ofNat 51, Char.ofNat 51, Char.ofNat 54, Char.ofNat 47, Char.ofNat 108, Char.ofNat 97, Char.ofNat 119, Char.ofNat 115, Char.ofNat 46, Char.ofNat 70, Char.ofNat 110, Char.ofNat 72, Char.ofNat 111, Char.ofNat 117, Char.ofNat 115, Char.ofNat 101, Char.ofNat 115, Char.ofNat 72, Char.ofNat 105, Char.ofNat 100, Char.ofNat 100, Char.ofNat 101, Char.ofNat 110]]
theorem wordsOf : behindMainWord (wordsSigns signs) = "cut".toList :: rest := by kernel_rfl
theorem mayEnter_of {P : Program} {c : List Char} {r : List (List Char)} (h : behindMainWord (wordsSigns P.initOrder.toList) = c :: r) (hc : c = "cut".toList) (h1 : stripLifts liftWords (c :: r) = ([], c :: r)) (h3 : P.laysLater = false) (h4 : P.bearsReflect = false) (h5 : P.doorFits [] = true) : P.mayEnter = true := by
 unfold Program.mayEnter
 rw [h]
 subst hc
 simp only [h1]
 simp [h3, h4, h5]
theorem make_of {P : Program} {c : List Char} {r : List (List Char)} (h : behindMainWord (wordsSigns P.initOrder.toList) = c :: r) (hc : c = "cut".toList) : P.make = some .cut := by
 unfold Program.make
 rw [h]
 subst hc
 simp
theorem strip : stripLifts liftWords ("cut".toList :: rest) = ([], "cut".toList :: rest) := by kernel_rfl
theorem laysLater : Try.prog.laysLater = false := by kernel_rfl
theorem bearsReflect : Try.prog.bearsReflect = false := by kernel_rfl
theorem doorRows : Try.prog.doorRows = [] := by kernel_rfl
theorem doorFits : Try.prog.doorFits [] = true := by
 unfold Program.doorFits
 rw [doorRows]
 kernel_rfl
theorem mayEnter : Try.prog.mayEnter = true := mayEnter_of (by rw [orderL]; exact wordsOf) rfl strip laysLater bearsReflect doorFits
theorem lifts : Try.prog.liftsFinal = false := by
 unfold Program.liftsFinal Program.headLifts
 rw [orderL, wordsOf]
 kernel_rfl
theorem make : Try.prog.make = some .cut := make_of (by rw [orderL]; exact wordsOf) rfl
theorem laidOut : laidOutB Try.prog = true := by kernel_rfl
theorem mapsRowed : Go.mapsRowed Try.prog = true := by kernel_rfl
theorem stops : Try.prog.stops = [] := by kernel_rfl
theorem stopKnobs : Try.prog.stopKnobs = [] := by kernel_rfl
theorem stopsHeard : Try.prog.stopsHeard = true := by kernel_rfl
theorem plainKeys : Try.prog.plainKeys = true := by kernel_rfl
end Go.Proofs.Ytcloklakffgbmaa.Facts
end
section
namespace Go.Proofs.Ytcloklakffgbmaa.Open
open Go.RowKit Go.Proofs.YtcloklakffgbmaaW.PrintWords Go.Proofs.YtcloklakffgbmaaW.PrintLast Go.Proofs.YtcloklakffgbmaaW.PrintMore Go.Deep Go.Joins Go.ChangeShapes
variable {P : Program} {t e : TypeId} {α β γ : Type}
def Opens (P : Program) (d : Kd α) (t : TypeId) (wf : α → Prop) : Prop :=
 ∀ {H : Type} (enc : TypeId × Value → H) (w : World) (base : Nat) (spare : Nat → Bool) (held : Bool) (fuel : Nat) (cs : List Value) (x : DataW H × List MemPlace),
  DataW.trod enc P w base spare held fuel t cs = some x → ∃ a : α, d.K w a cs ∧ wf a
theorem slice_eq {a b : Option Addr} {n m c c' : Nat} (h : [Value.slice a n c] = [Value.slice b m c']) : b = a ∧ m = n ∧ c' = c := by
 simp only [List.cons.injEq, Value.slice.injEq, and_true] at h
 exact ⟨h.1.symm, h.2.1.symm, h.2.2.symm⟩
theorem opens_int {k : IntKind} (ht : P.underlying t = some (.int k)) : Opens P (Kd.int k) t (fun n => (Lit.int k n).wf = true) := by
 intro H enc w base spare held fuel cs x h
 obtain ⟨n, rfl, _, hw⟩ := DataW.trod_int ht h
 exact ⟨n, rfl, hw⟩
theorem opens_slice {d : Kd α} {wf : α → Prop} (ht : P.underlying t = some (.slice e)) (hc : P.cellsOf e = d.sz) (h : Opens P d e wf) : Opens P (Kd.slice e d) t (fun xs => xs.length ≤ maxLen ∧ ∀ x ∈ xs, wf x) := by
 intro H enc w base spare held fuel cs x hx
 rcases open_slice ht hx with ⟨rfl, _⟩ | ⟨a, len, cap, m, n, D, Pl, rfl, hb, hl, hm, hmm, rfl, hel⟩
 ·exact ⟨[], ⟨none, 0, rfl, Nat.le_refl _, rfl, by simp, fun h0 => absurd h0 (by simp)⟩, by simp, fun x hx => by cases hx⟩
 ·have hlm : len ≤ m := by rw [hmm]; split <;> omega
  have key : ∀ k, k ≤ len → ∃ xs : List α, xs.length = k ∧ (∀ j p, xs[j]? = some p → ∃ c, c.length = d.sz ∧ d.K w p c ∧ ∀ i u, c[i]? = some u → w.cell? (a.add (j * d.sz + i)) = some u) ∧ ∀ x ∈ xs, wf x := by
   intro k
   induction k with
   | zero => intro _; exact ⟨[], rfl, fun j p hj => by simp at hj, fun x hx => by cases hx⟩
   | succ k ih =>
    intro hk
    obtain ⟨xs, hlen, hxs, hwf⟩ := ih (by omega)
    obtain ⟨cs', hcs, htr⟩ := hel k (by omega)
    obtain ⟨y, hK, hwy⟩ := h enc w base spare held n cs' _ htr
    refine ⟨xs ++ [y], by simp [hlen], fun j p hj => ?_, fun x hx => ?_⟩
    ·rcases Nat.lt_or_ge j xs.length with hjl | hjl
     ·rw [List.getElem?_append_left hjl] at hj
      exact hxs j p hj
     ·have hj' : j = xs.length := by
       have := (List.getElem?_eq_some_iff.1 hj).1
       rw [List.length_append, List.length_singleton] at this
       omega
      subst hj'
      obtain rfl : y = p := by simpa using hj
      refine ⟨cs', d.K_len hK, hK, fun i u hu => ?_⟩
      obtain ⟨_, _, hcell⟩ := World.cells?_some hcs
      have := hcell i (by rw [hc, ← d.K_len hK]; exact (List.getElem?_eq_some_iff.1 hu).1)
      rw [hc, Addr.add_add, hu] at this
      rw [hlen]
      exact this
    ·rcases List.mem_append.1 hx with hx | hx
     ·exact hwf x hx
     ·rw [List.mem_singleton.1 hx]
      exact hwy
  obtain ⟨xs, hlen, hxs, hwf⟩ := key len (Nat.le_refl _)
  have hml : maxLen = 9223372036854775807 := rfl
  exact ⟨xs, ⟨some a, cap, by rw [hlen], by omega, rfl, by omega, fun _ => ⟨a, rfl, hxs⟩⟩, by omega, hwf⟩
end Go.Proofs.Ytcloklakffgbmaa.Open
end
