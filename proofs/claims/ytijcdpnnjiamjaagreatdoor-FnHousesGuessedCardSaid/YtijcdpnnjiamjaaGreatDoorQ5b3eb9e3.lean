/- Texts of this seat's proofs: contracts of its functions and plain laws about them, with no condition beyond those that each theorem states. -/
import Derived.Test.YtijcdpnnjiamjaaGreatDoorQ2b5e6068
import Derived.Test.YtijcdpnnjiamjaaGreatDoorQ15781164
import Derived.Test.YtijcdpnnjiamjaaGreatDoorQde898898
import Derived.Test.YtijcdpnnjiamjaaGreatDoorQd3e38972
import Derived.Test.YtijcdpnnjiamjaaGreatDoorQ8a48917d
import Derived.Laws.Bits64b
import Derived.Lib.ItoaNum
import Derived.Lib.Join
import Derived.Lib.AtoiAllCases
import Derived.Lib.SplitLaws
import Derived.JoinedOf
import Derived.KernelRfl
import Derived.Test.YtijcdpnnjiamjaaGreatDoorRows
import Derived.Deep.Slices
import Derived.Deep.Strs
import Derived.Lib.SmallJoins
import Derived.OpenShut
import Derived.ProofKit
set_option maxHeartbeats 8000000
set_option maxRecDepth 100000
section
namespace Go.Proofs.YtijcdpnnjiamjaaGreatDoor.G
open Go.RowKit Go.Proofs.YtijcdpnnjiamjaaGreatDoorW.PrintWords Go.Proofs.YtijcdpnnjiamjaaGreatDoorW.PrintLast Go.Proofs.YtijcdpnnjiamjaaGreatDoorW.PrintMore
attribute [local go_sem] max2_int min2_int max_two min_two max_three min_three max_four min_four
set_option linter.unusedVariables false
set_option linter.unusedSimpArgs false
theorem guessed_3baabb : guessed_3baab.1.2 := by
 intro A0 c0 l0 A1 c1 l1 w k a b pl xs cnt first low high solved nd lf best text hs s r1 r2 rl sev hu28 hu46 hu25 HC0 HC1 HBIG HC U00 w1 w2 Apl cpl LEpl g5 w3 w4 w5 Axs cxs LExs w6 Ays cys LEys w7 w8 w9 w10 w11 w12 w13 w14 w15 And cnd LEnd w16 Ane cne LEne w17 Alf clf LElf w18 Ale cle LEle w19 w20 w21 w22 u0_p2h1 u1_p2h1 u2_p2h1 u3_p2h1 u4_p2h1 u5_p2h1 u6_p2h1 n1 n2 n4 n5 n6 n7 n9 n0 HK_ HG_ HS u0_h3bh0 HT_ u0_h3bah0 u1_h3bah0 u2_h3bah0 u3_h3bah0 u4_h3bah0 u5_h3bah0 u0_h3baah1 u1_h3baah1 u2_h3baah1 u3_h3baah1 u4_h3baah1 u5_h3baah1 u6_h3baah1 u7_h3baah1 u8_h3baah1 w' hb hHeld n3 ht3 HRB u1 u2 u3 n8 ht13 HA u7_p2h1 u4 u5 u6 u7 u8
 refine vHt 144 (mk 159 145) hHeld ?_
 refine vHt 145 (mk 159 146) hHeld ?_
 refine vHt 146 (mk 159 147) hHeld ?_
 refine vHt 147 (mk 159 148) hHeld ?_
 refine vHt 148 (mk 159 149) hHeld ?_
 refine vHt 149 (mk 159 150) hHeld ?_
 refine vHt 150 (mk 159 151) hHeld ?_
 refine vHt 151 (mk 159 152) hHeld ?_
 refine vHt 152 (mk 159 153) hHeld ?_
 refine vHt 153 (mk 159 154) hHeld ?_
 refine vHt 154 (mk 159 155) hHeld ?_
 refine vHt 155 (mk 159 156) hHeld ?_
 refine vHt 156 (mk 159 157) hHeld ?_
 refine vHt 157 (mk 159 158) hHeld ?_
 refine vHt 158 (mk 159 159) hHeld ?_
 refine vHd ?_
 refine NoPanic.normal ?_
 go_wp2
 go_meet
 exact ⟨rfl, ⟨⟨(HG_.out _ (by with_reducible assumption)).out.2.1, (HG_.out _ (by with_reducible assumption)).out.2.2.2.1, (HG_.out _ (by with_reducible assumption)).out.2.2.2.2.2.1, (HG_.out _ (by with_reducible assumption)).out.2.2.2.2.2.2.1, (HG_.out _ (by with_reducible assumption)).out.2.2.2.2.2.2.2.1, (HG_.out _ (by with_reducible assumption)).out.2.2.2.2.2.2.2.2.1, (HG_.out _ (by with_reducible assumption)).out.2.2.2.2.2.2.2.2.2.2.1, (HG_.out _ (by with_reducible assumption)).out.2.2.2.2.2.2.2.2.2.2.2⟩⟩⟩
def guessed_4 : {Q : Prop × Prop // Aside0 (Q.1) → Aside0 (Q.2) → guessed_3.1.2.2} := ⟨(_, _), fun q0_ q1_ => by
 intro A0 c0 l0 A1 c1 l1 w k a b pl xs ok cnt first low high three solved nd lf best thirteen text hs s r1 r2 rl sev hu28 hu46 hu25 HC0 HC1 HBIG HA HRB HC U00 w1 w2 Apl cpl LEpl g5 w3 w4 w5 Axs cxs LExs w6 Ays cys LEys w7 w8 w9 w10 w11 w12 w13 w14 w15 And cnd LEnd w16 Ane cne LEne w17 Alf clf LElf w18 Ale cle LEle w19 w20 w21 w22 Udy Udz UdA UdB wc u163 u164 u165 u166 u167 u168 u169 u170 u171 u172 u173 u174 u175 u176 u177 u178 u179 u180 u181 u182 u183 u184 u185 u186 u187 u188 u189 u190 u191 u192 u193 u194 u195 u196 u197 u198 u199 u200 u201 u202 u203 u204 u205 u206 u207 u208 u209 u210 u211 u212 u213 u214 u215 u216 u217 u218 u219 u220 u221 u222 u223 u224 u225 u226 u227 u228 u229 u230 u231 u232 u233 u234 u235 u236 u237 u238 u239 u240 u241 u242 u243 u244 u245 u246 u247 u248 u249 u250 u251 u252 u253 u254 u255 u256 u257 u258 u259 u260 u261 u262 u263 u264 u265 u266 u267 u268 u269 u270 u271 u272 u273 u274 u275 u276 u277 u278 u279 u280 u281 u282 u283 u284 u285 u286 u287 u288 u289 u290 u291 u292 u293 u294 u295 u296 u297 u298 u299 u300 u301 u302 u303 u304 u305 u306 u307 u308 u309 u310 u311 u312 u313 u314 u315 u316 u317 u318 u319 u320 HL
 go_upto_if 322 with fail
 go_cut [44, 45, 46, 47, 48, 49, 50, 51, 52, 53, 54, 55, 56, 57, 58] from 323 to 502 (fun s44 s45 s46 s47 s48 s49 s50 s51 s52 s53 s54 s55 s56 s57 s58 wx => Aside0 (Held (fun W => Kd.C (Kd.int .u8) W A1 l1.length l1 ∧ Tb W ∧ Below w.heap.size w W) wx))
 case first =>
  cases ok
  ·go_wp2_with fail
   go_meet
   exact ⟨⟨HL.out.out.2.2.2.2.2.1, HL.out.out.2.2.2.2.2.2.1, HL.out.out.2.2.2.2.2.2.2⟩⟩
  ·
   rename_i u0_p3h0 u1_p3h0 u2_p3h0 u3_p3h0 u4_p3h0 u5_p3h0
   revert A0 c0 l0 A1 c1 l1 w k a b pl xs cnt first low high three solved nd lf best thirteen text hs s r1 r2 rl sev hu28 hu46 hu25 HC0 HC1 HBIG HC U00 w1 w2 Apl cpl LEpl g5 w3 w4 w5 Axs cxs LExs w6 Ays cys LEys w7 w8 w9 w10 w11 w12 w13 w14 w15 And cnd LEnd w16 Ane cne LEne w17 Alf clf LElf w18 Ale cle LEle w19 w20 w21 w22 wc u163 u164 u165 u166 u167 u168 u169 u170 u171 u172 u173 u174 u175 u176 u177 u178 u179 u180 u181 u182 u183 u184 u185 u186 u187 u188 u189 u190 u191 u192 u193 u194 u195 u196 u197 u198 u199 u200 u201 u202 u203 u204 u205 u206 u207 u208 u209 u210 u211 u212 u213 u214 u215 u216 u217 u218 u219 u220 u221 u222 u223 u224 u225 u226 u227 u228 u229 u230 u231 u232 u233 u234 u235 u236 u237 u238 u239 u240 u241 u242 u243 u244 u245 u246 u247 u248 u249 u250 u251 u252 u253 u254 u255 u256 u257 u258 u259 u260 u261 u262 u263 u264 u265 u266 u267 u268 u269 u270 u271 u272 u273 u274 u275 u276 u277 u278 u279 u280 u281 u282 u283 u284 u285 u286 u287 u288 u289 u290 u291 u292 u293 u294 u295 u296 u297 u298 u299 u300 u301 u302 u303 u304 u305 u306 u307 u308 u309 u310 u311 u312 u313 u314 u315 u316 u317 u318 u319 u320 HL u0_p3h0 u1_p3h0 u2_p3h0 u3_p3h0 u4_p3h0 HA HRB u5_p3h0
   exact q0_.out
 clear HL
 have HL := hcut
 clear hcut
 rename_i Ukk Ukl Ukm
 revert A0 c0 l0 A1 c1 l1 w k a b pl xs ok cnt first low high three solved nd lf best thirteen text hs s r1 r2 rl sev hu28 hu46 hu25 HC0 HC1 HBIG HA HRB HC U00 w1 w2 Apl cpl LEpl g5 w3 w4 w5 Axs cxs LExs w6 Ays cys LEys w7 w8 w9 w10 w11 w12 w13 w14 w15 And cnd LEnd w16 Ane cne LEne w17 Alf clf LElf w18 Ale cle LEle w19 w20 w21 w22 Ukk u163 u164 u165 u166 u167 u168 u169 u170 u171 u172 u173 u174 u175 u176 u177 u178 u179 u180 u181 u182 u183 u184 u185 u186 u187 u188 u189 u190 u191 u192 u193 u194 u195 u196 u197 u198 u199 u200 u201 u202 u203 u204 u205 u206 u207 u208 u209 u210 u211 u212 u213 u214 u215 u216 u217 u218 u219 u220 u221 u222 u223 u224 u225 u226 u227 u228 u229 u230 u231 u232 u233 u234 u235 u236 u237 u238 u239 u240 u241 u242 u243 u244 u245 u246 u247 u248 u249 u250 u251 u252 u253 u254 u255 u256 u257 u258 u259 u260 u261 u262 u263 u264 u265 u266 u267 u268 u269 u270 u271 u272 u273 u274 u275 u276 u277 u278 u279 u280 u281 u282 u283 u284 u285 u286 u287 u288 u289 u290 u291 u292 u293 u294 u295 u296 u297 u298 u299 u300 u301 u302 u303 u304 u305 u306 u307 u308 u309 u310 u311 u312 u313 u314 u315 u316 u317 u318 u319 u320 Ukl Ukm wc u4 u44 u45 u46 u47 u48 u49 u50 u51 u52 u53 u54 u55 u56 u57 u58 u323 u324 u325 u326 u327 u328 u329 u330 u331 u332 u333 u334 u335 u336 u337 u338 u339 u340 u341 u342 u343 u344 u345 u346 u347 u348 u349 u350 u351 u352 u353 u354 u355 u356 u357 u358 u359 u360 u361 u362 u363 u364 u365 u366 u367 u368 u369 u370 u371 u372 u373 u374 u375 u376 u377 u378 u379 u380 u381 u382 u383 u384 u385 u386 u387 u388 u389 u390 u391 u392 u393 u394 u395 u396 u397 u398 u399 u400 u401 u402 u403 u404 u405 u406 u407 u408 u409 u410 u411 u412 u413 u414 u415 u416 u417 u418 u419 u420 u421 u422 u423 u424 u425 u426 u427 u428 u429 u430 u431 u432 u433 u434 u435 u436 u437 u438 u439 u440 u441 u442 u443 u444 u445 u446 u447 u448 u449 u450 u451 u452 u453 u454 u455 u456 u457 u458 u459 u460 u461 u462 u463 u464 u465 u466 u467 u468 u469 u470 u471 u472 u473 u474 u475 u476 u477 u478 u479 u480 u481 u482 u483 u484 u485 u486 u487 u488 u489 u490 u491 u492 u493 u494 u495 u496 u497 u498 u499 u500 u501 u502 HL
 exact q1_.out⟩
def guessed_4a : {Q : Prop × Prop // Aside0 (Q.1) → Aside0 (Q.2) → guessed_4.1.1} := ⟨(_, _), fun q0_ q1_ => by
 intro A0 c0 l0 A1 c1 l1 w k a b pl xs cnt first low high three solved nd lf best thirteen text hs s r1 r2 rl sev hu28 hu46 hu25 HC0 HC1 HBIG HC U00 w1 w2 Apl cpl LEpl g5 w3 w4 w5 Axs cxs LExs w6 Ays cys LEys w7 w8 w9 w10 w11 w12 w13 w14 w15 And cnd LEnd w16 Ane cne LEne w17 Alf clf LElf w18 Ale cle LEle w19 w20 w21 w22 wc u163 u164 u165 u166 u167 u168 u169 u170 u171 u172 u173 u174 u175 u176 u177 u178 u179 u180 u181 u182 u183 u184 u185 u186 u187 u188 u189 u190 u191 u192 u193 u194 u195 u196 u197 u198 u199 u200 u201 u202 u203 u204 u205 u206 u207 u208 u209 u210 u211 u212 u213 u214 u215 u216 u217 u218 u219 u220 u221 u222 u223 u224 u225 u226 u227 u228 u229 u230 u231 u232 u233 u234 u235 u236 u237 u238 u239 u240 u241 u242 u243 u244 u245 u246 u247 u248 u249 u250 u251 u252 u253 u254 u255 u256 u257 u258 u259 u260 u261 u262 u263 u264 u265 u266 u267 u268 u269 u270 u271 u272 u273 u274 u275 u276 u277 u278 u279 u280 u281 u282 u283 u284 u285 u286 u287 u288 u289 u290 u291 u292 u293 u294 u295 u296 u297 u298 u299 u300 u301 u302 u303 u304 u305 u306 u307 u308 u309 u310 u311 u312 u313 u314 u315 u316 u317 u318 u319 u320 HL u0_p3h0 u1_p3h0 u2_p3h0 u3_p3h0 u4_p3h0 HA HRB u5_p3h0
 have rb := HRB.out rfl
 have HB1 := am rb
 clear rb HRB
 have hx5_0 := blk_cell HL.out.out.2.2.2.1 0
 have hx5_1 := blk_cell HL.out.out.2.2.2.1 1
 have hx5_2 := blk_cell HL.out.out.2.2.2.1 2
 go_wp2_with fail
 refine (impl_HousesOf.calls a b hs true _ HB1.out.hof).mono ?_
 rintro e w23 ⟨rfl, hb⟩
 have HL_ := am (HL.out.below hb)
 clear HL
 have HL := HL_
 clear HL_
 clear hb
 clear hx5_0 hx5_1 hx5_2
 go_upto_region 26 with fail
 go_cut [397] from 329 to 397 (fun s397 wx => s397 = .bool false ∧ Aside0 (Held (fun W => Kd.C (Kd.int .i64) W Alf lf.length lf ∧ Kd.C (Kd.int .i64) W And nd.length nd ∧ Kd.C (Kd.int .i64) W Axs xs.length xs ∧ W.heap[g5]? = some (.cells #[.int .i64 a, .int .i64 b, .slice Apl pl.length cpl] 28 (0, 0)) ∧ Kd.C k46 W Apl pl.length pl ∧ Kd.C (Kd.int .u8) W A1 l1.length l1 ∧ Tb W ∧ Below w.heap.size w W) wx))
 case first =>
  rename_i u0_h4ah0 u1_h4ah0 u2_h4ah0 u3_h4ah0 u4_h4ah0 u5_h4ah0 u6_h4ah0 u7_h4ah0
  revert A0 c0 l0 A1 c1 l1 w k a b pl xs cnt first low high three solved nd lf best thirteen text hs s r1 r2 rl sev hu28 hu46 hu25 HC0 HC1 HBIG HC U00 w1 w2 Apl cpl LEpl g5 w3 w4 w5 Axs cxs LExs w6 Ays cys LEys w7 w8 w9 w10 w11 w12 w13 w14 w15 And cnd LEnd w16 Ane cne LEne w17 Alf clf LElf w18 Ale cle LEle w19 w20 w21 w22 wc u163 u164 u165 u166 u167 u168 u169 u170 u171 u172 u173 u174 u175 u176 u177 u178 u179 u180 u181 u182 u183 u184 u185 u186 u187 u188 u189 u190 u191 u192 u193 u194 u195 u196 u197 u198 u199 u200 u201 u202 u203 u204 u205 u206 u207 u208 u209 u210 u211 u212 u213 u214 u215 u216 u217 u218 u219 u220 u221 u222 u223 u224 u225 u226 u227 u228 u229 u230 u231 u232 u233 u234 u235 u236 u237 u238 u239 u240 u241 u242 u243 u244 u245 u246 u247 u248 u249 u250 u251 u252 u253 u254 u255 u256 u257 u258 u259 u260 u261 u262 u263 u264 u265 u266 u267 u268 u269 u270 u271 u272 u273 u274 u275 u276 u277 u278 u279 u280 u281 u282 u283 u284 u285 u286 u287 u288 u289 u290 u291 u292 u293 u294 u295 u296 u297 u298 u299 u300 u301 u302 u303 u304 u305 u306 u307 u308 u309 u310 u311 u312 u313 u314 u315 u316 u317 u318 u319 u320 u0_p3h0 u1_p3h0 u2_p3h0 u3_p3h0 u4_p3h0 HA u5_p3h0 HB1 w23 HL u0_h4ah0 u1_h4ah0 u2_h4ah0 u3_h4ah0 u4_h4ah0 u5_h4ah0 u6_h4ah0 u7_h4ah0
  exact q0_.out
 case rest =>
  rename_i u0_h4ah1 u1_h4ah1 u2_h4ah1 u3_h4ah1 u4_h4ah1
  revert A0 c0 l0 A1 c1 l1 w k a b pl xs cnt first low high three solved nd lf best thirteen text hs s r1 r2 rl sev hu28 hu46 hu25 HC0 HC1 HBIG HC U00 w1 w2 Apl cpl LEpl g5 w3 w4 w5 Axs cxs LExs w6 Ays cys LEys w7 w8 w9 w10 w11 w12 w13 w14 w15 And cnd LEnd w16 Ane cne LEne w17 Alf clf LElf w18 Ale cle LEle w19 w20 w21 w22 u0_h4ah1 u163 u164 u165 u166 u167 u168 u169 u170 u171 u172 u173 u174 u175 u176 u177 u178 u179 u180 u181 u182 u183 u184 u185 u186 u187 u188 u189 u190 u191 u192 u193 u194 u195 u196 u197 u198 u199 u200 u201 u202 u203 u204 u205 u206 u207 u208 u209 u210 u211 u212 u213 u214 u215 u216 u217 u218 u219 u220 u221 u222 u223 u224 u225 u226 u227 u228 u229 u230 u231 u232 u233 u234 u235 u236 u237 u238 u239 u240 u241 u242 u243 u244 u245 u246 u247 u248 u249 u250 u251 u252 u253 u254 u255 u256 u257 u258 u259 u260 u261 u262 u263 u264 u265 u266 u267 u268 u269 u270 u271 u272 u273 u274 u275 u276 u277 u278 u279 u280 u281 u282 u283 u284 u285 u286 u287 u288 u289 u290 u291 u292 u293 u294 u295 u296 u297 u298 u299 u300 u301 u302 u303 u304 u305 u306 u307 u308 u309 u310 u311 u312 u313 u314 u315 u316 u317 u318 u319 u320 u0_p3h0 u1_p3h0 u2_p3h0 u3_p3h0 u4_p3h0 HA u5_p3h0 HB1 w23 HL u1_h4ah1 u2_h4ah1 u3_h4ah1 u4_h4ah1 wc u329 u330 u331 u332 u333 u334 u335 u336 u337 u338 u339 u340 u341 u342 u343 u344 u345 u346 u347 u348 u349 u350 u351 u352 u353 u354 u355 u356 u357 u358 u359 u360 u361 u362 u363 u364 u365 u366 u367 u368 u369 u370 u371 u372 u373 u374 u375 u376 u377 u378 u379 u380 u381 u382 u383 u384 u385 u386 u387 u388 u389 u390 u391 u392 u393 u394 u395 u396 u397 hcut
  exact q1_.out
⟩
theorem guessed_4aa : guessed_4a.1.1 := by
 intro A0 c0 l0 A1 c1 l1 w k a b pl xs cnt first low high three solved nd lf best thirteen text hs s r1 r2 rl sev hu28 hu46 hu25 HC0 HC1 HBIG HC U00 w1 w2 Apl cpl LEpl g5 w3 w4 w5 Axs cxs LExs w6 Ays cys LEys w7 w8 w9 w10 w11 w12 w13 w14 w15 And cnd LEnd w16 Ane cne LEne w17 Alf clf LElf w18 Ale cle LEle w19 w20 w21 w22 wc u163 u164 u165 u166 u167 u168 u169 u170 u171 u172 u173 u174 u175 u176 u177 u178 u179 u180 u181 u182 u183 u184 u185 u186 u187 u188 u189 u190 u191 u192 u193 u194 u195 u196 u197 u198 u199 u200 u201 u202 u203 u204 u205 u206 u207 u208 u209 u210 u211 u212 u213 u214 u215 u216 u217 u218 u219 u220 u221 u222 u223 u224 u225 u226 u227 u228 u229 u230 u231 u232 u233 u234 u235 u236 u237 u238 u239 u240 u241 u242 u243 u244 u245 u246 u247 u248 u249 u250 u251 u252 u253 u254 u255 u256 u257 u258 u259 u260 u261 u262 u263 u264 u265 u266 u267 u268 u269 u270 u271 u272 u273 u274 u275 u276 u277 u278 u279 u280 u281 u282 u283 u284 u285 u286 u287 u288 u289 u290 u291 u292 u293 u294 u295 u296 u297 u298 u299 u300 u301 u302 u303 u304 u305 u306 u307 u308 u309 u310 u311 u312 u313 u314 u315 u316 u317 u318 u319 u320 u0_p3h0 u1_p3h0 u2_p3h0 u3_p3h0 u4_p3h0 HA u5_p3h0 HB1 w23 HL u0_h4ah0 u1_h4ah0 u2_h4ah0 u3_h4ah0 u4_h4ah0 u5_h4ah0 u6_h4ah0 u7_h4ah0
 have n0 : ((xs.length : Int) != cnt) = false := by rw [HB1.out.len]; exact bne_self_eq_false _
 have n1 : (solved != (cnt == 1)) = false := by rw [HB1.out.slv]; exact bne_self_eq_false _
 have n2 : ((lf.length : Int) != wrap64 ((pl.length : Int) + 1)) = false := by rw [HB1.out.llen, wr64 (by have := HB1.out.small; omega) (by have := HB1.out.small; omega)]; exact bne_self_eq_false _
 have n6 : wrap64 ((pl.length : Int) + 1) = (lf.length : Int) := by rw [HB1.out.llen, wr64 (by have := HB1.out.small; omega) (by have := HB1.out.small; omega)]
 obtain ⟨ad1, e1, hl0⟩ := Kd.at_int HL.out.out.1 0 (by omega) (by have := HB1.out.llen; omega)
 cases e1
 rw [HB1.out.lf0] at hl0
 obtain ⟨ad2, e2, hl1⟩ := Kd.at_int HL.out.out.1 (pl.length : Int) (by omega) (by have := HB1.out.llen; omega)
 cases e2
 rw [HB1.out.lfn] at hl1
 simp only [Int.toNat_natCast, Int.toNat_zero, Addr.add_zero'] at hl0 hl1
 have n7 : (!solved == (cnt == 1)) = false := by rw [HB1.out.slv]; cases (cnt == 1) <;> rfl
 have n8 : ((lf.length : Int) != IntKind.i64.wrap ((pl.length : Int) + 1)) = false := by rw [show IntKind.i64.wrap ((pl.length : Int) + 1) = (lf.length : Int) from by rw [IntKind.wrap_i64]; have := HB1.out.llen; have := HB1.out.small; omega]; exact bne_self_eq_false _
 have c0 : (0 < (lf.length : Int)) = True := eq_true (by have := HB1.out.llen; omega)
 have c1 : (0 ≤ (pl.length : Int)) = True := eq_true (by omega)
 have c2 : ((pl.length : Int) < (lf.length : Int)) = True := eq_true (by have := HB1.out.llen; omega)
 have c3 : (pl.length < lf.length) = True := eq_true (by have := HB1.out.llen; omega)
 have c4 : (0 < lf.length) = True := eq_true (by have := HB1.out.llen; omega)
 have n3 : (hs != hs) = false := bne_self_eq_false _
 have n4 : (cnt != cnt) = false := bne_self_eq_false _
 cases three
 ·
  have hx5_0 := blk_cell HL.out.out.2.2.2.1 0
  have hx5_1 := blk_cell HL.out.out.2.2.2.1 1
  have hx5_2 := blk_cell HL.out.out.2.2.2.1 2
  refine vLr ?_
  refine vLt ?_
  refine vLt ?_
  refine vLt ?_
  refine vLt ?_
  refine vLt ?_
  refine vLt ?_
  refine vLt ?_
  refine vLt ?_
  refine vLt ?_
  refine vLt ?_
  refine vLt ?_
  refine vLs ?_
  refine vLs ?_
  refine vLs ?_
  refine vLs ?_
  refine vLs ?_
  refine vLs ?_
  refine vLs ?_
  refine vLs ?_
  refine vLs ?_
  refine vLs ?_
  refine vLs ?_
  refine vLs ?_
  refine vLs ?_
  refine vLs ?_
  refine vLs ?_
  refine vLs ?_
  refine vLs ?_
  refine vLs ?_
  refine vLs ?_
  refine vLt ?_
  refine vLt ?_
  refine vLt ?_
  refine vLt ?_
  refine vLt ?_
  refine vLt ?_
  refine vLt ?_
  refine vLt ?_
  refine vLt ?_
  refine vLt ?_
  refine vLt ?_
  refine vLt ?_
  refine vLt ?_
  refine vLt ?_
  refine vLt ?_
  refine vLt ?_
  refine vLt ?_
  refine vLt ?_
  refine vLt ?_
  refine vLt ?_
  refine vLt ?_
  refine vLt ?_
  refine vLt ?_
  refine vLt ?_
  refine vLt ?_
  refine vLt ?_
  refine vLt ?_
  refine vLt ?_
  refine vLt ?_
  refine vLt ?_
  refine vLt ?_
  refine vLt ?_
  refine vLt ?_
  refine vLt ?_
  refine vLt ?_
  refine vLt ?_
  refine vLc (fun K hK => ?_)
  go_simp
  go_at_call 28
  refine (laws_aRises.calls k _ _ xs true _ HL.out.out.2.2.1 LExs.out HB1.out.rises).mono ?_
  rintro e w24 ⟨rfl, hd⟩
  have HL_ := am (HL.out.below hd.below)
  clear HL
  have HL := HL_
  clear HL_
  clear hd
  clear hx5_0 hx5_1 hx5_2
  (try (go_wp2_with fail))
  refine hK.out _ _ ?_
  clear hK K
  (try simp only [Act.put, List.setIfInBounds_toArray, List.set_cons_zero, List.set_cons_succ])
  refine vLt ?_
  refine vLt ?_
  refine vLe ?_
  go_wp2
  go_meet
  exact ⟨rfl, ⟨⟨HL.out.out.1, HL.out.out.2.1, HL.out.out.2.2.1, HL.out.out.2.2.2.1, HL.out.out.2.2.2.2.1, HL.out.out.2.2.2.2.2.1, HL.out.out.2.2.2.2.2.2.1, HL.out.out.2.2.2.2.2.2.2⟩⟩⟩
 ·
  obtain ⟨hp, hf, hlo, hhi⟩ := HB1.out.ends rfl
  have hlen := HB1.out.len
  obtain ⟨ad3, e3, hx0⟩ := Kd.at_int HL.out.out.2.2.1 0 (by omega) (by omega)
  cases e3
  obtain ⟨ad4, e4, hx1⟩ := Kd.at_int HL.out.out.2.2.1 (cnt - 1) (by omega) (by omega)
  cases e4
  rw [hf] at hx0
  rw [hhi] at hx1
  obtain rfl := hlo
  simp only [Int.toNat_zero, Addr.add_zero'] at hx0
  rw [Int.pred_toNat] at hx1
  have d0 : (0 < (xs.length : Int)) = True := eq_true (by omega)
  have d1 : wrap64 (cnt - 1) = cnt - 1 := wr64 (by omega) (by have := HB1.out.small; omega)
  have d2 : (0 ≤ cnt - 1) = True := eq_true (by omega)
  have d3 : (cnt - 1 < (xs.length : Int)) = True := eq_true (by omega)
  have d4 : (1 ≤ cnt) = True := eq_true (by omega)
  have d5 : (cnt ≤ (xs.length : Int)) = True := eq_true (by omega)
  have d6 : (0 < xs.length) = True := eq_true (by omega)
  have d9 : IntKind.i64.wrap (cnt - 1) = cnt - 1 := by rw [IntKind.wrap_i64]; have := HB1.out.small; omega
  have d7 : (low != low) = false := bne_self_eq_false _
  have d8 : (high != high) = false := bne_self_eq_false _
  clear hp hf hhi hlen
  have hx5_0 := blk_cell HL.out.out.2.2.2.1 0
  have hx5_1 := blk_cell HL.out.out.2.2.2.1 1
  have hx5_2 := blk_cell HL.out.out.2.2.2.1 2
  refine vLr ?_
  refine vLt ?_
  refine vLt ?_
  refine vLt ?_
  refine vLt ?_
  refine vLt ?_
  refine vLt ?_
  refine vLt ?_
  refine vLt ?_
  refine vLt ?_
  refine vLt ?_
  refine vLt ?_
  refine vLt ?_
  refine vLt ?_
  refine vLt ?_
  refine vLt ?_
  refine vLt ?_
  refine vLt ?_
  refine vLt ?_
  refine vLt ?_
  refine vLt ?_
  refine vLt ?_
  refine vLt ?_
  refine vLt ?_
  refine vLt ?_
  refine vLt ?_
  refine vLt ?_
  refine vLt ?_
  refine vLt ?_
  refine vLt ?_
  refine vLt ?_
  refine vLt ?_
  refine vLt ?_
  refine vLt ?_
  refine vLt ?_
  refine vLt ?_
  refine vLt ?_
  refine vLt ?_
  refine vLt ?_
  refine vLt ?_
  refine vLt ?_
  refine vLt ?_
  refine vLt ?_
  refine vLt ?_
  refine vLt ?_
  refine vLt ?_
  refine vLt ?_
  refine vLt ?_
  refine vLt ?_
  refine vLt ?_
  refine vLt ?_
  refine vLt ?_
  refine vLt ?_
  refine vLt ?_
  refine vLt ?_
  refine vLt ?_
  refine vLt ?_
  refine vLt ?_
  refine vLt ?_
  refine vLt ?_
  refine vLt ?_
  refine vLt ?_
  refine vLt ?_
  refine vLt ?_
  refine vLt ?_
  refine vLt ?_
  refine vLt ?_
  refine vLc (fun K hK => ?_)
  go_simp
  go_at_call 28
  refine (laws_aRises.calls k _ _ xs true _ HL.out.out.2.2.1 LExs.out HB1.out.rises).mono ?_
  rintro e w25 ⟨rfl, hd⟩
  have HL_ := am (HL.out.below hd.below)
  clear HL
  have HL := HL_
  clear HL_
  clear hd
  clear hx5_0 hx5_1 hx5_2
  (try (go_wp2_with fail))
  refine hK.out _ _ ?_
  clear hK K
  (try simp only [Act.put, List.setIfInBounds_toArray, List.set_cons_zero, List.set_cons_succ])
  refine vLt ?_
  refine vLt ?_
  refine vLe ?_
  go_wp2
  go_meet
  exact ⟨rfl, ⟨⟨HL.out.out.1, HL.out.out.2.1, HL.out.out.2.2.1, HL.out.out.2.2.2.1, HL.out.out.2.2.2.2.1, HL.out.out.2.2.2.2.2.1, HL.out.out.2.2.2.2.2.2.1, HL.out.out.2.2.2.2.2.2.2⟩⟩⟩
def guessed_4ab : {Q : Prop × Prop // Aside0 (Q.1) → Aside0 (Q.2) → guessed_4a.1.2} := ⟨(_, _), fun q0_ q1_ => by
 intro A0 c0 l0 A1 c1 l1 w k a b pl xs cnt first low high three solved nd lf best thirteen text hs s r1 r2 rl sev hu28 hu46 hu25 HC0 HC1 HBIG HC U00 w1 w2 Apl cpl LEpl g5 w3 w4 w5 Axs cxs LExs w6 Ays cys LEys w7 w8 w9 w10 w11 w12 w13 w14 w15 And cnd LEnd w16 Ane cne LEne w17 Alf clf LElf w18 Ale cle LEle w19 w20 w21 w22 u0_h4ah1 u163 u164 u165 u166 u167 u168 u169 u170 u171 u172 u173 u174 u175 u176 u177 u178 u179 u180 u181 u182 u183 u184 u185 u186 u187 u188 u189 u190 u191 u192 u193 u194 u195 u196 u197 u198 u199 u200 u201 u202 u203 u204 u205 u206 u207 u208 u209 u210 u211 u212 u213 u214 u215 u216 u217 u218 u219 u220 u221 u222 u223 u224 u225 u226 u227 u228 u229 u230 u231 u232 u233 u234 u235 u236 u237 u238 u239 u240 u241 u242 u243 u244 u245 u246 u247 u248 u249 u250 u251 u252 u253 u254 u255 u256 u257 u258 u259 u260 u261 u262 u263 u264 u265 u266 u267 u268 u269 u270 u271 u272 u273 u274 u275 u276 u277 u278 u279 u280 u281 u282 u283 u284 u285 u286 u287 u288 u289 u290 u291 u292 u293 u294 u295 u296 u297 u298 u299 u300 u301 u302 u303 u304 u305 u306 u307 u308 u309 u310 u311 u312 u313 u314 u315 u316 u317 u318 u319 u320 u0_p3h0 u1_p3h0 u2_p3h0 u3_p3h0 u4_p3h0 HA u5_p3h0 HB1 w23 HL u1_h4ah1 u2_h4ah1 u3_h4ah1 u4_h4ah1 wc u329 u330 u331 u332 u333 u334 u335 u336 u337 u338 u339 u340 u341 u342 u343 u344 u345 u346 u347 u348 u349 u350 u351 u352 u353 u354 u355 u356 u357 u358 u359 u360 u361 u362 u363 u364 u365 u366 u367 u368 u369 u370 u371 u372 u373 u374 u375 u376 u377 u378 u379 u380 u381 u382 u383 u384 u385 u386 u387 u388 u389 u390 u391 u392 u393 u394 u395 u396 u397 hcut
 obtain ⟨rfl, HL2⟩ := hcut
 clear HL
 have HL := HL2
 clear HL2
 go_wp2_with fail
 go_loopg [47, 49, 50, 51, 400] xs.length (fun gg s47 s49 s50 s51 s400 wr => ∃ i : Nat, s400 = .int .i64 (i : Int) ∧ i + gg = xs.length ∧ Aside0 (Held (fun W => Kd.C (Kd.int .i64) W Alf lf.length lf ∧ Kd.C (Kd.int .i64) W And nd.length nd ∧ Kd.C (Kd.int .i64) W Axs xs.length xs ∧ W.heap[g5]? = some (.cells #[.int .i64 a, .int .i64 b, .slice Apl pl.length cpl] 28 (0, 0)) ∧ Kd.C k46 W Apl pl.length pl ∧ Kd.C (Kd.int .u8) W A1 l1.length l1 ∧ Tb W ∧ Below w.heap.size w W) wr))
 case atStart => exact ⟨0, rfl, by omega, ⟨⟨HL.out.out.1, HL.out.out.2.1, HL.out.out.2.2.1, HL.out.out.2.2.2.1, HL.out.out.2.2.2.2.1, HL.out.out.2.2.2.2.2.1, HL.out.out.2.2.2.2.2.2.1, HL.out.out.2.2.2.2.2.2.2⟩⟩⟩
 case round =>
  obtain ⟨i, rfl, hg, HL2⟩ := hrel
  clear HL
  have HL := HL2
  clear HL2
  by_cases hlt : i < xs.length
  ·
   rename_i u0_h4abh0 u1_h4abh0 u2_h4abh0 u3_h4abh0 u4_h4abh0 u5_h4abh0
   revert A0 c0 l0 A1 c1 l1 w k a b pl xs cnt first low high three solved nd lf best thirteen text hs s r1 r2 rl sev hu28 hu46 hu25 HC0 HC1 HBIG HC U00 w1 w2 Apl cpl LEpl g5 w3 w4 w5 Axs cxs LExs w6 Ays cys LEys w7 w8 w9 w10 w11 w12 w13 w14 w15 And cnd LEnd w16 Ane cne LEne w17 Alf clf LElf w18 Ale cle LEle w19 w20 w21 w22 u0_h4ah1 u163 u164 u165 u166 u167 u168 u169 u170 u171 u172 u173 u174 u175 u176 u177 u178 u179 u180 u181 u182 u183 u184 u185 u186 u187 u188 u189 u190 u191 u192 u193 u194 u195 u196 u197 u198 u199 u200 u201 u202 u203 u204 u205 u206 u207 u208 u209 u210 u211 u212 u213 u214 u215 u216 u217 u218 u219 u220 u221 u222 u223 u224 u225 u226 u227 u228 u229 u230 u231 u232 u233 u234 u235 u236 u237 u238 u239 u240 u241 u242 u243 u244 u245 u246 u247 u248 u249 u250 u251 u252 u253 u254 u255 u256 u257 u258 u259 u260 u261 u262 u263 u264 u265 u266 u267 u268 u269 u270 u271 u272 u273 u274 u275 u276 u277 u278 u279 u280 u281 u282 u283 u284 u285 u286 u287 u288 u289 u290 u291 u292 u293 u294 u295 u296 u297 u298 u299 u300 u301 u302 u303 u304 u305 u306 u307 u308 u309 u310 u311 u312 u313 u314 u315 u316 u317 u318 u319 u320 u0_p3h0 u1_p3h0 u2_p3h0 u3_p3h0 u4_p3h0 HA u5_p3h0 HB1 w23 wc u329 u330 u331 u332 u333 u334 u335 u336 u337 u338 u339 u340 u341 u342 u343 u344 u345 u346 u347 u348 u349 u350 u351 u352 u353 u354 u355 u356 u357 u358 u359 u360 u361 u362 u363 u364 u365 u366 u367 u368 u369 u370 u371 u372 u373 u374 u375 u376 u377 u378 u379 u380 u381 u382 u383 u384 u385 u386 u387 u388 u389 u390 u391 u392 u393 u394 u395 u396 u0_h4abh0 u1_h4abh0 gk wr u4 u47 u49 u50 u51 u401 u402 u403 u404 u405 u406 u407 u408 u409 u410 u411 u412 u413 u414 u415 u416 u417 u418 u419 u420 u421 u422 u423 u424 u425 u426 u427 u428 u429 u430 u431 u432 u433 u2_h4abh0 u3_h4abh0 u4_h4abh0 u5_h4abh0 i hg HL hlt
   exact q0_.out
  ·
   rename_i u0_h4abh1 u1_h4abh1 u2_h4abh1 u3_h4abh1 u4_h4abh1 u5_h4abh1
   revert A0 c0 l0 A1 c1 l1 w k a b pl xs cnt first low high three solved nd lf best thirteen text hs s r1 r2 rl sev hu28 hu46 hu25 HC0 HC1 HBIG HC U00 w1 w2 Apl cpl LEpl g5 w3 w4 w5 Axs cxs LExs w6 Ays cys LEys w7 w8 w9 w10 w11 w12 w13 w14 w15 And cnd LEnd w16 Ane cne LEne w17 Alf clf LElf w18 Ale cle LEle w19 w20 w21 w22 u0_h4ah1 u163 u164 u165 u166 u167 u168 u169 u170 u171 u172 u173 u174 u175 u176 u177 u178 u179 u180 u181 u182 u183 u184 u185 u186 u187 u188 u189 u190 u191 u192 u193 u194 u195 u196 u197 u198 u199 u200 u201 u202 u203 u204 u205 u206 u207 u208 u209 u210 u211 u212 u213 u214 u215 u216 u217 u218 u219 u220 u221 u222 u223 u224 u225 u226 u227 u228 u229 u230 u231 u232 u233 u234 u235 u236 u237 u238 u239 u240 u241 u242 u243 u244 u245 u246 u247 u248 u249 u250 u251 u252 u253 u254 u255 u256 u257 u258 u259 u260 u261 u262 u263 u264 u265 u266 u267 u268 u269 u270 u271 u272 u273 u274 u275 u276 u277 u278 u279 u280 u281 u282 u283 u284 u285 u286 u287 u288 u289 u290 u291 u292 u293 u294 u295 u296 u297 u298 u299 u300 u301 u302 u303 u304 u305 u306 u307 u308 u309 u310 u311 u312 u313 u314 u315 u316 u317 u318 u319 u320 u0_p3h0 u1_p3h0 u2_p3h0 u3_p3h0 u4_p3h0 HA u5_p3h0 HB1 w23 wc u329 u330 u331 u332 u333 u334 u335 u336 u337 u338 u339 u340 u341 u342 u343 u344 u345 u346 u347 u348 u349 u350 u351 u352 u353 u354 u355 u356 u357 u358 u359 u360 u361 u362 u363 u364 u365 u366 u367 u368 u369 u370 u371 u372 u373 u374 u375 u376 u377 u378 u379 u380 u381 u382 u383 u384 u385 u386 u387 u388 u389 u390 u391 u392 u393 u394 u395 u396 u0_h4abh1 u1_h4abh1 gk wr u4 u47 u49 u50 u51 u401 u402 u403 u404 u405 u406 u407 u408 u409 u410 u411 u412 u413 u414 u415 u416 u417 u418 u419 u420 u421 u422 u423 u424 u425 u426 u427 u428 u429 u430 u431 u432 u433 u2_h4abh1 u3_h4abh1 u4_h4abh1 u5_h4abh1 i hg HL hlt
   exact q1_.out
⟩
theorem guessed_4aba : guessed_4ab.1.1 := by
 intro A0 c0 l0 A1 c1 l1 w k a b pl xs cnt first low high three solved nd lf best thirteen text hs s r1 r2 rl sev hu28 hu46 hu25 HC0 HC1 HBIG HC U00 w1 w2 Apl cpl LEpl g5 w3 w4 w5 Axs cxs LExs w6 Ays cys LEys w7 w8 w9 w10 w11 w12 w13 w14 w15 And cnd LEnd w16 Ane cne LEne w17 Alf clf LElf w18 Ale cle LEle w19 w20 w21 w22 u0_h4ah1 u163 u164 u165 u166 u167 u168 u169 u170 u171 u172 u173 u174 u175 u176 u177 u178 u179 u180 u181 u182 u183 u184 u185 u186 u187 u188 u189 u190 u191 u192 u193 u194 u195 u196 u197 u198 u199 u200 u201 u202 u203 u204 u205 u206 u207 u208 u209 u210 u211 u212 u213 u214 u215 u216 u217 u218 u219 u220 u221 u222 u223 u224 u225 u226 u227 u228 u229 u230 u231 u232 u233 u234 u235 u236 u237 u238 u239 u240 u241 u242 u243 u244 u245 u246 u247 u248 u249 u250 u251 u252 u253 u254 u255 u256 u257 u258 u259 u260 u261 u262 u263 u264 u265 u266 u267 u268 u269 u270 u271 u272 u273 u274 u275 u276 u277 u278 u279 u280 u281 u282 u283 u284 u285 u286 u287 u288 u289 u290 u291 u292 u293 u294 u295 u296 u297 u298 u299 u300 u301 u302 u303 u304 u305 u306 u307 u308 u309 u310 u311 u312 u313 u314 u315 u316 u317 u318 u319 u320 u0_p3h0 u1_p3h0 u2_p3h0 u3_p3h0 u4_p3h0 HA u5_p3h0 HB1 w23 wc u329 u330 u331 u332 u333 u334 u335 u336 u337 u338 u339 u340 u341 u342 u343 u344 u345 u346 u347 u348 u349 u350 u351 u352 u353 u354 u355 u356 u357 u358 u359 u360 u361 u362 u363 u364 u365 u366 u367 u368 u369 u370 u371 u372 u373 u374 u375 u376 u377 u378 u379 u380 u381 u382 u383 u384 u385 u386 u387 u388 u389 u390 u391 u392 u393 u394 u395 u396 u0_h4abh0 u1_h4abh0 gk wr u4 u47 u49 u50 u51 u401 u402 u403 u404 u405 u406 u407 u408 u409 u410 u411 u412 u413 u414 u415 u416 u417 u418 u419 u420 u421 u422 u423 u424 u425 u426 u427 u428 u429 u430 u431 u432 u433 u2_h4abh0 u3_h4abh0 u4_h4abh0 u5_h4abh0 i hg HL hlt
 have hfit := HB1.out.each xs[i] (List.getElem_mem hlt)
 obtain ⟨ad1, e1, hx1⟩ := Kd.at_int HL.out.out.2.2.1 (i : Int) (by omega) (by omega)
 cases e1
 rw [show rd xs (i : Int) = xs[i] from by simp [rd, List.getD, List.getElem?_eq_getElem hlt]] at hx1
 simp only [Int.toNat_natCast] at hx1
 generalize xs[i] = h at hx1 hfit
 have HF := am hfit
 clear hfit
 have HI := am hlt
 have HG := am hg
 have a0 : (0 ≤ (i : Int)) = True := eq_true (by omega)
 have a1 : ((i : Int) < (xs.length : Int)) = True := eq_true (by omega)
 have a2 : decide ((i : Int) < (xs.length : Int)) = true := decide_eq_true (by omega)
 have a3 : (i < xs.length) = True := eq_true hlt
 have a4 : decide (h < 1) = false := decide_eq_false (by have := HF.out.1; omega)
 have a5 : decide (h > hs) = false := decide_eq_false (by have := HF.out.2.1; omega)
 clear hlt hg
 have hx5_0 := blk_cell HL.out.out.2.2.2.1 0
 have hx5_1 := blk_cell HL.out.out.2.2.2.1 1
 have hx5_2 := blk_cell HL.out.out.2.2.2.1 2
 go_wp2_with fail
 clear hx1
 clear hx5_0 hx5_1 hx5_2
 go_loopg [49, 50, 51, 414] pl.length (fun gg s49 s50 s51 s414 wr => ∃ j : Nat, s414 = .int .i64 (j : Int) ∧ j + gg = pl.length ∧ Aside0 (Held (fun W => Kd.C (Kd.int .i64) W Alf lf.length lf ∧ Kd.C (Kd.int .i64) W And nd.length nd ∧ Kd.C (Kd.int .i64) W (some ad1) xs.length xs ∧ W.heap[g5]? = some (.cells #[.int .i64 a, .int .i64 b, .slice Apl pl.length cpl] 28 (0, 0)) ∧ Kd.C k46 W Apl pl.length pl ∧ Kd.C (Kd.int .u8) W A1 l1.length l1 ∧ Tb W ∧ Below w.heap.size w W) wr))
 case atStart => exact ⟨0, rfl, by omega, ⟨⟨HL.out.out.1, HL.out.out.2.1, HL.out.out.2.2.1, HL.out.out.2.2.2.1, HL.out.out.2.2.2.2.1, HL.out.out.2.2.2.2.2.1, HL.out.out.2.2.2.2.2.2.1, HL.out.out.2.2.2.2.2.2.2⟩⟩⟩
 case round =>
  obtain ⟨j, rfl, hg, HL2⟩ := hrel
  clear HL
  have HL := HL2
  clear HL2
  by_cases hlt : j < pl.length
  ·
   have hx := List.getElem?_eq_getElem hlt
   have hfit := HF.out.2.2 pl[j] (List.getElem_mem hlt)
   have hrd : rd_T46 pl (j : Int) = pl[j] := by simp [rd_T46, List.getD, hx]
   obtain ⟨ad, e, h0, h1, h2⟩ := at_T46 HL.out.out.2.2.2.2.1 (j : Int) (by omega) (by omega)
   rw [hrd] at h0 h1 h2
   simp only [Int.toNat_natCast] at h0 h1 h2
   clear hrd hx
   generalize pl[j] = y at h0 h1 h2 hfit
   have HF2 := am hfit
   clear hfit
   cases e
   have q0 : (0 ≤ (j : Int)) = True := eq_true (by omega)
   have q1 : ((j : Int) < (pl.length : Int)) = True := eq_true (by omega)
   have q2 : decide ((j : Int) < (pl.length : Int)) = true := decide_eq_true (by omega)
   have q3 : (j < pl.length) = True := eq_true hlt
   have HJ := am hlt
   have HGJ := am hg
   clear hlt hg
   go_wp2_with (first
    | ((with_reducible refine gate_dst (N := 49) rfl ?_); refine uX (N := 49) (cs := #[.int .i64 0, .int .i64 0, .int .i64 0]) (t := 46) ?_; intro g49 hg w26 hh hb; have hz49_0 := blk_cell hh 0; have hz49_1 := blk_cell hh 1; have hz49_2 := blk_cell hh 2; have hz49_3 := blk_frozen hh 0; have hz49_4 := blk_frozen hh 1; have hz49_5 := blk_frozen hh 2; have HG49 := am (Nat.le_of_eq hg.symm); have HB := am hb; have HH49 := am hh; clear hg hb hh)
    | ((with_reducible refine gate_store (t := 46) (p := 49) rfl ?_); refine store_event (t := 46) (p := 49) (v := ?vo_w27) (w1 := (((w26.setCell ⟨g49, 0, none⟩ (.int .i64 y.f0)).setCell ⟨g49, 1, none⟩ (.int .i64 y.f1)).setCell ⟨g49, 2, none⟩ (.int .i64 y.f2))) ?hg ?ho ?hn ?hr ?_; (case ho => rfl); (case hg => rfl); (case hn => rfl); (case hr => first | (go_simp; done) | (go_simp; rfl)); intro w27 ew_; obtain ⟨hb2, hh2⟩ := box3 (x := .int .i64 y.f0) (y := .int .i64 y.f1) (z := .int .i64 y.f2) HG49.out HH49.out HB.out; rw [← ew_] at hb2 hh2; have HL_ := am ((HL.out.below hb2).box hh2); clear HL; have HL := HL_; clear HL_; clear hb2 hh2 HB HH49 HG49 ew_ hz49_0 hz49_1 hz49_2 hz49_3 hz49_4 hz49_5; have hx5_0 := blk_cell HL.out.out.2.2.2.2.1 0; have hx5_1 := blk_cell HL.out.out.2.2.2.2.1 1; have hx5_2 := blk_cell HL.out.out.2.2.2.2.1 2; have hx49_0 := blk_cell HL.out.out.1 0; have hx49_1 := blk_cell HL.out.out.1 1; have hx49_2 := blk_cell HL.out.out.1 2)
    | fail)
   refine (impl_DoesFit.calls a b y.f0 y.f1 y.f2 h true true _ HF2.out).mono ?_
   rintro e w28 ⟨rfl, hb⟩
   have HL_ := am (HL.out.below hb)
   clear HL
   have HL := HL_
   clear HL_
   clear hb
   clear hx5_0 hx5_1 hx5_2 hx49_0 hx49_1 hx49_2
   clear h0 h1 h2 HF2
   go_wp2_with fail
   go_roundg (pl.length - (j + 1))
   case measure => have := HJ.out; have := HGJ.out; omega
   case rel => exact ⟨j + 1, by first | rfl | (rw [wr64 (by have := HB1.out.small; omega) (by have := HJ.out; have := HB1.out.small; omega)]; rfl), by have := HJ.out; have := HGJ.out; omega, ⟨⟨HL.out.out.2.1, HL.out.out.2.2.1, HL.out.out.2.2.2.1, HL.out.out.2.2.2.2.1, HL.out.out.2.2.2.2.2.1, HL.out.out.2.2.2.2.2.2.1, HL.out.out.2.2.2.2.2.2.2.1, HL.out.out.2.2.2.2.2.2.2.2⟩⟩⟩
  ·
   have q2 : decide ((j : Int) < (pl.length : Int)) = false := decide_eq_false (by omega)
   have q1 : ((j : Int) < (pl.length : Int)) = False := eq_false (by omega)
   have q0 : (j < pl.length) = False := eq_false hlt
   clear hlt hg
   go_wp2_with fail
   go_roundg (xs.length - (i + 1))
   case measure => have := HI.out; have := HG.out; omega
   case rel => exact ⟨i + 1, by first | rfl | (rw [wr64 (by have := HB1.out.small; omega) (by have := HI.out; have := HB1.out.smallx; omega)]; rfl), by have := HI.out; have := HG.out; omega, ⟨⟨HL.out.out.1, HL.out.out.2.1, HL.out.out.2.2.1, HL.out.out.2.2.2.1, HL.out.out.2.2.2.2.1, HL.out.out.2.2.2.2.2.1, HL.out.out.2.2.2.2.2.2.1, HL.out.out.2.2.2.2.2.2.2⟩⟩⟩
def guessed_4abb : {Q : Prop × Prop // Aside0 (Q.1) → Aside0 (Q.2) → guessed_4ab.1.2} := ⟨(_, _), fun q0_ q1_ => by
 intro A0 c0 l0 A1 c1 l1 w k a b pl xs cnt first low high three solved nd lf best thirteen text hs s r1 r2 rl sev hu28 hu46 hu25 HC0 HC1 HBIG HC U00 w1 w2 Apl cpl LEpl g5 w3 w4 w5 Axs cxs LExs w6 Ays cys LEys w7 w8 w9 w10 w11 w12 w13 w14 w15 And cnd LEnd w16 Ane cne LEne w17 Alf clf LElf w18 Ale cle LEle w19 w20 w21 w22 u0_h4ah1 u163 u164 u165 u166 u167 u168 u169 u170 u171 u172 u173 u174 u175 u176 u177 u178 u179 u180 u181 u182 u183 u184 u185 u186 u187 u188 u189 u190 u191 u192 u193 u194 u195 u196 u197 u198 u199 u200 u201 u202 u203 u204 u205 u206 u207 u208 u209 u210 u211 u212 u213 u214 u215 u216 u217 u218 u219 u220 u221 u222 u223 u224 u225 u226 u227 u228 u229 u230 u231 u232 u233 u234 u235 u236 u237 u238 u239 u240 u241 u242 u243 u244 u245 u246 u247 u248 u249 u250 u251 u252 u253 u254 u255 u256 u257 u258 u259 u260 u261 u262 u263 u264 u265 u266 u267 u268 u269 u270 u271 u272 u273 u274 u275 u276 u277 u278 u279 u280 u281 u282 u283 u284 u285 u286 u287 u288 u289 u290 u291 u292 u293 u294 u295 u296 u297 u298 u299 u300 u301 u302 u303 u304 u305 u306 u307 u308 u309 u310 u311 u312 u313 u314 u315 u316 u317 u318 u319 u320 u0_p3h0 u1_p3h0 u2_p3h0 u3_p3h0 u4_p3h0 HA u5_p3h0 HB1 w23 wc u329 u330 u331 u332 u333 u334 u335 u336 u337 u338 u339 u340 u341 u342 u343 u344 u345 u346 u347 u348 u349 u350 u351 u352 u353 u354 u355 u356 u357 u358 u359 u360 u361 u362 u363 u364 u365 u366 u367 u368 u369 u370 u371 u372 u373 u374 u375 u376 u377 u378 u379 u380 u381 u382 u383 u384 u385 u386 u387 u388 u389 u390 u391 u392 u393 u394 u395 u396 u0_h4abh1 u1_h4abh1 gk wr u4 u47 u49 u50 u51 u401 u402 u403 u404 u405 u406 u407 u408 u409 u410 u411 u412 u413 u414 u415 u416 u417 u418 u419 u420 u421 u422 u423 u424 u425 u426 u427 u428 u429 u430 u431 u432 u433 u2_h4abh1 u3_h4abh1 u4_h4abh1 u5_h4abh1 i hg HL hlt
 have q2 : decide ((i : Int) < (xs.length : Int)) = false := decide_eq_false (by omega)
 have q1 : ((i : Int) < (xs.length : Int)) = False := eq_false (by omega)
 have q0 : (i < xs.length) = False := eq_false hlt
 clear hlt hg
 have hx5_0 := blk_cell HL.out.out.2.2.2.1 0
 have hx5_1 := blk_cell HL.out.out.2.2.2.1 1
 have hx5_2 := blk_cell HL.out.out.2.2.2.1 2
 go_wp2_with fail
 clear hx5_0 hx5_1 hx5_2
 clear q0 q1 q2
 go_loopg [52, 53, 54, 55, 56, 437] pl.length (fun gg s52 s53 s54 s55 s56 s437 wr => ∃ j : Nat, s437 = .int .i64 (j : Int) ∧ j + gg = pl.length ∧ Aside0 (Held (fun W => Kd.C (Kd.int .i64) W Alf lf.length lf ∧ Kd.C (Kd.int .i64) W And nd.length nd ∧ W.heap[g5]? = some (.cells #[.int .i64 a, .int .i64 b, .slice Apl pl.length cpl] 28 (0, 0)) ∧ Kd.C k46 W Apl pl.length pl ∧ Kd.C (Kd.int .u8) W A1 l1.length l1 ∧ Tb W ∧ Below w.heap.size w W) wr))
 case atStart => exact ⟨0, rfl, by omega, ⟨⟨HL.out.out.1, HL.out.out.2.1, HL.out.out.2.2.2.1, HL.out.out.2.2.2.2.1, HL.out.out.2.2.2.2.2.1, HL.out.out.2.2.2.2.2.2.1, HL.out.out.2.2.2.2.2.2.2⟩⟩⟩
 case round =>
  obtain ⟨j, rfl, hg, HL2⟩ := hrel
  clear HL
  have HL := HL2
  clear HL2
  by_cases hlt : j < pl.length
  ·
   rename_i u0_h4abbh0 u1_h4abbh0 u2_h4abbh0 u3_h4abbh0 u4_h4abbh0 u5_h4abbh0 u6_h4abbh0 u7_h4abbh0 u8_h4abbh0 u9_h4abbh0 u10_h4abbh0
   revert A0 c0 l0 A1 c1 l1 w k a b pl xs cnt first low high three solved nd lf best thirteen text hs s r1 r2 rl sev hu28 hu46 hu25 HC0 HC1 HBIG HC U00 w1 w2 Apl cpl LEpl g5 w3 w4 w5 Axs cxs LExs w6 Ays cys LEys w7 w8 w9 w10 w11 w12 w13 w14 w15 And cnd LEnd w16 Ane cne LEne w17 Alf clf LElf w18 Ale cle LEle w19 w20 w21 w22 u0_h4ah1 u163 u164 u165 u166 u167 u168 u169 u170 u171 u172 u173 u174 u175 u176 u177 u178 u179 u180 u181 u182 u183 u184 u185 u186 u187 u188 u189 u190 u191 u192 u193 u194 u195 u196 u197 u198 u199 u200 u201 u202 u203 u204 u205 u206 u207 u208 u209 u210 u211 u212 u213 u214 u215 u216 u217 u218 u219 u220 u221 u222 u223 u224 u225 u226 u227 u228 u229 u230 u231 u232 u233 u234 u235 u236 u237 u238 u239 u240 u241 u242 u243 u244 u245 u246 u247 u248 u249 u250 u251 u252 u253 u254 u255 u256 u257 u258 u259 u260 u261 u262 u263 u264 u265 u266 u267 u268 u269 u270 u271 u272 u273 u274 u275 u276 u277 u278 u279 u280 u281 u282 u283 u284 u285 u286 u287 u288 u289 u290 u291 u292 u293 u294 u295 u296 u297 u298 u299 u300 u301 u302 u303 u304 u305 u306 u307 u308 u309 u310 u311 u312 u313 u314 u315 u316 u317 u318 u319 u320 u0_p3h0 u1_p3h0 u2_p3h0 u3_p3h0 u4_p3h0 HA u5_p3h0 HB1 w23 wc u329 u330 u331 u332 u333 u334 u335 u336 u337 u338 u339 u340 u341 u342 u343 u344 u345 u346 u347 u348 u349 u350 u351 u352 u353 u354 u355 u356 u357 u358 u359 u360 u361 u362 u363 u364 u365 u366 u367 u368 u369 u370 u371 u372 u373 u374 u375 u376 u377 u378 u379 u380 u381 u382 u383 u384 u385 u386 u387 u388 u389 u390 u391 u392 u393 u394 u395 u396 u0_h4abh1 u0_h4abbh0 u1_h4abbh0 u2_h4abbh0 u47 u49 u50 u51 u401 u402 u403 u404 u405 u406 u407 u408 u409 u410 u411 u412 u413 u414 u415 u416 u417 u418 u419 u420 u421 u422 u423 u424 u425 u426 u427 u428 u429 u430 u431 u432 u433 u2_h4abh1 u3_h4abh1 u4_h4abh1 u5_h4abh1 i u3_h4abbh0 u4_h4abbh0 u5_h4abbh0 u6_h4abbh0 gk wr u4 u52 u53 u54 u55 u56 u438 u439 u440 u441 u442 u443 u444 u445 u446 u447 u448 u449 u450 u451 u452 u453 u454 u455 u456 u457 u458 u459 u460 u461 u462 u463 u464 u465 u466 u467 u468 u469 u470 u471 u472 u473 u474 u475 u476 u477 u478 u479 u480 u481 u482 u483 u484 u485 u486 u487 u488 u489 u7_h4abbh0 u8_h4abbh0 u9_h4abbh0 u10_h4abbh0 j hg HL hlt
   exact q0_.out
  ·
   rename_i u0_h4abbh1 u1_h4abbh1 u2_h4abbh1 u3_h4abbh1 u4_h4abbh1 u5_h4abbh1 u6_h4abbh1 u7_h4abbh1 u8_h4abbh1 u9_h4abbh1 u10_h4abbh1
   revert A0 c0 l0 A1 c1 l1 w k a b pl xs cnt first low high three solved nd lf best thirteen text hs s r1 r2 rl sev hu28 hu46 hu25 HC0 HC1 HBIG HC U00 w1 w2 Apl cpl LEpl g5 w3 w4 w5 Axs cxs LExs w6 Ays cys LEys w7 w8 w9 w10 w11 w12 w13 w14 w15 And cnd LEnd w16 Ane cne LEne w17 Alf clf LElf w18 Ale cle LEle w19 w20 w21 w22 u0_h4ah1 u163 u164 u165 u166 u167 u168 u169 u170 u171 u172 u173 u174 u175 u176 u177 u178 u179 u180 u181 u182 u183 u184 u185 u186 u187 u188 u189 u190 u191 u192 u193 u194 u195 u196 u197 u198 u199 u200 u201 u202 u203 u204 u205 u206 u207 u208 u209 u210 u211 u212 u213 u214 u215 u216 u217 u218 u219 u220 u221 u222 u223 u224 u225 u226 u227 u228 u229 u230 u231 u232 u233 u234 u235 u236 u237 u238 u239 u240 u241 u242 u243 u244 u245 u246 u247 u248 u249 u250 u251 u252 u253 u254 u255 u256 u257 u258 u259 u260 u261 u262 u263 u264 u265 u266 u267 u268 u269 u270 u271 u272 u273 u274 u275 u276 u277 u278 u279 u280 u281 u282 u283 u284 u285 u286 u287 u288 u289 u290 u291 u292 u293 u294 u295 u296 u297 u298 u299 u300 u301 u302 u303 u304 u305 u306 u307 u308 u309 u310 u311 u312 u313 u314 u315 u316 u317 u318 u319 u320 u0_p3h0 u1_p3h0 u2_p3h0 u3_p3h0 u4_p3h0 HA u5_p3h0 HB1 w23 wc u329 u330 u331 u332 u333 u334 u335 u336 u337 u338 u339 u340 u341 u342 u343 u344 u345 u346 u347 u348 u349 u350 u351 u352 u353 u354 u355 u356 u357 u358 u359 u360 u361 u362 u363 u364 u365 u366 u367 u368 u369 u370 u371 u372 u373 u374 u375 u376 u377 u378 u379 u380 u381 u382 u383 u384 u385 u386 u387 u388 u389 u390 u391 u392 u393 u394 u395 u396 u0_h4abh1 u0_h4abbh1 u1_h4abbh1 u2_h4abbh1 u47 u49 u50 u51 u401 u402 u403 u404 u405 u406 u407 u408 u409 u410 u411 u412 u413 u414 u415 u416 u417 u418 u419 u420 u421 u422 u423 u424 u425 u426 u427 u428 u429 u430 u431 u432 u433 u2_h4abh1 u3_h4abh1 u4_h4abh1 u5_h4abh1 i u3_h4abbh1 u4_h4abbh1 u5_h4abbh1 u6_h4abbh1 gk wr u4 u52 u53 u54 u55 u56 u438 u439 u440 u441 u442 u443 u444 u445 u446 u447 u448 u449 u450 u451 u452 u453 u454 u455 u456 u457 u458 u459 u460 u461 u462 u463 u464 u465 u466 u467 u468 u469 u470 u471 u472 u473 u474 u475 u476 u477 u478 u479 u480 u481 u482 u483 u484 u485 u486 u487 u488 u489 u7_h4abbh1 u8_h4abbh1 u9_h4abbh1 u10_h4abbh1 j hg HL hlt
   exact q1_.out
⟩
theorem guessed_4abba : guessed_4abb.1.1 := by
 intro A0 c0 l0 A1 c1 l1 w k a b pl xs cnt first low high three solved nd lf best thirteen text hs s r1 r2 rl sev hu28 hu46 hu25 HC0 HC1 HBIG HC U00 w1 w2 Apl cpl LEpl g5 w3 w4 w5 Axs cxs LExs w6 Ays cys LEys w7 w8 w9 w10 w11 w12 w13 w14 w15 And cnd LEnd w16 Ane cne LEne w17 Alf clf LElf w18 Ale cle LEle w19 w20 w21 w22 u0_h4ah1 u163 u164 u165 u166 u167 u168 u169 u170 u171 u172 u173 u174 u175 u176 u177 u178 u179 u180 u181 u182 u183 u184 u185 u186 u187 u188 u189 u190 u191 u192 u193 u194 u195 u196 u197 u198 u199 u200 u201 u202 u203 u204 u205 u206 u207 u208 u209 u210 u211 u212 u213 u214 u215 u216 u217 u218 u219 u220 u221 u222 u223 u224 u225 u226 u227 u228 u229 u230 u231 u232 u233 u234 u235 u236 u237 u238 u239 u240 u241 u242 u243 u244 u245 u246 u247 u248 u249 u250 u251 u252 u253 u254 u255 u256 u257 u258 u259 u260 u261 u262 u263 u264 u265 u266 u267 u268 u269 u270 u271 u272 u273 u274 u275 u276 u277 u278 u279 u280 u281 u282 u283 u284 u285 u286 u287 u288 u289 u290 u291 u292 u293 u294 u295 u296 u297 u298 u299 u300 u301 u302 u303 u304 u305 u306 u307 u308 u309 u310 u311 u312 u313 u314 u315 u316 u317 u318 u319 u320 u0_p3h0 u1_p3h0 u2_p3h0 u3_p3h0 u4_p3h0 HA u5_p3h0 HB1 w23 wc u329 u330 u331 u332 u333 u334 u335 u336 u337 u338 u339 u340 u341 u342 u343 u344 u345 u346 u347 u348 u349 u350 u351 u352 u353 u354 u355 u356 u357 u358 u359 u360 u361 u362 u363 u364 u365 u366 u367 u368 u369 u370 u371 u372 u373 u374 u375 u376 u377 u378 u379 u380 u381 u382 u383 u384 u385 u386 u387 u388 u389 u390 u391 u392 u393 u394 u395 u396 u0_h4abh1 u0_h4abbh0 u1_h4abbh0 u2_h4abbh0 u47 u49 u50 u51 u401 u402 u403 u404 u405 u406 u407 u408 u409 u410 u411 u412 u413 u414 u415 u416 u417 u418 u419 u420 u421 u422 u423 u424 u425 u426 u427 u428 u429 u430 u431 u432 u433 u2_h4abh1 u3_h4abh1 u4_h4abh1 u5_h4abh1 i u3_h4abbh0 u4_h4abbh0 u5_h4abbh0 u6_h4abbh0 gk wr u4 u52 u53 u54 u55 u56 u438 u439 u440 u441 u442 u443 u444 u445 u446 u447 u448 u449 u450 u451 u452 u453 u454 u455 u456 u457 u458 u459 u460 u461 u462 u463 u464 u465 u466 u467 u468 u469 u470 u471 u472 u473 u474 u475 u476 u477 u478 u479 u480 u481 u482 u483 u484 u485 u486 u487 u488 u489 u7_h4abbh0 u8_h4abbh0 u9_h4abbh0 u10_h4abbh0 j hg HL hlt
 obtain ⟨d1, d2, dl, still, v1, v2, hd⟩ := HB1.out.drop j hlt
 have HD := am hd
 clear hd
 have q1 : ((j : Int) < (pl.length : Int)) = True := eq_true (by omega)
 have q2 : decide ((j : Int) < (pl.length : Int)) = true := decide_eq_true (by omega)
 have q3 : (j < pl.length) = True := eq_true hlt
 have HJ := am hlt
 have HGJ := am hg
 clear hlt hg
 have hx5_0 := blk_cell HL.out.out.2.2.1 0
 have hx5_1 := blk_cell HL.out.out.2.2.1 1
 have hx5_2 := blk_cell HL.out.out.2.2.1 2
 go_wp2_with fail
 refine (impl_DropClue.calls a b _ _ pl (j : Int) d1 d2 dl true _ HL.out.out.2.2.2.1 LEpl.out HD.out.drop).mono ?_
 rintro e w29 ⟨v, rfl, ho, hb⟩
 obtain ⟨Adl, cdl, rfl⟩ := Kd.R_slice ho
 have LEdl := am (Kd.R_reads' ho).2.1
 have HL_ := am ((HL.out.below hb).row (Kd.R_reads' ho).2.2)
 clear HL
 have HL := HL_
 clear HL_
 clear ho hb
 clear hx5_0 hx5_1 hx5_2
 go_wp2_with (first
  | ((with_reducible refine gate_dst (N := 53) rfl ?_); refine uX (N := 53) (cs := #[.int .i64 0, .int .i64 0, .slice none 0 0]) (t := 28) ?_; intro g53 hg w30 hh hb; have hz53_0 := blk_cell hh 0; have hz53_1 := blk_cell hh 1; have hz53_2 := blk_cell hh 2; have hz53_3 := blk_frozen hh 0; have hz53_4 := blk_frozen hh 1; have hz53_5 := blk_frozen hh 2; have HG53 := am (Nat.le_of_eq hg.symm); have HB := am hb; have HH53 := am hh; clear hg hb hh)
  | ((with_reducible refine gate_store (t := 28) (p := 53) rfl ?_); refine store_event (t := 28) (p := 53) (v := ?vo_w31) (w1 := (((w30.setCell ⟨g53, 0, none⟩ (.int .i64 d1)).setCell ⟨g53, 1, none⟩ (.int .i64 d2)).setCell ⟨g53, 2, none⟩ (.slice Adl dl.length cdl))) ?hg ?ho ?hn ?hr ?_; (case ho => rfl); (case hg => rfl); (case hn => rfl); (case hr => first | (go_simp; done) | (go_simp; rfl)); intro w31 ew_; obtain ⟨hb2, hh2⟩ := box3 (x := .int .i64 d1) (y := .int .i64 d2) (z := .slice Adl dl.length cdl) HG53.out HH53.out HB.out; rw [← ew_] at hb2 hh2; have HL_ := am ((HL.out.below hb2).box hh2); clear HL; have HL := HL_; clear HL_; clear hb2 hh2 HB HH53 HG53 ew_ hz53_0 hz53_1 hz53_2 hz53_3 hz53_4 hz53_5; have hx53_0 := blk_cell HL.out.out.1 0; have hx53_1 := blk_cell HL.out.out.1 1; have hx53_2 := blk_cell HL.out.out.1 2)
  | fail)
 refine (impl_CountSolutions.calls d1 d2 _ _ dl still true _ HL.out.out.2.1 LEdl.out HD.out.cnt1).mono ?_
 rintro e w32 ⟨rfl, hb⟩
 have HL_ := am (HL.out.below hb)
 clear HL
 have HL := HL_
 clear HL_
 clear hb
 clear hx53_0 hx53_1 hx53_2
 go_upto_region 46 with fail
 go_cut [488] from 451 to 488 (fun s488 wx => s488 = .bool false ∧ Aside0 (Held (fun W => Kd.C (Kd.int .i64) W Alf lf.length lf ∧ Kd.C (Kd.int .i64) W And nd.length nd ∧ W.heap[g5]? = some (.cells #[.int .i64 a, .int .i64 b, .slice Apl pl.length cpl] 28 (0, 0)) ∧ Kd.C k46 W Apl pl.length pl ∧ Kd.C (Kd.int .u8) W A1 l1.length l1 ∧ Tb W ∧ Below w.heap.size w W) wx))
 case first =>
  have hj := HJ.out
  have hll := HB1.out.llen
  have hsm := HB1.out.small
  obtain ⟨ad1, e1, hl0⟩ := Kd.at_int HL.out.out.2.2.1 (j : Int) (by omega) (by omega)
  cases e1
  rw [HD.out.w2] at hl0
  obtain ⟨ad2, e2, hl1⟩ := Kd.at_int HL.out.out.2.2.1 ((j : Int) + 1) (by omega) (by omega)
  cases e2
  rw [HD.out.w1] at hl1
  rw [show ((j : Int) + 1).toNat = j + 1 from by omega] at hl1
  simp only [Int.toNat_natCast] at hl0
  rw [show ad1.add (j + 1) = ⟨ad1.block, ad1.off + (j + 1), none⟩ from if_neg (Nat.succ_ne_zero j)] at hl1
  have c0 : (0 ≤ (j : Int)) = True := eq_true (by omega)
  have c1 : ((j : Int) < (lf.length : Int)) = True := eq_true (by omega)
  have c2 : wrap64 ((j : Int) + 1) = (j : Int) + 1 := wr64 (by omega) (by omega)
  have c6 : IntKind.i64.wrap ((j : Int) + 1) = (j : Int) + 1 := by rw [IntKind.wrap_i64]; omega
  have c3 : (0 ≤ (j : Int) + 1) = True := eq_true (by omega)
  have c4 : ((j : Int) + 1 < (lf.length : Int)) = True := eq_true (by omega)
  have c5 : decide (v1 > v2) = false := decide_eq_false (by have := HD.out.le; omega)
  have b0 : decide (best < 0) = false := decide_eq_false (by have := HD.out.b0; omega)
  have b1 : decide (best ≥ (pl.length : Int)) = false := decide_eq_false (by have := HD.out.b1; omega)
  have b2 : ((still == cnt) != (still == cnt)) = false := bne_self_eq_false _
  clear hj hll hsm
  have HK_ := am (fun W W' => @Stay.step (fun W => W.cell? ⟨g5, 0, none⟩ = some (.int .i64 a) ∧ W.cell? ⟨g5, 1, none⟩ = some (.int .i64 b) ∧ W.cell? ⟨g5, 2, none⟩ = some (.slice Apl pl.length cpl) ∧ W.cell? ⟨ad1.block, ad1.off + (j + 1), none⟩ = some (.int .i64 v1) ∧ W.cell? (ad1.add j) = some (.int .i64 v2) ∧ Held (fun W => W.heap[g53]? = some (.cells #[.int .i64 d1, .int .i64 d2, .slice Adl dl.length cdl] 28 (0, 0)) ∧ Kd.C k46 W Adl dl.length dl ∧ Kd.C (Kd.int .i64) W (some ad1) lf.length lf ∧ Kd.C (Kd.int .i64) W And nd.length nd ∧ W.heap[g5]? = some (.cells #[.int .i64 a, .int .i64 b, .slice Apl pl.length cpl] 28 (0, 0)) ∧ Kd.C k46 W Apl pl.length pl ∧ Kd.C (Kd.int .u8) W A1 l1.length l1 ∧ Tb W ∧ Below w.heap.size w W) W) inferInstance W W')
  have HG_ := am (fun W h => (HK_.out W W h (Below.refl _ _)).2.2.2.2.2)
  have HS := am (HK_.out _ _ ⟨blk_cell HL.out.out.2.2.2.2.1 0, blk_cell HL.out.out.2.2.2.2.1 1, blk_cell HL.out.out.2.2.2.2.1 2, hl1, hl0, HL.out⟩ (Below.refl _ _))
  clear HL
  refine wp_region_noPanic ?_
  refine wp_region_held_drew (S := fun W => W.cell? ⟨g5, 0, none⟩ = some (.int .i64 a) ∧ W.cell? ⟨g5, 1, none⟩ = some (.int .i64 b) ∧ W.cell? ⟨g5, 2, none⟩ = some (.slice Apl pl.length cpl) ∧ W.cell? ⟨ad1.block, ad1.off + (j + 1), none⟩ = some (.int .i64 v1) ∧ W.cell? (ad1.add j) = some (.int .i64 v2) ∧ Held (fun W => W.heap[g53]? = some (.cells #[.int .i64 d1, .int .i64 d2, .slice Adl dl.length cdl] 28 (0, 0)) ∧ Kd.C k46 W Adl dl.length dl ∧ Kd.C (Kd.int .i64) W (some ad1) lf.length lf ∧ Kd.C (Kd.int .i64) W And nd.length nd ∧ W.heap[g5]? = some (.cells #[.int .i64 a, .int .i64 b, .slice Apl pl.length cpl] 28 (0, 0)) ∧ Kd.C k46 W Apl pl.length pl ∧ Kd.C (Kd.int .u8) W A1 l1.length l1 ∧ Tb W ∧ Below w.heap.size w W) W) (by kernel_rfl) (by with_reducible exact HK_.out _ _ HS.out ((Below.refl _ _).drew)) (fun hHeld => ?_)
  refine vHtab hgT46 (by kernel_rfl) (fun HT_ => ?_)
  refine vHt 0 (mk 38 1) hHeld ?_
  refine vHt 1 (mk 38 2) hHeld ?_
  refine vHt 2 (mk 38 3) hHeld ?_
  refine vHt 3 (mk 38 4) hHeld ?_
  refine vHt 4 (mk 38 5) hHeld ?_
  refine vHt 5 (mk 38 6) hHeld ?_
  refine vHt 6 (mk 38 7) hHeld ?_
  refine vHt 7 (mk 38 8) hHeld ?_
  refine vHt 8 (mk 38 9) hHeld ?_
  refine vHt 10 (mk2 38 9 10) hHeld ?_
  refine vHt 11 ((mk2 38 9 10).setIfInBounds 11 true) hHeld ?_
  refine vHt 12 (((mk2 38 9 10).setIfInBounds 11 true).setIfInBounds 12 true) hHeld ?_
  refine vHc 9 (mk 38 13) (fun K hK => ?_)
  go_simp
  go_at_call 31
  with_reducible refine (laws_aHas.calls k _ _ nd (j : Int) (still == cnt) _ ?sa LEnd.out HD.out.has).mono ?_
  case sa => exact (HG_.out _ (by with_reducible assumption)).out.2.2.2.1
  rintro e w' ⟨rfl, hd⟩
  have hb := hd.below
  clear hd
  (try (go_wp2_with fail))
  refine hK.out _ _ ?hS (fun hHeld => ?_)
  case hS => with_reducible exact HK_.out _ _ (by assumption) (by assumption)
  clear hK K
  (try simp only [Act.put, List.setIfInBounds_toArray, List.set_cons_zero, List.set_cons_succ])
  refine vHt 13 (mk 38 14) hHeld ?_
  refine vHt 14 (mk 38 15) hHeld ?_
  refine vHt 15 (mk 38 16) hHeld ?_
  refine vHt 16 (mk 38 17) hHeld ?_
  refine vHt 17 (mk 38 18) hHeld ?_
  refine vHt 18 (mk 38 19) hHeld ?_
  refine vHt 19 (mk 38 20) hHeld ?_
  refine vHt 20 (mk 38 21) hHeld ?_
  refine vHt 21 (mk 38 22) hHeld ?_
  refine vHt 22 (mk 38 23) hHeld ?_
  refine vHt 23 (mk 38 24) hHeld ?_
  refine vHt 24 (mk 38 25) hHeld ?_
  refine vHt 25 (mk 38 26) hHeld ?_
  refine vHt 26 (mk 38 27) hHeld ?_
  refine vHt 27 (mk 38 28) hHeld ?_
  refine vHt 28 (mk 38 29) hHeld ?_
  refine vHt 29 (mk 38 30) hHeld ?_
  refine vHt 30 (mk 38 31) hHeld ?_
  refine vHt 31 (mk 38 32) hHeld ?_
  refine vHt 32 (mk 38 33) hHeld ?_
  refine vHt 33 (mk 38 34) hHeld ?_
  refine vHt 34 (mk 38 35) hHeld ?_
  refine vHt 35 (mk 38 36) hHeld ?_
  refine vHt 36 (mk 38 37) hHeld ?_
  refine vHt 37 (mk 38 38) hHeld ?_
  refine vHd ?_
  refine NoPanic.normal ?_
  go_wp2
  go_meet
  exact ⟨rfl, ⟨⟨(HG_.out _ (by with_reducible assumption)).out.2.2.1, (HG_.out _ (by with_reducible assumption)).out.2.2.2.1, (HG_.out _ (by with_reducible assumption)).out.2.2.2.2.1, (HG_.out _ (by with_reducible assumption)).out.2.2.2.2.2.1, (HG_.out _ (by with_reducible assumption)).out.2.2.2.2.2.2.1, (HG_.out _ (by with_reducible assumption)).out.2.2.2.2.2.2.2.1, (HG_.out _ (by with_reducible assumption)).out.2.2.2.2.2.2.2.2⟩⟩⟩
 case rest =>
  obtain ⟨rfl, HL2⟩ := hcut
  clear HL
  have HL := HL2
  clear HL2
  go_wp2_with fail
  go_roundg (pl.length - (j + 1))
  case measure => have := HJ.out; have := HGJ.out; omega
  case rel => exact ⟨j + 1, by first | rfl | (rw [wr64 (by have := HB1.out.small; omega) (by have := HJ.out; have := HB1.out.small; omega)]; rfl), by have := HJ.out; have := HGJ.out; omega, ⟨⟨HL.out.out.1, HL.out.out.2.1, HL.out.out.2.2.1, HL.out.out.2.2.2.1, HL.out.out.2.2.2.2.1, HL.out.out.2.2.2.2.2.1, HL.out.out.2.2.2.2.2.2⟩⟩⟩
theorem guessed_4abbb : guessed_4abb.1.2 := by
 intro A0 c0 l0 A1 c1 l1 w k a b pl xs cnt first low high three solved nd lf best thirteen text hs s r1 r2 rl sev hu28 hu46 hu25 HC0 HC1 HBIG HC U00 w1 w2 Apl cpl LEpl g5 w3 w4 w5 Axs cxs LExs w6 Ays cys LEys w7 w8 w9 w10 w11 w12 w13 w14 w15 And cnd LEnd w16 Ane cne LEne w17 Alf clf LElf w18 Ale cle LEle w19 w20 w21 w22 u0_h4ah1 u163 u164 u165 u166 u167 u168 u169 u170 u171 u172 u173 u174 u175 u176 u177 u178 u179 u180 u181 u182 u183 u184 u185 u186 u187 u188 u189 u190 u191 u192 u193 u194 u195 u196 u197 u198 u199 u200 u201 u202 u203 u204 u205 u206 u207 u208 u209 u210 u211 u212 u213 u214 u215 u216 u217 u218 u219 u220 u221 u222 u223 u224 u225 u226 u227 u228 u229 u230 u231 u232 u233 u234 u235 u236 u237 u238 u239 u240 u241 u242 u243 u244 u245 u246 u247 u248 u249 u250 u251 u252 u253 u254 u255 u256 u257 u258 u259 u260 u261 u262 u263 u264 u265 u266 u267 u268 u269 u270 u271 u272 u273 u274 u275 u276 u277 u278 u279 u280 u281 u282 u283 u284 u285 u286 u287 u288 u289 u290 u291 u292 u293 u294 u295 u296 u297 u298 u299 u300 u301 u302 u303 u304 u305 u306 u307 u308 u309 u310 u311 u312 u313 u314 u315 u316 u317 u318 u319 u320 u0_p3h0 u1_p3h0 u2_p3h0 u3_p3h0 u4_p3h0 HA u5_p3h0 HB1 w23 wc u329 u330 u331 u332 u333 u334 u335 u336 u337 u338 u339 u340 u341 u342 u343 u344 u345 u346 u347 u348 u349 u350 u351 u352 u353 u354 u355 u356 u357 u358 u359 u360 u361 u362 u363 u364 u365 u366 u367 u368 u369 u370 u371 u372 u373 u374 u375 u376 u377 u378 u379 u380 u381 u382 u383 u384 u385 u386 u387 u388 u389 u390 u391 u392 u393 u394 u395 u396 u0_h4abh1 u0_h4abbh1 u1_h4abbh1 u2_h4abbh1 u47 u49 u50 u51 u401 u402 u403 u404 u405 u406 u407 u408 u409 u410 u411 u412 u413 u414 u415 u416 u417 u418 u419 u420 u421 u422 u423 u424 u425 u426 u427 u428 u429 u430 u431 u432 u433 u2_h4abh1 u3_h4abh1 u4_h4abh1 u5_h4abh1 i u3_h4abbh1 u4_h4abbh1 u5_h4abbh1 u6_h4abbh1 gk wr u4 u52 u53 u54 u55 u56 u438 u439 u440 u441 u442 u443 u444 u445 u446 u447 u448 u449 u450 u451 u452 u453 u454 u455 u456 u457 u458 u459 u460 u461 u462 u463 u464 u465 u466 u467 u468 u469 u470 u471 u472 u473 u474 u475 u476 u477 u478 u479 u480 u481 u482 u483 u484 u485 u486 u487 u488 u489 u7_h4abbh1 u8_h4abbh1 u9_h4abbh1 u10_h4abbh1 j hg HL hlt
 have q2 : decide ((j : Int) < (pl.length : Int)) = false := decide_eq_false (by omega)
 have q1 : ((j : Int) < (pl.length : Int)) = False := eq_false (by omega)
 have q0 : (j < pl.length) = False := eq_false hlt
 clear hlt hg
 go_wp2_with fail
 refine (impl_ParsePuzzle.calls k text a b pl true _ HL.out.out.2.2.2.2.2.1 HB1.out.back).mono ?_
 rintro e w33 ⟨v, rfl, ho, hb⟩
 obtain ⟨Abk, cbk, rfl⟩ := Kd.R_slice ho
 have LEbk := am (Kd.R_reads' ho).2.1
 have HL_ := am ((HL.out.below hb).row (Kd.R_reads' ho).2.2)
 clear HL
 have HL := HL_
 clear HL_
 clear ho hb
 go_wp2_with (first
  | ((with_reducible refine gate_dst (N := 57) rfl ?_); refine uX (N := 57) (cs := #[.int .i64 0, .int .i64 0, .slice none 0 0]) (t := 28) ?_; intro g57 hg w34 hh hb; have hz57_0 := blk_cell hh 0; have hz57_1 := blk_cell hh 1; have hz57_2 := blk_cell hh 2; have hz57_3 := blk_frozen hh 0; have hz57_4 := blk_frozen hh 1; have hz57_5 := blk_frozen hh 2; have HG57 := am (Nat.le_of_eq hg.symm); have HB := am hb; have HH57 := am hh; clear hg hb hh)
  | ((with_reducible refine gate_store (t := 28) (p := 57) rfl ?_); refine store_event (t := 28) (p := 57) (v := ?vo_w35) (w1 := (((w34.setCell ⟨g57, 0, none⟩ (.int .i64 a)).setCell ⟨g57, 1, none⟩ (.int .i64 b)).setCell ⟨g57, 2, none⟩ (.slice Abk pl.length cbk))) ?hg ?ho ?hn ?hr ?_; (case ho => rfl); (case hg => rfl); (case hn => rfl); (case hr => first | (go_simp; done) | (go_simp; rfl)); intro w35 ew_; obtain ⟨hb2, hh2⟩ := box3 (x := .int .i64 a) (y := .int .i64 b) (z := .slice Abk pl.length cbk) HG57.out HH57.out HB.out; rw [← ew_] at hb2 hh2; have HL_ := am ((HL.out.below hb2).box hh2); clear HL; have HL := HL_; clear HL_; clear hb2 hh2 HB HH57 HG57 ew_ hz57_0 hz57_1 hz57_2 hz57_3 hz57_4 hz57_5; have hx57_0 := blk_cell HL.out.out.1 0; have hx57_1 := blk_cell HL.out.out.1 1; have hx57_2 := blk_cell HL.out.out.1 2; have hx5_0 := blk_cell HL.out.out.2.2.2.2.1 0; have hx5_1 := blk_cell HL.out.out.2.2.2.2.1 1; have hx5_2 := blk_cell HL.out.out.2.2.2.2.1 2)
  | fail)
 refine (laws_aPuzzle.calls k a b _ _ pl a b _ _ pl true _ HL.out.out.2.1 LEbk.out HL.out.out.2.2.2.2.2.1 LEpl.out HB1.out.same).mono ?_
 rintro e w36 ⟨rfl, hb⟩
 have HL_ := am (HL.out.below hb)
 clear HL
 have HL := HL_
 clear HL_
 clear hb
 clear hx57_0 hx57_1 hx57_2 hx5_0 hx5_1 hx5_2
 go_wp2_with fail
 go_meet
 exact ⟨⟨HL.out.out.2.2.2.2.2.2.1, HL.out.out.2.2.2.2.2.2.2.1, HL.out.out.2.2.2.2.2.2.2.2⟩⟩
theorem guessed_5 : guessed_4.1.2 := by
 intro A0 c0 l0 A1 c1 l1 w k a b pl xs ok cnt first low high three solved nd lf best thirteen text hs s r1 r2 rl sev hu28 hu46 hu25 HC0 HC1 HBIG HA HRB HC U00 w1 w2 Apl cpl LEpl g5 w3 w4 w5 Axs cxs LExs w6 Ays cys LEys w7 w8 w9 w10 w11 w12 w13 w14 w15 And cnd LEnd w16 Ane cne LEne w17 Alf clf LElf w18 Ale cle LEle w19 w20 w21 w22 Ukk u163 u164 u165 u166 u167 u168 u169 u170 u171 u172 u173 u174 u175 u176 u177 u178 u179 u180 u181 u182 u183 u184 u185 u186 u187 u188 u189 u190 u191 u192 u193 u194 u195 u196 u197 u198 u199 u200 u201 u202 u203 u204 u205 u206 u207 u208 u209 u210 u211 u212 u213 u214 u215 u216 u217 u218 u219 u220 u221 u222 u223 u224 u225 u226 u227 u228 u229 u230 u231 u232 u233 u234 u235 u236 u237 u238 u239 u240 u241 u242 u243 u244 u245 u246 u247 u248 u249 u250 u251 u252 u253 u254 u255 u256 u257 u258 u259 u260 u261 u262 u263 u264 u265 u266 u267 u268 u269 u270 u271 u272 u273 u274 u275 u276 u277 u278 u279 u280 u281 u282 u283 u284 u285 u286 u287 u288 u289 u290 u291 u292 u293 u294 u295 u296 u297 u298 u299 u300 u301 u302 u303 u304 u305 u306 u307 u308 u309 u310 u311 u312 u313 u314 u315 u316 u317 u318 u319 u320 Ukl Ukm wc u4 u44 u45 u46 u47 u48 u49 u50 u51 u52 u53 u54 u55 u56 u57 u58 u323 u324 u325 u326 u327 u328 u329 u330 u331 u332 u333 u334 u335 u336 u337 u338 u339 u340 u341 u342 u343 u344 u345 u346 u347 u348 u349 u350 u351 u352 u353 u354 u355 u356 u357 u358 u359 u360 u361 u362 u363 u364 u365 u366 u367 u368 u369 u370 u371 u372 u373 u374 u375 u376 u377 u378 u379 u380 u381 u382 u383 u384 u385 u386 u387 u388 u389 u390 u391 u392 u393 u394 u395 u396 u397 u398 u399 u400 u401 u402 u403 u404 u405 u406 u407 u408 u409 u410 u411 u412 u413 u414 u415 u416 u417 u418 u419 u420 u421 u422 u423 u424 u425 u426 u427 u428 u429 u430 u431 u432 u433 u434 u435 u436 u437 u438 u439 u440 u441 u442 u443 u444 u445 u446 u447 u448 u449 u450 u451 u452 u453 u454 u455 u456 u457 u458 u459 u460 u461 u462 u463 u464 u465 u466 u467 u468 u469 u470 u471 u472 u473 u474 u475 u476 u477 u478 u479 u480 u481 u482 u483 u484 u485 u486 u487 u488 u489 u490 u491 u492 u493 u494 u495 u496 u497 u498 u499 u500 u501 u502 HL
 clear HA HRB
 go_wp2_with fail
 refine (spec_DrawParsePuzzle.calls k A1 c1 l1 s _ HL.out.out.1 HC1.out HC.out.draw).mono ?_
 rintro e w37 ⟨rfl, hb⟩
 have HL_ := am (HL.out.below hb)
 clear HL
 have HL := HL_
 clear HL_
 clear hb
 go_wp2_with fail
 refine (impl_ParsePuzzle.calls k s r1 r2 rl sev _ HL.out.out.2.1 HC.out.pi).mono ?_
 rintro e w38 ⟨v, rfl, ho, hb⟩
 obtain ⟨Arl, crl, rfl⟩ := Kd.R_slice ho
 have LErl := am (Kd.R_reads' ho).2.1
 have HL_ := am ((HL.out.below hb).row (Kd.R_reads' ho).2.2)
 clear HL
 have HL := HL_
 clear HL_
 clear ho hb
 go_wp2_with (first
  | ((with_reducible refine gate_dst (N := 60) rfl ?_); refine uX (N := 60) (cs := #[.int .i64 0, .int .i64 0, .slice none 0 0]) (t := 28) ?_; intro g60 hg w39 hh hb; have hz60_0 := blk_cell hh 0; have hz60_1 := blk_cell hh 1; have hz60_2 := blk_cell hh 2; have hz60_3 := blk_frozen hh 0; have hz60_4 := blk_frozen hh 1; have hz60_5 := blk_frozen hh 2; have HG60 := am (Nat.le_of_eq hg.symm); have HB := am hb; have HH60 := am hh; clear hg hb hh)
  | ((with_reducible refine gate_store (t := 28) (p := 60) rfl ?_); refine store_event (t := 28) (p := 60) (v := ?vo_w40) (w1 := (((w39.setCell ⟨g60, 0, none⟩ (.int .i64 r1)).setCell ⟨g60, 1, none⟩ (.int .i64 r2)).setCell ⟨g60, 2, none⟩ (.slice Arl rl.length crl))) ?hg ?ho ?hn ?hr ?_; (case ho => rfl); (case hg => rfl); (case hn => rfl); (case hr => first | (go_simp; done) | (go_simp; rfl)); intro w40 ew_; obtain ⟨hb2, hh2⟩ := box3 (x := .int .i64 r1) (y := .int .i64 r2) (z := .slice Arl rl.length crl) HG60.out HH60.out HB.out; rw [← ew_] at hb2 hh2; have HL_ := am ((HL.out.below hb2).box hh2); clear HL; have HL := HL_; clear HL_; clear hb2 hh2 HB HH60 HG60 ew_ hz60_0 hz60_1 hz60_2 hz60_3 hz60_4 hz60_5)
  | fail)
 refine (spec_ParsePuzzle.calls k s r1 r2 rl sev _ HC.out.ps).mono ?_
 rintro e w41 ⟨v, rfl, ho, hb⟩
 obtain ⟨Ars, crs, rfl⟩ := Kd.R_slice ho
 have LErs := am (Kd.R_reads' ho).2.1
 have HL_ := am ((HL.out.below hb).row (Kd.R_reads' ho).2.2)
 clear HL
 have HL := HL_
 clear HL_
 clear ho hb
 have n0 : (sev != sev) = false := bne_self_eq_false _
 go_wp2_with (first
  | ((with_reducible refine gate_dst (N := 62) rfl ?_); refine uX (N := 62) (cs := #[.int .i64 0, .int .i64 0, .slice none 0 0]) (t := 28) ?_; intro g62 hg w42 hh hb; have hz62_0 := blk_cell hh 0; have hz62_1 := blk_cell hh 1; have hz62_2 := blk_cell hh 2; have hz62_3 := blk_frozen hh 0; have hz62_4 := blk_frozen hh 1; have hz62_5 := blk_frozen hh 2; have HG62 := am (Nat.le_of_eq hg.symm); have HB := am hb; have HH62 := am hh; clear hg hb hh)
  | ((with_reducible refine gate_store (t := 28) (p := 62) rfl ?_); refine store_event (t := 28) (p := 62) (v := ?vo_w43) (w1 := (((w42.setCell ⟨g62, 0, none⟩ (.int .i64 r1)).setCell ⟨g62, 1, none⟩ (.int .i64 r2)).setCell ⟨g62, 2, none⟩ (.slice Ars rl.length crs))) ?hg ?ho ?hn ?hr ?_; (case ho => rfl); (case hg => rfl); (case hn => rfl); (case hr => first | (go_simp; done) | (go_simp; rfl)); intro w43 ew_; obtain ⟨hb2, hh2⟩ := box3 (x := .int .i64 r1) (y := .int .i64 r2) (z := .slice Ars rl.length crs) HG62.out HH62.out HB.out; rw [← ew_] at hb2 hh2; have HL_ := am ((HL.out.below hb2).box hh2); clear HL; have HL := HL_; clear HL_; clear hb2 hh2 HB HH62 HG62 ew_ hz62_0 hz62_1 hz62_2 hz62_3 hz62_4 hz62_5; have hx60_0 := blk_cell HL.out.out.2.2.1 0; have hx60_1 := blk_cell HL.out.out.2.2.1 1; have hx60_2 := blk_cell HL.out.out.2.2.1 2; have hx62_0 := blk_cell HL.out.out.1 0; have hx62_1 := blk_cell HL.out.out.1 1; have hx62_2 := blk_cell HL.out.out.1 2)
  | fail)
 refine (laws_aPuzzle.calls k r1 r2 _ _ rl r1 r2 _ _ rl true _ HL.out.out.2.2.2.1 LErl.out HL.out.out.2.1 LErs.out HC.out.eq).mono ?_
 rintro e w44 ⟨rfl, hb⟩
 have HL_ := am (HL.out.below hb)
 clear HL
 have HL := HL_
 clear HL_
 clear hb
 clear hx60_0 hx60_1 hx60_2 hx62_0 hx62_1 hx62_2
 cases sev
 ·go_wp2_with fail
  go_ret
  exact ⟨rfl, HL.out.out.2.2.2.2.2.2⟩
 ·
  have hx60_0 := blk_cell HL.out.out.2.2.1 0
  have hx60_1 := blk_cell HL.out.out.2.2.1 1
  have hx60_2 := blk_cell HL.out.out.2.2.1 2
  go_wp2_with fail
  refine (impl_PuzzleText.calls k r1 r2 _ _ rl s true _ HL.out.out.2.2.2.1 LErl.out HL.out.out.2.2.2.2.2.1 (HC.out.again rfl)).mono ?_
  rintro e w45 ⟨rfl, hb⟩
  have HL_ := am (HL.out.below hb)
  clear HL
  have HL := HL_
  clear HL_
  clear hb
  clear hx60_0 hx60_1 hx60_2
  have m0 : (s == s) = true := ba_beq s
  go_wp2_with fail
  go_ret
  exact ⟨rfl, HL.out.out.2.2.2.2.2.2⟩
theorem hg_walk (Q : HgPure) (A0 : Option Addr) (c0 : Nat) (l0 : List Int) (A1 : Option Addr) (c1 : Nat) (l1 : List Int) (w : World) (hr0 : Kd.C (Kd.int .u8) w A0 l0.length l0) (hc0 : l0.length ≤ c0) (hr1 : Kd.C (Kd.int .u8) w A1 l1.length l1) (hc1 : l1.length ≤ c1)
  (hw0 : l0.length ≤ maxLen) (hw1 : ∀ x ∈ l0, (Lit.int .u8 x).wf = true) (hw2 : l1.length ≤ maxLen) (hw3 : ∀ x ∈ l1, (Lit.int .u8 x).wf = true) (hT : Tb w) : Calls Tryz.prog 3 #[.slice A0 l0.length c0, .slice A1 l1.length c1] w fun e w' => e = .returned (.bool true) ∧ Below w.heap.size w w' := by
 rcases Q l0 l1 hw0 hw1 hw2 hw3 with hbig | ⟨big, k, a, b, pl, xs, ok, cnt, first, low, high, three, solved, nd, lf, best, thirteen, text, ra, hs, rb, s, r1, r2, rl, sev, rc⟩
 ·have HC0 := Aside0.mk hc0
  have HC1 := Aside0.mk hc1
  have HR0 := Aside0.mk hr0
  have HR1 := Aside0.mk hr1
  have HBIG := Aside0.mk hbig
  clear hc0 hc1 hr0 hr1 hbig hw0 hw1 hw2 hw3 Q hT
  go_enter Tryz.func3, Tryz.ntmps3
  go_wp2_with fail
  refine (laws_big.calls A0 c0 l0 A1 c1 l1 true _ HR0.out HC0.out HR1.out HC1.out HBIG.out).mono ?_
  rintro e w1 ⟨rfl, hd⟩
  have HB := Aside0.mk hd.below
  clear hd
  go_wp2
  go_ret
  exact ⟨rfl, HB.out⟩
 ·exact (guessed_1.2 ⟨guessed_2.2 ⟨guessed_3.2 ⟨guessed_3a.2 ⟨guessed_3aa.2 ⟨guessed_3aaa.2 ⟨guessed_3aaaa⟩⟩⟩⟩ ⟨guessed_3b.2 ⟨guessed_3ba.2 ⟨guessed_3baa.2 ⟨guessed_3baaa.2 ⟨guessed_3baaaa⟩ ⟨guessed_3baaab⟩⟩ ⟨guessed_3baab.2 ⟨guessed_3baaba⟩ ⟨guessed_3baabb⟩⟩⟩⟩⟩ ⟨guessed_4.2 ⟨guessed_4a.2 ⟨guessed_4aa⟩ ⟨guessed_4ab.2 ⟨guessed_4aba⟩ ⟨guessed_4abb.2 ⟨guessed_4abba⟩ ⟨guessed_4abbb⟩⟩⟩⟩ ⟨guessed_5⟩⟩⟩⟩) A0 c0 l0 A1 c1 l1 w hr0 hc0 hr1 hc1 hT k a b pl xs ok cnt first low high three solved nd lf best thirteen text big ra hs rb s r1 r2 rl sev rc
def laws_FnHousesGuessed.Pure : Prop := HgPure
theorem laws_FnHousesGuessed.walk (Q : laws_FnHousesGuessed.Pure) (A0 : Option Addr) (c0 : Nat) (l0 : List Int) (A1 : Option Addr) (c1 : Nat) (l1 : List Int) (w : World) (hr0 : Kd.C (Kd.int .u8) w A0 l0.length l0) (hc0 : l0.length ≤ c0) (hr1 : Kd.C (Kd.int .u8) w A1 l1.length l1) (hc1 : l1.length ≤ c1)
  (hw0 : l0.length ≤ maxLen) (hw1 : ∀ x ∈ l0, (Lit.int .u8 x).wf = true) (hw2 : l1.length ≤ maxLen) (hw3 : ∀ x ∈ l1, (Lit.int .u8 x).wf = true) (hT : Tb w) :
  Calls Tryz.prog 3 #[.slice A0 l0.length c0, .slice A1 l1.length c1] w fun e w' => e = .returned (.bool true) ∧ Below w.heap.size w w' :=
 hg_walk Q A0 c0 l0 A1 c1 l1 w hr0 hc0 hr1 hc1 hw0 hw1 hw2 hw3 hT
end Go.Proofs.YtijcdpnnjiamjaaGreatDoor.G
end
section
namespace Go.Proofs.YtijcdpnnjiamjaaGreatDoor.Pz
open Go.RowKit Go.Proofs.YtijcdpnnjiamjaaGreatDoor.G Go.Proofs.YtijcdpnnjiamjaaGreatDoorW.PrintWords
def inB (a b c : Int) : Bool := decide (b ≤ a) && decide (a ≤ c)
theorem within_val (a b c : Int) : impl_within.f a b c = some (inB a b c) := by
 unfold impl_within.f inB
 by_cases h : a ≥ b
 ·rw [if_pos h]; simp [show b ≤ a from h]
 ·rw [if_neg h]; simp [show ¬ b ≤ a from h]
theorem l1In_val (a b c : Int) : spec_l1In.f a b c = some (inB a b c) := within_val a b c
def street (k p : Int) : Bool := inB k 0 2 && inB p 1 1000
def hid (k p : Int) : Bool := street k p && decide (p ≤ 20)
theorem isStreet_val (k p : Int) : impl_IsStreet.f k p = some (street k p) := by
 unfold impl_IsStreet.f street
 rw [within_val, within_val]
 cases inB k 0 2 <;> rfl
theorem hidden_val (k p : Int) : impl_isHiddenStreet.f k p = some (hid k p) := by
 unfold impl_isHiddenStreet.f hid
 rw [isStreet_val]
 cases street k p <;> rfl
theorem pzStreet_val (k p : Int) : spec_pzStreet.f k p = some (hid k p) := hidden_val k p
def clueB (k a b : Int) : Bool :=
 if k = 0 then decide (a = 0) && inB b 0 1 else if k = 1 then decide (a = 0) && inB b 0 20 else if k = 2 then inB a 2 9 && inB b 0 1 else
 if k = 3 then decide (a = 0) && inB b 1 13 else if k = 4 then inB a 1 40 && inB b 0 1 else if k = 5 then decide (a = 0) && inB b 0 40 else false
theorem isClue_val (k a b : Int) : impl_isClue.f k a b = some (clueB k a b) := by
 unfold impl_isClue.f clueB
 simp only [within_val, Option.bind_some]
 repeat' split
 all_goals simp_all
theorem pzClue_val (k a b : Int) : spec_pzClue.f k a b = some (clueB k a b) := isClue_val k a b
end Go.Proofs.YtijcdpnnjiamjaaGreatDoor.Pz
end
section
namespace Go.Proofs.YtijcdpnnjiamjaaGreatDoor.Pz
open Go.RowKit Go.Proofs.YtijcdpnnjiamjaaGreatDoor.G Go.Proofs.YtijcdpnnjiamjaaGreatDoorW.PrintWords Go.Proofs.YtijcdpnnjiamjaaGreatDoorW.PrintLast Go.Proofs.YtijcdpnnjiamjaaGreatDoorW.PrintMore
theorem w64 {x : Int} (h0 : -9223372036854775808 ≤ x) (h1 : x ≤ 9223372036854775807) : wrap64 x = x := by unfold wrap64; omega
end Go.Proofs.YtijcdpnnjiamjaaGreatDoor.Pz
end
section
namespace Go.Proofs.YtijcdpnnjiamjaaGreatDoor.Pz
open Go.RowKit Go.Proofs.YtijcdpnnjiamjaaGreatDoor.G Go.Proofs.YtijcdpnnjiamjaaGreatDoorW.PrintWords Go.Proofs.YtijcdpnnjiamjaaGreatDoorW.PrintLast Go.Proofs.YtijcdpnnjiamjaaGreatDoorW.PrintMore
theorem tdiv_nn {x y : Int} (h : 0 ≤ x) : Int.tdiv x y = x / y := Int.tdiv_eq_ediv_of_nonneg h
theorem tmod_nn {x y : Int} (h : 0 ≤ x) : Int.tmod x y = x % y := Int.tmod_eq_emod_of_nonneg h
def houses (a b : Int) : Int := if a = 0 then b else 2 * b
theorem hid_facts {a b : Int} (h : hid a b = true) : (a = 0 ∨ a = 1 ∨ a = 2) ∧ 1 ≤ b ∧ b ≤ 20 := by
 unfold hid street inB at h
 simp at h
 omega
theorem houses_le {a b : Int} (h : hid a b = true) : 1 ≤ houses a b ∧ houses a b ≤ 40 := by
 have := hid_facts h
 unfold houses
 split <;> omega
theorem housesOf_val {a b : Int} (h : hid a b = true) : impl_housesOf.f a b = some (houses a b) := by
 have := hid_facts h
 unfold impl_housesOf.f houses
 split
 ·rfl
 ·rw [w64 (by omega) (by omega)]
theorem nuHouses_val {a b : Int} (h : hid a b = true) : spec_nuHouses.f a b = some (houses a b) := housesOf_val h
theorem plot_eq (a b h : Int) (h1 : 1 ≤ h) (h2 : h ≤ 1000000) : spec_nuPlot.f a b h = impl_plotOf.f a b h := by
 unfold spec_nuPlot.f impl_plotOf.f
 split
 ·have e : wrap64 (1 - Int.tmod h 2) = Int.tmod (wrap64 (h - 1)) 2 := by
   rw [w64 (x := h - 1) (by omega) (by omega), tmod_nn (by omega), tmod_nn (by omega), w64 (by omega) (by omega)]
   omega
  rw [e]
 ·rfl
theorem value_eq (a b k n h : Int) (c : Int) (h1 : 1 ≤ h) (h2 : h ≤ 1000000) : spec_pzValue.f a b k n h = impl_toldBy.f a b k n c h := by
 unfold spec_pzValue.f impl_toldBy.f
 rw [plot_eq a b h h1 h2]
 rfl
theorem fits_eq (a b k n c h : Int) (h1 : 1 ≤ h) (h2 : h ≤ 1000000) : spec_pzFits.f a b k n c h = impl_doesFit.f a b k n c h := by
 unfold spec_pzFits.f impl_doesFit.f
 rw [value_eq a b k n h c h1 h2]
theorem plotOf_some (a b h : Int) : ∃ p, impl_plotOf.f a b h = some p := by
 unfold impl_plotOf.f
 split
 ·exact ⟨_, rfl⟩
 ·split <;> exact ⟨_, rfl⟩
theorem numberAt_some (a b s p : Int) : ∃ v, impl_numberAt.f a b s p = some v := by
 unfold impl_numberAt.f
 split
 ·exact ⟨_, rfl⟩
 ·split <;> exact ⟨_, rfl⟩
theorem oneIf_some (b : Bool) : ∃ v, impl_oneIf.f b = some v := by
 unfold impl_oneIf.f
 split <;> exact ⟨_, rfl⟩
theorem toldBy_some (a b k n c h : Int) (hn : k = 2 → n ≠ 0) : ∃ v, impl_toldBy.f a b k n c h = some v := by
 unfold impl_toldBy.f
 obtain ⟨p, hp⟩ := plotOf_some a b h
 rw [hp]
 simp only [Option.bind_some]
 split
 ·exact ⟨_, rfl⟩
 split
 ·exact ⟨_, rfl⟩
 split
 ·rename_i h2
  rw [if_neg (hn h2)]
  obtain ⟨v, hv⟩ := oneIf_some (Int.tmod h n == 0)
  rw [hv]
  exact ⟨_, rfl⟩
 split
 ·exact ⟨_, rfl⟩
 split
 ·obtain ⟨v, hv⟩ := oneIf_some (decide (h > n))
  rw [hv]
  exact ⟨_, rfl⟩
 split
 ·exact ⟨_, rfl⟩
 ·obtain ⟨v, hv⟩ := numberAt_some a b (wrap64 (1 - p.1)) p.2
  rw [hv]
  exact ⟨_, rfl⟩
theorem clueB_two {k n c : Int} (h : clueB k n c = true) : k = 2 → n ≠ 0 := by
 rintro rfl rfl
 simp [clueB, inB] at h
def fitB (a b : Int) (x : S46) (h : Int) : Bool := (impl_doesFit.f a b x.f0 x.f1 x.f2 h).getD false
def okC (x : S46) : Bool := clueB x.f0 x.f1 x.f2
theorem clueOk_eq (x : S46) : clueOk x = okC x := by
 have := isClue_some x
 rw [isClue_val] at this
 exact (Option.some.inj this).symm
theorem doesFit_val (a b : Int) (x : S46) (h : Int) (hx : okC x = true) : impl_doesFit.f a b x.f0 x.f1 x.f2 h = some (fitB a b x h) := by
 obtain ⟨v, hv⟩ := toldBy_some a b x.f0 x.f1 x.f2 h (clueB_two hx)
 unfold fitB impl_doesFit.f
 rw [hv]
 rfl
def allFit (a b : Int) (l : List S46) (h : Int) : Bool := l.all fun x => fitB a b x h
theorem fitsAll_val (a b : Int) (l : List S46) (h : Int) (hl : l.all okC = true) : fitsAll a b l h = some (allFit a b l h) := by
 unfold fitsAll allFit
 have h1 : (l.all fun x => (impl_doesFit.f a b x.f0 x.f1 x.f2 h).isSome) = true := by
  rw [List.all_eq_true]
  intro x hx
  rw [doesFit_val a b x h (List.all_eq_true.1 hl x hx)]
  rfl
 rw [if_pos h1]
 congr 1
 have e : (fun x : S46 => !((impl_doesFit.f a b x.f0 x.f1 x.f2 h).getD false)) = fun x => !(fitB a b x h) := rfl
 rw [e, List.not_any_eq_all_not]
 simp
def solB (a b : Int) (l : List S46) : Nat → Int → List Int
 | 0, _ => []
 | m + 1, h => if allFit a b l h = true then h :: solB a b l m (h + 1) else solB a b l m (h + 1)
theorem solB_len (a b : Int) (l : List S46) : ∀ (m : Nat) (h : Int), (solB a b l m h).length ≤ m
 | 0, _ => by simp [solB]
 | m + 1, h => by
  have := solB_len a b l m (h + 1)
  unfold solB
  split <;> simp <;> omega
theorem solGo_val (a b : Int) (l : List S46) (hl : l.all okC = true) : ∀ (m : Nat) (acc : List Int) (h : Int), acc.length + m ≤ 1000 → solGo a b l m acc h = some (acc ++ solB a b l m h) := by
 intro m
 induction m with
 | zero => intro acc h _; simp [solGo, solB]
 | succ m ih =>
  intro acc h hm
  unfold solGo solB
  rw [fitsAll_val a b l h hl]
  simp only [Option.bind_some]
  by_cases hf : allFit a b l h = true
  ·rw [if_pos hf, if_pos hf, if_pos (by omega), ih (acc ++ [h]) (h + 1) (by simp; omega)]
   simp
  ·rw [if_neg hf, if_neg hf, ih acc (h + 1) (by omega)]
def sols (a b : Int) (l : List S46) : List Int := solB a b l (houses a b).toNat 1
theorem sols_len {a b : Int} (l : List S46) (h : hid a b = true) : (sols a b l).length ≤ 40 := by
 have := houses_le h
 have := solB_len a b l (houses a b).toNat 1
 unfold sols
 omega
theorem solutions_val {a b : Int} {l : List S46} (h : hid a b = true) (hl : l.all okC = true) : impl_solutions.f a b l = some (sols a b l) := by
 have := houses_le h
 unfold impl_solutions.f
 rw [housesOf_val h]
 simp only [Option.bind_some]
 rw [if_pos (by omega), solGo_val a b l hl _ _ _ (by simp; omega)]
 simp [sols]
theorem pzAll_l1 (a b : Int) (l acc : List _) (h : Int) (hl : l.all okC = true) (h1 : 1 ≤ h) (h2 : h ≤ 1000) (hn : l.length ≤ 1000) (ha : acc.length ≤ 1000) : ∀ (d i k : Nat) (f : Bool), i + d = l.length →
  spec_pzAll.l1 (k + d + 1) l acc h f l (l.length : Int) (i : Int) a b = if (f && (l.drop i).all fun x => fitB a b x h) = true then spec_pzAll.l0 k l (acc ++ [h]) (h + 1) a b else spec_pzAll.l0 k l acc (h + 1) a b := by
 intro d
 induction d with
 | zero =>
  intro i k f hi
  obtain rfl : i = l.length := by omega
  have hL : acc.length < 17592186044416 := by omega
  rw [Nat.add_zero, spec_pzAll.l1, if_neg (by omega), w64 (by omega) (by omega), if_pos hL]
  simp
 | succ d ih =>
  intro i k f hi
  rw [show k + (d + 1) + 1 = (k + d + 1) + 1 from rfl, spec_pzAll.l1]
  have hx : l[i]? = some l[i] := List.getElem?_eq_getElem (by omega)
  have hrd : rd_T46 l (i : Int) = l[i] := by simp [rd_T46, List.getD, hx]
  have hok : okC l[i] = true := List.all_eq_true.1 hl _ (List.getElem_mem _)
  rw [if_pos (by omega), if_pos (by omega), if_pos (by omega), hrd, fits_eq _ _ _ _ _ _ h1 (by omega), doesFit_val a b l[i] h hok, Option.bind_some, w64 (by omega) (by omega), show ((i : Int) + 1) = ((i + 1 : Nat) : Int) by omega, List.drop_eq_getElem_cons (by omega), List.all_cons]
  cases f with
  | true =>
   rw [if_pos rfl, ih (i + 1) k _ (by omega)]
   simp
  | false =>
   rw [if_neg (by decide), ih (i + 1) k _ (by omega)]
   simp
theorem pzAll_l0 (a b : Int) (l : List S46) (hh : hid a b = true) (hl : l.all okC = true) (hn : l.length ≤ 1000) : ∀ (m : Nat) (acc : List Int) (h : Int) (k : Nat), 1 ≤ h → h + m = houses a b + 1 → acc.length + m ≤ 100 → m * (l.length + 2) < k →
  spec_pzAll.l0 k l acc h a b = some (acc ++ solB a b l m h) := by
 have hb := houses_le hh
 intro m
 induction m with
 | zero =>
  intro acc h k h1 hm _ hk
  obtain ⟨k, rfl⟩ : ∃ m, k = m + 1 := ⟨k - 1, by omega⟩
  simp only [spec_pzAll.l0, nuHouses_val hh, Option.bind_some]
  rw [if_neg (by omega)]
  simp [solB]
 | succ m ih =>
  intro acc h k h1 hm ha hk
  rw [Nat.succ_mul] at hk
  obtain ⟨k, rfl⟩ : ∃ q, k = (q + l.length + 1) + 1 := ⟨k - (l.length + 2), by omega⟩
  simp only [spec_pzAll.l0, nuHouses_val hh, Option.bind_some]
  rw [if_pos (by omega)]
  have := pzAll_l1 a b l acc h hl h1 (by omega) hn (by omega) l.length 0 k true (by omega)
  simp only [List.drop_zero, Bool.true_and] at this
  rw [show ((0 : Nat) : Int) = 0 from rfl] at this
  rw [this]
  unfold solB
  change (if allFit a b l h = true then _ else _) = _
  by_cases hf : allFit a b l h = true
  ·rw [if_pos hf, if_pos hf, ih (acc ++ [h]) (h + 1) k (by omega) (by omega) (by simp; omega) (by omega)]
   simp
  ·rw [if_neg hf, if_neg hf, ih acc (h + 1) k (by omega) (by omega) (by omega) (by omega)]
theorem pzAll_ev {a b : Int} {l : List S46} (hh : hid a b = true) (hl : l.all okC = true) (hn : l.length ≤ 1000) : Ev (fun k => spec_pzAll.f k a b l) (sols a b l) := by
 have hb := houses_le hh
 refine Ev.of (k := (houses a b).toNat * (l.length + 2) + 1) (fun k => spec_pzAll.mono a b l k) ?_
 unfold spec_pzAll.f
 rw [pzAll_l0 a b l hh hl hn (houses a b).toNat [] 1 _ (by omega) (by omega) (by simp; omega) (by omega)]
 rfl
def good (a b : Int) (l : List S46) : Bool := hid a b && (decide (l.length ≤ 6) && l.all okC)
theorem isPuzzle_val (a b : Int) (l : List S46) : impl_IsPuzzle.f a b l = some (good a b l) := by
 unfold impl_IsPuzzle.f good
 rw [hidden_val]
 simp only [Option.bind_some]
 cases hid a b with
 | false => rfl
 | true =>
  rw [if_pos rfl]
  by_cases h : l.length ≤ 6
  ·rw [if_pos (by omega)]
   have e : (fun x => !clueOk x) = fun x : S46 => !(okC x) := by funext x; rw [clueOk_eq]
   rw [e, List.not_any_eq_all_not]
   simp [h]
  ·rw [if_neg (by omega)]
   simp [h]
theorem pzGood_l0 (l : List S46) (hn : l.length ≤ 1000) : ∀ (d i k : Nat), i + d = l.length → d < k → spec_pzGood.l0 k l (l.length : Int) (i : Int) = some ((l.drop i).all okC) := by
 intro d
 induction d with
 | zero =>
  intro i k hi hk
  obtain ⟨k, rfl⟩ : ∃ m, k = m + 1 := ⟨k - 1, by omega⟩
  obtain rfl : i = l.length := by omega
  simp only [spec_pzGood.l0]
  rw [if_neg (by omega)]
  simp
 | succ d ih =>
  intro i k hi hk
  obtain ⟨k, rfl⟩ : ∃ m, k = m + 1 := ⟨k - 1, by omega⟩
  simp only [spec_pzGood.l0]
  have hx : l[i]? = some l[i] := List.getElem?_eq_getElem (by omega)
  have hrd : rd_T46 l (i : Int) = l[i] := by simp [rd_T46, List.getD, hx]
  rw [if_pos (by omega), if_pos (by omega), if_pos (by omega), hrd, pzClue_val, w64 (by omega) (by omega), show ((i : Int) + 1) = ((i + 1 : Nat) : Int) by omega, List.drop_eq_getElem_cons (by omega), List.all_cons]
  simp only [Option.bind_some]
  have e : clueB l[i].f0 l[i].f1 l[i].f2 = okC l[i] := rfl
  rw [e]
  cases okC l[i] with
  | true => rw [if_pos rfl, ih (i + 1) k (by omega) (by omega)]; simp
  | false => rw [if_neg (by decide)]; simp
theorem pzGood_ev (a b : Int) (l : List S46) : Ev (fun k => spec_pzGood.f k a b l) (good a b l) := by
 refine Ev.of (k := 1002) (fun k => spec_pzGood.mono a b l k) ?_
 unfold spec_pzGood.f good
 rw [pzStreet_val]
 simp only [Option.bind_some]
 cases hid a b with
 | false =>
  rw [if_neg (by decide)]
  simp [spec_pzGood.j0]
 | true =>
  rw [if_pos rfl]
  by_cases h : l.length ≤ 6
  ·have h6 : decide ((l.length : Int) > 6) = false := by simp; omega
   have := pzGood_l0 l (by omega) l.length 0 1001 (by omega) (by omega)
   rw [show ((0 : Nat) : Int) = 0 from rfl] at this
   simp [h6, spec_pzGood.j0, h, this]
  ·have h6 : decide ((l.length : Int) > 6) = true := by simp; omega
   simp [h6, spec_pzGood.j0, h]
theorem good_facts {a b : Int} {l : List S46} (h : good a b l = true) : hid a b = true ∧ l.length ≤ 6 ∧ l.all okC = true := by
 unfold good at h
 simp only [Bool.and_eq_true, decide_eq_true_eq] at h
 exact h
end Go.Proofs.YtijcdpnnjiamjaaGreatDoor.Pz
end
section
namespace Go.Proofs.YtijcdpnnjiamjaaGreatDoor.Pz
open Go.RowKit Go.Proofs.YtijcdpnnjiamjaaGreatDoor.G Go.Proofs.YtijcdpnnjiamjaaGreatDoorW.PrintWords Go.Proofs.YtijcdpnnjiamjaaGreatDoorW.PrintLast Go.Proofs.YtijcdpnnjiamjaaGreatDoorW.PrintMore
theorem both {ρ : Type} (a b : Int) (l : List S46) (f : List Int → Option ρ) (no : ρ) (hf : good a b l = true → ∃ r, f (sols a b l) = some r) :
  ∃ v, Ev (fun k => (spec_pzGood.f k a b l).bind fun t => if t = true then ((spec_pzAll.f k a b l).bind f) else some no) v ∧ ((impl_IsPuzzle.f a b l).bind fun t => if t = true then ((impl_solutions.f a b l).bind f) else some no) = some v := by
 obtain ⟨K1, h1⟩ := pzGood_ev a b l
 have h1 : ∀ k, K1 ≤ k → spec_pzGood.f k a b l = some (good a b l) := h1
 rw [isPuzzle_val]
 cases hg : good a b l with
 | false => exact ⟨no, ⟨K1, fun k hk => by simp only [h1 k hk, hg, Option.bind_some]; rfl⟩, rfl⟩
 | true =>
  obtain ⟨g1, g2, g3⟩ := good_facts hg
  obtain ⟨K2, h2⟩ := pzAll_ev g1 g3 (l := l) (by omega)
  have h2 : ∀ k, K2 ≤ k → spec_pzAll.f k a b l = some (sols a b l) := h2
  obtain ⟨r, hr⟩ := hf hg
  refine ⟨r, ⟨K1 + K2, fun k hk => ?_⟩, ?_⟩
  ·simp only [h1 k (by omega), hg, Option.bind_some, if_true, h2 k (by omega), hr]
  ·simp only [solutions_val g1 g3, Option.bind_some, if_true, hr]
theorem Solutions_both (a b : Int) (l : List S46) : ∃ v, Ev (fun k => spec_Solutions.f k a b l) v ∧ impl_Solutions.f a b l = some v ∧ v.1.length ≤ 40 := by
 obtain ⟨v, h1, h2⟩ := both a b l (fun t => some (t, true)) (([] : List Int), false) (fun _ => ⟨_, rfl⟩)
 refine ⟨v, h1, h2, ?_⟩
 rw [isPuzzle_val, Option.bind_some] at h2
 cases hg : good a b l with
 | false => rw [hg, if_neg (by decide)] at h2; rw [← Option.some.inj h2]; simp
 | true =>
  obtain ⟨g1, g2, g3⟩ := good_facts hg
  rw [hg, if_pos rfl, solutions_val g1 g3, Option.bind_some] at h2
  rw [← Option.some.inj h2]
  exact sols_len l g1
theorem CountSolutions_both (a b : Int) (l : List S46) : ∃ v, Ev (fun k => spec_CountSolutions.f k a b l) v ∧ impl_CountSolutions.f a b l = some v :=
 both a b l (fun t => some ((t.length : Int), true)) (0, false) (fun _ => ⟨_, rfl⟩)
theorem IsSolved_both (a b : Int) (l : List S46) : ∃ v, Ev (fun k => spec_IsSolved.f k a b l) v ∧ impl_IsSolved.f a b l = some v := by
 obtain ⟨v, h1, h2⟩ := both a b l (fun t => some (((t.length : Int) == 1), true)) (false, false) (fun _ => ⟨_, rfl⟩)
 refine ⟨v, ?_, h2⟩
 refine Ev.congr (fun k => ?_) h1
 unfold spec_IsSolved.f spec_pzSolved.f
 congr 1
 funext t
 split
 ·rw [Option.bind_assoc]; rfl
 ·rfl
theorem FirstSolution_both (a b : Int) (l : List S46) : ∃ v, Ev (fun k => spec_FirstSolution.f k a b l) v ∧ impl_FirstSolution.f a b l = some v :=
 both a b l (fun t => if (t.length : Int) = 0 then some (0, false) else if 0 < (t.length : Int) then some (rd t 0, true) else none) (0, false) (fun _ => by
  by_cases h : ((sols a b l).length : Int) = 0
  ·exact ⟨_, if_pos h⟩
  ·exact ⟨_, by rw [if_neg h, if_pos (by omega)]⟩)
theorem RangeOfSolutions_both (a b : Int) (l : List S46) : ∃ v, Ev (fun k => spec_RangeOfSolutions.f k a b l) v ∧ impl_RangeOfSolutions.f a b l = some v :=
 both a b l (fun t => if (t.length : Int) = 0 then some (0, 0, false) else if 0 < (t.length : Int) then (if 0 ≤ wrap64 ((t.length : Int) - 1) then (if wrap64 ((t.length : Int) - 1) < (t.length : Int) then some (rd t 0, rd t (wrap64 ((t.length : Int) - 1)), true) else none) else none) else none) (0, 0, false) (fun hg => by
  have := sols_len l (good_facts hg).1
  by_cases h : ((sols a b l).length : Int) = 0
  ·exact ⟨_, if_pos h⟩
  ·exact ⟨_, by rw [if_neg h, if_pos (by omega), w64 (by omega) (by omega), if_pos (by omega), if_pos (by omega)]⟩)
end Go.Proofs.YtijcdpnnjiamjaaGreatDoor.Pz
end
section
namespace Go.Proofs.YtijcdpnnjiamjaaGreatDoor.Pz
open Go.RowKit Go.Proofs.YtijcdpnnjiamjaaGreatDoor.G Go.Proofs.YtijcdpnnjiamjaaGreatDoorW.PrintWords Go.Proofs.YtijcdpnnjiamjaaGreatDoorW.PrintLast Go.Proofs.YtijcdpnnjiamjaaGreatDoorW.PrintMore
theorem pzAll_k {a b : Int} {l : List S46} (hh : hid a b = true) (hl : l.all okC = true) (hn : l.length ≤ 1000) {k : Nat} (hk : 50000 ≤ k) : spec_pzAll.f k a b l = some (sols a b l) := by
 have hb := houses_le hh
 have h0 : spec_pzAll.f 40081 a b l = some (sols a b l) := by
  unfold spec_pzAll.f
  have hmul : (houses a b).toNat * (l.length + 2) ≤ 40 * 1002 := Nat.mul_le_mul (by omega) (by omega)
  rw [pzAll_l0 a b l hh hl hn (houses a b).toNat [] 1 _ (by omega) (by omega) (by simp; omega) (by omega)]
  rfl
 exact at_rounds (fun k => spec_pzAll.mono a b l k) (by omega) h0
theorem pzGood_k (a b : Int) (l : List S46) {k : Nat} (hk : 50000 ≤ k) : spec_pzGood.f k a b l = some (good a b l) := by
 obtain ⟨K, h⟩ := pzGood_ev a b l
 have h : ∀ k, K ≤ k → spec_pzGood.f k a b l = some (good a b l) := h
 have h0 : spec_pzGood.f 1002 a b l = some (good a b l) := by
  have hs : ∃ r, spec_pzGood.f 1002 a b l = some r := by
   unfold spec_pzGood.f
   rw [pzStreet_val, Option.bind_some]
   cases hid a b with
   | false => exact ⟨_, by rw [if_neg (by decide), spec_pzGood.j0, if_pos rfl]⟩
   | true =>
    rw [if_pos rfl]
    by_cases h : l.length ≤ 6
    ·have h6 : decide ((l.length : Int) > 6) = false := by simp; omega
     have := pzGood_l0 l (by omega) l.length 0 1001 (by omega) (by omega)
     rw [show ((0 : Nat) : Int) = 0 from rfl] at this
     exact ⟨_, by rw [h6, spec_pzGood.j0, if_neg (by decide)]; exact this⟩
    ·have h6 : decide ((l.length : Int) > 6) = true := by simp; omega
     exact ⟨_, by rw [h6, spec_pzGood.j0, if_pos rfl]⟩
  obtain ⟨r, hr⟩ := hs
  have h1 := at_rounds (fun k => spec_pzGood.mono a b l k) (Nat.le_max_left 1002 K) hr
  rw [h _ (Nat.le_max_right 1002 K)] at h1
  rw [hr, h1]
 exact at_rounds (fun k => spec_pzGood.mono a b l k) (by omega) h0
theorem one_of (l : List S46) (i : Nat) (h : i < l.length) : (l.take (i + 1)).drop i = [l[i]] := by
 rw [List.take_succ_eq_append_getElem h, List.drop_left' (by rw [List.length_take]; omega)]
theorem all_sub {l m : List S46} (h : l.all okC = true) (hm : ∀ x ∈ m, x ∈ l) : m.all okC = true := by
 rw [List.all_eq_true] at h ⊢
 exact fun x hx => h x (hm x hx)
def cnt (a b : Int) (l : List S46) : Int := ((sols a b l).length : Int)
def bg (a b : Int) (l : List S46) : Nat → Nat → Int → Int → Int
 | 0, _, x, _ => x
 | d + 1, i, x, y => if cnt a b ((l.take (i + 1)).drop i) < y then bg a b l d (i + 1) (i : Int) (cnt a b ((l.take (i + 1)).drop i)) else bg a b l d (i + 1) x y
theorem best_spec (a b : Int) (l : List S46) (hg : good a b l = true) : ∀ (d i k : Nat) (x y : Int), i + d = l.length → 1 ≤ i → d + 60000 < k → spec_BestClue.l0 k x y (l.length : Int) (i : Int) a b l = some (bg a b l d i x y, true) := by
 obtain ⟨g1, g2, g3⟩ := good_facts hg
 intro d
 induction d with
 | zero =>
  intro i k x y hi h1 hk
  obtain ⟨k, rfl⟩ : ∃ m, k = m + 1 := ⟨k - 1, by omega⟩
  rw [spec_BestClue.l0, if_neg (by omega)]
  rfl
 | succ d ih =>
  intro i k x y hi h1 hk
  obtain ⟨k, rfl⟩ : ∃ m, k = m + 1 := ⟨k - 1, by omega⟩
  have hs := pzAll_k (k := k) g1 (all_sub g3 (m := (l.take (i + 1)).drop i) (fun x hx => List.mem_of_mem_take (List.mem_of_mem_drop hx))) (by simp; omega) (by omega)
  rw [spec_BestClue.l0, if_pos (by omega), if_pos (by omega), w64 (by omega) (by omega), if_pos (by omega), if_pos (by omega), show ((i : Int) + 1).toNat = i + 1 by omega, Int.toNat_natCast, hs, Option.bind_some, if_neg (by omega), show ((i : Int) + 1) = ((i + 1 : Nat) : Int) by omega, ih (i + 1) k _ _ (by omega) (by omega) (by omega), ih (i + 1) k _ _ (by omega) (by omega) (by omega)]
  conv => rhs; unfold bg
  show (if cnt a b ((l.take (i + 1)).drop i) < y then _ else _) = _
  split <;> rfl
theorem best_impl (a b : Int) (l : List S46) (hg : good a b l = true) : ∀ (d i k : Nat) (x y : Int), i + d = l.length → 0 ≤ x → d + 60000 < k → impl_BestClue.l0 k x y (l.length : Int) (i : Int) a b l = some (bg a b l d i x y, true) := by
 obtain ⟨g1, g2, g3⟩ := good_facts hg
 intro d
 induction d with
 | zero =>
  intro i k x y hi h1 hk
  obtain ⟨k, rfl⟩ : ∃ m, k = m + 1 := ⟨k - 1, by omega⟩
  rw [impl_BestClue.l0, if_neg (by omega)]
  rfl
 | succ d ih =>
  intro i k x y hi h1 hk
  obtain ⟨k, rfl⟩ : ∃ m, k = m + 1 := ⟨k - 1, by omega⟩
  have hs := solutions_val (l := (l.take (i + 1)).drop i) g1 (all_sub g3 (fun x hx => List.mem_of_mem_take (List.mem_of_mem_drop hx)))
  rw [impl_BestClue.l0, if_pos (by omega), if_pos (by omega), w64 (by omega) (by omega), if_pos (by omega), if_pos (by omega), show ((i : Int) + 1).toNat = i + 1 by omega, Int.toNat_natCast, hs, Option.bind_some, if_neg (by omega), show ((i : Int) + 1) = ((i + 1 : Nat) : Int) by omega, ih (i + 1) k _ _ (by omega) (by omega) (by omega), ih (i + 1) k _ _ (by omega) (by omega) (by omega)]
  conv => rhs; unfold bg
  show (if cnt a b ((l.take (i + 1)).drop i) < y then _ else _) = _
  split <;> rfl
theorem BestClue_both (a b : Int) (l : List S46) : ∃ v, Ev (fun k => spec_BestClue.f k a b l) v ∧ Ev (fun k => impl_BestClue.f k a b l) v := by
 cases hg : good a b l with
 | false =>
  refine ⟨(0, false), ⟨60000, fun k hk => ?_⟩, ⟨60000, fun k hk => ?_⟩⟩
  ·obtain ⟨k, rfl⟩ : ∃ m, k = m + 1 := ⟨k - 1, by omega⟩
   show spec_BestClue.f (k + 1) a b l = _
   rw [spec_BestClue.f, pzGood_k a b l (by omega), hg, Option.bind_some, if_neg (by decide), spec_BestClue.j0, if_pos rfl]
  ·obtain ⟨k, rfl⟩ : ∃ m, k = m + 1 := ⟨k - 1, by omega⟩
   show impl_BestClue.f (k + 1) a b l = _
   rw [impl_BestClue.f, isPuzzle_val, hg, Option.bind_some, if_neg (by decide), impl_BestClue.j0, if_pos rfl]
 | true =>
  obtain ⟨g1, g2, g3⟩ := good_facts hg
  by_cases h0 : l.length = 0
  ·have h0' : (((l.length : Int) == 0) = true) := by simp [h0]
   refine ⟨(0, false), ⟨60000, fun k hk => ?_⟩, ⟨60000, fun k hk => ?_⟩⟩
   ·obtain ⟨k, rfl⟩ : ∃ m, k = m + 1 := ⟨k - 1, by omega⟩
    show spec_BestClue.f (k + 1) a b l = _
    rw [spec_BestClue.f, pzGood_k a b l (by omega), hg, Option.bind_some, if_pos rfl, h0', spec_BestClue.j0, if_pos rfl]
   ·obtain ⟨k, rfl⟩ : ∃ m, k = m + 1 := ⟨k - 1, by omega⟩
    show impl_BestClue.f (k + 1) a b l = _
    rw [impl_BestClue.f, isPuzzle_val, hg, Option.bind_some, if_pos rfl, h0', impl_BestClue.j0, if_pos rfl]
  ·have h0' : (((l.length : Int) == 0) = false) := by simpa using h0
   have hsub : ((l.take 1).drop 0).all okC = true := all_sub g3 (fun x hx => List.mem_of_mem_take (List.mem_of_mem_drop hx))
   refine ⟨(bg a b l (l.length - 1) 1 0 (cnt a b ((l.take 1).drop 0)), true), ⟨70000, fun k hk => ?_⟩, ⟨70000, fun k hk => ?_⟩⟩
   ·obtain ⟨k, rfl⟩ : ∃ m, k = m + 1 + 1 := ⟨k - 2, by omega⟩
    show spec_BestClue.f (k + 1 + 1) a b l = _
    have hs := pzAll_k (k := k) g1 hsub (by simp; omega) (by omega)
    have := best_spec a b l hg (l.length - 1) 1 k 0 (cnt a b ((l.take 1).drop 0)) (by omega) (by omega) (by omega)
    rw [spec_BestClue.f, pzGood_k a b l (by omega), hg, Option.bind_some, if_pos rfl, h0', spec_BestClue.j0, if_neg (by decide), spec_BestClue.l0, if_pos (by omega), if_pos (by omega), w64 (by omega) (by omega), if_pos (by omega), if_pos (by omega), show ((0 : Int) + 1).toNat = 1 from rfl, show (0 : Int).toNat = 0 from rfl, hs, Option.bind_some, if_pos rfl]
    exact this
   ·obtain ⟨k, rfl⟩ : ∃ m, k = m + 1 + 1 := ⟨k - 2, by omega⟩
    show impl_BestClue.f (k + 1 + 1) a b l = _
    have hs := solutions_val g1 hsub
    have := best_impl a b l hg (l.length - 1) 1 k 0 (cnt a b ((l.take 1).drop 0)) (by omega) (by omega) (by omega)
    rw [impl_BestClue.f, isPuzzle_val, hg, Option.bind_some, if_pos rfl, h0', impl_BestClue.j0, if_neg (by decide), impl_BestClue.l0, if_pos (by omega), if_pos (by omega), w64 (by omega) (by omega), if_pos (by omega), if_pos (by omega), show ((0 : Int) + 1).toNat = 1 from rfl, show (0 : Int).toNat = 0 from rfl, hs, Option.bind_some, if_pos (by omega)]
    exact this
def lg (a b : Int) (l : List S46) : Nat → Nat → List Int → List Int
 | 0, _, acc => acc
 | d + 1, i, acc => lg a b l d (i + 1) (acc ++ [cnt a b (l.take i)])
theorem lg_len (a b : Int) (l : List S46) : ∀ (d i : Nat) (acc : List Int), (lg a b l d i acc).length = acc.length + d
 | 0, _, _ => rfl
 | d + 1, i, acc => by rw [lg, lg_len a b l d]; simp; omega
theorem left_spec (a b : Int) (l : List S46) (hg : good a b l = true) : ∀ (d i k : Nat) (acc : List Int), i + d = l.length + 1 → acc.length ≤ i → d + 60000 < k → spec_LeftByClues.l0 k acc (i : Int) a b l = some (lg a b l d i acc, true) := by
 obtain ⟨g1, g2, g3⟩ := good_facts hg
 intro d
 induction d with
 | zero =>
  intro i k acc hi ha hk
  obtain ⟨k, rfl⟩ : ∃ m, k = m + 1 := ⟨k - 1, by omega⟩
  rw [spec_LeftByClues.l0, if_neg (by omega)]
  rfl
 | succ d ih =>
  intro i k acc hi ha hk
  obtain ⟨k, rfl⟩ : ∃ m, k = m + 1 := ⟨k - 1, by omega⟩
  have hs := pzAll_k (k := k) g1 (all_sub g3 (m := l.take i) (fun x hx => List.mem_of_mem_take hx)) (by simp; omega) (by omega)
  rw [spec_LeftByClues.l0, if_pos (by omega), if_pos (by omega), Int.toNat_natCast, hs, Option.bind_some, if_pos (by omega), w64 (by omega) (by omega), show ((i : Int) + 1) = ((i + 1 : Nat) : Int) by omega, ih (i + 1) k _ (by omega) (by simp; omega) (by omega)]
  rfl
theorem left_impl (a b : Int) (l : List S46) (hg : good a b l = true) : ∀ (d i k : Nat) (acc : List Int), i + d = l.length + 1 → acc.length ≤ i → d + 60000 < k → impl_LeftByClues.l0 k acc ((l.length : Int) + 1) (i : Int) a b l = some (lg a b l d i acc, true) := by
 obtain ⟨g1, g2, g3⟩ := good_facts hg
 intro d
 induction d with
 | zero =>
  intro i k acc hi ha hk
  obtain ⟨k, rfl⟩ : ∃ m, k = m + 1 := ⟨k - 1, by omega⟩
  rw [impl_LeftByClues.l0, if_neg (by omega)]
  rfl
 | succ d ih =>
  intro i k acc hi ha hk
  obtain ⟨k, rfl⟩ : ∃ m, k = m + 1 := ⟨k - 1, by omega⟩
  have hs := solutions_val (l := l.take i) g1 (all_sub g3 (fun x hx => List.mem_of_mem_take hx))
  rw [impl_LeftByClues.l0, if_pos (by omega), if_pos (by omega), if_pos (by omega), Int.toNat_natCast, hs, Option.bind_some, if_pos (by omega), w64 (by omega) (by omega), show ((i : Int) + 1) = ((i + 1 : Nat) : Int) by omega, ih (i + 1) k _ (by omega) (by simp; omega) (by omega)]
  rfl
theorem LeftByClues_both (a b : Int) (l : List S46) : ∃ v, Ev (fun k => spec_LeftByClues.f k a b l) v ∧ Ev (fun k => impl_LeftByClues.f k a b l) v ∧ v.1.length ≤ 40 := by
 cases hg : good a b l with
 | false =>
  refine ⟨([], false), ⟨60000, fun k hk => ?_⟩, ⟨60000, fun k hk => ?_⟩, by simp⟩
  ·show spec_LeftByClues.f k a b l = _
   rw [spec_LeftByClues.f, pzGood_k a b l (by omega), hg, Option.bind_some, if_neg (by decide)]
  ·show impl_LeftByClues.f k a b l = _
   rw [impl_LeftByClues.f, isPuzzle_val, hg, Option.bind_some, if_neg (by decide)]
 | true =>
  obtain ⟨g1, g2, g3⟩ := good_facts hg
  refine ⟨(lg a b l (l.length + 1) 0 [], true), ⟨70000, fun k hk => ?_⟩, ⟨70000, fun k hk => ?_⟩, by rw [lg_len]; simp; omega⟩
  ·show spec_LeftByClues.f k a b l = _
   have := left_spec a b l hg (l.length + 1) 0 k [] (by omega) (by simp) (by omega)
   rw [spec_LeftByClues.f, pzGood_k a b l (by omega), hg, Option.bind_some, if_pos rfl]
   exact this
  ·show impl_LeftByClues.f k a b l = _
   have := left_impl a b l hg (l.length + 1) 0 k [] (by omega) (by simp) (by omega)
   rw [impl_LeftByClues.f, isPuzzle_val, hg, Option.bind_some, if_pos rfl, w64 (by omega) (by omega)]
   exact this
theorem pzWithout_val (l : List S46) (i : Nat) (h : i < l.length) (hn : l.length ≤ 1000) : spec_pzWithout.f l (i : Int) = some (l.eraseIdx i) := by
 unfold spec_pzWithout.f
 rw [Option.bind_some, if_pos (by omega), if_pos (by omega), Option.bind_some, if_pos (by simp; omega), Option.bind_some, w64 (by omega) (by omega), if_pos (by omega), if_pos (by omega), Option.bind_some, if_pos (by simp; omega), show ((i : Int) + 1).toNat = i + 1 by omega, Int.toNat_natCast, List.eraseIdx_eq_take_drop_succ]
 rfl
theorem withoutClue_val (l : List S46) (i : Nat) (h : i < l.length) (hn : l.length ≤ 1000) : impl_withoutClue.f l (i : Int) = some (l.eraseIdx i) := by
 unfold impl_withoutClue.f
 rw [if_pos (by omega), Int.toNat_natCast]
theorem erase_ok {l : List S46} (h : l.all okC = true) (i : Nat) : (l.eraseIdx i).all okC = true := all_sub h (fun _ hx => List.mem_of_mem_eraseIdx hx)
def ng (a b : Int) (l : List S46) : Nat → Nat → List Int → List Int
 | 0, _, acc => acc
 | d + 1, i, acc => if cnt a b (l.eraseIdx i) = cnt a b l then ng a b l d (i + 1) (acc ++ [(i : Int)]) else ng a b l d (i + 1) acc
theorem ng_len (a b : Int) (l : List S46) : ∀ (d i : Nat) (acc : List Int), (ng a b l d i acc).length ≤ acc.length + d
 | 0, _, _ => Nat.le_refl _
 | d + 1, i, acc => by
  unfold ng
  split
  ·have := ng_len a b l d (i + 1) (acc ++ [(i : Int)])
   simp at this
   omega
  ·have := ng_len a b l d (i + 1) acc
   omega
theorem need_spec (a b : Int) (l : List S46) (hg : good a b l = true) : ∀ (d i k : Nat) (acc : List Int), i + d = l.length → acc.length ≤ i → d + 60000 < k → spec_NeedlessClues.l0 k acc (cnt a b l) (l.length : Int) (i : Int) a b l = some (ng a b l d i acc, true) := by
 obtain ⟨g1, g2, g3⟩ := good_facts hg
 intro d
 induction d with
 | zero =>
  intro i k acc hi ha hk
  obtain ⟨k, rfl⟩ : ∃ m, k = m + 1 := ⟨k - 1, by omega⟩
  rw [spec_NeedlessClues.l0, if_neg (by omega)]
  rfl
 | succ d ih =>
  intro i k acc hi ha hk
  obtain ⟨k, rfl⟩ : ∃ m, k = m + 1 := ⟨k - 1, by omega⟩
  have hs := pzAll_k (k := k) g1 (erase_ok g3 i) (by rw [List.length_eraseIdx]; split <;> omega) (by omega)
  rw [spec_NeedlessClues.l0, if_pos (by omega), pzWithout_val l i (by omega) (by omega), Option.bind_some, hs, Option.bind_some, if_pos (show acc.length < 17592186044416 by omega), w64 (by omega) (by omega), show ((i : Int) + 1) = ((i + 1 : Nat) : Int) by omega, ih (i + 1) k _ (by omega) (by simp; omega) (by omega), ih (i + 1) k _ (by omega) (by omega) (by omega)]
  conv => rhs; unfold ng
  show (if cnt a b (l.eraseIdx i) = cnt a b l then _ else _) = _
  split <;> rfl
theorem need_impl (a b : Int) (l : List S46) (hg : good a b l = true) : ∀ (d i k : Nat) (acc : List Int), i + d = l.length → acc.length ≤ i → d + 60000 < k → impl_NeedlessClues.l0 k (cnt a b l) acc (l.length : Int) (i : Int) a b l = some (ng a b l d i acc, true) := by
 obtain ⟨g1, g2, g3⟩ := good_facts hg
 intro d
 induction d with
 | zero =>
  intro i k acc hi ha hk
  obtain ⟨k, rfl⟩ : ∃ m, k = m + 1 := ⟨k - 1, by omega⟩
  rw [impl_NeedlessClues.l0, if_neg (by omega)]
  rfl
 | succ d ih =>
  intro i k acc hi ha hk
  obtain ⟨k, rfl⟩ : ∃ m, k = m + 1 := ⟨k - 1, by omega⟩
  have hs := solutions_val g1 (erase_ok g3 i)
  rw [impl_NeedlessClues.l0, if_pos (by omega), withoutClue_val l i (by omega) (by omega), Option.bind_some, hs, Option.bind_some, if_pos (show acc.length < 17592186044416 by omega), w64 (by omega) (by omega), show ((i : Int) + 1) = ((i + 1 : Nat) : Int) by omega, ih (i + 1) k _ (by omega) (by simp; omega) (by omega), ih (i + 1) k _ (by omega) (by omega) (by omega)]
  conv => rhs; unfold ng
  show (if cnt a b (l.eraseIdx i) = cnt a b l then _ else _) = _
  split <;> rfl
theorem NeedlessClues_both (a b : Int) (l : List S46) : ∃ v, Ev (fun k => spec_NeedlessClues.f k a b l) v ∧ Ev (fun k => impl_NeedlessClues.f k a b l) v ∧ v.1.length ≤ 40 := by
 cases hg : good a b l with
 | false =>
  refine ⟨([], false), ⟨60000, fun k hk => ?_⟩, ⟨60000, fun k hk => ?_⟩, by simp⟩
  ·show spec_NeedlessClues.f k a b l = _
   rw [spec_NeedlessClues.f, pzGood_k a b l (by omega), hg, Option.bind_some, if_neg (by decide)]
  ·show impl_NeedlessClues.f k a b l = _
   rw [impl_NeedlessClues.f, isPuzzle_val, hg, Option.bind_some, if_neg (by decide)]
 | true =>
  obtain ⟨g1, g2, g3⟩ := good_facts hg
  refine ⟨(ng a b l l.length 0 [], true), ⟨70000, fun k hk => ?_⟩, ⟨70000, fun k hk => ?_⟩, by have := ng_len a b l l.length 0 []; simp at this; show (ng a b l l.length 0 []).length ≤ 40; omega⟩
  ·show spec_NeedlessClues.f k a b l = _
   have := need_spec a b l hg l.length 0 k [] (by omega) (by simp) (by omega)
   rw [spec_NeedlessClues.f, pzGood_k a b l (by omega), hg, Option.bind_some, if_pos rfl, pzAll_k g1 g3 (by omega) (by omega), Option.bind_some]
   exact this
  ·show impl_NeedlessClues.f k a b l = _
   have := need_impl a b l hg l.length 0 k [] (by omega) (by simp) (by omega)
   rw [impl_NeedlessClues.f, isPuzzle_val, hg, Option.bind_some, if_pos rfl, solutions_val g1 g3, Option.bind_some]
   exact this
def hg_ (a b : Int) : Nat → List S46 → Nat → List S46
 | 0, l, _ => l
 | d + 1, l, i => if cnt a b (l.eraseIdx i) = 1 then hg_ a b d (l.eraseIdx i) i else hg_ a b d l (i + 1)
end Go.Proofs.YtijcdpnnjiamjaaGreatDoor.Pz
end
section
namespace Go.Proofs.YtijcdpnnjiamjaaGreatDoor.Pz
open Go.RowKit Go.Proofs.YtijcdpnnjiamjaaGreatDoor.G Go.Proofs.YtijcdpnnjiamjaaGreatDoorW.PrintWords Go.Proofs.YtijcdpnnjiamjaaGreatDoorW.PrintLast Go.Proofs.YtijcdpnnjiamjaaGreatDoorW.PrintMore
def nx (z : Int) : Int := Int.tmod (wrap64 ((wrap64 (z * 233)) + 1871)) 10007
theorem nx_range {z : Int} (h0 : 0 ≤ z) (h1 : z ≤ 10006) : 0 ≤ nx z ∧ nx z ≤ 10006 := by
 unfold nx
 rw [w64 (x := z * 233) (by omega) (by omega), w64 (by omega) (by omega), tmod_nn (by omega)]
 omega
theorem pzNext_val (z : Int) : spec_pzNext.f z = some (nx z) := by
 unfold spec_pzNext.f nx
 rw [Int.mul_comm]
def mkA (kind z : Int) : Int := if kind = 2 then wrap64 ((Int.tmod z 8) + 2) else if kind = 4 then wrap64 ((Int.tmod z 40) + 1) else 0
def mkB (a b kind n h : Int) : Int := (impl_toldBy.f a b kind n 0 h).getD 0
def mkC (a b h z : Int) : S46 := ⟨Int.tmod (nx z) 6, mkA (Int.tmod (nx z) 6) (nx (nx z)), mkB a b (Int.tmod (nx z) 6) (mkA (Int.tmod (nx z) 6) (nx (nx z))) h⟩
def mkL (a b h : Int) : Nat → Int → List S46 → List S46
 | 0, _, acc => acc
 | d + 1, z, acc => mkL a b h d (nx (nx z)) (acc ++ [mkC a b h z])
theorem mkL_len (a b h : Int) : ∀ (d : Nat) (z : Int) (acc : List S46), (mkL a b h d z acc).length = acc.length + d := by
 intro d
 induction d with
 | zero => intro z acc; rfl
 | succ d ih =>
  intro z acc
  simp only [mkL]
  rw [ih]
  simp
  omega
theorem told_mk (a b kind z h : Int) (hz : 0 ≤ z) : impl_toldBy.f a b kind (mkA kind z) 0 h = some (mkB a b kind (mkA kind z) h) := by
 obtain ⟨v, hv⟩ := toldBy_some a b kind (mkA kind z) 0 h (fun e => by
  unfold mkA
  rw [if_pos e, tmod_nn hz, w64 (by omega) (by omega)]
  omega)
 unfold mkB
 rw [hv]
 rfl
theorem pzOf_val (a b h z : Int) (h1 : 1 ≤ h) (h2 : h ≤ 1000000) (hz : 0 ≤ nx (nx z)) : spec_pzOf.f a b (Int.tmod (nx z) 6) (nx (nx z)) h = some ((mkC a b h z).f0, (mkC a b h z).f1, (mkC a b h z).f2) := by
 have ht := told_mk a b (Int.tmod (nx z) 6) (nx (nx z)) h hz
 rw [← value_eq a b (Int.tmod (nx z) 6) (mkA (Int.tmod (nx z) 6) (nx (nx z))) h 0 h1 h2] at ht
 unfold spec_pzOf.f
 by_cases c2 : Int.tmod (nx z) 6 = 2
 ·have hA : mkA (Int.tmod (nx z) 6) (nx (nx z)) = wrap64 ((Int.tmod (nx (nx z)) 8) + 2) := by rw [mkA, if_pos c2]
  rw [hA] at ht
  rw [if_pos c2, ht, Option.bind_some]
  simp only [mkC, hA]
 ·by_cases c4 : Int.tmod (nx z) 6 = 4
  ·have hA : mkA (Int.tmod (nx z) 6) (nx (nx z)) = wrap64 ((Int.tmod (nx (nx z)) 40) + 1) := by rw [mkA, if_neg c2, if_pos c4]
   rw [hA] at ht
   rw [if_neg c2, if_pos c4, ht, Option.bind_some]
   simp only [mkC, hA]
  ·have hA : mkA (Int.tmod (nx z) 6) (nx (nx z)) = 0 := by rw [mkA, if_neg c2, if_neg c4]
   rw [hA] at ht
   rw [if_neg c2, if_neg c4, ht, Option.bind_some]
   simp only [mkC, hA]
theorem make_spec (a b h : Int) (h1 : 1 ≤ h) (h2 : h ≤ 1000000) : ∀ (d k : Nat) (z : Int) (acc : List S46), d ≤ 6 → d < k → 0 ≤ z → z ≤ 10006 → acc.length ≤ 100 - d →
  spec_MakePuzzle.l0 k h (d : Int) z a b a b acc = some (a, b, mkL a b h d z acc, true) := by
 intro d
 induction d with
 | zero =>
  intro k z acc hd hk h0 h1 ha
  obtain ⟨k, rfl⟩ : ∃ m, k = m + 1 := ⟨k - 1, by omega⟩
  simp only [spec_MakePuzzle.l0]
  rw [if_neg (by omega)]
  rfl
 | succ d ih =>
  intro k z acc hd hk h0 hz ha
  obtain ⟨k, rfl⟩ : ∃ m, k = m + 1 := ⟨k - 1, by omega⟩
  obtain ⟨r0, r1⟩ := nx_range h0 hz
  obtain ⟨s0, s1⟩ := nx_range r0 r1
  simp only [spec_MakePuzzle.l0]
  rw [if_pos (by omega), pzNext_val, Option.bind_some, pzNext_val, Option.bind_some, pzOf_val a b h z h1 h2 s0, Option.bind_some, if_pos (by omega), w64 (by omega) (by omega), show (((d + 1 : Nat) : Int) - 1) = (d : Int) by omega]
  exact ih k (nx (nx z)) (acc ++ [mkC a b h z]) (by omega) (by omega) s0 s1 (by simp; omega)
end Go.Proofs.YtijcdpnnjiamjaaGreatDoor.Pz
end
section
namespace Go.Proofs.YtijcdpnnjiamjaaGreatDoor.Pz
open Go.RowKit Go.Proofs.YtijcdpnnjiamjaaGreatDoor.G Go.Proofs.YtijcdpnnjiamjaaGreatDoorW.PrintWords Go.Proofs.YtijcdpnnjiamjaaGreatDoorW.PrintLast Go.Proofs.YtijcdpnnjiamjaaGreatDoorW.PrintMore
theorem aPuzzle_l0 (a b : Int) (l : List S46) (hn : l.length ≤ 1000000) : ∀ (d i k : Nat), i + d = l.length → d < k → laws_aPuzzle.l0 k (l.length : Int) (i : Int) a b l a b l = some true := by
 intro d
 induction d with
 | zero =>
  intro i k hi hk
  obtain ⟨k, rfl⟩ : ∃ m, k = m + 1 := ⟨k - 1, by omega⟩
  rw [laws_aPuzzle.l0, if_neg (by omega)]
 | succ d ih =>
  intro i k hi hk
  obtain ⟨k, rfl⟩ : ∃ m, k = m + 1 := ⟨k - 1, by omega⟩
  rw [laws_aPuzzle.l0, if_pos (by omega), if_pos (by omega), if_pos (by omega), if_pos (by omega), if_neg (by simp), w64 (by omega) (by omega), show ((i : Int) + 1) = ((i + 1 : Nat) : Int) by omega]
  exact ih (i + 1) k (by omega) (by omega)
theorem aPuzzle_ev (a b : Int) (l : List S46) (hn : l.length ≤ 1000000) : Ev (fun k => laws_aPuzzle.f k a b l a b l) true := by
 refine ⟨l.length + 5, fun k hk => ?_⟩
 obtain ⟨k, rfl⟩ : ∃ m, k = m + 1 := ⟨k - 1, by omega⟩
 have := aPuzzle_l0 a b l hn l.length 0 k (by omega) (by omega)
 show laws_aPuzzle.f (k + 1) a b l a b l = some true
 rw [laws_aPuzzle.f, if_neg (by simp), laws_aPuzzle.j0, if_neg (by simp)]
 exact this
theorem aSame_l0 (l : List Int) (hn : l.length ≤ 1000000) : ∀ (d i k : Nat), i + d = l.length → d < k → laws_aSame.l0 k l l (l.length : Int) (i : Int) = some true := by
 intro d
 induction d with
 | zero =>
  intro i k hi hk
  obtain ⟨k, rfl⟩ : ∃ m, k = m + 1 := ⟨k - 1, by omega⟩
  rw [laws_aSame.l0, if_neg (by omega)]
 | succ d ih =>
  intro i k hi hk
  obtain ⟨k, rfl⟩ : ∃ m, k = m + 1 := ⟨k - 1, by omega⟩
  rw [laws_aSame.l0, if_pos (by omega), if_pos (by omega), if_pos (by omega), if_pos (by omega), if_pos rfl, w64 (by omega) (by omega), show ((i : Int) + 1) = ((i + 1 : Nat) : Int) by omega]
  exact ih (i + 1) k (by omega) (by omega)
theorem isHouse_val {a b h : Int} (hh : hid a b = true) (h1 : 1 ≤ h) (h2 : h ≤ houses a b) : impl_isHouse.f a b h = some true := by
 have hs : street a b = true := by
  unfold hid at hh
  simp at hh
  exact hh.1
 have : inB h 1 (houses a b) = true := by simp [inB]; omega
 simp [impl_isHouse.f, isStreet_val, hs, housesOf_val hh, within_val, this]
def pl (a b h : Int) : Int × Int := if a = 1 then ((h - 1) % 2, (h - 1) / 2) else if h > b then (1, 2 * b - h) else (0, h - 1)
theorem plotOf_val {a b h : Int} (hh : hid a b = true) (h1 : 1 ≤ h) (h2 : h ≤ houses a b) : impl_plotOf.f a b h = some (pl a b h) := by
 have hf := hid_facts hh
 have hl := houses_le hh
 unfold impl_plotOf.f pl
 split
 ·rw [w64 (x := h - 1) (by omega) (by omega), tmod_nn (by omega), tdiv_nn (by omega), w64 (by omega) (by omega)]
 ·split
  ·rw [w64 (x := 2 * b) (by omega) (by omega), w64 (by omega) (by omega)]
  ·rw [w64 (by omega) (by omega)]
theorem pl_range {a b h : Int} (hh : hid a b = true) (h1 : 1 ≤ h) (h2 : h ≤ houses a b) : 0 ≤ (pl a b h).1 ∧ (pl a b h).1 ≤ 1 ∧ 0 ≤ (pl a b h).2 ∧ (pl a b h).2 ≤ b - 1 := by
 have hf := hid_facts hh
 unfold houses at h2
 unfold pl
 split
 ·rw [if_neg (by omega)] at h2
  dsimp only
  omega
 ·split
  ·split at h2
   ·omega
   ·dsimp only
    omega
  ·dsimp only
   omega
def ov (a b h : Int) : Int := if a = 1 then 2 * (pl a b h).2 + 1 + (1 - (pl a b h).1) else if (pl a b h).1 = 0 then 2 * b - (pl a b h).2 else (pl a b h).2 + 1
theorem over_val {a b h : Int} (hh : hid a b = true) (h1 : 1 ≤ h) (h2 : h ≤ houses a b) : impl_numberAt.f a b (wrap64 (1 - (pl a b h).1)) (pl a b h).2 = some (ov a b h) ∧ 0 ≤ ov a b h ∧ ov a b h ≤ 40 := by
 have hf := hid_facts hh
 have hr := pl_range hh h1 h2
 generalize hp : pl a b h = p at hr
 obtain ⟨u, v⟩ := p
 dsimp only at hr ⊢
 rw [w64 (x := 1 - u) (by omega) (by omega)]
 unfold impl_numberAt.f ov
 rw [hp]
 dsimp only
 split
 ·rw [w64 (x := 2 * v) (by omega) (by omega), w64 (x := 2 * v + 1) (by omega) (by omega), w64 (by omega) (by omega)]
  exact ⟨rfl, by omega, by omega⟩
 ·by_cases hu : u = 0
  ·rw [if_pos (by omega), if_pos hu, w64 (x := 2 * b) (by omega) (by omega), w64 (by omega) (by omega)]
   exact ⟨rfl, by omega, by omega⟩
  ·rw [if_neg (by omega), if_neg hu, w64 (by omega) (by omega)]
   exact ⟨rfl, by omega, by omega⟩
theorem fit_true {a b h k n v : Int} (hh : hid a b = true) (h1 : 1 ≤ h) (h2 : h ≤ houses a b) (ht : impl_toldBy.f a b k n v h = some v) (hc : clueB k n v = true) : impl_DoesFit.f a b k n v h = some (true, true) := by
 unfold impl_DoesFit.f impl_doesFit.f
 rw [hidden_val, hh, isClue_val, hc, isHouse_val hh h1 h2, ht]
 simp
theorem told_any (a b k n c c' h : Int) : impl_toldBy.f a b k n c h = impl_toldBy.f a b k n c' h := rfl
theorem told0 {a b h : Int} (hh : hid a b = true) (h1 : 1 ≤ h) (h2 : h ≤ houses a b) (n c : Int) : impl_toldBy.f a b 0 n c h = some (pl a b h).1 := by
 unfold impl_toldBy.f
 rw [plotOf_val hh h1 h2]
 rfl
theorem told1 {a b h : Int} (hh : hid a b = true) (h1 : 1 ≤ h) (h2 : h ≤ houses a b) (n c : Int) : impl_toldBy.f a b 1 n c h = some (pl a b h).2 := by
 unfold impl_toldBy.f
 rw [plotOf_val hh h1 h2]
 rfl
theorem told5 {a b h : Int} (hh : hid a b = true) (h1 : 1 ≤ h) (h2 : h ≤ houses a b) (n c : Int) : impl_toldBy.f a b 5 n c h = some (if a = 0 then 0 else ov a b h) := by
 unfold impl_toldBy.f
 rw [plotOf_val hh h1 h2, Option.bind_some, if_neg (by decide), if_neg (by decide), if_neg (by decide), if_neg (by decide), if_neg (by decide)]
 split
 ·rfl
 ·rw [(over_val hh h1 h2).1]
  rfl
theorem oneIf_val (c : Bool) : impl_oneIf.f c = some (if c = true then 1 else 0) := by
 unfold impl_oneIf.f
 split <;> rfl
theorem mkC_ok {a b h z : Int} (hh : hid a b = true) (h1 : 1 ≤ h) (h2 : h ≤ houses a b) (z0 : 0 ≤ z) (z1 : z ≤ 10006) : okC (mkC a b h z) = true ∧ impl_DoesFit.f a b (mkC a b h z).f0 (mkC a b h z).f1 (mkC a b h z).f2 h = some (true, true) := by
 obtain ⟨r0, r1⟩ := nx_range z0 z1
 obtain ⟨s0, s1⟩ := nx_range r0 r1
 have hl := houses_le hh
 have ht := told_mk a b (Int.tmod (nx z) 6) (nx (nx z)) h s0
 have hk : 0 ≤ Int.tmod (nx z) 6 ∧ Int.tmod (nx z) 6 ≤ 5 := by
  rw [tmod_nn r0]
  omega
 have key : okC (mkC a b h z) = true := by
  unfold okC mkC
  dsimp only
  generalize Int.tmod (nx z) 6 = k at ht hk
  generalize nx (nx z) = y at ht s0 s1
  generalize mkB a b k (mkA k y) h = v at ht
  have hr := pl_range hh h1 h2
  have hov := over_val hh h1 h2
  have hf := hid_facts hh
  have hk' : k = 0 ∨ k = 1 ∨ k = 2 ∨ k = 3 ∨ k = 4 ∨ k = 5 := by omega
  rcases hk' with rfl | rfl | rfl | rfl | rfl | rfl
  ·rw [told0 hh h1 h2] at ht
   obtain rfl := Option.some.inj ht
   simp [clueB, inB, mkA]
   omega
  ·rw [told1 hh h1 h2] at ht
   obtain rfl := Option.some.inj ht
   simp [clueB, inB, mkA]
   omega
  ·have e : mkA 2 y = y % 8 + 2 := by
    unfold mkA
    rw [if_pos rfl, tmod_nn s0, w64 (by omega) (by omega)]
   rw [e] at ht ⊢
   unfold impl_toldBy.f at ht
   rw [plotOf_val hh h1 h2, Option.bind_some, if_neg (by decide), if_neg (by decide), if_pos rfl, if_neg (by omega), oneIf_val] at ht
   have hv := Option.some.inj ht
   have : v = 0 ∨ v = 1 := by
    rw [← hv]
    split <;> simp
   simp [clueB, inB]
   omega
  ·unfold impl_toldBy.f at ht
   rw [plotOf_val hh h1 h2, Option.bind_some, if_neg (by decide), if_neg (by decide), if_neg (by decide), if_pos rfl, tdiv_nn (by omega), tmod_nn (by omega), w64 (x := h / 10) (by omega) (by omega), w64 (by omega) (by omega)] at ht
   have hv := Option.some.inj ht
   simp [clueB, inB, mkA]
   omega
  ·have e : mkA 4 y = y % 40 + 1 := by
    unfold mkA
    rw [if_neg (by decide), if_pos rfl, tmod_nn s0, w64 (by omega) (by omega)]
   rw [e] at ht ⊢
   unfold impl_toldBy.f at ht
   rw [plotOf_val hh h1 h2, Option.bind_some, if_neg (by decide), if_neg (by decide), if_neg (by decide), if_neg (by decide), if_pos rfl, oneIf_val] at ht
   have hv := Option.some.inj ht
   have : v = 0 ∨ v = 1 := by
    rw [← hv]
    split <;> simp
   simp [clueB, inB]
   omega
  ·rw [told5 hh h1 h2] at ht
   have hv := Option.some.inj ht
   have : 0 ≤ v ∧ v ≤ 40 := by
    rw [← hv]
    split <;> omega
   simp [clueB, inB, mkA]
   omega
 exact ⟨key, fit_true hh h1 h2 (by rw [told_any a b _ _ _ 0]; exact ht) key⟩
theorem mkL_mem (a b h : Int) : ∀ (d : Nat) (z : Int) (acc : List S46), 0 ≤ z → z ≤ 10006 → ∀ x ∈ mkL a b h d z acc, x ∈ acc ∨ ∃ z', 0 ≤ z' ∧ z' ≤ 10006 ∧ x = mkC a b h z' := by
 intro d
 induction d with
 | zero => intro z acc _ _ x hx; exact Or.inl hx
 | succ d ih =>
  intro z acc z0 z1 x hx
  obtain ⟨r0, r1⟩ := nx_range z0 z1
  obtain ⟨s0, s1⟩ := nx_range r0 r1
  simp only [mkL] at hx
  rcases ih (nx (nx z)) _ s0 s1 x hx with hx | hx
  ·rcases List.mem_append.1 hx with hx | hx
   ·exact Or.inl hx
   ·exact Or.inr ⟨z, z0, z1, List.mem_singleton.1 hx⟩
  ·exact Or.inr hx
theorem made {a b h s : Int} (n : Nat) (hn : n ≤ 6) (hh : hid a b = true) (h1 : 1 ≤ h) (h2 : h ≤ houses a b) (s0 : 0 ≤ s) (s1 : s ≤ 9999) : good a b (mkL a b h n s []) = true ∧ (mkL a b h n s []).length = n ∧ ∀ x ∈ mkL a b h n s [], impl_DoesFit.f a b x.f0 x.f1 x.f2 h = some (true, true) := by
 have hlen : (mkL a b h n s []).length = n := by rw [mkL_len]; simp
 have hm : ∀ x ∈ mkL a b h n s [], ∃ z', 0 ≤ z' ∧ z' ≤ 10006 ∧ x = mkC a b h z' := fun x hx => by
  rcases mkL_mem a b h n s [] s0 (by omega) x hx with h | h
  ·cases h
  ·exact h
 refine ⟨?_, hlen, fun x hx => ?_⟩
 ·unfold good
  rw [hh, hlen]
  simp only [Bool.true_and, Bool.and_eq_true, decide_eq_true_eq, List.all_eq_true]
  refine ⟨hn, fun x hx => ?_⟩
  obtain ⟨z', z0, z1, rfl⟩ := hm x hx
  exact (mkC_ok hh h1 h2 z0 z1).1
 ·obtain ⟨z', z0, z1, rfl⟩ := hm x hx
  exact (mkC_ok hh h1 h2 z0 z1).2
theorem allFit_sub (a b h : Int) {l m : List S46} (hm : ∀ x ∈ m, x ∈ l) (hf : allFit a b l h = true) : allFit a b m h = true := by
 unfold allFit at hf ⊢
 rw [List.all_eq_true] at hf ⊢
 exact fun x hx => hf x (hm x hx)
theorem solB_sub (a b : Int) {l m : List S46} (hm : ∀ x ∈ m, x ∈ l) : ∀ (d : Nat) (h : Int), (solB a b l d h).Sublist (solB a b m d h) := by
 intro d
 induction d with
 | zero => intro h; exact List.Sublist.refl _
 | succ d ih =>
  intro h
  simp only [solB]
  by_cases hf : allFit a b l h = true
  ·rw [if_pos hf, if_pos (allFit_sub a b h hm hf)]
   exact (ih (h + 1)).cons_cons h
  ·rw [if_neg hf]
   split
   ·exact (ih (h + 1)).cons h
   ·exact ih (h + 1)
theorem sols_sub (a b : Int) {l m : List S46} (hm : ∀ x ∈ m, x ∈ l) : (sols a b l).Sublist (sols a b m) := solB_sub a b hm _ _
theorem cnt_sub (a b : Int) {l m : List S46} (hm : ∀ x ∈ m, x ∈ l) : cnt a b l ≤ cnt a b m := by
 have := (sols_sub a b hm).length_le
 unfold cnt
 omega
end Go.Proofs.YtijcdpnnjiamjaaGreatDoor.Pz
end
section
namespace Go.Proofs.YtijcdpnnjiamjaaGreatDoor.Pz
open Go.RowKit Go.Proofs.YtijcdpnnjiamjaaGreatDoor.G Go.Proofs.YtijcdpnnjiamjaaGreatDoorW.PrintWords Go.Proofs.YtijcdpnnjiamjaaGreatDoorW.PrintLast Go.Proofs.YtijcdpnnjiamjaaGreatDoorW.PrintMore
def Gv {α : Type} (g : Nat → Option α) (P : α → Prop) : Prop := ∃ r, Ev g r ∧ P r
theorem Gv.some {α : Type} {r : α} {P : α → Prop} (h : P r) : Gv (fun _ => Option.some r) P := ⟨r, Ev.now r, h⟩
theorem Gv.is {α : Type} {o : Option α} {r : α} {P : α → Prop} (e : o = Option.some r) (h : P r) : Gv (fun _ => o) P := ⟨r, ⟨0, fun _ _ => e⟩, h⟩
theorem Gv.bind {α β : Type} {g : Nat → Option α} {f : Nat → α → Option β} {P : α → Prop} {Q : β → Prop} (h : Gv g P) (k : ∀ r, P r → Gv (fun n => f n r) Q) : Gv (fun n => (g n).bind (f n)) Q := by
 obtain ⟨r, hr, hp⟩ := h
 obtain ⟨q, hq, hq'⟩ := k r hp
 exact ⟨q, hr.bind hq, hq'⟩
theorem Gv.imp {α : Type} {g : Nat → Option α} {P Q : α → Prop} (h : Gv g P) (k : ∀ r, P r → Q r) : Gv g Q := by
 obtain ⟨r, hr, hp⟩ := h
 exact ⟨r, hr, k r hp⟩
theorem Gv.step {α : Type} {g f : Nat → Option α} {P : α → Prop} (h : ∀ k, g (k + 1) = f k) (k : Gv f P) : Gv g P := by
 obtain ⟨r, hr, hp⟩ := k
 exact ⟨r, hr.step h, hp⟩
theorem Gv.ev {α : Type} {g : Nat → Option α} {r : α} (h : Ev g r) {P : α → Prop} (hp : P r) : Gv g P := ⟨r, h, hp⟩
theorem Gv.out {α : Type} {o : Option α} {P : α → Prop} (h : Gv (fun _ => o) P) : ∃ r, o = Option.some r ∧ P r := by
 obtain ⟨r, ⟨K, hK⟩, hp⟩ := h
 exact ⟨r, hK K (Nat.le_refl K), hp⟩
def byt (l : List Int) : Prop := ∀ x ∈ l, 0 ≤ x ∧ x ≤ 255
theorem byt_of {l : List Int} (h : ∀ x ∈ l, (Lit.int .u8 x).wf = true) : byt l := by
 intro x hx
 have := h x hx
 have e0 : IntKind.u8.min = 0 := rfl
 have e1 : IntKind.u8.max = 255 := rfl
 simp [Lit.wf, e0, e1] at this
 omega
theorem emod_self_le {a n : Int} (ha : 0 ≤ a) (hn : 0 < n) : a % n ≤ a := by
 have h := Int.mul_ediv_add_emod a n
 have := Int.mul_nonneg (Int.le_of_lt hn) (Int.ediv_nonneg ha (Int.le_of_lt hn))
 omega
theorem byt_rd {l : List Int} (h : byt l) (i : Int) : 0 ≤ rd l i ∧ rd l i ≤ 255 := by
 unfold rd
 rw [List.getD_eq_getElem?_getD]
 cases hx : l[i.toNat]? with
 | none => simp
 | some x =>
  obtain ⟨hl, rfl⟩ := List.getElem?_eq_some_iff.1 hx
  exact h _ (List.getElem_mem hl)
def at_ (N i : Int) : Prop := 0 ≤ i ∧ i ≤ N
theorem wr_in {x : Int} (h0 : 0 ≤ x) (h1 : x ≤ 9223372036854775807) : wrap64 x = x := by unfold wrap64; omega
theorem low8 (s : Int) : 0 ≤ wrap64 (Go.bits .and .u64 ((IntKind.u64.wrap s) / 1099511627776) 255) ∧ wrap64 (Go.bits .and .u64 ((IntKind.u64.wrap s) / 1099511627776) 255) ≤ 255 := by
 rw [IntKind.wrap_u64]
 have e := bits_and_u64_nat ((s % 18446744073709551616) / 1099511627776).toNat 255 (by omega) (by omega)
 have e2 : ((((s % 18446744073709551616) / 1099511627776).toNat : Nat) : Int) = (s % 18446744073709551616) / 1099511627776 := by omega
 rw [e2] at e
 have hle : ((s % 18446744073709551616) / 1099511627776).toNat &&& 255 ≤ 255 := Nat.and_le_right
 have e3 : Go.bits .and .u64 ((s % 18446744073709551616) / 1099511627776) 255 = ((((s % 18446744073709551616) / 1099511627776).toNat &&& 255 : Nat) : Int) := e
 rw [e3, wr_in (by omega) (by omega)]
 omega
theorem next_gv {l : List Int} (hb : byt l) {N i : Int} (s : Int) (hN : N ≤ 2000000000) (hi : at_ N i) : Gv (fun _ => spec_l1Cur_next.f l i s) (fun r => 0 ≤ r.1 ∧ r.1 ≤ 255 ∧ at_ (N + 1) r.2.1) := by
 obtain ⟨h0, h1⟩ := hi
 have hw : wrap64 (i + 1) = i + 1 := wr_in (by omega) (by omega)
 have ha : at_ (N + 1) (i + 1) := ⟨by omega, by omega⟩
 obtain ⟨b0, b1⟩ := byt_rd hb i
 unfold spec_l1Cur_next.f
 rw [hw, if_pos h0]
 split
 ·split
  ·exact Gv.some ⟨by rw [wr_in (by omega) (by omega)]; exact b0, by rw [wr_in (by omega) (by omega)]; exact b1, ha⟩
  ·exact Gv.some ⟨(low8 _).1, (low8 _).2, ha⟩
 ·split
  ·exact Gv.some ⟨by show (0 : Int) ≤ 0; omega, by show (0 : Int) ≤ 255; omega, ha⟩
  ·exact Gv.some ⟨(low8 _).1, (low8 _).2, ha⟩
theorem pick_gv {l : List Int} (hb : byt l) {N i : Int} (s n : Int) (hN : N ≤ 1000000000) (hi : at_ N i) : Gv (fun _ => spec_l1Cur_pick.f l i s n) (fun r => 0 ≤ r.1 ∧ r.1 ≤ 65535 ∧ (1 ≤ n → r.1 < n) ∧ at_ (N + 2) r.2.1) := by
 unfold spec_l1Cur_pick.f
 split
 ·obtain ⟨h0, h1⟩ := hi
  exact Gv.some ⟨by show (0 : Int) ≤ 0; omega, by show (0 : Int) ≤ 65535; omega, fun h => by show (0 : Int) < n; omega, h0, by show i ≤ N + 2; omega⟩
 ·rename_i hn
  refine Gv.bind (next_gv hb s (by omega) hi) ?_
  rintro ⟨v, i1, s1⟩ ⟨v0, v1, h1⟩
  dsimp only at v0 v1 h1 ⊢
  split
  ·refine Gv.bind (next_gv (N := N + 1) hb s1 (by omega) h1) ?_
   rintro ⟨v', i2, s2⟩ ⟨u0, u1, h2⟩
   dsimp only at u0 u1 h2 ⊢
   rw [if_neg (show ¬ n = 0 by omega), wr_in (x := v * 256) (by omega) (by omega), wr_in (by omega) (by omega), Int.tmod_eq_emod_of_nonneg (by omega)]
   have m1 := Int.emod_nonneg (v * 256 + v') (show n ≠ 0 by omega)
   have m2 := Int.emod_lt_of_pos (v * 256 + v') (show 0 < n by omega)
   have m3 := emod_self_le (a := v * 256 + v') (n := n) (by omega) (by omega)
   obtain ⟨k0, k1⟩ := h2
   exact Gv.some ⟨m1, by dsimp only; omega, fun _ => m2, k0, by dsimp only; omega⟩
  ·rw [if_neg (show ¬ n = 0 by omega), Int.tmod_eq_emod_of_nonneg v0]
   have m1 := Int.emod_nonneg v (show n ≠ 0 by omega)
   have m2 := Int.emod_lt_of_pos v (show 0 < n by omega)
   have m3 := emod_self_le (a := v) (n := n) (by omega) (by omega)
   obtain ⟨k0, k1⟩ := h1
   exact Gv.some ⟨m1, by dsimp only; omega, fun _ => m2, k0, by dsimp only; omega⟩
theorem one_gv {l : List Int} (hb : byt l) {N i : Int} (s n : Int) (hN : N ≤ 1000000000) (hi : at_ N i) : Gv (fun _ => spec_l1Cur_one.f l i s n) (fun r => at_ (N + 2) r.2.1) := by
 unfold spec_l1Cur_one.f
 refine Gv.bind (pick_gv hb s n hN hi) ?_
 rintro ⟨v, i1, s1⟩ ⟨_, _, _, h⟩
 exact Gv.some h
theorem among_gv {l : List Int} (hb : byt l) {N i : Int} (s : Int) (m : List Int) (hN : N ≤ 1000000000) (hi : at_ N i) (hm : 0 < m.length) : Gv (fun _ => spec_l1Cur_among.f l i s m) (fun r => r.1 ∈ m ∧ at_ (N + 2) r.2.1) := by
 unfold spec_l1Cur_among.f
 refine Gv.bind (pick_gv hb s _ hN hi) ?_
 rintro ⟨v, i1, s1⟩ ⟨v0, _, v2, h⟩
 dsimp only at v0 v2 h ⊢
 have v3 := v2 (by omega)
 rw [if_pos v0, if_pos v3]
 refine Gv.some ⟨?_, h⟩
 dsimp only
 unfold rd
 rw [List.getD_eq_getElem?_getD, List.getElem?_eq_getElem (by omega)]
 exact List.getElem_mem (by omega)
end Go.Proofs.YtijcdpnnjiamjaaGreatDoor.Pz
end
section
namespace Go.Proofs.YtijcdpnnjiamjaaGreatDoor.Pz
open Go.RowKit Go.Proofs.YtijcdpnnjiamjaaGreatDoor.G Go.Proofs.YtijcdpnnjiamjaaGreatDoorW.PrintWords Go.Proofs.YtijcdpnnjiamjaaGreatDoorW.PrintLast Go.Proofs.YtijcdpnnjiamjaaGreatDoorW.PrintMore
theorem at_up {N M i : Int} (h : at_ N i) (hle : N ≤ M) : at_ M i := ⟨h.1, by have := h.2; omega⟩
theorem hidden_gv {l : List Int} (hb : byt l) {N i : Int} (s : Int) (hN : N ≤ 900000000) (hi : at_ N i) : Gv (fun _ => spec_l1Cur_hidden.f l i s) (fun r => hid r.1 r.2.1 = true ∧ 1 ≤ r.2.2.1 ∧ r.2.2.1 ≤ houses r.1 r.2.1 ∧ at_ (N + 6) r.2.2.2.1) := by
 unfold spec_l1Cur_hidden.f
 refine Gv.bind (pick_gv hb s 3 (by omega) hi) ?_
 rintro ⟨a, i1, s1⟩ ⟨a0, _, a2, h1⟩
 dsimp only at a0 a2 h1 ⊢
 refine Gv.bind (pick_gv hb s1 20 (N := N + 2) (by omega) h1) ?_
 rintro ⟨b, i2, s2⟩ ⟨b0, _, b2, h2⟩
 dsimp only at b0 b2 h2 ⊢
 have a3 := a2 (by decide)
 have b3 := b2 (by decide)
 rw [wr_in (x := 1 + b) (by omega) (by omega)]
 have hh : hid a (1 + b) = true := by
  unfold hid street inB
  simp
  omega
 have hl := houses_le hh
 refine Gv.bind (Gv.is (P := fun r => r = houses a (1 + b)) (nuHouses_val hh) rfl) ?_
 rintro _ rfl
 refine Gv.bind (pick_gv hb s2 (houses a (1 + b)) (N := N + 2 + 2) (by omega) h2) ?_
 rintro ⟨c, i3, s3⟩ ⟨c0, _, c2, h3⟩
 dsimp only at c0 c2 h3 ⊢
 have c3 := c2 hl.1
 rw [wr_in (x := 1 + c) (by omega) (by omega)]
 exact Gv.some ⟨hh, by dsimp only; omega, by dsimp only; omega, at_up h3 (by omega)⟩
theorem street_gv {l : List Int} (hb : byt l) {N i : Int} (s : Int) (hN : N ≤ 900000000) (hi : at_ N i) : Gv (fun _ => spec_l1Cur_street.f l i s) (fun r => at_ (N + 8) r.2.2.1) := by
 unfold spec_l1Cur_street.f spec_l1Cur_sureStreet.f
 refine Gv.bind (P := fun r => at_ (N + 4) r.2.2.1) (Gv.bind (pick_gv hb s 3 (by omega) hi) ?_) ?_
 ·rintro ⟨a, i1, s1⟩ ⟨_, _, _, h1⟩
  dsimp only at h1 ⊢
  refine Gv.bind (pick_gv hb s1 12 (N := N + 2) (by omega) h1) ?_
  rintro ⟨b, i2, s2⟩ ⟨_, _, _, h2⟩
  exact Gv.some (at_up h2 (by omega))
 ·rintro ⟨a, b, i1, s1⟩ h1
  dsimp only at h1 ⊢
  refine Gv.bind (pick_gv hb s1 14 (N := N + 4) (by omega) h1) ?_
  rintro ⟨c, i2, s2⟩ ⟨_, _, _, h2⟩
  dsimp only at h2 ⊢
  split
  ·refine Gv.bind (among_gv hb s2 _ (N := N + 4 + 2) (by omega) h2 (by decide)) ?_
   rintro ⟨d, i3, s3⟩ ⟨_, h3⟩
   exact Gv.some (at_up h3 (by omega))
  ·split
   ·refine Gv.bind (among_gv hb s2 _ (N := N + 4 + 2) (by omega) h2 (by decide)) ?_
    rintro ⟨d, i3, s3⟩ ⟨_, h3⟩
    exact Gv.some (at_up h3 (by omega))
   ·exact Gv.some (at_up h2 (by omega))
theorem clue_gv {l : List Int} (hb : byt l) {N i : Int} (s : Int) (hN : N ≤ 900000000) (hi : at_ N i) : Gv (fun k => spec_l1Cur_clue.f k l i s) (fun r => at_ (N + 16) r.2.2.2.1) := by
 have tail : ∀ (b : Bool) (i' s' x y z : Int), at_ (N + 10) i' → Gv (fun k => spec_l1Cur_clue.j0 k b l i' s' x y z) (fun r => at_ (N + 16) r.2.2.2.1) := by
  intro b i' s' x y z h
  refine Gv.step (fun k => by rw [spec_l1Cur_clue.j0]) ?_
  split
  ·refine Gv.bind (pick_gv hb s' 10 (N := N + 10) (by omega) h) ?_
   rintro ⟨a, i1, s1⟩ ⟨_, _, _, h1⟩
   dsimp only at h1 ⊢
   refine Gv.bind (pick_gv hb s1 3 (N := N + 10 + 2) (by omega) h1) ?_
   rintro ⟨c, i2, s2⟩ ⟨_, _, _, h2⟩
   dsimp only at h2 ⊢
   refine Gv.bind (pick_gv hb s2 9 (N := N + 10 + 2 + 2) (by omega) h2) ?_
   rintro ⟨d, i3, s3⟩ ⟨_, _, _, h3⟩
   exact Gv.some (at_up h3 (by omega))
  ·exact Gv.some (at_up h (by omega))
 unfold spec_l1Cur_clue.f
 refine Gv.bind (pick_gv hb s 6 (by omega) hi) ?_
 rintro ⟨a, i1, s1⟩ ⟨_, _, _, h1⟩
 dsimp only at h1 ⊢
 refine Gv.bind (pick_gv hb s1 9 (N := N + 2) (by omega) h1) ?_
 rintro ⟨b, i2, s2⟩ ⟨_, _, _, h2⟩
 dsimp only at h2 ⊢
 refine Gv.bind (pick_gv hb s2 9 (N := N + 2 + 2) (by omega) h2) ?_
 rintro ⟨c, i3, s3⟩ ⟨_, _, _, h3⟩
 dsimp only at h3 ⊢
 refine Gv.bind (pick_gv hb s3 9 (N := N + 2 + 2 + 2) (by omega) h3) ?_
 rintro ⟨d, i4, s4⟩ ⟨_, _, _, h4⟩
 dsimp only at h4 ⊢
 split
 ·exact tail _ _ _ _ _ _ (at_up h4 (by omega))
 ·split
  ·exact tail _ _ _ _ _ _ (at_up h4 (by omega))
  ·refine Gv.bind (one_gv hb s4 10 (N := N + 2 + 2 + 2 + 2) (by omega) h4) ?_
   rintro ⟨e, i5, s5⟩ h5
   exact tail _ _ _ _ _ _ (at_up h5 (by omega))
theorem spec_made {a b h c s : Int} (hh : hid a b = true) (h1 : 1 ≤ h) (h2 : h ≤ houses a b) (c0 : 0 ≤ c) (c1 : c ≤ 6) (s0 : 0 ≤ s) (s1 : s ≤ 9999) : Ev (fun k => spec_MakePuzzle.f k a b h c s) (a, b, mkL a b h c.toNat s [], true) := by
 obtain ⟨g1, g2⟩ := houses_le hh
 have hb : inB h 1 (houses a b) = true := by unfold inB; simp; omega
 have hc : inB c 0 6 = true := by unfold inB; simp; omega
 have hz : inB s 0 9999 = true := by unfold inB; simp; omega
 have e2 : spec_pzHidden.f a b h = some true := by
  simp [spec_pzHidden.f, pzStreet_val, hh, nuHouses_val hh, l1In_val, hb]
 obtain ⟨n, rfl⟩ : ∃ n : Nat, c = (n : Int) := ⟨c.toNat, by omega⟩
 refine ⟨n + 5, fun k hk => ?_⟩
 show spec_MakePuzzle.f k a b h n s = _
 obtain ⟨k, rfl⟩ : ∃ m, k = m + 1 := ⟨k - 1, by omega⟩
 have := make_spec a b h h1 (by omega) n k s [] (by omega) (by omega) (by omega) (by omega) (by simp)
 simp [spec_MakePuzzle.f, e2, l1In_val, hc, hz, spec_MakePuzzle.j0, this]
theorem sure_gv {l : List Int} (hb : byt l) {N i : Int} (s most : Int) (hm : 0 ≤ most ∧ most ≤ 6) (hN : N ≤ 900000000) (hi : at_ N i) : Gv (fun k => spec_l1Cur_surePuzzle.f k l i s most) (fun r => good r.1 r.2.1 r.2.2.1 = true ∧ r.2.2.1.length ≤ 40 ∧ at_ (N + 10) r.2.2.2.1) := by
 unfold spec_l1Cur_surePuzzle.f
 refine Gv.bind (hidden_gv hb s hN hi) ?_
 rintro ⟨a, b, h, i1, s1⟩ ⟨hh, g1, g2, h1⟩
 dsimp only at hh g1 g2 h1 ⊢
 refine Gv.bind (pick_gv hb s1 _ (N := N + 6) (by omega) h1) ?_
 rintro ⟨c, i2, s2⟩ ⟨c0, _, c2, h2⟩
 dsimp only at c0 c2 h2 ⊢
 have c3 : c < most + 1 := by
  rw [wr_in (x := most + 1) (by omega) (by omega)] at c2
  exact c2 (by omega)
 refine Gv.bind (pick_gv hb s2 _ (N := N + 6 + 2) (by omega) h2) ?_
 rintro ⟨d, i3, s3⟩ ⟨d0, _, d2, h3⟩
 dsimp only at d0 d2 h3 ⊢
 have d3 := d2 (by decide)
 obtain ⟨m1, m2, _⟩ := made (a := a) (b := b) (h := h) (s := d) c.toNat (by omega) hh g1 g2 d0 (by omega)
 refine Gv.bind (P := fun r => r = (a, b, mkL a b h c.toNat d [], true)) (Gv.ev (spec_made hh g1 g2 c0 (by omega) d0 (by omega)) rfl) ?_
 rintro _ rfl
 exact Gv.some ⟨m1, by dsimp only; omega, at_up h3 (by omega)⟩
theorem puzzle_l0 {l : List Int} (hb : byt l) (a b : Int) : ∀ (d : Nat) (N i s : Int) (acc : List S46), N + 2 * d ≤ 1000000000 → at_ N i → acc.length ≤ 40 → 8 ≤ acc.length + d → Gv (fun k => spec_l1Cur_puzzle.l0 k l i s a b acc) (fun r => r.2.2.1.length ≤ 40 ∧ at_ (N + 2 * (d + 1)) r.2.2.2.1) := by
 intro d
 induction d with
 | zero =>
  intro N i s acc hN hi ha hd
  refine Gv.step (fun k => by rw [spec_l1Cur_puzzle.l0]) ?_
  refine Gv.bind (pick_gv hb s 2 (by omega) hi) ?_
  rintro ⟨c, i1, s1⟩ ⟨c0, _, c2, h1⟩
  dsimp only at c0 c2 h1 ⊢
  have c3 := c2 (by decide)
  rw [wr_in (x := 6 + c) (by omega) (by omega)]
  split
  ·exfalso
   omega
  ·exact Gv.some ⟨ha, at_up h1 (by omega)⟩
 | succ d ih =>
  intro N i s acc hN hi ha hd
  refine Gv.step (fun k => by rw [spec_l1Cur_puzzle.l0]) ?_
  refine Gv.bind (pick_gv hb s 2 (by omega) hi) ?_
  rintro ⟨c, i1, s1⟩ ⟨c0, _, c2, h1⟩
  dsimp only at c0 c2 h1 ⊢
  have c3 := c2 (by decide)
  rw [wr_in (x := 6 + c) (by omega) (by omega)]
  split
  ·have hlt : acc.length < 5864062014805 := by omega
   simp only [hlt, if_true]
   refine Gv.imp (ih (N + 2) i1 s1 (acc ++ [⟨3, 0, 5⟩]) (by omega) h1 (by simp; omega) (by simp; omega)) ?_
   rintro r ⟨r0, r1⟩
   exact ⟨r0, at_up r1 (by omega)⟩
  ·exact Gv.some ⟨ha, at_up h1 (by omega)⟩
theorem puzzle_gv {l : List Int} (hb : byt l) {N i : Int} (s : Int) (hN : N ≤ 800000000) (hi : at_ N i) : Gv (fun k => spec_l1Cur_puzzle.f k l i s) (fun r => r.2.2.1.length ≤ 41 ∧ at_ (N + 40) r.2.2.2.1) := by
 unfold spec_l1Cur_puzzle.f
 refine Gv.bind (sure_gv hb s 5 (by decide) (by omega) hi) ?_
 rintro ⟨a, b, p, i1, s1⟩ ⟨_, hp, h1⟩
 dsimp only at hp h1 ⊢
 refine Gv.bind (pick_gv hb s1 12 (N := N + 10) (by omega) h1) ?_
 rintro ⟨c, i2, s2⟩ ⟨_, _, _, h2⟩
 dsimp only at h2 ⊢
 split
 ·refine Gv.bind (street_gv hb s2 (N := N + 10 + 2) (by omega) h2) ?_
  rintro ⟨x, y, i3, s3⟩ h3
  exact Gv.some ⟨by dsimp only; omega, at_up h3 (by omega)⟩
 ·split
  ·refine Gv.bind (clue_gv hb s2 (N := N + 10 + 2) (by omega) h2) ?_
   rintro ⟨x, y, z, i3, s3⟩ h3
   dsimp only at h3 ⊢
   rw [if_pos (by omega)]
   exact Gv.some ⟨by simp; omega, at_up h3 (by omega)⟩
  ·split
   ·refine Gv.imp (puzzle_l0 hb a b 8 (N + 10 + 2) i2 s2 p (by omega) h2 hp (by omega)) ?_
    rintro r ⟨r0, r1⟩
    exact ⟨by omega, at_up r1 (by omega)⟩
   ·exact Gv.some ⟨by dsimp only; omega, at_up h2 (by omega)⟩
end Go.Proofs.YtijcdpnnjiamjaaGreatDoor.Pz
end
section
set_option linter.unusedSimpArgs false
namespace Go.Proofs.YtijcdpnnjiamjaaGreatDoor.Tx
open Go.RowKit Go.Proofs.YtijcdpnnjiamjaaGreatDoor.G Go.Proofs.YtijcdpnnjiamjaaGreatDoorW.PrintWords Go.Proofs.YtijcdpnnjiamjaaGreatDoorW.PrintLast Go.Proofs.YtijcdpnnjiamjaaGreatDoorW.PrintMore
theorem w64 {x : Int} (h0 : -9223372036854775808 ≤ x) (h1 : x ≤ 9223372036854775807) : wrap64 x = x := by unfold wrap64; omega
def bs (l : List UInt8) : ByteArray := ⟨l.toArray⟩
theorem bs_size (l : List UInt8) : (bs l).size = l.length := by simp [bs, ByteArray.size]
theorem bs_append (a b : List UInt8) : bs a ++ bs b = bs (a ++ b) := by
 apply ByteArray.ext
 simp [bs]
theorem bs_list (l : List UInt8) : (bs l).data.toList = l := by simp [bs]
def dg (n : Nat) : List UInt8 := Lib.decDigits n
theorem dg_small {n : Nat} (h : n < 10) : dg n = [UInt8.ofNat (48 + n)] := by
 unfold dg
 rw [Lib.decDigits, dif_pos h]
theorem dg_big {n : Nat} (h : ¬ n < 10) : dg n = dg (n / 10) ++ [UInt8.ofNat (48 + n % 10)] := by
 unfold dg
 rw [Lib.decDigits, dif_neg h]
theorem dg_len (n : Nat) : (dg n).length ≤ n + 1 := by
 induction n using Nat.strongRecOn with
 | _ n ih =>
  by_cases h : n < 10
  ·rw [dg_small h]
   simp
  ·rw [dg_big h, List.length_append]
   have := ih (n / 10) (by omega)
   simp
   omega
theorem str_one (x : Nat) (_ : x < 256) : strOfNums [(x : Int)] = bs [UInt8.ofNat x] := by
 simp [strOfNums, bs]
theorem l1Num_val (n : Nat) : ∀ (k : Nat), n < 1000000000 → n < k → spec_l1Num.f k (n : Int) = some (bs (dg n)) := by
 induction n using Nat.strongRecOn with
 | _ n ih =>
  intro k hn hk
  obtain ⟨k, rfl⟩ : ∃ m, k = m + 1 := ⟨k - 1, by omega⟩
  simp only [spec_l1Num.f]
  by_cases h : n < 10
  ·rw [if_pos (by omega), w64 (by omega) (by omega), dg_small h]
   rw [show (48 + (n : Int)) % 256 = ((48 + n : Nat) : Int) by omega, str_one _ (by omega)]
  ·rw [if_neg (by omega), dg_big h]
   have e1 : Int.tdiv (n : Int) 10 = ((n / 10 : Nat) : Int) := by rw [Int.tdiv_eq_ediv_of_nonneg (by omega)]; omega
   have e2 : Int.tmod (n : Int) 10 = ((n % 10 : Nat) : Int) := by rw [Int.tmod_eq_emod_of_nonneg (by omega)]; omega
   have hd := dg_len (n / 10)
   rw [e1, w64 (by omega) (by omega), ih (n / 10) (by omega) k (by omega) (by omega), Option.bind_some, e2, w64 (by omega) (by omega), show (48 + ((n % 10 : Nat) : Int)) % 256 = ((48 + n % 10 : Nat) : Int) by omega, Option.bind_some, str_one _ (by omega), if_pos (by rw [bs_size, bs_size]; simp; omega), bs_append]
theorem itoa_val (n : Nat) (hn : n < 1000000000) : strconv_Itoa.f (n : Int) = some (bs (dg n)) := by
 unfold strconv_Itoa.f
 rw [if_pos (by omega), if_pos (by omega)]
 have : Lib.itoa (n : Int) = dg n := by
  unfold Lib.itoa dg
  rw [if_neg (by omega)]
  rfl
 rw [this]
 rfl
theorem join_snoc (xs : List (List UInt8)) (y sep : List UInt8) (h : xs ≠ []) : Lib.join (xs ++ [y]) sep = Lib.join xs sep ++ sep ++ y := by
 cases xs with
 | nil => exact absurd rfl h
 | cons x r =>
  rw [List.cons_append, Lib.join_cons, Lib.join_cons]
  simp [Lib.joinTail]
theorem lens_le (xs : List (List UInt8)) (m : Nat) (h : ∀ x ∈ xs, x.length ≤ m) : Lib.lens xs ≤ m * xs.length := by
 induction xs with
 | nil => simp [Lib.lens]
 | cons x r ih =>
  have h1 := h x (List.mem_cons_self)
  have h2 := ih (fun y hy => h y (List.mem_cons_of_mem _ hy))
  have e : Lib.lens (x :: r) = x.length + Lib.lens r := by simp [Lib.lens]
  rw [e, List.length_cons, Nat.mul_succ]
  omega
theorem join_len (xs : List (List UInt8)) (sep : List UInt8) (m : Nat) (h : ∀ x ∈ xs, x.length ≤ m) : (Lib.join xs sep).length ≤ (sep.length + m) * xs.length := by
 cases xs with
 | nil => simp [Lib.join_nil]
 | cons x r =>
  rw [Lib.join_length]
  have := lens_le (x :: r) m h
  rw [Nat.add_mul]
  have h2 : sep.length * r.length ≤ sep.length * (x :: r).length := Nat.mul_le_mul_left _ (by simp)
  omega
theorem join_val (xs : List (List UInt8)) (sep : List UInt8) (h1 : (Lib.join xs sep).length ≤ 140737488355328) (h2 : xs.length ≤ 140737488355328) : strings_Join.f (xs.map bs) (bs sep) = some (bs (Lib.join xs sep)) := by
 unfold strings_Join.f
 have e : (xs.map bs).map (fun x : ByteArray => x.data.toList) = xs := by
  rw [List.map_map]
  exact (List.map_congr_left (fun x _ => bs_list x)).trans (List.map_id xs)
 rw [e, bs_list, if_pos h1, if_pos (by simpa using h2)]
 rfl
theorem joinNumbers_l0 (l : List Nat) (sep : List UInt8) (hl : l.length ≤ 1000) (hn : ∀ x ∈ l, x < 1000000) (hs : sep.length ≤ 1000) : ∀ (d i k : Nat), i + d = l.length → d < k →
  impl_joinNumbers.l0 k (bs sep) ((l.take i).map (fun n => bs (dg n)) ++ List.replicate d (bs [])) (l.map fun n : Nat => (n : Int)) (l.length : Int) (i : Int) = some (bs (Lib.join (l.map dg) sep)) := by
 intro d
 induction d with
 | zero =>
  intro i k hi hk
  obtain ⟨k, rfl⟩ : ∃ m, k = m + 1 := ⟨k - 1, by omega⟩
  simp only [impl_joinNumbers.l0]
  have hj := join_len (l.map dg) sep 1000001 (fun x hx => by
   obtain ⟨n, hnl, rfl⟩ := List.mem_map.1 hx
   have := dg_len n
   have := hn n hnl
   omega)
  have hb : (sep.length + 1000001) * (l.map dg).length ≤ 2001001 * 1000 := Nat.mul_le_mul (by omega) (by simpa using hl)
  have hv := join_val (l.map dg) sep (by omega) (by simp; omega)
  rw [List.map_map] at hv
  rw [if_neg (by omega), List.take_of_length_le (by omega), List.replicate_zero, List.append_nil]
  rw [show (fun n => bs (dg n)) = bs ∘ dg from rfl, hv, Option.bind_some]
 | succ d ih =>
  intro i k hi hk
  obtain ⟨k, rfl⟩ : ∃ m, k = m + 1 := ⟨k - 1, by omega⟩
  simp only [impl_joinNumbers.l0]
  have hx : l[i]? = some l[i] := List.getElem?_eq_getElem (by omega)
  have hrd : rd (l.map fun n : Nat => (n : Int)) (i : Int) = ((l[i] : Nat) : Int) := by simp [rd, List.getD, hx]
  have hsm := hn l[i] (List.getElem_mem (by omega))
  rw [if_pos (by omega), if_pos (by omega), if_pos (by simp; omega), hrd, itoa_val _ (by omega), Option.bind_some, if_pos (by simp; omega), w64 (by omega) (by omega), show ((i : Int) + 1) = ((i + 1 : Nat) : Int) by omega, ← ih (i + 1) k (by omega) (by omega)]
  congr 1
  rw [Int.toNat_natCast, List.set_append_right _ _ (by simp; omega), List.take_succ_eq_append_getElem (by omega), List.map_append, List.append_assoc]
  congr 1
  rw [show i - ((List.take i l).map fun n => bs (dg n)).length = 0 by simp; omega]
  rfl
theorem joinNumbers_val (l : List Nat) (sep : List UInt8) (hl : l.length ≤ 1000) (hn : ∀ x ∈ l, x < 1000000) (hs : sep.length ≤ 1000) (k : Nat) (hk : l.length < k) :
  impl_joinNumbers.f k (l.map fun n : Nat => (n : Int)) (bs sep) = some (bs (Lib.join (l.map dg) sep)) := by
 unfold impl_joinNumbers.f
 rw [if_pos (by omega), if_pos (by simp; omega)]
 have := joinNumbers_l0 l sep hl hn hs l.length 0 k (by omega) hk
 simpa [bs] using this
end Go.Proofs.YtijcdpnnjiamjaaGreatDoor.Tx
end
section
set_option linter.unusedSimpArgs false
namespace Go.Proofs.YtijcdpnnjiamjaaGreatDoor.Tx
open Go.RowKit Go.Proofs.YtijcdpnnjiamjaaGreatDoor.G Go.Proofs.YtijcdpnnjiamjaaGreatDoorW.PrintWords Go.Proofs.YtijcdpnnjiamjaaGreatDoorW.PrintLast Go.Proofs.YtijcdpnnjiamjaaGreatDoorW.PrintMore
def ap (a : List UInt8) : List (List UInt8) → List (List UInt8)
 | [] => [a]
 | h :: t => (a ++ h) :: t
def sp (c : UInt8) : List UInt8 → List (List UInt8)
 | [] => [[]]
 | b :: r => if b = c then [] :: sp c r else ap [b] (sp c r)
theorem ap_ap (a b : List UInt8) (l : List (List UInt8)) : ap a (ap b l) = ap (a ++ b) l := by
 cases l <;> simp [ap]
theorem ap_nil {l : List (List UInt8)} (h : l ≠ []) : ap [] l = l := by
 cases l with
 | nil => exact absurd rfl h
 | cons x t => rfl
theorem sp_ne (c : UInt8) (l : List UInt8) : sp c l ≠ [] := by
 cases l with
 | nil => simp [sp]
 | cons b r =>
  unfold sp
  split
  ·simp
  ·cases sp c r <;> simp [ap]
theorem splitK_sp (c : UInt8) (l : List UInt8) : Lib.splitK [c] 0 (Lib.count l [c]) l = sp c l := by
 induction l with
 | nil => rfl
 | cons b r ih =>
  by_cases hb : b = c
  ·subst hb
   rw [Lib.count_cons_eq, Nat.add_comm]
   have hi : Lib.index (b :: r) [b] = 0 := by simp [Lib.index]
   unfold Lib.splitK
   rw [hi]
   simp [sp, ← ih]
  ·rw [Lib.count_cons_ne b c r hb]
   have hi : Lib.index (b :: r) [c] = if Lib.index r [c] == -1 then -1 else Lib.index r [c] + 1 := by
    have : ([c].isPrefixOf (b :: r)) = false := by simp [List.isPrefixOf, Ne.symm hb]
    rw [Lib.index, this]
    rfl
   have hs : sp c (b :: r) = ap [b] (sp c r) := by rw [sp, if_neg hb]
   rw [hs, ← ih]
   cases hk : Lib.count r [c] with
   | zero => rfl
   | succ k =>
    unfold Lib.splitK
    rw [hi]
    by_cases h1 : Lib.index r [c] = -1
    ·simp [h1, ap]
    ·have h2 : (Lib.index r [c] == -1) = false := beq_eq_false_iff_ne.mpr h1
     have h0 := Lib.index_ge r [c]
     have h3 : (Lib.index r [c] + 1 == -1) = false := beq_eq_false_iff_ne.mpr (by omega)
     have h4 : (Lib.index r [c] + 1).toNat = (Lib.index r [c]).toNat + 1 := by omega
     simp only [h2, h3, h4, if_false, Bool.false_eq_true, ap, List.length_cons, List.length_nil, Nat.add_zero]
     rw [show (Lib.index r [c]).toNat + 1 + (0 + 1) = ((Lib.index r [c]).toNat + (0 + 1)) + 1 by omega, List.drop_succ_cons, List.take_succ_cons]
     rfl
theorem bs_data (s : ByteArray) : s = bs s.data.toList := by
 apply ByteArray.ext
 simp [bs]
theorem split_val (l : List UInt8) (c : UInt8) (h : l.length < 4294967281) : strings_Split.f (bs l) (bs [c]) = some ((sp c l).map bs) := by
 unfold strings_Split.f
 have e1 : (bs [c]).size = 1 := by rw [bs_size]; rfl
 rw [if_pos e1, if_pos (by rw [bs_size]; exact h)]
 congr 1
 have hd := Lib.splitB_data (bs [c]) 0 (Lib.countB (bs l) (bs [c])) (bs l)
 rw [bs_list, bs_list] at hd
 have hc : Lib.countB (bs l) (bs [c]) = Lib.count l [c] := by unfold Lib.countB; rw [bs_list, bs_list]
 rw [hc] at hd ⊢
 rw [splitK_sp] at hd
 rw [← hd, List.map_map]
 exact ((List.map_congr_left (fun x _ => (bs_data x).symm)).trans (List.map_id _)).symm
theorem bt_bs (l : List UInt8) (i : Nat) (h : i < l.length) : bt (bs l) (i : Int) = ((l[i]).toNat : Int) := by
 have hs : i < (bs l).size := by rw [bs_size]; exact h
 unfold bt
 rw [dif_pos (by simpa using hs)]
 simp [bs, ByteArray.getElem_eq_getElem_data]
theorem extract_bs (l : List UInt8) (a b : Nat) : (bs l).extract a b = bs ((l.take b).drop a) := by
 apply ByteArray.ext
 simp only [bs, ByteArray.data_extract]
 apply Array.ext'
 simp [List.drop_take]
theorem sp_no (c : UInt8) (l : List UInt8) (h : c ∉ l) (r : List UInt8) : sp c (l ++ r) = ap l (sp c r) := by
 induction l with
 | nil => rw [List.nil_append, ap_nil (sp_ne c r)]
 | cons b l ih =>
  have hb : b ≠ c := fun e => h (by rw [e]; exact List.mem_cons_self)
  rw [List.cons_append, sp, if_neg hb, ih (fun e => h (List.mem_cons_of_mem _ e)), ap_ap]
  rfl
theorem l1Split_l0 (l : List UInt8) (c : UInt8) (hl : l.length ≤ 2000000) : ∀ (d i k j : Nat) (done : List (List UInt8)), i + d = l.length → d < k → j ≤ i → done.length ≤ i →
  spec_l1Split.l0 k (bs l) ((c.toNat : Nat) : Int) (done.map bs) (j : Int) (i : Int) = some ((done ++ ap ((l.take i).drop j) (sp c (l.drop i))).map bs) := by
 intro d
 induction d with
 | zero =>
  intro i k j done hi hk hj hd
  obtain ⟨k, rfl⟩ : ∃ m, k = m + 1 := ⟨k - 1, by omega⟩
  simp only [spec_l1Split.l0]
  rw [if_neg (by rw [bs_size]; omega), if_pos (by omega), if_pos (by rw [bs_size]; omega), if_pos (by simp; omega)]
  rw [bs_size, Int.toNat_natCast, extract_bs, List.drop_of_length_le (by omega : l.length ≤ i), List.take_of_length_le (by omega : l.length ≤ i), List.take_length]
  simp [sp, ap]
 | succ d ih =>
  intro i k j done hi hk hj hd
  obtain ⟨k, rfl⟩ : ∃ m, k = m + 1 := ⟨k - 1, by omega⟩
  simp only [spec_l1Split.l0]
  have hil : i < l.length := by omega
  rw [if_pos (by rw [bs_size]; omega), if_pos (by omega), bt_bs l i hil, w64 (by omega) (by omega), show ((i : Int) + 1) = ((i + 1 : Nat) : Int) by omega]
  have hdr : l.drop i = l[i] :: l.drop (i + 1) := List.drop_eq_getElem_cons hil
  by_cases hc : l[i] = c
  ·rw [if_pos (by rw [hc]), if_pos (by omega), if_pos (by omega), if_pos (by rw [bs_size]; omega), if_pos (by simp; omega)]
   rw [Int.toNat_natCast, Int.toNat_natCast, extract_bs]
   have := ih (i + 1) k (i + 1) (done ++ [(l.take i).drop j]) (by omega) (by omega) (by omega) (by simp; omega)
   rw [List.map_append, List.map_cons, List.map_nil] at this
   rw [this, hdr, sp, if_pos hc]
   congr 2
   have e : (l.take (i + 1)).drop (i + 1) = [] := List.drop_of_length_le (by simp; omega)
   rw [e, ap_nil (sp_ne c _)]
   simp [ap]
  ·rw [if_neg (by intro e; exact hc (UInt8.toNat_inj.1 (by omega)))]
   rw [ih (i + 1) k j done (by omega) (by omega) (by omega) (by omega), hdr, sp, if_neg hc, ap_ap]
   congr 4
   rw [List.take_succ_eq_append_getElem hil, List.drop_append_of_le_length (by simp; omega)]
theorem l1Split_ev (l : List UInt8) (c : UInt8) (hl : l.length ≤ 2000000) (k : Nat) (hk : l.length < k) : spec_l1Split.f k (bs l) ((c.toNat : Nat) : Int) = some ((sp c l).map bs) := by
 unfold spec_l1Split.f
 have := l1Split_l0 l c hl l.length 0 k 0 [] (by omega) hk (by omega) (by simp)
 simp only [List.map_nil, List.take_zero, List.drop_nil, List.nil_append, List.drop_zero] at this
 rw [ap_nil (sp_ne c l)] at this
 exact this
theorem sp_len (c : UInt8) (l : List UInt8) : (sp c l).length ≤ l.length + 1 := by
 induction l with
 | nil => simp [sp]
 | cons b r ih =>
  unfold sp
  split
  ·simp; omega
  ·cases h : sp c r with
   | nil => simp [ap]
   | cons x t => rw [h] at ih; simp [ap] at *; omega
theorem sp_mem_len (c : UInt8) (l : List UInt8) : ∀ x ∈ sp c l, x.length ≤ l.length := by
 induction l with
 | nil => simp [sp]
 | cons b r ih =>
  unfold sp
  split
  ·intro x hx
   simp at hx
   rcases hx with rfl | hx
   ·simp
   ·have := ih x hx; simp; omega
  ·cases h : sp c r with
   | nil => intro x hx; simp [ap] at hx; subst hx; simp
   | cons y t =>
    rw [h] at ih
    intro x hx
    simp [ap] at hx
    rcases hx with rfl | hx
    ·have := ih y (by simp); simp; omega
    ·have := ih x (by simp [hx]); simp; omega
theorem sp_join (c : UInt8) (xs : List (List UInt8)) (hne : xs ≠ []) (h : ∀ x ∈ xs, c ∉ x) : sp c (Lib.join xs [c]) = xs := by
 induction xs with
 | nil => exact absurd rfl hne
 | cons x r ih =>
  have hx := h x List.mem_cons_self
  cases r with
  | nil =>
   rw [Lib.join_one]
   have := sp_no c x hx []
   rw [List.append_nil] at this
   rw [this]
   simp [sp, ap]
  | cons y t =>
   have ht := ih (by simp) (fun z hz => h z (List.mem_cons_of_mem _ hz))
   have e : Lib.join (x :: y :: t) [c] = x ++ c :: Lib.join (y :: t) [c] := by
    rw [Lib.join_cons, Lib.join_cons]
    simp [Lib.joinTail]
   rw [e, sp_no c x hx, sp, if_pos rfl, ht]
   simp [ap]
theorem dg_digit (n : Nat) : ∀ b ∈ dg n, 48 ≤ b.toNat ∧ b.toNat ≤ 57 := by
 induction n using Nat.strongRecOn with
 | _ n ih =>
  by_cases h : n < 10
  ·rw [dg_small h]
   intro b hb
   obtain rfl := List.mem_singleton.1 hb
   have : (UInt8.ofNat (48 + n)).toNat = 48 + n := by simp; omega
   omega
  ·rw [dg_big h]
   intro b hb
   rcases List.mem_append.1 hb with hb | hb
   ·exact ih (n / 10) (by omega) b hb
   ·obtain rfl := List.mem_singleton.1 hb
    have : (UInt8.ofNat (48 + n % 10)).toNat = 48 + n % 10 := by simp; omega
    omega
theorem dg_no (c : UInt8) (hc : c.toNat < 48) (n : Nat) : c ∉ dg n := fun h => by
 have := dg_digit n c h
 omega
theorem dg_ne (n : Nat) : dg n ≠ [] := by
 by_cases h : n < 10
 ·rw [dg_small h]; simp
 ·rw [dg_big h]; simp
theorem dg_head (n : Nat) (hn : 1 ≤ n) : ∃ c r, dg n = c :: r ∧ 49 ≤ c.toNat := by
 induction n using Nat.strongRecOn with
 | _ n ih =>
  by_cases h : n < 10
  ·refine ⟨_, [], dg_small h, ?_⟩
   have : (UInt8.ofNat (48 + n)).toNat = 48 + n := by simp; omega
   omega
  ·obtain ⟨c, r, e, hc⟩ := ih (n / 10) (by omega) (by omega)
   exact ⟨c, r ++ [UInt8.ofNat (48 + n % 10)], by rw [dg_big h, e]; rfl, hc⟩
theorem dg_len_pow (k : Nat) : ∀ n, n < 10 ^ (k + 1) → (dg n).length ≤ k + 1 := by
 induction k with
 | zero => intro n hn; rw [dg_small (by simpa using hn)]; simp
 | succ k ih =>
  intro n hn
  by_cases h : n < 10
  ·rw [dg_small h]; simp
  ·rw [dg_big h, List.length_append]
   have := ih (n / 10) (by rw [Nat.pow_succ] at hn; omega)
   simp
   omega
theorem parse_app (xs : List UInt8) : ∀ (acc m : Nat), Lib.parseUint10 acc xs = .ok m → ∀ ys, Lib.parseUint10 acc (xs ++ ys) = Lib.parseUint10 m ys := by
 induction xs with
 | nil =>
  intro acc m h ys
  simp only [Lib.parseUint10] at h
  injection h with h
  rw [List.nil_append, h]
 | cons c r ih =>
  intro acc m h ys
  simp only [List.cons_append, Lib.parseUint10] at h ⊢
  split at h
  ·next h1 =>
   rw [if_pos h1]
   split at h
   ·cases h
   ·next h2 =>
    rw [if_neg h2]
    split at h
    ·cases h
    ·next h3 =>
     rw [if_neg h3]
     exact ih _ m h ys
  ·cases h
theorem parse_dg (n : Nat) (hn : n < 1000000000) : Lib.parseUint10 0 (dg n) = .ok n := by
 induction n using Nat.strongRecOn with
 | _ n ih =>
  by_cases h : n < 10
  ·rw [dg_small h]
   have e : (UInt8.ofNat (48 + n)).toNat = 48 + n := by simp; omega
   simp only [Lib.parseUint10]
   rw [e, if_pos (by omega), if_neg (by omega), if_neg (by omega)]
   congr 1
   omega
  ·rw [dg_big h, parse_app _ 0 (n / 10) (ih (n / 10) (by omega) (by omega))]
   have e : (UInt8.ofNat (48 + n % 10)).toNat = 48 + n % 10 := by simp; omega
   simp only [Lib.parseUint10]
   rw [e, if_pos (by omega), if_neg (by omega), if_neg (by omega)]
   congr 1
   omega
theorem atoi_dg (n : Nat) (hn : n < 1000000000) : Lib.atoiAll (dg n) = .ok (n : Int) := by
 have hp := parse_dg n hn
 cases hd : dg n with
 | nil => exact absurd hd (dg_ne n)
 | cons c r =>
  have hdig := dg_digit n c (by rw [hd]; exact List.mem_cons_self)
  rw [hd] at hp
  unfold Lib.atoiAll
  simp only
  rw [if_neg (by omega)]
  unfold Lib.parseMag
  rw [if_neg (by simp), hp]
  simp only
  rw [if_neg (by omega), if_neg (by omega), if_neg (by omega)]
theorem itoa_nat (n : Nat) : Lib.itoa (n : Int) = dg n := by
 unfold Lib.itoa dg
 rw [if_neg (by omega)]
 rfl
theorem rnum_dg (n : Nat) (hn : n < 1000000000) : rnum (dg n) = ((n : Int), true) := by
 unfold rnum
 rw [atoi_dg n hn]
 simp only
 rw [itoa_nat, if_pos rfl]
def rn (l : List UInt8) : Option Int := if (rnum l).2 = true then some (rnum l).1 else none
theorem rn_dg (n : Nat) (hn : n < 1000000000) : rn (dg n) = some (n : Int) := by
 unfold rn
 rw [rnum_dg n hn, if_pos rfl]
theorem readNumber_val (l : List UInt8) (h : l.length ≤ 2000000) : impl_readNumber.f (bs l) = some (rnum l) := by
 unfold impl_readNumber.f
 rw [if_pos (by rw [bs_size]; omega), bs_list]
def rl : List UInt8 → Int → Int
 | [], acc => acc
 | c :: r, acc => if (c.toNat : Int) < 48 then -1 else if (c.toNat : Int) > 57 then -1 else rl r (wrap64 ((wrap64 (10 * acc)) + ((((c.toNat : Int)) - 48) % 256)))
theorem l1Read_l0 (l : List UInt8) (hl : l.length ≤ 2000000) : ∀ (d i k : Nat) (acc : Int), i + d = l.length → d < k → spec_l1Read.l0 k (bs l) acc (i : Int) = some (rl (l.drop i) acc) := by
 intro d
 induction d with
 | zero =>
  intro i k acc hi hk
  obtain ⟨k, rfl⟩ : ∃ m, k = m + 1 := ⟨k - 1, by omega⟩
  simp only [spec_l1Read.l0]
  rw [if_neg (by rw [bs_size]; omega), List.drop_of_length_le (by omega : l.length ≤ i)]
  rfl
 | succ d ih =>
  intro i k acc hi hk
  obtain ⟨k, rfl⟩ : ∃ m, k = m + 1 := ⟨k - 1, by omega⟩
  simp only [spec_l1Read.l0]
  have hil : i < l.length := by omega
  rw [if_pos (by rw [bs_size]; omega), if_pos (by omega), bt_bs l i hil, List.drop_eq_getElem_cons hil, rl, w64 (x := (i : Int) + 1) (by omega) (by omega), show ((i : Int) + 1) = ((i + 1 : Nat) : Int) by omega]
  by_cases h1 : ((l[i].toNat : Nat) : Int) < 48
  ·rw [if_pos h1, if_pos h1]
  ·rw [if_neg h1, if_neg h1]
   by_cases h2 : ((l[i].toNat : Nat) : Int) > 57
   ·rw [if_pos h2, if_pos h2]
   ·rw [if_neg h2, if_neg h2]
    exact ih (i + 1) k _ (by omega) (by omega)
def rd6 (l : List UInt8) : Int := if l.length < 1 ∨ 6 < l.length then -1 else if l.head? = some 48 ∧ 1 < l.length then -1 else rl l 0
theorem l1Read_val (l : List UInt8) (hl : l.length ≤ 2000000) (k : Nat) (hk : l.length + 2 < k) : spec_l1Read.f k (bs l) = some (rd6 l) := by
 obtain ⟨k, rfl⟩ : ∃ m, k = m + 1 := ⟨k - 1, by omega⟩
 have hin : spec_l1In.f ((bs l).size : Int) 1 6 = some (decide (1 ≤ l.length) && decide (l.length ≤ 6)) := by
  unfold spec_l1In.f
  rw [bs_size]
  by_cases h : ((l.length : Int) ≥ 1)
  ·rw [if_pos h]
   have e1 : decide (1 ≤ l.length) = true := decide_eq_true (by omega)
   have e2 : decide ((l.length : Int) ≤ 6) = decide (l.length ≤ 6) := by rw [Bool.eq_iff_iff]; simp; omega
   rw [e1, e2]
   rfl
  ·rw [if_neg h]
   have e1 : decide (1 ≤ l.length) = false := decide_eq_false (by omega)
   rw [e1]
   rfl
 have hl0 := l1Read_l0 l hl l.length 0 k 0 (by omega) (by omega)
 rw [List.drop_zero] at hl0
 unfold spec_l1Read.f rd6
 rw [hin, Option.bind_some]
 by_cases hb : l.length < 1 ∨ 6 < l.length
 ·rw [if_pos hb]
  have : (decide (1 ≤ l.length) && decide (l.length ≤ 6)) = false := by
   rcases hb with h | h
   ·rw [decide_eq_false (by omega)]; rfl
   ·rw [decide_eq_false (by omega : ¬ l.length ≤ 6), Bool.and_false]
  rw [this, if_neg (by simp)]
  simp only [spec_l1Read.j0]
  rw [if_pos trivial]
 ·rw [if_neg hb]
  have : (decide (1 ≤ l.length) && decide (l.length ≤ 6)) = true := by
   rw [decide_eq_true (by omega : 1 ≤ l.length), decide_eq_true (by omega : l.length ≤ 6)]; rfl
  rw [this, if_pos rfl, if_pos (by rw [bs_size]; omega)]
  cases l with
  | nil => simp at hb
  | cons c r =>
   have hbt := bt_bs (c :: r) 0 (by simp)
   rw [show ((0 : Nat) : Int) = 0 from rfl] at hbt
   rw [hbt]
   simp only [List.getElem_cons_zero, List.head?_cons, Option.some.injEq]
   by_cases hc : c = 48
   ·subst hc
    rw [if_pos (by decide)]
    by_cases h2 : 1 < (48 :: r : List UInt8).length
    ·rw [if_pos ⟨rfl, h2⟩]
     simp only [spec_l1Read.j0]
     rw [if_pos (decide_eq_true (by rw [bs_size]; omega))]
    ·rw [if_neg (fun h => h2 h.2)]
     simp only [spec_l1Read.j0]
     rw [if_neg (by rw [decide_eq_false (by rw [bs_size]; omega)]; simp)]
     exact hl0
   ·rw [if_neg (by intro e; exact hc (UInt8.toNat_inj.1 (by have : (48 : UInt8).toNat = 48 := rfl; omega))), if_neg (fun h => hc h.1)]
    simp only [spec_l1Read.j0]
    rw [if_neg (by simp)]
    exact hl0
theorem rl_app (xs : List UInt8) : ∀ (acc : Int) (ys : List UInt8), (∀ b ∈ xs, 48 ≤ b.toNat ∧ b.toNat ≤ 57) → rl (xs ++ ys) acc = rl ys (rl xs acc) := by
 induction xs with
 | nil => intro acc ys _; rfl
 | cons c r ih =>
  intro acc ys h
  obtain ⟨h1, h2⟩ := h c List.mem_cons_self
  simp only [List.cons_append, rl]
  rw [if_neg (by omega), if_neg (by omega), if_neg (by omega), if_neg (by omega)]
  exact ih _ _ (fun b hb => h b (List.mem_cons_of_mem _ hb))
theorem rl_dg (n : Nat) (hn : n < 1000000000) : rl (dg n) 0 = (n : Int) := by
 induction n using Nat.strongRecOn with
 | _ n ih =>
  by_cases h : n < 10
  ·rw [dg_small h]
   have e : (UInt8.ofNat (48 + n)).toNat = 48 + n := by simp; omega
   simp only [rl]
   rw [e, if_neg (by omega), if_neg (by omega), show wrap64 (10 * (0 : Int)) = 0 by rw [Int.mul_zero]; exact w64 (by omega) (by omega), w64 (by omega) (by omega)]
   omega
  ·rw [dg_big h, rl_app _ _ _ (dg_digit _), ih (n / 10) (by omega) (by omega)]
   have e : (UInt8.ofNat (48 + n % 10)).toNat = 48 + n % 10 := by simp; omega
   simp only [rl]
   rw [e, if_neg (by omega), if_neg (by omega), w64 (x := 10 * ((n / 10 : Nat) : Int)) (by omega) (by omega), w64 (by omega) (by omega)]
   omega
theorem rd6_dg (n : Nat) (hn : n < 1000000) : rd6 (dg n) = (n : Int) := by
 have hl := dg_len_pow 5 n (by simpa using hn)
 have hne : (dg n).length ≠ 0 := fun e => dg_ne n (List.eq_nil_of_length_eq_zero e)
 unfold rd6
 rw [if_neg (by omega)]
 by_cases h1 : n < 10
 ·rw [if_neg (by rw [dg_small h1]; simp), rl_dg n (by omega)]
 ·obtain ⟨c, r, e, hc⟩ := dg_head n (by omega)
  rw [if_neg (by rw [e]; simp; intro e2; rw [e2] at hc; simp at hc), rl_dg n (by omega)]
end Go.Proofs.YtijcdpnnjiamjaaGreatDoor.Tx
end
section
set_option linter.unusedSimpArgs false
set_option linter.unusedVariables false
namespace Go.Proofs.YtijcdpnnjiamjaaGreatDoor.Tx
open Go.RowKit Go.Proofs.YtijcdpnnjiamjaaGreatDoor.G Go.Proofs.YtijcdpnnjiamjaaGreatDoorW.PrintWords Go.Proofs.YtijcdpnnjiamjaaGreatDoorW.PrintLast Go.Proofs.YtijcdpnnjiamjaaGreatDoorW.PrintMore
def rns : List (List UInt8) → Option (List Int)
 | [] => some []
 | x :: r => (rn x).bind fun v => (rns r).map (v :: ·)
theorem readNumbers_l0 (xs : List (List UInt8)) (hx : ∀ x ∈ xs, x.length ≤ 2000000) (hn : xs.length ≤ 2000002) : ∀ (d i k : Nat) (acc : List Int), i + d = xs.length → d < k → acc.length ≤ i →
  impl_readNumbers.l0 k acc (xs.map bs) (xs.length : Int) (i : Int) = some (match rns (xs.drop i) with | some ns => (acc ++ ns, true) | none => ([], false)) := by
 intro d
 induction d with
 | zero =>
  intro i k acc hi hk ha
  obtain ⟨k, rfl⟩ : ∃ m, k = m + 1 := ⟨k - 1, by omega⟩
  simp only [impl_readNumbers.l0]
  rw [if_neg (by omega), List.drop_of_length_le (by omega : xs.length ≤ i)]
  simp [rns]
 | succ d ih =>
  intro i k acc hi hk ha
  obtain ⟨k, rfl⟩ : ∃ m, k = m + 1 := ⟨k - 1, by omega⟩
  simp only [impl_readNumbers.l0]
  have hil : i < xs.length := by omega
  have hrd : rdOf ByteArray.empty (xs.map bs) (i : Int) = bs xs[i] := by simp [rdOf, List.getD, hil]
  rw [if_pos (by omega), if_pos (by omega), if_pos (by simp; omega), hrd, readNumber_val _ (hx _ (List.getElem_mem hil)), Option.bind_some, w64 (by omega) (by omega), show ((i : Int) + 1) = ((i + 1 : Nat) : Int) by omega, List.drop_eq_getElem_cons hil]
  by_cases h : (rnum xs[i]).2 = true
  ·rw [if_pos h, if_pos (by omega), ih (i + 1) k _ (by omega) (by omega) (by simp; omega)]
   have hr : rn xs[i] = some (rnum xs[i]).1 := by rw [rn, if_pos h]
   simp only [rns, hr, Option.bind_some]
   cases rns (xs.drop (i + 1)) <;> simp
  ·rw [if_neg h]
   have hr : rn xs[i] = none := by rw [rn, if_neg h]
   simp only [rns, hr, Option.bind_none]
theorem readNumbers_val (w : List UInt8) (c : UInt8) (hw : w.length ≤ 2000000) (k : Nat) (hk : w.length + 1 < k) :
  impl_readNumbers.f k (bs w) (bs [c]) = some (match rns (sp c w) with | some ns => (ns, true) | none => ([], false)) := by
 have hl := sp_len c w
 unfold impl_readNumbers.f
 rw [split_val w c (by omega), Option.bind_some, List.length_map]
 have := readNumbers_l0 (sp c w) (fun x hx => by have := sp_mem_len c w x hx; omega) (by omega) (sp c w).length 0 k [] (by omega) (by omega) (by simp)
 rw [List.drop_zero] at this
 rw [show (0 : Int) = ((0 : Nat) : Int) from rfl, this]
 cases rns (sp c w) <;> simp
end Go.Proofs.YtijcdpnnjiamjaaGreatDoor.Tx
end
section
set_option linter.unusedSimpArgs false
namespace Go.Proofs.YtijcdpnnjiamjaaGreatDoor.Tx
open Go.RowKit Go.Proofs.YtijcdpnnjiamjaaGreatDoor.G Go.Proofs.YtijcdpnnjiamjaaGreatDoor.Pz Go.Proofs.YtijcdpnnjiamjaaGreatDoorW.PrintWords Go.Proofs.YtijcdpnnjiamjaaGreatDoorW.PrintLast Go.Proofs.YtijcdpnnjiamjaaGreatDoorW.PrintMore
def qc (p : S46) : List UInt8 := dg p.f0.toNat ++ [46] ++ dg p.f1.toNat ++ [46] ++ dg p.f2.toNat
theorem qc_join (p : S46) : Lib.join ([p.f0.toNat, p.f1.toNat, p.f2.toNat].map dg) [46] = qc p := by
 rw [List.map_cons, Lib.join_cons]
 simp [Lib.joinTail, qc]
def okQ (p : S46) : Prop := 0 ≤ p.f0 ∧ p.f0 ≤ 5 ∧ 0 ≤ p.f1 ∧ p.f1 ≤ 40 ∧ 0 ≤ p.f2 ∧ p.f2 ≤ 40
theorem clueB_n {k a b : Int} (h : clueB k a b = true) : 0 ≤ k ∧ k ≤ 5 ∧ 0 ≤ a ∧ a ≤ 40 ∧ 0 ≤ b ∧ b ≤ 40 := by
 unfold clueB inB at h
 repeat' split at h
 all_goals (simp at h <;> omega)
theorem okQ_n {l : List S46} (h : l.all okC = true) : ∀ p ∈ l, okQ p := by
 intro p hp
 have := List.all_eq_true.1 h p hp
 exact clueB_n this
theorem qc_len {p : S46} (h : okQ p) : (qc p).length ≤ 200 := by
 obtain ⟨a, b, c, d, e, f⟩ := h
 have h1 := dg_len p.f0.toNat
 have h2 := dg_len p.f1.toNat
 have h3 := dg_len p.f2.toNat
 unfold qc
 simp
 omega
theorem numsQ {p : S46} (h : okQ p) : ([p.f0, p.f1, p.f2] : List Int) = [p.f0.toNat, p.f1.toNat, p.f2.toNat].map fun n : Nat => (n : Int) := by
 obtain ⟨a, b, c, d, e, f⟩ := h
 simp
 omega
theorem partsQ_len {l : List S46} (h : ∀ p ∈ l, okQ p) (hl : l.length ≤ 6) : (Lib.join (l.map qc) [44]).length ≤ 1206 := by
 have := join_len (l.map qc) [44] 200 (fun x hx => by
  obtain ⟨p, hp, rfl⟩ := List.mem_map.1 hx
  exact qc_len (h p hp))
 have h2 : ([44].length + 200 : Nat) * (l.map qc).length ≤ 201 * 6 := Nat.mul_le_mul (by simp) (by simpa using hl)
 omega
def lt1 (a : Int) : List UInt8 := if a = 0 then [114] else if a = 1 then [111] else [117]
theorem lt1_len (a : Int) : (lt1 a).length = 1 := by
 unfold lt1
 split
 ·rfl
 ·split <;> rfl
def st (a b : Int) : List UInt8 := lt1 a ++ dg b.toNat
theorem st_len {a b : Int} (h : Pz.hid a b = true) : (st a b).length ≤ 22 := by
 obtain ⟨_, h1, h2⟩ := hid_facts h
 have := dg_len b.toNat
 unfold st
 rw [List.length_append]
 have e := lt1_len a
 omega
theorem letter {a : Int} (h : a = 0 ∨ a = 1 ∨ a = 2) : (⟨#[114, 111, 117]⟩ : ByteArray).extract (a : Int).toNat ((wrap64 (a + 1)) : Int).toNat = bs (lt1 a) := by
 rcases h with rfl | rfl | rfl
 ·decide +kernel
 ·decide +kernel
 ·decide +kernel
theorem nuText_val {a b : Int} (h : Pz.hid a b = true) (k : Nat) (hk : 21 < k) : spec_nuText.f k a b = some (bs (st a b)) := by
 obtain ⟨h0, h1, h2⟩ := hid_facts h
 have hn := l1Num_val b.toNat k (by omega) (by omega)
 rw [Int.toNat_of_nonneg (by omega)] at hn
 have hl := dg_len b.toNat
 unfold spec_nuText.f
 rw [if_pos (by omega), if_pos (by rw [Pz.w64 (by omega) (by omega)]; omega), if_pos (by rw [Pz.w64 (by omega) (by omega)]; omega), hn, Option.bind_some, letter h0, bs_append, if_pos (by rw [bs_size, bs_size]; have e := lt1_len a; omega)]
 rfl
theorem street_of {a b : Int} (h : Pz.hid a b = true) : street a b = true := by
 unfold Pz.hid at h
 simp at h
 exact h.1
theorem streetText_val {a b : Int} (h : Pz.hid a b = true) : impl_StreetText.f a b = some (bs (st a b), true) := by
 obtain ⟨h0, h1, h2⟩ := hid_facts h
 have hn := itoa_val b.toNat (by omega)
 rw [Int.toNat_of_nonneg (by omega)] at hn
 have hl := dg_len b.toNat
 unfold impl_StreetText.f
 rw [isStreet_val, street_of h, Option.bind_some, if_pos rfl, if_pos (by omega), if_pos (by rw [Pz.w64 (by omega) (by omega)]; omega), if_pos (by rw [Pz.w64 (by omega) (by omega)]; omega), hn, Option.bind_some, letter h0, bs_append, if_pos (by rw [bs_size, bs_size]; have e := lt1_len a; omega)]
 rfl
def pt (a b : Int) (l : List S46) : List UInt8 := st a b ++ [59] ++ Lib.join (l.map qc) [44]
theorem implPuzzle_l0 (a b : Int) (l : List S46) (g : Pz.hid a b = true) (h : ∀ p ∈ l, okQ p) (hl : l.length ≤ 6) : ∀ (d i k : Nat), i + d = l.length → d + 9 < k →
  impl_puzzleText.l0 k ((l.take i).map (fun p => bs (qc p)) ++ List.replicate d (bs [])) l (l.length : Int) (i : Int) a b l = some (bs (pt a b l)) := by
 intro d
 induction d with
 | zero =>
  intro i k hi hk
  obtain ⟨k, rfl⟩ : ∃ m, k = m + 1 := ⟨k - 1, by omega⟩
  simp only [impl_puzzleText.l0]
  have hp := partsQ_len h hl
  have hs := st_len g
  have hv := join_val (l.map qc) [44] (by omega) (by simp; omega)
  rw [List.map_map] at hv
  rw [if_neg (by omega), List.take_of_length_le (by omega), List.replicate_zero, List.append_nil, streetText_val g, Option.bind_some]
  have b44 : (⟨#[44]⟩ : ByteArray) = bs [44] := rfl
  have b59 : (⟨#[59]⟩ : ByteArray) = bs [59] := rfl
  rw [show (fun p => bs (qc p)) = bs ∘ qc from rfl, b44, b59, hv, Option.bind_some]
  simp only [bs_append, bs_size]
  rw [if_pos (by omega), if_pos (by simp only [List.length_append, List.length_cons, List.length_nil]; omega)]
  rfl
 | succ d ih =>
  intro i k hi hk
  obtain ⟨k, rfl⟩ : ∃ m, k = m + 1 := ⟨k - 1, by omega⟩
  simp only [impl_puzzleText.l0]
  have hx : l[i]? = some l[i] := List.getElem?_eq_getElem (by omega)
  have hrd : rd_T46 l (i : Int) = l[i] := by simp [rd_T46, List.getD, hx]
  have hok := h l[i] (List.getElem_mem (by omega))
  have hj := joinNumbers_val [l[i].f0.toNat, l[i].f1.toNat, l[i].f2.toNat] [46] (by simp) (fun x hx => by
   obtain ⟨a, b, c, d, e, f⟩ := hok
   simp at hx
   omega) (by simp) k (by simp; omega)
  rw [qc_join, ← numsQ hok] at hj
  rw [if_pos (by omega), if_pos (by omega), if_pos (by omega), hrd, show (⟨#[46]⟩ : ByteArray) = bs [46] from rfl, hj, Option.bind_some, if_pos (by simp; omega), Pz.w64 (by omega) (by omega), show ((i : Int) + 1) = ((i + 1 : Nat) : Int) by omega, ← ih (i + 1) k (by omega) (by omega)]
  congr 1
  rw [Int.toNat_natCast, List.set_append_right _ _ (by simp; omega), List.take_succ_eq_append_getElem (by omega), List.map_append, List.append_assoc]
  congr 1
  rw [show i - ((List.take i l).map fun p => bs (qc p)).length = 0 by simp; omega]
  rfl
theorem specPuzzle_l0 (l : List S46) (s : List UInt8) (hs : s.length ≤ 100) (h : ∀ p ∈ l, okQ p) (hl : l.length ≤ 6) : ∀ (d i k : Nat), i + d = l.length → d + 100 < k →
  spec_pzText.l0 k (bs (s ++ Lib.join ((l.take i).map qc) [44])) l (l.length : Int) (i : Int) = some (bs (s ++ Lib.join (l.map qc) [44])) := by
 intro d
 induction d with
 | zero =>
  intro i k hi hk
  obtain ⟨k, rfl⟩ : ∃ m, k = m + 1 := ⟨k - 1, by omega⟩
  simp only [spec_pzText.l0]
  rw [if_neg (by omega), List.take_of_length_le (by omega)]
 | succ d ih =>
  intro i k hi hk
  obtain ⟨k, rfl⟩ : ∃ m, k = m + 1 := ⟨k - 1, by omega⟩
  simp only [spec_pzText.l0]
  have hx : l[i]? = some l[i] := List.getElem?_eq_getElem (by omega)
  have hrd : rd_T46 l (i : Int) = l[i] := by simp [rd_T46, List.getD, hx]
  have hok := h l[i] (List.getElem_mem (by omega))
  obtain ⟨o1, o2, o3, o4, o5, o6⟩ := hok
  have v1 := l1Num_val l[i].f0.toNat k (by omega) (by omega)
  have v2 := l1Num_val l[i].f1.toNat k (by omega) (by omega)
  have v3 := l1Num_val l[i].f2.toNat k (by omega) (by omega)
  rw [Int.toNat_of_nonneg (by omega)] at v1 v2 v3
  have n1 := dg_len l[i].f0.toNat
  have n2 := dg_len l[i].f1.toNat
  have n3 := dg_len l[i].f2.toNat
  have hpre := partsQ_len (l := l.take i) (fun p hp => h p (List.mem_of_mem_take hp)) (by simp; omega)
  have hr := ih (i + 1) k (by omega) (by omega)
  have htk : (l.take (i + 1)).map qc = (l.take i).map qc ++ [qc l[i]] := by rw [List.take_succ_eq_append_getElem (by omega), List.map_append]; rfl
  have b46 : (⟨#[46]⟩ : ByteArray) = bs [46] := rfl
  have b44 : (⟨#[44]⟩ : ByteArray) = bs [44] := rfl
  rw [if_pos (by omega), if_pos (by omega), if_pos (by omega), hrd, v1, v2, v3]
  simp only [Option.bind_some, b46, b44, bs_append, bs_size]
  rw [Pz.w64 (by omega) (by omega), show ((i : Int) + 1) = ((i + 1 : Nat) : Int) by omega]
  by_cases h0 : i = 0
  ·subst h0
   rw [if_neg (by simp)]
   rw [htk] at hr
   simp only [List.take_zero, List.map_nil, List.nil_append, Lib.join_nil, Lib.join_one, List.append_nil] at hr ⊢
   rw [if_pos (by omega), if_pos (by (try simp only [List.length_append, List.length_cons, List.length_nil]); omega), if_pos (by (try simp only [List.length_append, List.length_cons, List.length_nil]); omega), if_pos (by (try simp only [List.length_append, List.length_cons, List.length_nil]); omega), if_pos (by (try simp only [List.length_append, List.length_cons, List.length_nil]); omega)]
   exact hr
  ·rw [htk, join_snoc _ _ _ (by intro e; have := congrArg List.length e; rw [List.length_map, List.length_take, List.length_nil] at this; omega)] at hr
   rw [if_pos (by omega), if_pos (by (try simp only [List.length_append, List.length_cons, List.length_nil]); omega), if_pos (by (try simp only [List.length_append, List.length_cons, List.length_nil]); omega), if_pos (by (try simp only [List.length_append, List.length_cons, List.length_nil]); omega), if_pos (by (try simp only [List.length_append, List.length_cons, List.length_nil]); omega), if_pos (by (try simp only [List.length_append, List.length_cons, List.length_nil]); omega), if_pos (by (try simp only [List.length_append, List.length_cons, List.length_nil]); omega)]
   rw [← hr]
   congr 2
   simp only [List.append_assoc, qc]
theorem puzzleText_k {a b : Int} {l : List S46} (h : good a b l = true) (k : Nat) (hk : 3000 ≤ k) : impl_puzzleText.f k a b l = some (bs (pt a b l)) := by
 obtain ⟨g1, g2, g3⟩ := good_facts h
 have := implPuzzle_l0 a b l g1 (okQ_n g3) g2 l.length 0 k (by omega) (by omega)
 unfold impl_puzzleText.f
 rw [if_pos (by omega), if_pos (by simp; omega)]
 simp only [List.take_zero, List.map_nil, List.nil_append] at this
 have e : (⟨#[]⟩ : ByteArray) = bs [] := rfl
 rw [e, show (0 : Int) = ((0 : Nat) : Int) from rfl]
 simpa using this
theorem pzText_k {a b : Int} {l : List S46} (h : good a b l = true) (k : Nat) (hk : 3000 ≤ k) : spec_pzText.f k a b l = some (bs (pt a b l)) := by
 obtain ⟨g1, g2, g3⟩ := good_facts h
 have hs := st_len g1
 have := specPuzzle_l0 l (st a b ++ [59]) (by simp; omega) (okQ_n g3) g2 l.length 0 k (by omega) (by omega)
 unfold spec_pzText.f
 have e : (⟨#[59]⟩ : ByteArray) = bs [59] := rfl
 rw [nuText_val g1 k (by omega), Option.bind_some, if_pos (by rw [bs_size]; omega), e, bs_append]
 simp only [List.take_zero, List.map_nil, Lib.join_nil, List.append_nil] at this
 rw [show (0 : Int) = ((0 : Nat) : Int) from rfl, this]
 rfl
end Go.Proofs.YtijcdpnnjiamjaaGreatDoor.Tx
end
section
set_option linter.unusedSimpArgs false
set_option linter.unusedVariables false
namespace Go.Proofs.YtijcdpnnjiamjaaGreatDoor.Tx
open Go.RowKit Go.Proofs.YtijcdpnnjiamjaaGreatDoor.G Go.Proofs.YtijcdpnnjiamjaaGreatDoor.Pz Go.Proofs.YtijcdpnnjiamjaaGreatDoorW.PrintWords Go.Proofs.YtijcdpnnjiamjaaGreatDoorW.PrintLast Go.Proofs.YtijcdpnnjiamjaaGreatDoorW.PrintMore
abbrev Res := Int × Int × List S46 × Bool
def chk (l : List UInt8) (D : Option (Int × Int × List S46)) : Res := match D with
 | some (a, b, q) => if good a b q = true then (if pt a b q = l then (a, b, q, true) else (0, 0, [], false)) else (0, 0, [], false)
 | none => (0, 0, [], false)
theorem text_eq (a l : List UInt8) : ((bs a).toList = (bs l).toList) = (a = l) := by rw [ByteArray.toList_eq, ByteArray.toList_eq, bs_list, bs_list]
theorem text_beq (a l : List UInt8) : ((bs a).toList == (bs l).toList) = decide (a = l) := by
 rw [ByteArray.toList_eq, ByteArray.toList_eq, bs_list, bs_list, Bool.eq_iff_iff]
 simp
theorem text_nil (l : List UInt8) : ((bs l).toList = ([] : List UInt8)) = (l = []) := by rw [ByteArray.toList_eq, bs_list]
def pst : List UInt8 → Option (Int × Int)
 | [] => none
 | c :: r => match rn r with
  | some p => if street (Lib.indexByte [114, 111, 117] c) p = true then some (Lib.indexByte [114, 111, 117] c, p) else none
  | none => none
def sres3 (o : Option (Int × Int)) : Int × Int × Bool := match o with
 | some (a, b) => (a, b, true)
 | none => (0, 0, false)
theorem parseStreet_val (l : List UInt8) (hl : l.length ≤ 2000000) : impl_ParseStreet.f (bs l) = some (sres3 (pst l)) := by
 unfold impl_ParseStreet.f
 simp only [text_nil]
 cases l with
 | nil => rfl
 | cons c r =>
  have hbt := bt_bs (c :: r) 0 (by simp)
  rw [show ((0 : Nat) : Int) = 0 from rfl] at hbt
  have hex : (bs (c :: r)).extract 1 (bs (c :: r)).size = bs r := by
   rw [extract_bs, bs_size, List.take_length]
   rfl
  have hlr : r.length ≤ 2000000 := by simp at hl; omega
  have hib : strings_IndexByte.f (⟨#[114, 111, 117]⟩ : ByteArray) (bt (bs (c :: r)) 0) = some (Lib.indexByte [114, 111, 117] c) := by
   rw [hbt]
   unfold strings_IndexByte.f
   congr 2
   simp
  rw [if_neg (by simp), if_pos (by rw [bs_size, List.length_cons]; omega), hex, readNumber_val r hlr, Option.bind_some, if_pos (by rw [bs_size, List.length_cons]; omega), hib, Option.bind_some]
  by_cases h : (rnum r).2 = true
  ·have hr : rn r = some (rnum r).1 := by rw [rn, if_pos h]
   rw [if_pos h, isStreet_val, Option.bind_some]
   simp only [pst, hr]
   by_cases hs : street (Lib.indexByte [114, 111, 117] c) (rnum r).1 = true
   ·rw [if_pos hs, if_pos hs]; rfl
   ·rw [if_neg hs, if_neg hs]; rfl
  ·have hr : rn r = none := by rw [rn, if_neg h]
   rw [if_neg h]
   simp only [pst, hr]
   rfl
def qw (w : List UInt8) : Option S46 := match rns (sp 46 w) with
 | some [a, b, c] => some ⟨a, b, c⟩
 | _ => none
def qws : List (List UInt8) → Option (List S46)
 | [] => some []
 | x :: r => (qw x).bind fun v => (qws r).map (v :: ·)
theorem implJ1 (l : List UInt8) (a b : Int) (q : List S46) (k : Nat) (hk : 5000 ≤ k) : impl_ParsePuzzle.j1 k (bs l) a b q = some (chk l (some (a, b, q))) := by
 obtain ⟨k, rfl⟩ : ∃ m, k = m + 1 := ⟨k - 1, by omega⟩
 simp only [impl_ParsePuzzle.j1]
 rw [isPuzzle_val, Option.bind_some]
 unfold chk
 simp only
 cases hg : good a b q with
 | false => simp
 | true =>
  rw [if_pos rfl, if_pos rfl, puzzleText_k hg k (by omega), Option.bind_some]
  simp only [text_eq]
  by_cases ht : pt a b q = l <;> simp [ht]
def qadd (a b : Int) (acc : List S46) (o : Option (List S46)) : Option (Int × Int × List S46) := o.map fun q => (a, b, acc ++ q)
theorem implPz_l0 (l rest : List UInt8) (hr : rest ≠ []) (a b : Int) (xs : List (List UInt8)) (hx : ∀ x ∈ xs, x.length ≤ 2000000) (hn : xs.length ≤ 2000002) : ∀ (d i k : Nat) (acc : List S46), i + d = xs.length → d + 2010002 < k → acc.length ≤ i →
  impl_ParsePuzzle.l0 k (bs l) (bs rest) (xs.map bs) (xs.length : Int) (i : Int) a b acc = some (chk l (qadd a b acc (qws (xs.drop i)))) := by
 intro d
 induction d with
 | zero =>
  intro i k acc hi hk ha
  obtain ⟨k, rfl⟩ : ∃ m, k = m + 1 := ⟨k - 1, by omega⟩
  simp only [impl_ParsePuzzle.l0]
  rw [if_neg (by omega), List.drop_of_length_le (by omega : xs.length ≤ i), implJ1 l a b acc k (by omega)]
  simp [qws, qadd]
 | succ d ih =>
  intro i k acc hi hk ha
  obtain ⟨k, rfl⟩ : ∃ m, k = m + 1 := ⟨k - 1, by omega⟩
  simp only [impl_ParsePuzzle.l0]
  have hil : i < xs.length := by omega
  have hrd : rdOf ByteArray.empty (xs.map bs) (i : Int) = bs xs[i] := by simp [rdOf, List.getD, hil]
  have hxi := hx _ (List.getElem_mem hil)
  simp only [text_nil]
  rw [if_pos (by omega), if_pos (by omega), if_pos (by simp; omega), if_neg hr, hrd, show (⟨#[46]⟩ : ByteArray) = bs [46] from rfl, readNumbers_val _ 46 hxi k (by omega), Option.bind_some, Pz.w64 (by omega) (by omega), show ((i : Int) + 1) = ((i + 1 : Nat) : Int) by omega, List.drop_eq_getElem_cons hil]
  cases hq : rns (sp 46 xs[i]) with
  | none =>
   have hp : qw xs[i] = none := by rw [qw, hq]
   simp [qws, hp, qadd, chk]
  | some ns =>
   simp only
   rw [if_pos trivial]
   match ns, hq with
   | [], hq =>
    have hp : qw xs[i] = none := by rw [qw, hq]
    simp [qws, hp, qadd, chk]
   | [x], hq =>
    have hp : qw xs[i] = none := by rw [qw, hq]
    simp [qws, hp, qadd, chk]
   | [x, y], hq =>
    have hp : qw xs[i] = none := by rw [qw, hq]
    simp [qws, hp, qadd, chk]
   | [x, y, z], hq =>
    have hp : qw xs[i] = some ⟨x, y, z⟩ := by rw [qw, hq]
    rw [if_pos (by simp), if_pos (by simp), if_pos (by simp), if_pos (by simp), if_pos (by omega)]
    have e : (⟨rd [x, y, z] 0, rd [x, y, z] 1, rd [x, y, z] 2⟩ : S46) = ⟨x, y, z⟩ := rfl
    rw [e, ih (i + 1) k _ (by omega) (by omega) (by simp; omega)]
    simp only [qws, hp, Option.bind_some]
    cases qws (xs.drop (i + 1)) <;> simp [qadd]
   | x :: y :: z :: u :: t, hq =>
    have hp : qw xs[i] = none := by rw [qw, hq]
    rw [if_neg (by simp; omega)]
    simp [qws, hp, qadd, chk]
def dI (l : List UInt8) : Option (Int × Int × List S46) := match pst (Lib.cut l [59]).1 with
 | some (a, b) => if (Lib.cut l [59]).2.1 = [] then some (a, b, []) else qadd a b [] (qws (sp 44 (Lib.cut l [59]).2.1))
 | none => none
theorem cut_len (l : List UInt8) (c : UInt8) : (Lib.cut l [c]).1.length ≤ l.length ∧ (Lib.cut l [c]).2.1.length ≤ l.length := by
 unfold Lib.cut
 split <;> simp <;> omega
theorem implPz_val (l : List UInt8) (hl : l.length ≤ 2000000) (k : Nat) (hk : 5000000 ≤ k) : impl_ParsePuzzle.f k (bs l) = some (chk l (dI l)) := by
 obtain ⟨c1, c2⟩ := cut_len l 59
 have hcut : strings_Cut.f (bs l) (⟨#[59]⟩ : ByteArray) = some (bs (Lib.cut l [59]).1, bs (Lib.cut l [59]).2.1, (Lib.cut l [59]).2.2) := by
  unfold strings_Cut.f
  rw [if_pos (by rw [bs_size]; omega), bs_list]
  rfl
 unfold impl_ParsePuzzle.f dI
 rw [hcut, Option.bind_some, parseStreet_val _ (by omega), Option.bind_some]
 generalize (Lib.cut l [59]).2.1 = rest at *
 cases hp : pst (Lib.cut l [59]).1 with
 | none => simp [sres3, chk]
 | some ab =>
  obtain ⟨a, b⟩ := ab
  simp only [sres3]
  have hs := sp_len 44 rest
  rw [if_pos trivial, show (⟨#[44]⟩ : ByteArray) = bs [44] from rfl, split_val rest 44 (by omega), Option.bind_some, List.length_map]
  by_cases hr : rest = []
  ·subst hr
   rw [if_pos rfl]
   obtain ⟨k, rfl⟩ : ∃ m, k = m + 1 := ⟨k - 1, by omega⟩
   simp only [impl_ParsePuzzle.l0, text_nil]
   rw [if_pos (by simp [sp]), if_pos (by omega), if_pos (by simp [sp]), if_pos trivial]
   exact implJ1 l a b [] k (by omega)
  ·rw [if_neg hr]
   have := implPz_l0 l rest hr a b (sp 44 rest) (fun x hx => by have := sp_mem_len 44 rest x hx; omega) (by omega) (sp 44 rest).length 0 k [] (by omega) (by omega) (by simp)
   rw [List.drop_zero] at this
   exact this
def kdOf (c : UInt8) : Int := if c = 117 then 2 else if c = 111 then 1 else if c = 114 then 0 else -1
def npar : List UInt8 → Option (Int × Int)
 | [] => none
 | c :: r => if 1 ≤ r.length ∧ r.length ≤ 4 then (if street (kdOf c) (rd6 r) = true then some (kdOf c, rd6 r) else none) else none
theorem nuGood_val (a b : Int) : spec_nuGood.f a b = some (street a b) := isStreet_val a b
theorem nuParse_val (l : List UInt8) (hl : l.length ≤ 2000000) (k : Nat) (hk : 100 < k) : spec_nuParse.f k (bs l) = some (sres3 (npar l)) := by
 unfold spec_nuParse.f
 rw [l1In_val, Option.bind_some]
 cases l with
 | nil => simp [inB, bs_size, npar, sres3]
 | cons c r =>
  by_cases hb : 1 ≤ r.length ∧ r.length ≤ 4
  ·have hi : inB ((bs (c :: r)).size : Int) 2 5 = true := by
    unfold inB
    rw [bs_size]
    simp
    omega
   have hex : (bs (c :: r)).extract 1 (bs (c :: r)).size = bs r := by
    rw [extract_bs, bs_size, List.take_length]
    rfl
   have hbt := bt_bs (c :: r) 0 (by simp)
   rw [show ((0 : Nat) : Int) = 0 from rfl] at hbt
   simp only [List.getElem_cons_zero] at hbt
   have hsz : 0 < ((bs (c :: r)).size : Int) := by rw [bs_size, List.length_cons]; omega
   rw [hi, if_pos rfl, if_pos (by omega), hex, l1Read_val r (by omega) k (by omega), Option.bind_some]
   obtain ⟨k, rfl⟩ : ∃ m, k = m + 4 := ⟨k - 4, by omega⟩
   have b0 : bt (⟨#[114, 111, 117]⟩ : ByteArray) 0 = 114 := rfl
   have b1 : bt (⟨#[114, 111, 117]⟩ : ByteArray) 1 = 111 := rfl
   have b2 : bt (⟨#[114, 111, 117]⟩ : ByteArray) 2 = 117 := rfl
   have w1 : wrap64 ((0 : Int) + 1) = 1 := Pz.w64 (by omega) (by omega)
   have w2 : wrap64 ((1 : Int) + 1) = 2 := Pz.w64 (by omega) (by omega)
   have w3 : wrap64 ((2 : Int) + 1) = 3 := Pz.w64 (by omega) (by omega)
   have step : ∀ (n : Nat) (j x y : Int), spec_nuParse.l0 (n + 1) (bs (c :: r)) j x y = if j < 3 then (if 0 < ((bs (c :: r)).size : Int) then (if 0 ≤ j then (if (bt (bs (c :: r)) 0) = (bt (⟨#[114, 111, 117]⟩ : ByteArray) j) then (spec_nuParse.l0 n (bs (c :: r)) (wrap64 (j + 1)) j y) else (spec_nuParse.l0 n (bs (c :: r)) (wrap64 (j + 1)) x y)) else none) else none) else ((spec_nuGood.f x y).bind fun t105 => (if t105 = true then (some (x, y, true)) else (some (0, 0, false)))) := fun _ _ _ _ => rfl
   have fin : ∀ (m : Nat) (x y : Int), spec_nuParse.l0 (m + 1) (bs (c :: r)) 3 x y = some (sres3 (if street x y = true then some (x, y) else none)) := by
    intro m x y
    rw [step, if_neg (by omega), nuGood_val, Option.bind_some]
    cases street x y <;> rfl
   have st2 : ∀ (m : Nat) (x y : Int), spec_nuParse.l0 (m + 2) (bs (c :: r)) 2 x y = some (sres3 (if street (if c = 117 then 2 else x) y = true then some (if c = 117 then 2 else x, y) else none)) := by
    intro m x y
    rw [step (m + 1), if_pos (by omega), if_pos hsz, if_pos (by omega), hbt, b2, w3, fin, fin]
    by_cases hc : c = 117
    ·subst hc
     rw [if_pos (by rfl), if_pos rfl]
    ·rw [if_neg (fun e => hc (UInt8.toNat_inj.1 (by have : (117 : UInt8).toNat = 117 := rfl; omega))), if_neg hc]
   have st1 : ∀ (m : Nat) (x y : Int), spec_nuParse.l0 (m + 3) (bs (c :: r)) 1 x y = spec_nuParse.l0 (m + 2) (bs (c :: r)) 2 (if c = 111 then 1 else x) y := by
    intro m x y
    rw [step (m + 2), if_pos (by omega), if_pos hsz, if_pos (by omega), hbt, b1, w2]
    by_cases hc : c = 111
    ·subst hc
     rw [if_pos (by rfl), if_pos rfl]
    ·rw [if_neg (fun e => hc (UInt8.toNat_inj.1 (by have : (111 : UInt8).toNat = 111 := rfl; omega))), if_neg hc]
   have st0 : ∀ (m : Nat) (x y : Int), spec_nuParse.l0 (m + 4) (bs (c :: r)) 0 x y = spec_nuParse.l0 (m + 3) (bs (c :: r)) 1 (if c = 114 then 0 else x) y := by
    intro m x y
    rw [step (m + 3), if_pos (by omega), if_pos hsz, if_pos (by omega), hbt, b0, w1]
    by_cases hc : c = 114
    ·subst hc
     rw [if_pos (by rfl), if_pos rfl]
    ·rw [if_neg (fun e => hc (UInt8.toNat_inj.1 (by have : (114 : UInt8).toNat = 114 := rfl; omega))), if_neg hc]
   rw [st0, st1, st2]
   simp only [npar]
   rw [if_pos hb]
   rfl
  ·have hi : inB ((bs (c :: r)).size : Int) 2 5 = false := by
    unfold inB
    rw [bs_size, List.length_cons]
    by_cases h1 : 1 ≤ r.length
    ·rw [decide_eq_false (by omega : ¬ ((r.length + 1 : Nat) : Int) ≤ 5), Bool.and_false]
    ·rw [decide_eq_false (by omega : ¬ (2 : Int) ≤ ((r.length + 1 : Nat) : Int)), Bool.false_and]
   rw [hi, if_neg (by simp)]
   simp only [npar]
   rw [if_neg hb]
   rfl
def sqw (w : List UInt8) : Option S46 := match sp 46 w with
 | [a, b, c] => some ⟨rd6 a, rd6 b, rd6 c⟩
 | _ => none
def sqws : List (List UInt8) → Option (List S46)
 | [] => some []
 | x :: r => (sqw x).bind fun v => (sqws r).map (v :: ·)
def fin4 (v : Res) : Res := if v.2.2.2 = true then (v.1, v.2.1, v.2.2.1, true) else (0, 0, [], false)
theorem specEnd (l : List UInt8) (a b : Int) (q : List S46) (k : Nat) (hk : 50000 ≤ k) :
  ∃ v, ((spec_pzGood.f k a b q).bind fun t => if t = true then ((spec_pzText.f k a b q).bind fun u => some (a, b, q, (u.toList == (bs l).toList))) else some (a, b, q, false)) = some v ∧ fin4 v = chk l (some (a, b, q)) := by
 rw [pzGood_k a b q (by omega), Option.bind_some]
 unfold chk
 simp only
 cases hg : good a b q with
 | false => exact ⟨_, rfl, rfl⟩
 | true =>
  rw [if_pos rfl, if_pos rfl, pzText_k hg k (by omega), Option.bind_some, text_beq]
  refine ⟨_, rfl, ?_⟩
  unfold fin4
  by_cases ht : pt a b q = l <;> simp [ht]
theorem specPz_l0 (l : List UInt8) (a b : Int) (xs : List (List UInt8)) (hx : ∀ x ∈ xs, x.length ≤ 1000) (hn : xs.length ≤ 1000) : ∀ (d i k : Nat) (acc : List S46), i + d = xs.length → d + 60000 < k → acc.length ≤ i →
  ∃ v, spec_pzParse.l0 k (bs l) (xs.map bs) (xs.length : Int) (i : Int) a b acc = some v ∧ fin4 v = chk l (qadd a b acc (sqws (xs.drop i))) := by
 intro d
 induction d with
 | zero =>
  intro i k acc hi hk ha
  obtain ⟨k, rfl⟩ : ∃ m, k = m + 1 := ⟨k - 1, by omega⟩
  simp only [spec_pzParse.l0]
  rw [if_neg (by omega), List.drop_of_length_le (by omega : xs.length ≤ i)]
  have := specEnd l a b acc k (by omega)
  simpa [sqws, qadd] using this
 | succ d ih =>
  intro i k acc hi hk ha
  obtain ⟨k, rfl⟩ : ∃ m, k = m + 1 := ⟨k - 1, by omega⟩
  simp only [spec_pzParse.l0]
  have hil : i < xs.length := by omega
  have hrd : rdOf ByteArray.empty (xs.map bs) (i : Int) = bs xs[i] := by simp [rdOf, List.getD, hil]
  have hxi := hx _ (List.getElem_mem hil)
  have hsp := l1Split_ev xs[i] 46 (by omega) k (by omega)
  rw [show (((46 : UInt8).toNat : Nat) : Int) = 46 from rfl] at hsp
  rw [if_pos (by omega), if_pos (by omega), if_pos (by simp; omega), hrd, hsp, Option.bind_some, List.length_map, Pz.w64 (by omega) (by omega), show ((i : Int) + 1) = ((i + 1 : Nat) : Int) by omega, List.drop_eq_getElem_cons hil]
  have no : ∀ (z : Option S46), z = none → fin4 (0, 0, ([] : List S46), false) = chk l (qadd a b acc (z.bind fun v => (sqws (xs.drop (i + 1))).map (v :: ·))) := by
   intro z hz
   subst hz
   rfl
  match hs : sp 46 xs[i] with
  | [] => exact absurd hs (sp_ne 46 _)
  | [x] =>
   rw [if_neg (by simp)]
   exact ⟨_, rfl, no (sqw xs[i]) (by rw [sqw, hs])⟩
  | [x, y] =>
   rw [if_neg (by simp)]
   exact ⟨_, rfl, no (sqw xs[i]) (by rw [sqw, hs])⟩
  | [x, y, z] =>
   have hp : sqw xs[i] = some ⟨rd6 x, rd6 y, rd6 z⟩ := by rw [sqw, hs]
   have hm := sp_mem_len 46 xs[i]
   rw [hs] at hm
   have ha2 := hm x (by simp)
   have hb2 := hm y (by simp)
   have hc2 := hm z (by simp)
   have e0 : rdOf ByteArray.empty ([x, y, z].map bs) 0 = bs x := rfl
   have e1 : rdOf ByteArray.empty ([x, y, z].map bs) 1 = bs y := rfl
   have e2 : rdOf ByteArray.empty ([x, y, z].map bs) 2 = bs z := rfl
   rw [if_pos (by simp), if_pos (by simp), e0, e1, e2, l1Read_val x (by omega) k (by omega), Option.bind_some, if_pos (by simp), l1Read_val y (by omega) k (by omega), Option.bind_some, if_pos (by simp), l1Read_val z (by omega) k (by omega), Option.bind_some, if_pos (by omega)]
   obtain ⟨v, h1, h2⟩ := ih (i + 1) k (acc ++ [⟨rd6 x, rd6 y, rd6 z⟩]) (by omega) (by omega) (by simp; omega)
   refine ⟨v, h1, ?_⟩
   rw [h2]
   simp only [sqws, hp, Option.bind_some]
   cases sqws (xs.drop (i + 1)) <;> simp [qadd]
  | x :: y :: z :: u :: t =>
   rw [if_neg (by simp; omega)]
   exact ⟨_, rfl, no (sqw xs[i]) (by rw [sqw, hs])⟩
def dS (l : List UInt8) : Option (Int × Int × List S46) := if 100 < l.length then none else match sp 59 l with
 | [x, y] => match npar x with
  | some (a, b) => if y = [] then some (a, b, []) else qadd a b [] (sqws (sp 44 y))
  | none => none
 | _ => none
theorem specPz_val (l : List UInt8) (hl : l.length ≤ 2000000) (k : Nat) (hk : 5000000 ≤ k) : spec_ParsePuzzle.f k (bs l) = some (chk l (dS l)) := by
 have main : ∃ v, spec_pzParse.f k (bs l) = some v ∧ fin4 v = chk l (dS l) := by
  have hsp := l1Split_ev l 59 (by omega) k (by omega)
  rw [show (((59 : UInt8).toNat : Nat) : Int) = 59 from rfl] at hsp
  have hs := sp_len 59 l
  unfold spec_pzParse.f dS
  rw [hsp, Option.bind_some]
  obtain ⟨k, rfl⟩ : ∃ m, k = m + 1 := ⟨k - 1, by omega⟩
  have bad : spec_pzParse.j0 (k + 1) (bs l) ((sp 59 l).map bs) true = some (0, 0, [], false) := by
   simp only [spec_pzParse.j0]
   rw [if_pos trivial]
  by_cases h100 : 100 < l.length
  ·rw [if_pos (by rw [bs_size]; omega), if_pos h100, bad]
   exact ⟨_, rfl, rfl⟩
  ·rw [if_neg (by rw [bs_size]; omega), if_neg h100, List.length_map]
   match hw : sp 59 l with
   | [] => exact absurd hw (sp_ne 59 _)
   | [x] =>
    rw [hw] at bad
    rw [show ((([x] : List (List UInt8)).length : Int) != 2) = true from rfl, bad]
    exact ⟨_, rfl, rfl⟩
   | x :: y :: z :: t =>
    rw [hw] at bad
    rw [show (((x :: y :: z :: t : List (List UInt8)).length : Int) != 2) = true from bne_iff_ne.mpr (by simp; omega), bad]
    exact ⟨_, rfl, rfl⟩
   | [x, y] =>
    have hm := sp_mem_len 59 l
    rw [hw] at hm
    have hx2 := hm x (by simp)
    have hy2 := hm y (by simp)
    rw [show ((([x, y] : List (List UInt8)).length : Int) != 2) = false from rfl]
    simp only [spec_pzParse.j0]
    have e0 : rdOf ByteArray.empty ([x, y].map bs) 0 = bs x := rfl
    have e1 : rdOf ByteArray.empty ([x, y].map bs) 1 = bs y := rfl
    rw [if_neg (by simp), if_pos (by simp), e0, e1, nuParse_val x (by omega) k (by omega), Option.bind_some]
    cases hp : npar x with
    | none => exact ⟨_, rfl, rfl⟩
    | some ab =>
     obtain ⟨a, b⟩ := ab
     simp only [sres3]
     rw [if_pos trivial, if_pos (by simp)]
     by_cases hy : y = []
     ·subst hy
      rw [if_neg (by rw [bs_size]; simp), if_pos rfl]
      exact specEnd l a b [] k (by omega)
     ·have hyl : 0 < y.length := List.length_pos_iff.mpr hy
      have hsp2 := l1Split_ev y 44 (by omega) k (by omega)
      rw [show (((44 : UInt8).toNat : Nat) : Int) = 44 from rfl] at hsp2
      have hs2 := sp_len 44 y
      rw [if_pos (by rw [bs_size]; omega), if_neg hy, hsp2, Option.bind_some, List.length_map]
      have := specPz_l0 l a b (sp 44 y) (fun z hz => by have := sp_mem_len 44 y z hz; omega) (by omega) (sp 44 y).length 0 k [] (by omega) (by omega) (by simp)
      rw [List.drop_zero] at this
      exact this
 obtain ⟨v, h1, h2⟩ := main
 unfold spec_ParsePuzzle.f
 rw [h1, Option.bind_some, ← h2]
 unfold fin4
 split <;> rfl
theorem qc_sp {p : S46} : sp 46 (qc p) = [dg p.f0.toNat, dg p.f1.toNat, dg p.f2.toNat] := by
 rw [← qc_join]
 exact sp_join 46 _ (by simp) (fun x hx => by
  simp at hx
  rcases hx with rfl | rfl | rfl
  ·exact dg_no 46 (by decide) _
  ·exact dg_no 46 (by decide) _
  ·exact dg_no 46 (by decide) _)
theorem qw_qc {p : S46} (h : okQ p) : qw (qc p) = some p := by
 obtain ⟨a, b, c, d, e, f⟩ := h
 unfold qw
 rw [qc_sp]
 simp only [rns, rn_dg p.f0.toNat (by omega), rn_dg p.f1.toNat (by omega), rn_dg p.f2.toNat (by omega), Option.bind_some, Option.map_some]
 have e1 : ((p.f0.toNat : Nat) : Int) = p.f0 := by omega
 have e2 : ((p.f1.toNat : Nat) : Int) = p.f1 := by omega
 have e3 : ((p.f2.toNat : Nat) : Int) = p.f2 := by omega
 rw [e1, e2, e3]
theorem sqw_qc {p : S46} (h : okQ p) : sqw (qc p) = some p := by
 obtain ⟨a, b, c, d, e, f⟩ := h
 unfold sqw
 rw [qc_sp]
 simp only [rd6_dg p.f0.toNat (by omega), rd6_dg p.f1.toNat (by omega), rd6_dg p.f2.toNat (by omega)]
 have e1 : ((p.f0.toNat : Nat) : Int) = p.f0 := by omega
 have e2 : ((p.f1.toNat : Nat) : Int) = p.f1 := by omega
 have e3 : ((p.f2.toNat : Nat) : Int) = p.f2 := by omega
 rw [e1, e2, e3]
theorem qws_qc : ∀ (q : List S46), (∀ p ∈ q, okQ p) → qws (q.map qc) = some q
 | [], _ => rfl
 | p :: r, h => by
  simp only [List.map_cons, qws, qw_qc (h p List.mem_cons_self), qws_qc r (fun x hx => h x (List.mem_cons_of_mem _ hx)), Option.bind_some, Option.map_some]
theorem sqws_qc : ∀ (q : List S46), (∀ p ∈ q, okQ p) → sqws (q.map qc) = some q
 | [], _ => rfl
 | p :: r, h => by
  simp only [List.map_cons, sqws, sqw_qc (h p List.mem_cons_self), sqws_qc r (fun x hx => h x (List.mem_cons_of_mem _ hx)), Option.bind_some, Option.map_some]
theorem qc_no (c : UInt8) (hc : c.toNat < 48) (h46 : c ≠ 46) (p : S46) : c ∉ qc p := by
 unfold qc
 intro h
 simp only [List.mem_append, List.mem_singleton] at h
 rcases h with (((h | h) | h) | h) | h
 ·exact dg_no c hc _ h
 ·exact h46 h
 ·exact dg_no c hc _ h
 ·exact h46 h
 ·exact dg_no c hc _ h
theorem join_no (c : UInt8) (sep : List UInt8) (hs : c ∉ sep) : ∀ (xs : List (List UInt8)), (∀ x ∈ xs, c ∉ x) → c ∉ Lib.join xs sep
 | [], _ => by simp [Lib.join_nil]
 | x :: r, h => by
  rw [Lib.join_cons]
  intro hm
  rcases List.mem_append.1 hm with hm | hm
  ·exact h x List.mem_cons_self hm
  ·unfold Lib.joinTail at hm
   obtain ⟨y, hy, hm⟩ := List.mem_flatten.1 hm
   obtain ⟨z, hz, rfl⟩ := List.mem_map.1 hy
   rcases List.mem_append.1 hm with hm | hm
   ·exact hs hm
   ·exact h z (List.mem_cons_of_mem _ hz) hm
theorem lt1_letters (a : Int) : lt1 a = [114] ∨ lt1 a = [111] ∨ lt1 a = [117] := by
 unfold lt1
 split
 ·exact .inl rfl
 ·split
  ·exact .inr (.inl rfl)
  ·exact .inr (.inr rfl)
theorem dg_no59 (n : Nat) : (59 : UInt8) ∉ dg n := fun h => by
 have := dg_digit n 59 h
 simp at this
theorem st_no (a b : Int) : (59 : UInt8) ∉ st a b := by
 unfold st
 intro h
 rcases List.mem_append.1 h with h | h
 ·rcases lt1_letters a with e | e | e <;> rw [e] at h <;> simp at h
 ·exact dg_no59 _ h
theorem index_at (c : UInt8) : ∀ (x y : List UInt8), c ∉ x → Lib.index (x ++ c :: y) [c] = (x.length : Int)
 | [], y, _ => by simp [Lib.index]
 | b :: r, y, h => by
  have hb : b ≠ c := fun e => h (by rw [e]; exact List.mem_cons_self)
  have ih := index_at c r y (fun e => h (List.mem_cons_of_mem _ e))
  have hp : ([c].isPrefixOf (b :: (r ++ c :: y))) = false := by simp [List.isPrefixOf, Ne.symm hb]
  rw [List.cons_append, Lib.index, hp, ih]
  have : (((r.length : Nat) : Int) == -1) = false := beq_eq_false_iff_ne.mpr (by omega)
  simp [this]
theorem cut_at (c : UInt8) (x y : List UInt8) (h : c ∉ x) : Lib.cut (x ++ c :: y) [c] = (x, y, true) := by
 unfold Lib.cut
 rw [index_at c x y h, if_pos (by omega), Int.toNat_natCast, List.take_left]
 congr 1
 congr 1
 rw [List.length_cons, List.length_nil, Nat.zero_add, ← List.drop_drop, List.drop_left]
 rfl
theorem ind_letter {a : Int} (h : a = 0 ∨ a = 1 ∨ a = 2) : ∃ c, lt1 a = [c] ∧ Lib.indexByte [114, 111, 117] c = a ∧ kdOf c = a := by
 rcases h with rfl | rfl | rfl
 ·exact ⟨114, rfl, by decide, by decide⟩
 ·exact ⟨111, rfl, by decide, by decide⟩
 ·exact ⟨117, rfl, by decide, by decide⟩
theorem both_street {a b : Int} (h : Pz.hid a b = true) : pst (st a b) = some (a, b) ∧ npar (st a b) = some (a, b) := by
 obtain ⟨h0, h1, h2⟩ := hid_facts h
 have hs := street_of h
 obtain ⟨c, e, e1, e2⟩ := ind_letter h0
 have hb : ((b.toNat : Nat) : Int) = b := by omega
 have hl := dg_len_pow 1 b.toNat (by omega)
 have hne : (dg b.toNat).length ≠ 0 := fun e => dg_ne _ (List.eq_nil_of_length_eq_zero e)
 have es : st a b = c :: dg b.toNat := by rw [st, e]; rfl
 constructor
 ·rw [es, pst, rn_dg _ (by omega), hb]
  simp only
  rw [e1, if_pos hs]
 ·rw [es, npar, if_pos (by omega), rd6_dg _ (by omega), hb, e2, if_pos hs]
theorem qc_len7 {p : S46} (h : okQ p) : (qc p).length ≤ 7 ∧ 1 ≤ (qc p).length := by
 obtain ⟨a, b, c, d, e, f⟩ := h
 have h1 := dg_len_pow 0 p.f0.toNat (by omega)
 have h2 := dg_len_pow 1 p.f1.toNat (by omega)
 have h3 := dg_len_pow 1 p.f2.toNat (by omega)
 unfold qc
 simp
 omega
theorem both_text {a b : Int} {q : List S46} (h : good a b q = true) : dI (pt a b q) = some (a, b, q) ∧ dS (pt a b q) = some (a, b, q) := by
 obtain ⟨g1, g2, g3⟩ := good_facts h
 have hq := okQ_n g3
 obtain ⟨p1, p2⟩ := both_street g1
 obtain ⟨h0, hb1, hb2⟩ := hid_facts g1
 have hJ : (59 : UInt8) ∉ Lib.join (q.map qc) [44] := join_no 59 [44] (by decide) _ (fun x hx => by
  obtain ⟨p, _, rfl⟩ := List.mem_map.1 hx
  unfold qc
  intro h
  simp only [List.mem_append, List.mem_singleton] at h
  rcases h with (((h | h) | h) | h) | h
  ·exact dg_no59 _ h
  ·exact absurd h (by decide)
  ·exact dg_no59 _ h
  ·exact absurd h (by decide)
  ·exact dg_no59 _ h)
 have hpt : pt a b q = st a b ++ 59 :: Lib.join (q.map qc) [44] := by rw [pt, List.append_assoc]; rfl
 have hlen : (pt a b q).length ≤ 100 := by
  have := join_len (q.map qc) [44] 7 (fun x hx => by
   obtain ⟨p, hp, rfl⟩ := List.mem_map.1 hx
   exact (qc_len7 (hq p hp)).1)
  have h2 : ([44].length + 7 : Nat) * (q.map qc).length ≤ 8 * 6 := Nat.mul_le_mul (by simp) (by simpa using g2)
  have h3 := st_len g1
  rw [hpt, List.length_append, List.length_cons]
  omega
 have hcut := cut_at 59 (st a b) (Lib.join (q.map qc) [44]) (st_no a b)
 have hsp : sp 59 (pt a b q) = [st a b, Lib.join (q.map qc) [44]] := by
  have e : pt a b q = Lib.join [st a b, Lib.join (q.map qc) [44]] [59] := by rw [Lib.join_cons, hpt]; simp [Lib.joinTail]
  rw [e]
  exact sp_join 59 _ (by simp) (fun x hx => by
   simp at hx
   rcases hx with rfl | rfl
   ·exact st_no a b
   ·exact hJ)
 have hJe : (Lib.join (q.map qc) [44] = []) ↔ q = [] := by
  constructor
  ·intro e
   cases q with
   | nil => rfl
   | cons p r =>
    rw [List.map_cons, Lib.join_cons] at e
    have h1 := (qc_len7 (hq p List.mem_cons_self)).2
    have h2 := congrArg List.length e
    rw [List.length_append, List.length_nil] at h2
    omega
  ·intro e
   rw [e]
   rfl
 have hJs : q ≠ [] → sp 44 (Lib.join (q.map qc) [44]) = q.map qc := fun hne => sp_join 44 _ (by simpa using hne) (fun x hx => by
  obtain ⟨p, _, rfl⟩ := List.mem_map.1 hx
  exact qc_no 44 (by decide) (by decide) p)
 constructor
 ·unfold dI
  rw [hpt, hcut]
  simp only [p1]
  by_cases hne : q = []
  ·subst hne
   rw [if_pos (hJe.2 rfl)]
  ·rw [if_neg (fun e => hne (hJe.1 e)), hJs hne, qws_qc q hq]
   simp [qadd]
 ·unfold dS
  rw [if_neg (by omega), hsp]
  simp only [p2]
  by_cases hne : q = []
  ·subst hne
   rw [if_pos (hJe.2 rfl)]
  ·rw [if_neg (fun e => hne (hJe.1 e)), hJs hne, sqws_qc q hq]
   simp [qadd]
theorem chk_yes {l : List UInt8} {a b : Int} {q : List S46} (h : good a b q = true) (ht : pt a b q = l) : chk l (some (a, b, q)) = (a, b, q, true) := by
 unfold chk
 simp only
 rw [if_pos h, if_pos ht]
theorem chk_no {l : List UInt8} (h : ¬ ∃ a b q, good a b q = true ∧ pt a b q = l) (D : Option (Int × Int × List S46)) : chk l D = (0, 0, [], false) := by
 cases D with
 | none => rfl
 | some d =>
  obtain ⟨a, b, q⟩ := d
  unfold chk
  simp only
  by_cases h1 : good a b q = true
  ·rw [if_pos h1]
   by_cases h2 : pt a b q = l
   ·exact absurd ⟨a, b, q, h1, h2⟩ h
   ·rw [if_neg h2]
  ·rw [if_neg h1]
theorem ParsePuzzle_both (l : List UInt8) (hl : l.length ≤ 1048577) : ∃ v, Ev (fun k => spec_ParsePuzzle.f k (bs l)) v ∧ Ev (fun k => impl_ParsePuzzle.f k (bs l)) v ∧ v.2.2.1.length ≤ 40 := by
 by_cases hq : ∃ a b q, good a b q = true ∧ pt a b q = l
 ·obtain ⟨a, b, q, h1, rfl⟩ := hq
  obtain ⟨_, g2, _⟩ := good_facts h1
  obtain ⟨d1, d2⟩ := both_text h1
  refine ⟨(a, b, q, true), ⟨5000000, fun k hk => ?_⟩, ⟨5000000, fun k hk => ?_⟩, by simp; omega⟩
  ·show spec_ParsePuzzle.f k (bs (pt a b q)) = _
   rw [specPz_val _ (by omega) k hk, d2, chk_yes h1 rfl]
  ·show impl_ParsePuzzle.f k (bs (pt a b q)) = _
   rw [implPz_val _ (by omega) k hk, d1, chk_yes h1 rfl]
 ·refine ⟨(0, 0, [], false), ⟨5000000, fun k hk => ?_⟩, ⟨5000000, fun k hk => ?_⟩, by simp⟩
  ·show spec_ParsePuzzle.f k (bs l) = _
   rw [specPz_val _ (by omega) k hk, chk_no hq]
  ·show impl_ParsePuzzle.f k (bs l) = _
   rw [implPz_val _ (by omega) k hk, chk_no hq]
end Go.Proofs.YtijcdpnnjiamjaaGreatDoor.Tx
end
section
namespace Go.Proofs.YtijcdpnnjiamjaaGreatDoor.Pz
open Go.RowKit Go.Proofs.YtijcdpnnjiamjaaGreatDoor.G Go.Proofs.YtijcdpnnjiamjaaGreatDoorW.PrintWords Go.Proofs.YtijcdpnnjiamjaaGreatDoorW.PrintLast Go.Proofs.YtijcdpnnjiamjaaGreatDoorW.PrintMore Go.Proofs.YtijcdpnnjiamjaaGreatDoor.Tx
theorem Gv.yes {α : Type} {c : Prop} [Decidable c] {f g : Nat → Option α} {P : α → Prop} (hc : c) (h : Gv f P) : Gv (fun k => if c then f k else g k) P := by
 simp only [if_pos hc]
 exact h
theorem Gv.no {α : Type} {c : Prop} [Decidable c] {f g : Nat → Option α} {P : α → Prop} (hc : ¬ c) (h : Gv g P) : Gv (fun k => if c then f k else g k) P := by
 simp only [if_neg hc]
 exact h
theorem at_up' {N M i : Int} (h : at_ N i) (hm : N ≤ M) : at_ M i := ⟨h.1, Int.le_trans h.2 hm⟩
theorem nums_size (x : Int) : (strOfNums [x]).size = 1 := by
 unfold strOfNums
 simp [ByteArray.size]
theorem spoilt_l0 {l : List Int} (hb : byt l) (w : ByteArray) (hw : 1 ≤ w.size ∧ w.size ≤ 100) : ∀ (d : Nat) (N i s : Int) (t : ByteArray), N + 6 * (d : Int) ≤ 800000000 → at_ N i → t.size + d ≤ 3000 → Gv (fun k => spec_l1Cur_spoilt.l0 k t w (d : Int) l i s) (fun r => r.1.size ≤ 3000) := by
 intro d
 induction d with
 | zero =>
  intro N i s t hN hi ht
  refine Gv.step (fun k => by rw [spec_l1Cur_spoilt.l0]) ?_
  refine Gv.no (by omega) ?_
  refine Gv.step (fun k => by rw [spec_l1Cur_spoilt.j1]) ?_
  refine Gv.no (by decide) ?_
  exact Gv.some (by dsimp only; omega)
 | succ d ih =>
  intro N i s t hN hi ht
  refine Gv.step (fun k => by rw [spec_l1Cur_spoilt.l0]) ?_
  refine Gv.yes (by omega) ?_
  refine Gv.step (fun k => by rw [spec_l1Cur_spoilt.j1]) ?_
  by_cases h0 : ((t.size : Int) > 0)
  ·refine Gv.yes (decide_eq_true h0) ?_
   refine Gv.bind (pick_gv hb s _ (by omega) hi) ?_
   rintro ⟨c, i1, s1⟩ ⟨c0, _, c2, h1⟩
   dsimp only at c0 c2 h1 ⊢
   have c3 := c2 (by omega)
   refine Gv.bind (pick_gv (N := N + 2) hb s1 _ (by omega) h1) ?_
   rintro ⟨e, i2, s2⟩ ⟨e0, _, e2, h2⟩
   dsimp only at e0 e2 h2 ⊢
   have e3 := e2 (by omega)
   refine Gv.yes e0 ?_
   refine Gv.yes e3 ?_
   refine Gv.bind (P := fun y => (strOfNums y).size = 1) (Gv.some (nums_size _)) ?_
   intro y hy
   refine Gv.bind (pick_gv (N := N + 2 + 2) hb s2 3 (by omega) h2) ?_
   rintro ⟨g, i3, s3⟩ ⟨_, _, _, h3⟩
   dsimp only at h3 ⊢
   obtain ⟨q, rfl⟩ : ∃ q : Nat, c = (q : Int) := ⟨c.toNat, by omega⟩
   have X2 : Aside0 ((t.extract 0 q).size = q) := ⟨by rw [ByteArray.size_extract]; omega⟩
   have X3 : Aside0 ((t.extract q t.size).size = t.size - q) := ⟨by rw [ByteArray.size_extract]; omega⟩
   have X4 : Aside0 ((t.extract (q + 1) t.size).size = t.size - (q + 1)) := ⟨by rw [ByteArray.size_extract]; omega⟩
   have XY : Aside0 ((strOfNums y).size = 1) := ⟨hy⟩
   clear hy
   have ew : wrap64 ((q : Int) + 1) = ((q + 1 : Nat) : Int) := by rw [wr_in (by omega) (by omega)]; omega
   have ed : wrap64 (((d + 1 : Nat) : Int) - 1) = (d : Int) := by rw [wr_in (by omega) (by omega)]; omega
   have h4 : at_ (N + 6) i3 := at_up' h3 (by omega)
   have hN6 : N + 6 + 6 * (d : Int) ≤ 800000000 := by omega
   have f1 : (0 ≤ (q : Int)) = True := eq_true (by omega)
   have f2 : ((q : Int) ≤ (t.size : Int)) = True := eq_true (by omega)
   have f5 : (0 ≤ ((q + 1 : Nat) : Int)) = True := eq_true (by omega)
   have f6 : (((q + 1 : Nat) : Int) ≤ (t.size : Int)) = True := eq_true (by omega)
   have f3 : ((t.extract 0 q).size + (strOfNums y).size ≤ 9223372036854775807) = True := eq_true (by rw [X2.out, XY.out]; omega)
   have f4 : ((t.extract 0 q ++ strOfNums y).size + (t.extract q t.size).size ≤ 9223372036854775807) = True := eq_true (by rw [ByteArray.size_append, X2.out, XY.out, X3.out]; omega)
   have f7 : ((t.extract 0 q ++ strOfNums y).size + (t.extract (q + 1) t.size).size ≤ 9223372036854775807) = True := eq_true (by rw [ByteArray.size_append, X2.out, XY.out, X4.out]; omega)
   have f8 : ((t.extract 0 q).size + (t.extract (q + 1) t.size).size ≤ 9223372036854775807) = True := eq_true (by rw [X2.out, X4.out]; omega)
   simp only [ew, ed, Int.toNat_natCast, f1, f2, f3, f4, f5, f6, f7, f8, if_true]
   have g1 : (t.extract 0 q ++ strOfNums y ++ t.extract q t.size).size + d ≤ 3000 := by rw [ByteArray.size_append, ByteArray.size_append, X2.out, XY.out, X3.out]; omega
   have g2 : (t.extract 0 q ++ strOfNums y ++ t.extract (q + 1) t.size).size + d ≤ 3000 := by rw [ByteArray.size_append, ByteArray.size_append, X2.out, XY.out, X4.out]; omega
   have g3 : (t.extract 0 q ++ t.extract (q + 1) t.size).size + d ≤ 3000 := by rw [ByteArray.size_append, X2.out, X4.out]; omega
   by_cases hg : g = 0
   ·exact Gv.yes hg (ih (N + 6) i3 s3 _ hN6 h4 g1)
   ·refine Gv.no hg ?_
    by_cases hg2 : g = 1
    ·exact Gv.yes hg2 (ih (N + 6) i3 s3 _ hN6 h4 g2)
    ·exact Gv.no hg2 (ih (N + 6) i3 s3 _ hN6 h4 g3)
  ·refine Gv.no (by simpa using h0) ?_
   exact Gv.some (by dsimp only; omega)
theorem solutions_gv {l : List Int} (hb : byt l) : Gv (fun k => spec_DrawSolutions.f k l) (fun r => r.2.2.length ≤ 41) := by
 unfold spec_DrawSolutions.f
 refine Gv.bind (P := fun r => r.2.2.length ≤ 41) ?_ (fun r hr => Gv.some hr)
 unfold spec_DrawIsPuzzle.f
 refine Gv.bind (puzzle_gv (N := 0) hb 0 (by omega) ⟨Int.le_refl _, Int.le_refl _⟩) ?_
 rintro r ⟨h, _⟩
 exact Gv.some h
theorem read_gv {l : List Int} (hb : byt l) : Gv (fun k => spec_DrawParsePuzzle.f k l) (fun r => r.size ≤ 3000) := by
 unfold spec_DrawParsePuzzle.f
 refine Gv.bind (sure_gv (N := 0) hb 0 4 (by decide) (by omega) ⟨Int.le_refl _, Int.le_refl _⟩) ?_
 rintro ⟨a, b, p, i1, s1⟩ ⟨hg, _, h1⟩
 dsimp only at hg h1 ⊢
 obtain ⟨g1, g2, g3⟩ := good_facts hg
 have hlen : (pt a b p).length ≤ 1300 := by
  have h1 := st_len g1
  have h2 := partsQ_len (okQ_n g3) g2
  unfold pt
  rw [List.length_append, List.length_append]
  simp only [List.length_cons, List.length_nil]
  omega
 refine Gv.bind (P := fun t => t.size ≤ 1300) ⟨bs (pt a b p), ⟨3000, fun k hk => pzText_k hg k hk⟩, by show (bs (pt a b p)).size ≤ 1300; rw [bs_size]; exact hlen⟩ ?_
 intro t ht
 refine Gv.bind (one_gv (N := 0 + 10) hb s1 3 (by omega) h1) ?_
 rintro ⟨o, i2, s2⟩ h2
 dsimp only at h2 ⊢
 split
 ·refine Gv.bind (P := fun r => r.1.size ≤ 3000) ?_ (fun r hr => Gv.some hr)
  unfold spec_l1Cur_spoilt.f
  refine Gv.bind (pick_gv (N := 0 + 10 + 2) hb s2 2 (by omega) h2) ?_
  rintro ⟨c, i3, s3⟩ ⟨c0, _, c2, h3⟩
  dsimp only at c0 c2 h3 ⊢
  have c3 := c2 (by decide)
  obtain ⟨d, hd⟩ : ∃ d : Nat, 1 + c = (d : Int) := ⟨(1 + c).toNat, by omega⟩
  rw [wr_in (x := 1 + c) (by omega) (by omega), hd]
  exact spoilt_l0 hb _ (by decide) d (0 + 10 + 2 + 2) i3 s3 t (by omega) h3 (by omega)
 ·exact Gv.some (by omega)
end Go.Proofs.YtijcdpnnjiamjaaGreatDoor.Pz
end
section
set_option linter.unusedSimpArgs false
set_option linter.unusedVariables false
namespace Go.Proofs.YtijcdpnnjiamjaaGreatDoor.Pz
open Go.RowKit Go.Proofs.YtijcdpnnjiamjaaGreatDoor.G Go.Proofs.YtijcdpnnjiamjaaGreatDoorW.PrintWords Go.Proofs.YtijcdpnnjiamjaaGreatDoorW.PrintLast Go.Proofs.YtijcdpnnjiamjaaGreatDoorW.PrintMore Go.Proofs.YtijcdpnnjiamjaaGreatDoor.Tx
theorem Ev.same {α : Type} {g : Nat → Option α} {a b : α} (h1 : Ev g a) (h2 : Ev g b) : a = b := by
 obtain ⟨K1, h1⟩ := h1
 obtain ⟨K2, h2⟩ := h2
 exact Option.some.inj ((h1 (K1 + K2) (by omega)).symm.trans (h2 (K1 + K2) (by omega)))
theorem rd_at {l : List Int} {i : Nat} (h : i < l.length) : rd l (i : Int) = l[i] := by simp [rd, List.getD, List.getElem?_eq_getElem h]
theorem rises_l0 {t : List Int} (hs : t.Pairwise (fun a b => a < b)) (hn : t.length ≤ 1000000) : ∀ (d i k : Nat), i + d = t.length → 1 ≤ i → d < k → laws_aRises.l0 k t (i : Int) = some true := by
 intro d
 induction d with
 | zero =>
  intro i k hi h1 hk
  obtain ⟨k, rfl⟩ : ∃ m, k = m + 1 := ⟨k - 1, by omega⟩
  rw [laws_aRises.l0, if_neg (by omega)]
 | succ d ih =>
  intro i k hi h1 hk
  obtain ⟨k, rfl⟩ : ∃ m, k = m + 1 := ⟨k - 1, by omega⟩
  obtain ⟨u, rfl⟩ : ∃ u, i = u + 1 := ⟨i - 1, by omega⟩
  have e : wrap64 (((u + 1 : Nat) : Int) - 1) = (u : Int) := by
   have := w64 (x := ((u + 1 : Nat) : Int) - 1) (by omega) (by omega)
   omega
  have e2 : wrap64 (((u + 1 : Nat) : Int) + 1) = ((u + 1 + 1 : Nat) : Int) := by
   have := w64 (x := ((u + 1 : Nat) : Int) + 1) (by omega) (by omega)
   omega
  have hlt := List.pairwise_iff_getElem.1 hs u (u + 1) (by omega) (by omega) (by omega)
  rw [laws_aRises.l0, e, if_pos (by omega), if_pos (by omega), if_pos (by omega), if_pos (by omega), if_neg (by rw [rd_at (by omega), rd_at (by omega)]; omega), e2]
  exact ih (u + 1 + 1) k (by omega) (by omega) (by omega)
theorem rises_k {t : List Int} (hs : t.Pairwise (fun a b => a < b)) (hn : t.length ≤ 1000000) (k : Nat) (hk : t.length + 1 < k) : laws_aRises.f k t = some true := by
 unfold laws_aRises.f
 by_cases h : 1 ≤ t.length
 ·exact rises_l0 hs hn (t.length - 1) 1 k (by omega) (by omega) (by omega)
 ·obtain ⟨k, rfl⟩ : ∃ m, k = m + 1 := ⟨k - 1, by omega⟩
  rw [laws_aRises.l0, if_neg (by omega)]
theorem has_l0 (x : Int) (t : List Int) (hn : t.length ≤ 1000000) : ∀ (d i k : Nat), i + d = t.length → d < k → laws_aHas.l0 k x t (t.length : Int) (i : Int) = some (decide (x ∈ t.drop i)) := by
 intro d
 induction d with
 | zero =>
  intro i k hi hk
  obtain ⟨k, rfl⟩ : ∃ m, k = m + 1 := ⟨k - 1, by omega⟩
  rw [laws_aHas.l0, if_neg (by omega), List.drop_eq_nil_of_le (by omega)]
  simp
 | succ d ih =>
  intro i k hi hk
  obtain ⟨k, rfl⟩ : ∃ m, k = m + 1 := ⟨k - 1, by omega⟩
  have e2 : wrap64 ((i : Int) + 1) = ((i + 1 : Nat) : Int) := by
   have := w64 (x := (i : Int) + 1) (by omega) (by omega)
   omega
  rw [laws_aHas.l0, if_pos (by omega), if_pos (by omega), if_pos (by omega), rd_at (by omega), e2, List.drop_eq_getElem_cons (by omega)]
  by_cases h : t[i] = x
  ·rw [if_pos h]
   simp [h]
  ·rw [if_neg h, ih (i + 1) k (by omega) (by omega)]
   exact congrArg some (decide_eq_decide.2 ⟨fun hm => List.mem_cons_of_mem _ hm, fun hm => (List.mem_cons.1 hm).resolve_left (fun e => h e.symm)⟩)
theorem has_k (x : Int) (t : List Int) (hn : t.length ≤ 1000000) (k : Nat) (hk : t.length < k) : laws_aHas.f k t x = some (decide (x ∈ t)) := has_l0 x t hn t.length 0 k (by omega) (by omega)
theorem solB_mem (a b : Int) (l : List S46) : ∀ (m : Nat) (h : Int), (solB a b l m h).Pairwise (fun x y => x < y) ∧ ∀ x ∈ solB a b l m h, h ≤ x ∧ x < h + (m : Int) ∧ allFit a b l x = true
 | 0, h => ⟨List.Pairwise.nil, fun x hx => by cases hx⟩
 | m + 1, h => by
  obtain ⟨i1, i2⟩ := solB_mem a b l m (h + 1)
  simp only [solB]
  by_cases hf : allFit a b l h = true
  ·rw [if_pos hf]
   refine ⟨List.pairwise_cons.2 ⟨fun x hx => ?_, i1⟩, fun x hx => ?_⟩
   ·have := (i2 x hx).1
    omega
   ·rcases List.mem_cons.1 hx with rfl | hx
    ·exact ⟨Int.le_refl _, by omega, hf⟩
    ·have := i2 x hx
     exact ⟨by omega, by omega, this.2.2⟩
  ·rw [if_neg hf]
   refine ⟨i1, fun x hx => ?_⟩
   have := i2 x hx
   exact ⟨by omega, by omega, this.2.2⟩
theorem solB_nil (a b : Int) : ∀ (m : Nat) (h : Int), (solB a b [] m h).length = m
 | 0, _ => rfl
 | m + 1, h => by
  simp only [solB]
  rw [if_pos (show allFit a b [] h = true from rfl), List.length_cons, solB_nil a b m]
theorem lg_get (a b : Int) (l : List S46) : ∀ (d i : Nat) (acc : List Int), acc.length = i → (∀ j, j < i → rd acc (j : Int) = cnt a b (l.take j)) → ∀ j, j < i + d → rd (lg a b l d i acc) (j : Int) = cnt a b (l.take j)
 | 0, i, acc, ha, h, j, hj => h j (by omega)
 | d + 1, i, acc, ha, h, j, hj => by
  rw [lg]
  refine lg_get a b l d (i + 1) _ (by simp [ha]) (fun u hu => ?_) j (by omega)
  by_cases e : u = i
  ·subst e
   rw [rd_at (by simp [ha])]
   simp [← ha]
  ·have := h u (by omega)
   rw [rd_at (by omega)] at this
   rw [rd_at (by simp; omega), List.getElem_append_left (by omega), this]
theorem ng_mem (a b : Int) (l : List S46) : ∀ (d i : Nat) (acc : List Int), i + d = l.length → ∀ j : Nat, j < l.length → ((j : Int) ∈ ng a b l d i acc ↔ (j : Int) ∈ acc ∨ (i ≤ j ∧ cnt a b (l.eraseIdx j) = cnt a b l))
 | 0, i, acc, hi, j, hj => by
  unfold ng
  exact ⟨Or.inl, fun h => h.elim id fun h => by omega⟩
 | d + 1, i, acc, hi, j, hj => by
  unfold ng
  split
  ·rename_i hc
   rw [ng_mem a b l d (i + 1) _ (by omega) j hj, List.mem_append, List.mem_singleton]
   constructor
   ·rintro ((h | h) | h)
    ·exact Or.inl h
    ·obtain rfl : j = i := by omega
     exact Or.inr ⟨Nat.le_refl _, hc⟩
    ·exact Or.inr ⟨by omega, h.2⟩
   ·rintro (h | h)
    ·exact Or.inl (Or.inl h)
    ·by_cases e : j = i
     ·subst e
      exact Or.inl (Or.inr rfl)
     ·exact Or.inr ⟨by omega, h.2⟩
  ·rename_i hc
   rw [ng_mem a b l d (i + 1) _ (by omega) j hj]
   constructor
   ·rintro (h | h)
    ·exact Or.inl h
    ·exact Or.inr ⟨by omega, h.2⟩
   ·rintro (h | h)
    ·exact Or.inl h
    ·by_cases e : j = i
     ·subst e
      exact absurd h.2 hc
     ·exact Or.inr ⟨by omega, h.2⟩
theorem bg_range (a b : Int) (l : List S46) : ∀ (d i : Nat) (x y : Int), 0 ≤ x → x < ((i + d : Nat) : Int) → 0 ≤ bg a b l d i x y ∧ bg a b l d i x y < ((i + d : Nat) : Int)
 | 0, i, x, y, h0, h1 => ⟨h0, h1⟩
 | d + 1, i, x, y, h0, h1 => by
  unfold bg
  split
  ·have := bg_range a b l d (i + 1) (i : Int) (cnt a b ((l.take (i + 1)).drop i)) (by omega) (by omega)
   omega
  ·have := bg_range a b l d (i + 1) x y h0 (by omega)
   omega
theorem drop_val {a b : Int} {l : List S46} (hg : good a b l = true) {j : Nat} (hj : j < l.length) : impl_DropClue.f a b l (j : Int) = some (a, b, l.eraseIdx j, true) := by
 obtain ⟨g1, g2, g3⟩ := good_facts hg
 unfold impl_DropClue.f
 have hw : impl_within.f (j : Int) 0 (wrap64 ((l.length : Int) - 1)) = some true := by
  rw [within_val, w64 (by omega) (by omega)]
  unfold inB
  simp
  omega
 rw [isPuzzle_val, hg, Option.bind_some, if_pos rfl, hw, Option.bind_some, if_pos rfl, withoutClue_val l j hj (by omega), Option.bind_some]
theorem good_erase {a b : Int} {l : List S46} (hg : good a b l = true) (j : Nat) : good a b (l.eraseIdx j) = true := by
 obtain ⟨g1, g2, g3⟩ := good_facts hg
 unfold good
 have := List.length_eraseIdx_le l j
 rw [g1, erase_ok g3 j]
 simp
 omega
theorem count_val {a b : Int} {l : List S46} (hg : good a b l = true) : impl_CountSolutions.f a b l = some (cnt a b l, true) := by
 obtain ⟨g1, g2, g3⟩ := good_facts hg
 unfold impl_CountSolutions.f
 rw [isPuzzle_val, hg, Option.bind_some, if_pos rfl, solutions_val g1 g3, Option.bind_some]
 rfl
theorem fit_val {a b : Int} {l : List S46} (hg : good a b l = true) {h : Int} (h1 : 1 ≤ h) (h2 : h ≤ houses a b) (hf : allFit a b l h = true) : ∀ y ∈ l, impl_DoesFit.f a b y.f0 y.f1 y.f2 h = some (true, true) := by
 obtain ⟨g1, g2, g3⟩ := good_facts hg
 intro y hy
 have hok : okC y = true := List.all_eq_true.1 g3 y hy
 have hft : fitB a b y h = true := List.all_eq_true.1 hf y hy
 have hc : impl_isClue.f y.f0 y.f1 y.f2 = some true := by rw [isClue_val]; exact congrArg some hok
 unfold impl_DoesFit.f
 rw [hidden_val, g1, Option.bind_some, if_pos rfl, hc, Option.bind_some, if_pos rfl, isHouse_val g1 h1 h2, Option.bind_some, if_pos rfl, doesFit_val a b y h hok, hft, Option.bind_some]
theorem puzzle_run {a b : Int} {l : List S46} (hg : good a b l = true) {first low high : Int} {three : Bool} (hf : impl_FirstSolution.f a b l = some (first, three)) (hr : impl_RangeOfSolutions.f a b l = some (low, high, three)) {best : Int} {thirteen : Bool} (hb : Ev (fun k => impl_BestClue.f k a b l) (best, thirteen)) :
  three = decide (cnt a b l > 0) ∧ thirteen = decide ((l.length : Int) > 0) ∧ ∃ K, ∀ k, K ≤ k → RunB k a b l (sols a b l) (cnt a b l) first low high three (cnt a b l == 1) (ng a b l l.length 0 []) (lg a b l (l.length + 1) 0 []) best (bs (pt a b l)) (houses a b) := by
 obtain ⟨g1, g2, g3⟩ := good_facts hg
 have hsl := sols_len l g1
 have hh := houses_le g1
 obtain ⟨p1, p2⟩ := solB_mem a b l (houses a b).toNat 1
 have hcnt : cnt a b l = ((sols a b l).length : Int) := rfl
 have hmem : ∀ x ∈ sols a b l, 1 ≤ x ∧ x ≤ houses a b ∧ allFit a b l x = true := fun x hx => by
  have := p2 x hx
  exact ⟨this.1, by omega, this.2.2⟩
 have hll : (lg a b l (l.length + 1) 0 []).length = l.length + 1 := by rw [lg_len]; simp
 have hlg : ∀ j, j < l.length + 1 → rd (lg a b l (l.length + 1) 0 []) (j : Int) = cnt a b (l.take j) := fun j hj => lg_get a b l (l.length + 1) 0 [] rfl (fun u hu => absurd hu (Nat.not_lt_zero _)) j (by omega)
 have h3 : three = decide (cnt a b l > 0) ∧ (three = true → 0 < cnt a b l ∧ rd (sols a b l) 0 = first ∧ low = first ∧ rd (sols a b l) (cnt a b l - 1) = high) := by
  unfold impl_FirstSolution.f at hf
  unfold impl_RangeOfSolutions.f at hr
  rw [isPuzzle_val, hg, Option.bind_some, if_pos rfl, solutions_val g1 g3, Option.bind_some] at hf hr
  by_cases h0 : ((sols a b l).length : Int) = 0
  ·rw [if_pos h0] at hf
   obtain ⟨_, rfl⟩ := Prod.mk.inj (Option.some.inj hf)
   exact ⟨(decide_eq_false (by omega)).symm, fun h => by cases h⟩
  ·rw [if_neg h0, if_pos (by omega)] at hf hr
   rw [w64 (by omega) (by omega), if_pos (by omega), if_pos (by omega)] at hr
   obtain ⟨rfl, rfl⟩ := Prod.mk.inj (Option.some.inj hf)
   obtain ⟨e1, e2⟩ := Prod.mk.inj (Option.some.inj hr)
   obtain ⟨e2, _⟩ := Prod.mk.inj e2
   exact ⟨(decide_eq_true (by omega)).symm, fun _ => ⟨by omega, rfl, e1.symm, by rw [hcnt]; exact e2⟩⟩
 have h13 : thirteen = decide ((l.length : Int) > 0) ∧ (0 < l.length → 0 ≤ best ∧ best < (l.length : Int)) := by
  by_cases h0 : l.length = 0
  ·have h0' : (((l.length : Int) == 0) = true) := by simp [h0]
   have : ((best, thirteen) : Int × Bool) = (0, false) := Ev.same hb ⟨60000, fun k hk => by
    obtain ⟨k, rfl⟩ : ∃ m, k = m + 1 := ⟨k - 1, by omega⟩
    show impl_BestClue.f (k + 1) a b l = _
    rw [impl_BestClue.f, isPuzzle_val, hg, Option.bind_some, if_pos rfl, h0', impl_BestClue.j0, if_pos rfl]⟩
   obtain ⟨rfl, rfl⟩ := Prod.mk.inj this
   exact ⟨(decide_eq_false (by omega)).symm, fun h => by omega⟩
  ·have h0' : (((l.length : Int) == 0) = false) := by simpa using h0
   have hsub : ((l.take 1).drop 0).all okC = true := all_sub g3 (fun x hx => List.mem_of_mem_take (List.mem_of_mem_drop hx))
   have : ((best, thirteen) : Int × Bool) = (bg a b l (l.length - 1) 1 0 (cnt a b ((l.take 1).drop 0)), true) := Ev.same hb ⟨70000, fun k hk => by
    obtain ⟨k, rfl⟩ : ∃ m, k = m + 1 + 1 := ⟨k - 2, by omega⟩
    show impl_BestClue.f (k + 1 + 1) a b l = _
    have hs := solutions_val g1 hsub
    have := best_impl a b l hg (l.length - 1) 1 k 0 (cnt a b ((l.take 1).drop 0)) (by omega) (by omega) (by omega)
    rw [impl_BestClue.f, isPuzzle_val, hg, Option.bind_some, if_pos rfl, h0', impl_BestClue.j0, if_neg (by decide), impl_BestClue.l0, if_pos (by omega), if_pos (by omega), w64 (by omega) (by omega), if_pos (by omega), if_pos (by omega), show ((0 : Int) + 1).toNat = 1 from rfl, show (0 : Int).toNat = 0 from rfl, hs, Option.bind_some, if_pos (by omega)]
    exact this⟩
   obtain ⟨rfl, rfl⟩ := Prod.mk.inj this
   have hr := bg_range a b l (l.length - 1) 1 0 (cnt a b ((l.take 1).drop 0)) (by omega) (by omega)
   exact ⟨(decide_eq_true (by omega)).symm, fun _ => by omega⟩
 obtain ⟨Kp, hp⟩ := aPuzzle_ev a b l (by omega)
 have hp : ∀ k, Kp ≤ k → laws_aPuzzle.f k a b l a b l = some true := hp
 refine ⟨h3.1, h13.1, Kp + 6000000, fun k hk => ⟨?_, rfl, rfl, by omega, ⟨by omega, by omega, by omega⟩, by omega, ?_, ?_, h3.2, rises_k p1 (by show (sols a b l).length ≤ 1000000; omega) k (by show (sols a b l).length + 1 < k; omega), fun h hh2 => ?_, fun j hj => ?_, ?_, hp k (by omega)⟩⟩
 ·unfold impl_HousesOf.f
  rw [isStreet_val, street_of g1, Option.bind_some, if_pos rfl, housesOf_val g1, Option.bind_some]
 ·have := hlg 0 (by omega)
  rw [show ((0 : Nat) : Int) = 0 from rfl, List.take_zero] at this
  rw [this]
  unfold cnt sols
  rw [solB_nil]
  omega
 ·rw [hlg l.length (by omega), List.take_length]
 ·obtain ⟨m1, m2, m3⟩ := hmem h hh2
  exact ⟨m1, m2, fit_val hg m1 m2 m3⟩
 ·have e1 := hlg (j + 1) (by omega)
  rw [show ((j + 1 : Nat) : Int) = (j : Int) + 1 by omega] at e1
  have hng := ng_len a b l l.length 0 []
  refine ⟨a, b, l.eraseIdx j, cnt a b (l.eraseIdx j), _, _, drop_val hg hj, count_val (good_erase hg j), ?_, e1, hlg j (by omega), cnt_sub a b (fun x hx => ?_), (h13.2 (by omega)).1, (h13.2 (by omega)).2⟩
  ·rw [has_k _ _ (by simp at hng; omega) k (by simp at hng; omega)]
   have := ng_mem a b l l.length 0 [] (by omega) j hj
   congr 1
   rw [Bool.eq_iff_iff, decide_eq_true_iff, beq_iff_eq, this]
   simp
  ·rw [List.take_succ_eq_append_getElem (by omega)]
   exact List.mem_append_left _ hx
 ·rw [implPz_val _ (by have h1 := st_len g1; have h2 := partsQ_len (okQ_n g3) g2; unfold pt; rw [List.length_append, List.length_append]; simp only [List.length_cons, List.length_nil]; omega) k (by omega), (both_text hg).1, chk_yes hg rfl]
theorem text_val (a b : Int) (l : List S46) : ∃ t, Ev (fun k => spec_PuzzleText.f k a b l) (t, good a b l) ∧ Ev (fun k => impl_PuzzleText.f k a b l) (t, good a b l) ∧ (good a b l = true → t = bs (pt a b l)) := by
 obtain ⟨K, hg⟩ := pzGood_ev a b l
 have hg : ∀ k, K ≤ k → spec_pzGood.f k a b l = some (good a b l) := hg
 cases h : good a b l with
 | false =>
  rw [h] at hg
  refine ⟨bs [], ⟨K, fun k hk => ?_⟩, ⟨0, fun k _ => ?_⟩, fun h => by cases h⟩
  ·show spec_PuzzleText.f k a b l = _
   unfold spec_PuzzleText.f
   rw [hg k hk]
   rfl
  ·show impl_PuzzleText.f k a b l = _
   unfold impl_PuzzleText.f
   rw [isPuzzle_val, h]
   rfl
 | true =>
  rw [h] at hg
  refine ⟨bs (pt a b l), ⟨K + 3000, fun k hk => ?_⟩, ⟨3000, fun k hk => ?_⟩, fun _ => rfl⟩
  ·show spec_PuzzleText.f k a b l = _
   unfold spec_PuzzleText.f
   rw [hg k (by omega), Option.bind_some, if_pos rfl, pzText_k h k (by omega)]
   rfl
  ·show impl_PuzzleText.f k a b l = _
   unfold impl_PuzzleText.f
   rw [isPuzzle_val, h, Option.bind_some, if_pos rfl, puzzleText_k h k (by omega)]
   rfl
theorem aSame_k (l : List Int) (hn : l.length ≤ 1000000) (k : Nat) (hk : l.length < k) : laws_aSame.f k l l = some true := by
 have := aSame_l0 l hn l.length 0 k (by omega) (by omega)
 rw [laws_aSame.f, if_pos rfl]
 exact this
theorem puzzle_all (a b : Int) (pl : List S46) : ∃ xs ok cnt_ first low high three solved nd lf best thirteen text hs, ∃ K, ∀ k, K ≤ k → ∀ l0, spec_DrawSolutions.f k l0 = some (a, b, pl) → RunA k l0 a b pl xs ok cnt_ first low high three solved nd lf best thirteen text ∧ (ok = true → RunB k a b pl xs cnt_ first low high three solved nd lf best text hs) := by
 obtain ⟨v1, ⟨Ka, a1⟩, a2, a3⟩ := Solutions_both a b pl
 obtain ⟨v2, ⟨Kb, b1⟩, b2⟩ := CountSolutions_both a b pl
 obtain ⟨v3, ⟨Kc, c1⟩, c2⟩ := FirstSolution_both a b pl
 obtain ⟨v4, ⟨Kd, d1⟩, d2⟩ := RangeOfSolutions_both a b pl
 obtain ⟨v5, ⟨Ke, e1⟩, e2⟩ := IsSolved_both a b pl
 obtain ⟨v6, ⟨Kf, f1⟩, f2, f3⟩ := NeedlessClues_both a b pl
 obtain ⟨v7, ⟨Kg, g1⟩, g2, g3⟩ := LeftByClues_both a b pl
 obtain ⟨v8, ⟨Kh, h1⟩, h2⟩ := BestClue_both a b pl
 obtain ⟨text, ⟨Ki, i1⟩, ⟨Kj, i2⟩, i3⟩ := text_val a b pl
 obtain ⟨Kk, k1⟩ := pzGood_ev a b pl
 have k1 : ∀ k, Kk ≤ k → spec_pzGood.f k a b pl = some (good a b pl) := k1
 have key : ∃ xs ok cnt_ first low high three solved nd lf best thirteen hs, v1 = (xs, ok) ∧ v2 = (cnt_, ok) ∧ v3 = (first, three) ∧ v4 = (low, high, three) ∧ v5 = (solved, ok) ∧ v6 = (nd, ok) ∧ v7 = (lf, ok) ∧ v8 = (best, thirteen) ∧ ok = good a b pl ∧ three = (ok && decide (cnt_ > 0)) ∧ thirteen = (ok && decide ((pl.length : Int) > 0)) ∧ ∃ K, ∀ k, K ≤ k → ok = true → RunB k a b pl xs cnt_ first low high three solved nd lf best text hs := by
  cases hg : good a b pl with
  | false =>
   exact ⟨[], false, 0, 0, 0, 0, false, false, [], [], 0, false, 0, Option.some.inj (a2.symm.trans (by simp [impl_Solutions.f, isPuzzle_val, hg])), Option.some.inj (b2.symm.trans (by simp [impl_CountSolutions.f, isPuzzle_val, hg])), Option.some.inj (c2.symm.trans (by simp [impl_FirstSolution.f, isPuzzle_val, hg])), Option.some.inj (d2.symm.trans (by simp [impl_RangeOfSolutions.f, isPuzzle_val, hg])), Option.some.inj (e2.symm.trans (by simp [impl_IsSolved.f, isPuzzle_val, hg])),
    Ev.same f2 ⟨0, fun k _ => by simp [impl_NeedlessClues.f, isPuzzle_val, hg]⟩, Ev.same g2 ⟨0, fun k _ => by simp [impl_LeftByClues.f, isPuzzle_val, hg]⟩, Ev.same h2 ⟨1, fun k hk => by
     obtain ⟨k, rfl⟩ : ∃ m, k = m + 1 := ⟨k - 1, by omega⟩
     simp [impl_BestClue.f, isPuzzle_val, hg, impl_BestClue.j0]⟩, rfl, rfl, rfl, 0, fun k _ h => (by cases h)⟩
  | true =>
   obtain ⟨q1, q2, q3⟩ := good_facts hg
   obtain ⟨first, three⟩ := v3
   obtain ⟨low, high, three2⟩ := v4
   obtain ⟨best, thirteen⟩ := v8
   have e3 : three2 = three := by
    have hf := c2
    have hr := d2
    unfold impl_FirstSolution.f at hf
    unfold impl_RangeOfSolutions.f at hr
    have hsl := sols_len pl q1
    rw [isPuzzle_val, hg, Option.bind_some, if_pos rfl, solutions_val q1 q3, Option.bind_some] at hf hr
    by_cases h0 : ((sols a b pl).length : Int) = 0
    ·rw [if_pos h0] at hf hr
     have x := Prod.mk.inj (Prod.mk.inj (Option.some.inj hr)).2
     have y := Prod.mk.inj (Option.some.inj hf)
     exact x.2.symm.trans y.2
    ·rw [if_neg h0, if_pos (by omega)] at hf hr
     rw [w64 (by omega) (by omega), if_pos (by omega), if_pos (by omega)] at hr
     have x := Prod.mk.inj (Prod.mk.inj (Option.some.inj hr)).2
     have y := Prod.mk.inj (Option.some.inj hf)
     exact x.2.symm.trans y.2
   subst e3
   obtain ⟨r1, r2, K, r3⟩ := puzzle_run hg c2 d2 h2
   have s1 : v1 = (sols a b pl, true) := Option.some.inj (a2.symm.trans (by unfold impl_Solutions.f; rw [isPuzzle_val, hg, Option.bind_some, if_pos rfl, solutions_val q1 q3]; rfl))
   have s2 : v2 = (cnt a b pl, true) := Option.some.inj (b2.symm.trans (count_val hg))
   have s5 : v5 = (cnt a b pl == 1, true) := Option.some.inj (e2.symm.trans (by unfold impl_IsSolved.f; rw [isPuzzle_val, hg, Option.bind_some, if_pos rfl, solutions_val q1 q3]; rfl))
   have s6 : v6 = (ng a b pl pl.length 0 [], true) := Ev.same f2 ⟨70000, fun k hk => by
    show impl_NeedlessClues.f k a b pl = _
    have := need_impl a b pl hg pl.length 0 k [] (by omega) (by simp) (by omega)
    rw [impl_NeedlessClues.f, isPuzzle_val, hg, Option.bind_some, if_pos rfl, solutions_val q1 q3, Option.bind_some]
    exact this⟩
   have s7 : v7 = (lg a b pl (pl.length + 1) 0 [], true) := Ev.same g2 ⟨70000, fun k hk => by
    show impl_LeftByClues.f k a b pl = _
    have := left_impl a b pl hg (pl.length + 1) 0 k [] (by omega) (by simp) (by omega)
    rw [impl_LeftByClues.f, isPuzzle_val, hg, Option.bind_some, if_pos rfl, w64 (by omega) (by omega)]
    exact this⟩
   have ht := i3 hg
   refine ⟨sols a b pl, true, cnt a b pl, first, low, high, _, (cnt a b pl == 1), _, _, best, thirteen, houses a b, s1, s2, rfl, rfl, s5, s6, s7, rfl, rfl, r1, r2, K, fun k hk _ => ?_⟩
   rw [ht]
   exact r3 k hk
 obtain ⟨xs, ok, cnt_, first, low, high, three, solved, nd, lf, best, thirteen, hs, rfl, rfl, rfl, rfl, rfl, rfl, rfl, rfl, hok, t3, t13, Kz, hz⟩ := key
 rw [← hok] at i1 i2 k1
 obtain ⟨K6, f2⟩ := f2
 obtain ⟨K7, g2⟩ := g2
 obtain ⟨K8, h2⟩ := h2
 have n1 : xs.length ≤ 40 := a3
 have n2 : nd.length ≤ 40 := f3
 have n3 : lf.length ≤ 40 := g3
 refine ⟨xs, ok, cnt_, first, low, high, three, solved, nd, lf, best, thirteen, text, hs, Ka + Kb + Kc + Kd + Ke + Kf + Kg + Kh + Ki + Kj + Kk + Kz + K6 + K7 + K8 + 100, fun k hk l0 hd => ⟨⟨hd, a2, a1 k (by omega), b2, b1 k (by omega), c2, c1 k (by omega), d2, d1 k (by omega), e2, e1 k (by omega), f2 k (by omega), f1 k (by omega), g2 k (by omega), g1 k (by omega), h2 k (by omega), h1 k (by omega), i2 k (by omega), i1 k (by omega), by rw [isPuzzle_val, hok], ?_, aSame_k xs (by omega) k (by omega), aSame_k nd (by omega) k (by omega), aSame_k lf (by omega) k (by omega), t3, t13⟩, hz k (by omega)⟩⟩
 unfold spec_IsPuzzle.f
 rw [k1 k (by omega)]
 rfl
theorem read_all (s : ByteArray) (hs : s.size ≤ 3000) : ∃ r1 r2 rl sev, ∃ K, ∀ k, K ≤ k → ∀ l1, spec_DrawParsePuzzle.f k l1 = some s → RunC k l1 s r1 r2 rl sev := by
 rw [bs_data s] at hs ⊢
 generalize s.data.toList = l at hs ⊢
 rw [bs_size] at hs
 obtain ⟨⟨r1, r2, rl, sev⟩, ⟨K1, h1⟩, ⟨K2, h2⟩, h3⟩ := ParsePuzzle_both l (by omega)
 have h3 : rl.length ≤ 40 := h3
 obtain ⟨K3, h4⟩ := aPuzzle_ev r1 r2 rl (by omega)
 have back : ∃ K, sev = true → ∀ k, K ≤ k → impl_PuzzleText.f k r1 r2 rl = some (bs l, true) := by
  by_cases hv : sev = true
  ·subst hv
   have e := h2 (K2 + 5000000) (by omega)
   have e : impl_ParsePuzzle.f (K2 + 5000000) (bs l) = some (r1, r2, rl, true) := e
   rw [implPz_val _ (by omega) _ (by omega)] at e
   have e := Option.some.inj e
   cases hd : dI l with
   | none =>
    rw [hd] at e
    simp [chk] at e
   | some d =>
    obtain ⟨x, y, q⟩ := d
    rw [hd] at e
    unfold chk at e
    simp only at e
    by_cases g : good x y q = true
    ·rw [if_pos g] at e
     by_cases ht : pt x y q = l
     ·rw [if_pos ht] at e
      simp only [Prod.mk.injEq, and_true] at e
      obtain ⟨rfl, rfl, rfl⟩ := e
      obtain ⟨t, _, ⟨K, hK⟩, hh⟩ := text_val x y q
      rw [hh g, ht, g] at hK
      exact ⟨K, fun _ => hK⟩
     ·rw [if_neg ht] at e
      simp at e
    ·rw [if_neg g] at e
     simp at e
  ·exact ⟨0, fun h => absurd h hv⟩
 obtain ⟨K4, h5⟩ := back
 exact ⟨r1, r2, rl, sev, K1 + K2 + K3 + K4, fun k hk l1 hd => ⟨hd, h2 k (by omega), h1 k (by omega), h4 k (by omega), fun h => h5 h k (by omega)⟩⟩
theorem big_val (l0 l1 : List Int) : ∃ b, laws_big.f l0 l1 = some b := by
 unfold laws_big.f
 split
 ·exact ⟨_, rfl⟩
 ·exact ⟨_, rfl⟩
theorem hg_pure : HgPure := by
 intro l0 l1 hw0 hw1 hw2 hw3
 have hb0 := byt_of hw1
 have hb1 := byt_of hw3
 obtain ⟨b, hbig⟩ := big_val l0 l1
 cases b with
 | true => exact .inl hbig
 | false =>
  obtain ⟨⟨x, y, pl⟩, ⟨Ka, ha⟩, _⟩ := solutions_gv hb0
  obtain ⟨s, ⟨Kb, hb⟩, hs⟩ := read_gv hb1
  obtain ⟨xs, ok, cnt_, first, low, high, three, solved, nd, lf, best, thirteen, text, hs_, Kc, hc⟩ := puzzle_all x y pl
  obtain ⟨r1, r2, rl, sev, Kd, hd⟩ := read_all s hs
  obtain ⟨k, hk⟩ : ∃ k, k = Ka + Kb + Kc + Kd := ⟨_, rfl⟩
  obtain ⟨h1, h2⟩ := hc k (by omega) l0 (ha k (by omega))
  exact .inr ⟨hbig, k, x, y, pl, xs, ok, cnt_, first, low, high, three, solved, nd, lf, best, thirteen, text, h1, hs_, h2, s, r1, r2, rl, sev, hd k (by omega) l1 (hb k (by omega))⟩
end Go.Proofs.YtijcdpnnjiamjaaGreatDoor.Pz
end
section
namespace Go.Proofs.YtijcdpnnjiamjaaGreatDoor.Pure
open Go.RowKit Go.Proofs.YtijcdpnnjiamjaaGreatDoor.G
theorem FnHousesGuessed : laws_FnHousesGuessed.Pure := Go.Proofs.YtijcdpnnjiamjaaGreatDoor.Pz.hg_pure
end Go.Proofs.YtijcdpnnjiamjaaGreatDoor.Pure
end
section
namespace Go.Proofs.YtijcdpnnjiamjaaGreatDoor.Facts
open Go
set_option maxRecDepth 100000
def signs : List Char := [Char.ofNat 104, Char.ofNat 97, Char.ofNat 114, Char.ofNat 110, Char.ofNat 101, Char.ofNat 115, Char.ofNat 115, Char.ofNat 32, Char.ofNat 53, Char.ofNat 55, Char.ofNat 48, Char.ofNat 53, Char.ofNat 102, Char.ofNat 52, Char.ofNat 100, Char.ofNat 53, Char.ofNat 97, Char.ofNat 49, Char.ofNat 48, Char.ofNat 97, Char.ofNat 102, Char.ofNat 54, Char.ofNat 54, Char.ofNat 50, Char.ofNat 56, Char.ofNat 101, Char.ofNat 49, Char.ofNat 100, Char.ofNat 51, Char.ofNat 53, Char.ofNat 57, Char.ofNat 51, Char.ofNat 98, Char.ofNat 100, Char.ofNat 52, Char.ofNat 52, Char.ofNat 52, Char.ofNat 54, Char.ofNat 48, Char.ofNat 97, Char.ofNat 49, Char.ofNat 98, Char.ofNat 50, Char.ofNat 53, Char.ofNat 97, Char.ofNat 48, Char.ofNat 101, Char.ofNat 97, Char.ofNat 53, Char.ofNat 56, Char.ofNat 51, Char.ofNat 48, Char.ofNat 55, Char.ofNat 49, Char.ofNat 102, Char.ofNat 54, Char.ofNat 55, Char.ofNat 48, Char.ofNat 102, Char.ofNat 100, Char.ofNat 57, Char.ofNat 54, Char.ofNat 55, Char.ofNat 99, Char.ofNat 57, Char.ofNat 97, Char.ofNat 56, Char.ofNat 54, Char.ofNat 98, Char.ofNat 50, Char.ofNat 100, Char.ofNat 51, Char.ofNat 32, Char.ofNat 99, Char.ofNat 117, Char.ofNat 116, Char.ofNat 32, Char.ofNat 97, Char.ofNat 116, Char.ofNat 32, Char.ofNat 108, Char.ofNat 111, Char.ofNat 111, Char.ofNat 112, Char.ofNat 46, Char.ofNat 101, Char.ofNat 120, Char.ofNat 97, Char.ofNat 109, Char.ofNat 112, Char.ofNat 108, Char.ofNat 101, Char.ofNat 47, Char.ofNat 103, Char.ofNat 48, Char.ofNat 49, Char.ofNat 51, Char.ofNat 51, Char.ofNat 54, Char.ofNat 47, Char.ofNat 108, Char.ofNat 97, Char.ofNat 119, Char.ofNat 115, Char.ofNat 46, Char.ofNat 70, Char.ofNat 110, Char.ofNat 72, Char.ofNat 111, Char.ofNat 117, Char.ofNat 115, Char.ofNat 101, Char.ofNat 115, Char.ofNat 71, Char.ofNat 117, Char.ofNat 101, Char.ofNat 115, Char.ofNat 115, Char.ofNat 101, Char.ofNat 100]
theorem order : Tryz.prog.initOrder = String.ofList signs := by kernel_rfl
theorem orderL : Tryz.prog.initOrder.toList = signs := by rw [order, String.toList_ofList]
def rest : List (List Char) := [[Char.ofNat 97, Char.ofNat 116], [Char.ofNat 108, Char.ofNat 111, Char.ofNat 111, Char.ofNat 112, Char.ofNat 46, Char.ofNat 101, Char.ofNat 120, Char.ofNat 97, Char.ofNat 109, Char.ofNat 112, Char.ofNat 108, Char.ofNat 101, Char.ofNat 47, Char.ofNat 103, Char.ofNat 48, Char.ofNat 49, Char.ofNat 51, Char.ofNat 51, Char.ofNat 54, Char.ofNat 47, Char.ofNat 108, Char.ofNat 97, Char.ofNat 119, Char.ofNat 115, Char.ofNat 46, Char.ofNat 70, Char.ofNat 110, Char.ofNat 72, Char.ofNat 111, Char.ofNat 117, Char.ofNat 115, Char.ofNat 101, Char.ofNat 115, Char.ofNat 71, Char.ofNat 117, Char.ofNat 101, Char.ofNat 115, Char.ofNat 115, Char.ofNat 101, Char.ofNat 100]]
theorem wordsOf : behindMainWord (wordsSigns signs) = "cut".toList :: rest := by kernel_rfl
theorem mayEnter_of {P : Program} {c : List Char} {r : List (List Char)} (h : behindMainWord (wordsSigns P.initOrder.toList) = c :: r) (hc : c = "cut".toList) (h1 : stripLifts liftWords (c :: r) = ([], c :: r)) (h3 : P.laysLater = false) (h4 : P.bearsReflect = false) (h5 : P.doorFits [] = true) : P.mayEnter = true := by
 unfold Program.mayEnter
 rw [h]
 subst hc
 simp only [h1]
 simp [h3, h4, h5]
theorem make_of {P : Program} {c : List Char} {r : List (List Char)} (h : behindMainWord (wordsSigns P.initOrder.toList) = c :: r) (hc : c = "cut".toList) : P.make = some .cut := by
 unfold Program.make
 rw [h]
 subst hc
 simp
theorem strip : stripLifts liftWords ("cut".toList :: rest) = ([], "cut".toList :: rest) := by kernel_rfl
theorem laysLater : Tryz.prog.laysLater = false := by kernel_rfl
theorem bearsReflect : Tryz.prog.bearsReflect = false := by kernel_rfl
theorem doorFits : Tryz.prog.doorFits [] = true := by kernel_rfl
theorem mayEnter : Tryz.prog.mayEnter = true := mayEnter_of (by rw [orderL]; exact wordsOf) rfl strip laysLater bearsReflect doorFits
theorem lifts : Tryz.prog.liftsFinal = false := by
 unfold Program.liftsFinal Program.headLifts
 rw [orderL, wordsOf]
 kernel_rfl
theorem make : Tryz.prog.make = some .cut := make_of (by rw [orderL]; exact wordsOf) rfl
theorem laidOut : laidOutB Tryz.prog = true := by kernel_rfl
theorem mapsRowed : Go.mapsRowed Tryz.prog = true := by kernel_rfl
theorem stops : Tryz.prog.stops = [] := by kernel_rfl
theorem stopKnobs : Tryz.prog.stopKnobs = [] := by kernel_rfl
theorem stopsHeard : Tryz.prog.stopsHeard = true := by kernel_rfl
theorem plainKeys : Tryz.prog.plainKeys = true := by kernel_rfl
end Go.Proofs.YtijcdpnnjiamjaaGreatDoor.Facts
end
section
namespace Go.Proofs.YtijcdpnnjiamjaaGreatDoor.Open
open Go.RowKit Go.Proofs.YtijcdpnnjiamjaaGreatDoorW.PrintWords Go.Proofs.YtijcdpnnjiamjaaGreatDoorW.PrintLast Go.Proofs.YtijcdpnnjiamjaaGreatDoorW.PrintMore Go.Deep Go.Joins Go.ChangeShapes
variable {P : Program} {t e : TypeId} {α β γ : Type}
def Opens (P : Program) (d : Kd α) (t : TypeId) (wf : α → Prop) : Prop :=
 ∀ {H : Type} (enc : TypeId × Value → H) (w : World) (base : Nat) (spare : Nat → Bool) (held : Bool) (fuel : Nat) (cs : List Value) (x : DataW H × List MemPlace),
  DataW.trod enc P w base spare held fuel t cs = some x → ∃ a : α, d.K w a cs ∧ wf a
theorem slice_eq {a b : Option Addr} {n m c c' : Nat} (h : [Value.slice a n c] = [Value.slice b m c']) : b = a ∧ m = n ∧ c' = c := by
 simp only [List.cons.injEq, Value.slice.injEq, and_true] at h
 exact ⟨h.1.symm, h.2.1.symm, h.2.2.symm⟩
theorem opens_int {k : IntKind} (ht : P.underlying t = some (.int k)) : Opens P (Kd.int k) t (fun n => (Lit.int k n).wf = true) := by
 intro H enc w base spare held fuel cs x h
 obtain ⟨n, rfl, _, hw⟩ := DataW.trod_int ht h
 exact ⟨n, rfl, hw⟩
theorem opens_slice {d : Kd α} {wf : α → Prop} (ht : P.underlying t = some (.slice e)) (hc : P.cellsOf e = d.sz) (h : Opens P d e wf) : Opens P (Kd.slice e d) t (fun xs => xs.length ≤ maxLen ∧ ∀ x ∈ xs, wf x) := by
 intro H enc w base spare held fuel cs x hx
 rcases open_slice ht hx with ⟨rfl, _⟩ | ⟨a, len, cap, m, n, D, Pl, rfl, hb, hl, hm, hmm, rfl, hel⟩
 ·exact ⟨[], ⟨none, 0, rfl, Nat.le_refl _, rfl, by simp, fun h0 => absurd h0 (by simp)⟩, by simp, fun x hx => by cases hx⟩
 ·have hlm : len ≤ m := by rw [hmm]; split <;> omega
  have key : ∀ k, k ≤ len → ∃ xs : List α, xs.length = k ∧ (∀ j p, xs[j]? = some p → ∃ c, c.length = d.sz ∧ d.K w p c ∧ ∀ i u, c[i]? = some u → w.cell? (a.add (j * d.sz + i)) = some u) ∧ ∀ x ∈ xs, wf x := by
   intro k
   induction k with
   | zero => intro _; exact ⟨[], rfl, fun j p hj => by simp at hj, fun x hx => by cases hx⟩
   | succ k ih =>
    intro hk
    obtain ⟨xs, hlen, hxs, hwf⟩ := ih (by omega)
    obtain ⟨cs', hcs, htr⟩ := hel k (by omega)
    obtain ⟨y, hK, hwy⟩ := h enc w base spare held n cs' _ htr
    refine ⟨xs ++ [y], by simp [hlen], fun j p hj => ?_, fun x hx => ?_⟩
    ·rcases Nat.lt_or_ge j xs.length with hjl | hjl
     ·rw [List.getElem?_append_left hjl] at hj
      exact hxs j p hj
     ·have hj' : j = xs.length := by
       have := (List.getElem?_eq_some_iff.1 hj).1
       rw [List.length_append, List.length_singleton] at this
       omega
      subst hj'
      obtain rfl : y = p := by simpa using hj
      refine ⟨cs', d.K_len hK, hK, fun i u hu => ?_⟩
      obtain ⟨_, _, hcell⟩ := World.cells?_some hcs
      have := hcell i (by rw [hc, ← d.K_len hK]; exact (List.getElem?_eq_some_iff.1 hu).1)
      rw [hc, Addr.add_add, hu] at this
      rw [hlen]
      exact this
    ·rcases List.mem_append.1 hx with hx | hx
     ·exact hwf x hx
     ·rw [List.mem_singleton.1 hx]
      exact hwy
  obtain ⟨xs, hlen, hxs, hwf⟩ := key len (Nat.le_refl _)
  have hml : maxLen = 9223372036854775807 := rfl
  exact ⟨xs, ⟨some a, cap, by rw [hlen], by omega, rfl, by omega, fun _ => ⟨a, rfl, hxs⟩⟩, by omega, hwf⟩
end Go.Proofs.YtijcdpnnjiamjaaGreatDoor.Open
end
