/- Texts of this seat's proofs: contracts of its functions and plain laws about them, with no condition beyond those that each theorem states. -/
import Derived.Shelf.LaysC
import Derived.Shelf.LaysM
import Derived.Shelf.Small.Strs
import Derived.Shelf.Strconv.Atoi
import Derived.Shelf.Strconv.AtoiAll
import Derived.Shelf.Strconv.AtoiErrFast
import Derived.Shelf.Strconv.AtoiFail
import Derived.Shelf.Strconv.AtoiInnerAll
import Derived.Shelf.Strconv.AtoiLong
import Derived.Shelf.Strconv.Clone
import Derived.Shelf.Strconv.ErrVarAll
import Derived.Shelf.Strconv.Itoa0
import Derived.Shelf.Strconv.Itoa1
import Derived.Shelf.Strconv.Itoa2
import Derived.Shelf.Strconv.Itoa3
import Derived.Shelf.Strconv.Lower
import Derived.Shelf.Strconv.ParseInt10
import Derived.Shelf.Strconv.ParseIntEmpty
import Derived.Shelf.Strconv.ParseUint10
import Derived.Shelf.Strconv.ParseUint10Any
import Derived.Shelf.Strconv.ParseUint10Empty
import Derived.Shelf.Strconv.RangeError
import Derived.Shelf.Strconv.SyntaxError
import Derived.Shelf.Strconv.ToError
import Derived.Shelf.Strconv.ToErrorRange
import Derived.Shelf.Strings.Builder1
import Derived.Shelf.Strings.Builder2
import Derived.Shelf.Strings.Count
import Derived.Shelf.Strings.Cut
import Derived.Shelf.Strings.OnBuilder
import Derived.Shelf.Strings.Search1
import Derived.Shelf.Strings.Search2
import Derived.Shelf.Strings.Search3
import Derived.Shelf.Strings.Shaped
import Derived.Shelf.Strings.Split
import Derived.Shelf.Strings.SplitShaped
import Derived.Shelf.Unicode.DecodeSlow
import Derived.Test.YtijcdpnnjiamjaaGreatDoorProg
import Derived.Test.YtijcdpnnjiamjaaGreatDoorQ15781164
import Derived.Lib.AtoiErrMem
import Derived.Lib.SplitLaws
import Derived.Deep.RegionHeld3
set_option maxHeartbeats 8000000
set_option maxRecDepth 100000
section
namespace Go.Proofs
open Go.Shelf
def Tryz.lays156_ren : Go.Shelf.Ren := ⟨fun | 156 => 72 | 165 => 93 | 166 => 94 | 169 => 95 | 240 => 115 | 241 => 116 | 276 => 127 | 277 => 128 | n => n, fun | 31 => 69 | 9 => 9 | 3 => 3 | 4 => 4 | 0 => 0 | 20 => 20 | 72 => 103 | 76 => 107 | 70 => 101 | 37 => 22 | 75 => 106 | 127 => 119 | 164 => 125 | 5 => 5 | 80 => 109 | n => n, fun | n => n⟩
theorem Tryz.lays156 : Go.Proofs.Lays.n156 Tryz.prog Tryz.lays156_ren := {
 mixed := by kernel_rfl
 f156 := Tryz.func72.trans (congrArg some (by kernel_rfl))
 f165 := Tryz.func93.trans (congrArg some (by kernel_rfl))
 f166 := Tryz.func94.trans (congrArg some (by kernel_rfl))
 f169 := Tryz.func95.trans (congrArg some (by kernel_rfl))
 f240 := Tryz.func115.trans (congrArg some (by kernel_rfl))
 f241 := Tryz.func116.trans (congrArg some (by kernel_rfl))
 f276 := Tryz.func127.trans (congrArg some (by kernel_rfl))
 f277 := Tryz.func128.trans (congrArg some (by kernel_rfl))
 t0 := Tryz.underlying0
 a0 := Tryz.isAgg0
 z0 := Tryz.sizeOf0
 v0 := Tryz.zeroValue0
 t3 := Tryz.underlying3
 a3 := Tryz.isAgg3
 z3 := Tryz.sizeOf3
 v3 := Tryz.zeroValue3
 t4 := Tryz.underlying4
 a4 := Tryz.isAgg4
 z4 := Tryz.sizeOf4
 v4 := Tryz.zeroValue4
 t9 := Tryz.underlying9
 a9 := Tryz.isAgg9
 z9 := Tryz.sizeOf9
 v9 := Tryz.zeroValue9
 t20 := Tryz.underlying20
 a20 := Tryz.isAgg20
 z20 := Tryz.sizeOf20
 v20 := Tryz.zeroValue20
 t31 := Tryz.underlying69
 a31 := Tryz.isAgg69
 z31 := Tryz.sizeOf69
 v31 := Tryz.zeroValue69
 t37 := Tryz.underlying22
 a37 := Tryz.isAgg22
 z37 := Tryz.sizeOf22
 v37 := Tryz.zeroValue22
 t70 := Tryz.underlying101
 a70 := Tryz.isAgg101
 z70 := Tryz.sizeOf101
 v70 := Tryz.zeroValue101
 t72 := Tryz.underlying103
 a72 := Tryz.isAgg103
 z72 := Tryz.sizeOf103
 v72 := Tryz.zeroValue103
 t75 := Tryz.underlying106
 a75 := Tryz.isAgg106
 z75 := Tryz.sizeOf106
 v75 := Tryz.zeroValue106
 t76 := Tryz.underlying107
 a76 := Tryz.isAgg107
 z76 := Tryz.sizeOf107
 v76 := Tryz.zeroValue107
 t127 := Tryz.underlying119
 a127 := Tryz.isAgg119
 z127 := Tryz.sizeOf119
 v127 := Tryz.zeroValue119
 t164 := Tryz.underlying125
 a164 := Tryz.isAgg125
 z164 := Tryz.sizeOf125
 v164 := Tryz.zeroValue125 }
theorem Tryz.Builder_Extra_156 : Builder.Extra Tryz.prog Tryz.lays156_ren := {
 sizeBuilder := by kernel_rfl
 liesBuilder := by kernel_rfl
 t5 := Tryz.underlying5
 a5 := Tryz.isAgg5
 z5 := Tryz.sizeOf5
 v5 := Tryz.zeroValue5
 infoByte := by kernel_rfl
 cellsByte := by kernel_rfl
 sizeByte := by kernel_rfl
 neB5 := by decide }
open Go.RowKit in
theorem Tryz.strings_Join_none (a : Option Addr) (c : Nat) (sep : ByteArray) (w : World) :
  Calls Tryz.prog 72 #[.slice a 0 c, .string sep] w fun e w' => e = .returned (.string ⟨#[]⟩) ∧ w' = w := Any.strings_Join_none Tryz.lays156 Tryz.Builder_Extra_156 a c sep w
open Go.RowKit in
theorem Tryz.strings_Join (bk o c : Nat) (xs : List ByteArray) (sep : ByteArray) (w : World) (hcells : ∀ (j : Nat) x, xs[j]? = some x → w.cell? ⟨bk, o + j, none⟩ = some (.string x)) (hbk : bk < w.heap.size) (hN : xs.length ≤ 140737488355328) (hcap : xs.length ≤ c) (hlen : (Lib.join (xs.map (·.data.toList)) sep.data.toList).length ≤ 140737488355328) :
  Calls Tryz.prog 72 #[.slice (some ⟨bk, o, none⟩) xs.length c, .string sep] w fun e w' => e = .returned (.string ⟨(Lib.join (xs.map (·.data.toList)) sep.data.toList).toArray⟩) ∧ Below w.heap.size w w' := Any.strings_Join Tryz.lays156 Tryz.Builder_Extra_156 bk o c xs sep w hcells hbk hN hcap hlen
def Tryz.lays137_ren : Go.Shelf.Ren := ⟨fun | 137 => 79 | 217 => 101 | 266 => 122 | n => n, fun | 9 => 9 | 5 => 5 | 3 => 3 | n => n, fun | n => n⟩
theorem Tryz.lays137 : Go.Proofs.Lays.n137 Tryz.prog Tryz.lays137_ren := {
 mixed := by kernel_rfl
 f137 := Tryz.func79.trans (congrArg some (by kernel_rfl))
 f217 := Tryz.func101.trans (congrArg some (by kernel_rfl))
 f266 := Tryz.func122.trans (congrArg some (by kernel_rfl))
 t3 := Tryz.underlying3
 a3 := Tryz.isAgg3
 z3 := Tryz.sizeOf3
 v3 := Tryz.zeroValue3
 t5 := Tryz.underlying5
 a5 := Tryz.isAgg5
 z5 := Tryz.sizeOf5
 v5 := Tryz.zeroValue5
 t9 := Tryz.underlying9
 a9 := Tryz.isAgg9
 z9 := Tryz.sizeOf9
 v9 := Tryz.zeroValue9 }
open Go.RowKit in
theorem Tryz.strings_IndexByte (s : ByteArray) (c : Int) (w : World) :
  Calls Tryz.prog 79 #[.string s, .int .u8 c] w fun e w' => e = .returned (.int .i64 (Lib.indexByte s.data.toList c.toNat.toUInt8)) ∧ w' = w := Any.strings_IndexByte Tryz.lays137 s c w
def Tryz.laysM171_ren : Go.Shelf.Ren := ⟨fun | 171 => 92 | 243 => 114 | 246 => 126 | 283 => 136 | 284 => 137 | 285 => 138 | 286 => 139 | 129 => 144 | 317 => 143 | 318 => 145 | 319 => 146 | 320 => 147 | 337 => 150 | 338 => 151 | n => n, fun | 3 => 3 | 9 => 9 | 2 => 2 | 4 => 4 | 171 => 137 | 0 => 0 | 53 => 73 | 37 => 22 | 5 => 5 | 173 => 140 | 212 => 152 | 51 => 128 | 20 => 20 | 213 => 153 | 46 => 120 | 232 => 161 | 233 => 162 | n => n, fun | 17 => 5 | 18 => 6 | 19 => 7 | n => n⟩
theorem Tryz.laysM171 : Go.Proofs.LaysM.n171 Tryz.prog Tryz.laysM171_ren := {
 mixed := by kernel_rfl
 f129 := Tryz.func144.trans (congrArg some (by kernel_rfl))
 f171 := Tryz.func92.trans (congrArg some (by kernel_rfl))
 f243 := Tryz.func114.trans (congrArg some (by kernel_rfl))
 f246 := Tryz.func126.trans (congrArg some (by kernel_rfl))
 f283 := Tryz.func136.trans (congrArg some (by kernel_rfl))
 f284 := Tryz.func137.trans (congrArg some (by kernel_rfl))
 f285 := Tryz.func138.trans (congrArg some (by kernel_rfl))
 f286 := Tryz.func139.trans (congrArg some (by kernel_rfl))
 f317 := Tryz.func143.trans (congrArg some (by kernel_rfl))
 f318 := Tryz.func145.trans (congrArg some (by kernel_rfl))
 f319 := Tryz.func146.trans (congrArg some (by kernel_rfl))
 f320 := Tryz.func147.trans (congrArg some (by kernel_rfl))
 f337 := Tryz.func150.trans (congrArg some (by kernel_rfl))
 f338 := Tryz.func151.trans (congrArg some (by kernel_rfl))
 t0 := Tryz.underlying0
 a0 := Tryz.isAgg0
 z0 := Tryz.sizeOf0
 v0 := Tryz.zeroValue0
 t2 := Tryz.underlying2
 a2 := Tryz.isAgg2
 z2 := Tryz.sizeOf2
 v2 := Tryz.zeroValue2
 t3 := Tryz.underlying3
 a3 := Tryz.isAgg3
 z3 := Tryz.sizeOf3
 v3 := Tryz.zeroValue3
 t4 := Tryz.underlying4
 a4 := Tryz.isAgg4
 z4 := Tryz.sizeOf4
 v4 := Tryz.zeroValue4
 t5 := Tryz.underlying5
 a5 := Tryz.isAgg5
 z5 := Tryz.sizeOf5
 v5 := Tryz.zeroValue5
 t9 := Tryz.underlying9
 a9 := Tryz.isAgg9
 z9 := Tryz.sizeOf9
 v9 := Tryz.zeroValue9
 t20 := Tryz.underlying20
 a20 := Tryz.isAgg20
 z20 := Tryz.sizeOf20
 v20 := Tryz.zeroValue20
 t37 := Tryz.underlying22
 a37 := Tryz.isAgg22
 z37 := Tryz.sizeOf22
 v37 := Tryz.zeroValue22
 t46 := Tryz.underlying120
 a46 := Tryz.isAgg120
 z46 := Tryz.sizeOf120
 v46 := Tryz.zeroValue120
 t51 := Tryz.underlying128
 a51 := Tryz.isAgg128
 z51 := Tryz.sizeOf128
 v51 := Tryz.zeroValue128
 t53 := Tryz.underlying73
 a53 := Tryz.isAgg73
 z53 := Tryz.sizeOf73
 v53 := Tryz.zeroValue73
 t171 := Tryz.underlying137
 a171 := Tryz.isAgg137
 z171 := Tryz.sizeOf137
 v171 := Tryz.zeroValue137
 t173 := Tryz.underlying140
 a173 := Tryz.isAgg140
 z173 := Tryz.sizeOf140
 v173 := Tryz.zeroValue140
 t212 := Tryz.underlying152
 a212 := Tryz.isAgg152
 z212 := Tryz.sizeOf152
 v212 := Tryz.zeroValue152
 t213 := Tryz.underlying153
 a213 := Tryz.isAgg153
 z213 := Tryz.sizeOf153
 t232 := Tryz.underlying161
 a232 := Tryz.isAgg161
 z232 := Tryz.sizeOf161
 v232 := Tryz.zeroValue161
 t233 := Tryz.underlying162
 a233 := Tryz.isAgg162
 z233 := Tryz.sizeOf162
 v233 := Tryz.zeroValue162
 g17 := by kernel_rfl
 g18 := by kernel_rfl
 g19 := by kernel_rfl
 i0 := by kernel_rfl
 i2 := by kernel_rfl
 i3 := by kernel_rfl
 i4 := by kernel_rfl
 i5 := by kernel_rfl
 i9 := by kernel_rfl
 i20 := by kernel_rfl
 i37 := by kernel_rfl
 i46 := by kernel_rfl
 i51 := by kernel_rfl
 i53 := by kernel_rfl
 i171 := by kernel_rfl
 i173 := by kernel_rfl
 i212 := by kernel_rfl
 i232 := by kernel_rfl
 i233 := by kernel_rfl
 m17 := by kernel_rfl
 m18 := by kernel_rfl
 m19 := by kernel_rfl }
open Go.RowKit Go.Sort Go.Lib in
theorem Tryz.strconv_Itoa (n : Int) (h0 : -9223372036854775808 ≤ n) (h1 : n ≤ 9223372036854775807) (w : World) (htab : Lib.TabIs Tryz.prog w "internal/strconv.uint64pow10" .u64 Lib.pow10Tab) :
  Calls Tryz.prog 92 #[.int .i64 n] w fun e w' => e = .returned (.string ⟨(Lib.itoa n).toArray⟩) ∧ ∃ k os, w' = grow (w.drewN k) os := Any.strconv_Itoa Tryz.laysM171 n h0 h1 w htab
def Tryz.laysC172_ren : Go.Shelf.Ren := ⟨fun | 172 => 100 | 244 => 120 | 245 => 121 | 247 => 130 | 279 => 131 | 280 => 132 | 281 => 133 | 282 => 134 | 287 => 140 | 316 => 141 | 171 => 92 | 205 => 142 | 321 => 148 | 322 => 149 | 243 => 114 | 246 => 126 | 283 => 136 | 284 => 137 | 285 => 138 | 286 => 139 | 129 => 144 | 317 => 143 | 318 => 145 | 319 => 146 | 320 => 147 | 337 => 150 | 338 => 151 | n => n, fun | 9 => 9 | 3 => 3 | 75 => 106 | 76 => 107 | 4 => 4 | 5 => 5 | 167 => 131 | 37 => 22 | 0 => 0 | 85 => 132 | 2 => 2 | 168 => 134 | 53 => 73 | 175 => 142 | 46 => 120 | 210 => 146 | 127 => 119 | 145 => 159 | 143 => 157 | 21 => 21 | 171 => 137 | 173 => 140 | 212 => 152 | 51 => 128 | 20 => 20 | 213 => 153 | 232 => 161 | 233 => 162 | 80 => 109 | n => n, fun | 15 => 1 | 16 => 2 | 17 => 5 | 18 => 6 | 19 => 7 | n => n⟩
theorem Tryz.laysC172 : Go.Proofs.LaysC.n172 Tryz.prog Tryz.laysC172_ren := {
 mixed := by kernel_rfl
 f129 := Tryz.func144.trans (congrArg some (by kernel_rfl))
 f171 := Tryz.func92.trans (congrArg some (by kernel_rfl))
 f172 := Tryz.func100.trans (congrArg some (by kernel_rfl))
 f205 := Tryz.func142.trans (congrArg some (by kernel_rfl))
 f243 := Tryz.func114.trans (congrArg some (by kernel_rfl))
 f244 := Tryz.func120.trans (congrArg some (by kernel_rfl))
 f245 := Tryz.func121.trans (congrArg some (by kernel_rfl))
 f246 := Tryz.func126.trans (congrArg some (by kernel_rfl))
 f247 := Tryz.func130.trans (congrArg some (by kernel_rfl))
 f279 := Tryz.func131.trans (congrArg some (by kernel_rfl))
 f280 := Tryz.func132.trans (congrArg some (by kernel_rfl))
 f281 := Tryz.func133.trans (congrArg some (by kernel_rfl))
 f282 := Tryz.func134.trans (congrArg some (by kernel_rfl))
 f283 := Tryz.func136.trans (congrArg some (by kernel_rfl))
 f284 := Tryz.func137.trans (congrArg some (by kernel_rfl))
 f285 := Tryz.func138.trans (congrArg some (by kernel_rfl))
 f286 := Tryz.func139.trans (congrArg some (by kernel_rfl))
 f287 := Tryz.func140.trans (congrArg some (by kernel_rfl))
 f316 := Tryz.func141.trans (congrArg some (by kernel_rfl))
 f317 := Tryz.func143.trans (congrArg some (by kernel_rfl))
 f318 := Tryz.func145.trans (congrArg some (by kernel_rfl))
 f319 := Tryz.func146.trans (congrArg some (by kernel_rfl))
 f320 := Tryz.func147.trans (congrArg some (by kernel_rfl))
 f321 := Tryz.func148.trans (congrArg some (by kernel_rfl))
 f322 := Tryz.func149.trans (congrArg some (by kernel_rfl))
 f337 := Tryz.func150.trans (congrArg some (by kernel_rfl))
 f338 := Tryz.func151.trans (congrArg some (by kernel_rfl))
 t0 := Tryz.underlying0
 a0 := Tryz.isAgg0
 z0 := Tryz.sizeOf0
 v0 := Tryz.zeroValue0
 t2 := Tryz.underlying2
 a2 := Tryz.isAgg2
 z2 := Tryz.sizeOf2
 v2 := Tryz.zeroValue2
 t3 := Tryz.underlying3
 a3 := Tryz.isAgg3
 z3 := Tryz.sizeOf3
 v3 := Tryz.zeroValue3
 t4 := Tryz.underlying4
 a4 := Tryz.isAgg4
 z4 := Tryz.sizeOf4
 v4 := Tryz.zeroValue4
 t5 := Tryz.underlying5
 a5 := Tryz.isAgg5
 z5 := Tryz.sizeOf5
 v5 := Tryz.zeroValue5
 t9 := Tryz.underlying9
 a9 := Tryz.isAgg9
 z9 := Tryz.sizeOf9
 v9 := Tryz.zeroValue9
 t20 := Tryz.underlying20
 a20 := Tryz.isAgg20
 z20 := Tryz.sizeOf20
 v20 := Tryz.zeroValue20
 t21 := Tryz.underlying21
 a21 := Tryz.isAgg21
 z21 := Tryz.sizeOf21
 v21 := Tryz.zeroValue21
 t37 := Tryz.underlying22
 a37 := Tryz.isAgg22
 z37 := Tryz.sizeOf22
 v37 := Tryz.zeroValue22
 t46 := Tryz.underlying120
 a46 := Tryz.isAgg120
 z46 := Tryz.sizeOf120
 v46 := Tryz.zeroValue120
 t51 := Tryz.underlying128
 a51 := Tryz.isAgg128
 z51 := Tryz.sizeOf128
 v51 := Tryz.zeroValue128
 t53 := Tryz.underlying73
 a53 := Tryz.isAgg73
 z53 := Tryz.sizeOf73
 v53 := Tryz.zeroValue73
 t75 := Tryz.underlying106
 a75 := Tryz.isAgg106
 z75 := Tryz.sizeOf106
 v75 := Tryz.zeroValue106
 t76 := Tryz.underlying107
 a76 := Tryz.isAgg107
 z76 := Tryz.sizeOf107
 v76 := Tryz.zeroValue107
 t85 := Tryz.underlying132
 a85 := Tryz.isAgg132
 z85 := Tryz.sizeOf132
 v85 := Tryz.zeroValue132
 t127 := Tryz.underlying119
 a127 := Tryz.isAgg119
 z127 := Tryz.sizeOf119
 v127 := Tryz.zeroValue119
 t143 := Tryz.underlying157
 a143 := Tryz.isAgg157
 z143 := Tryz.sizeOf157
 v143 := Tryz.zeroValue157
 t145 := Tryz.underlying159
 a145 := Tryz.isAgg159
 z145 := Tryz.sizeOf159
 v145 := Tryz.zeroValue159
 t167 := Tryz.underlying131
 a167 := Tryz.isAgg131
 z167 := Tryz.sizeOf131
 v167 := Tryz.zeroValue131
 t168 := Tryz.underlying134
 a168 := Tryz.isAgg134
 z168 := Tryz.sizeOf134
 v168 := Tryz.zeroValue134
 t171 := Tryz.underlying137
 a171 := Tryz.isAgg137
 z171 := Tryz.sizeOf137
 v171 := Tryz.zeroValue137
 t173 := Tryz.underlying140
 a173 := Tryz.isAgg140
 z173 := Tryz.sizeOf140
 v173 := Tryz.zeroValue140
 t175 := Tryz.underlying142
 a175 := Tryz.isAgg142
 z175 := Tryz.sizeOf142
 v175 := Tryz.zeroValue142
 t210 := Tryz.underlying146
 a210 := Tryz.isAgg146
 z210 := Tryz.sizeOf146
 v210 := Tryz.zeroValue146
 t212 := Tryz.underlying152
 a212 := Tryz.isAgg152
 z212 := Tryz.sizeOf152
 v212 := Tryz.zeroValue152
 t213 := Tryz.underlying153
 a213 := Tryz.isAgg153
 z213 := Tryz.sizeOf153
 t232 := Tryz.underlying161
 a232 := Tryz.isAgg161
 z232 := Tryz.sizeOf161
 v232 := Tryz.zeroValue161
 t233 := Tryz.underlying162
 a233 := Tryz.isAgg162
 z233 := Tryz.sizeOf162
 v233 := Tryz.zeroValue162
 g15 := by kernel_rfl
 g16 := by kernel_rfl
 g17 := by kernel_rfl
 g18 := by kernel_rfl
 g19 := by kernel_rfl
 t80 := Tryz.underlying109
 a80 := Tryz.isAgg109
 z80 := Tryz.sizeOf109
 v80 := Tryz.zeroValue109
 i0 := by kernel_rfl
 i2 := by kernel_rfl
 i3 := by kernel_rfl
 i4 := by kernel_rfl
 i5 := by kernel_rfl
 i9 := by kernel_rfl
 i20 := by kernel_rfl
 i21 := by kernel_rfl
 i37 := by kernel_rfl
 i46 := by kernel_rfl
 i51 := by kernel_rfl
 i53 := by kernel_rfl
 i75 := by kernel_rfl
 i76 := by kernel_rfl
 i80 := by kernel_rfl
 i85 := by kernel_rfl
 i127 := by kernel_rfl
 i143 := by kernel_rfl
 i145 := by kernel_rfl
 i167 := by kernel_rfl
 i168 := by kernel_rfl
 i171 := by kernel_rfl
 i173 := by kernel_rfl
 i175 := by kernel_rfl
 i210 := by kernel_rfl
 i212 := by kernel_rfl
 i232 := by kernel_rfl
 i233 := by kernel_rfl
 m15 := by kernel_rfl
 m16 := by kernel_rfl
 m17 := by kernel_rfl
 m18 := by kernel_rfl
 m19 := by kernel_rfl
 c0 := by kernel_rfl
 c2 := by kernel_rfl
 c3 := by kernel_rfl
 c4 := by kernel_rfl
 c5 := by kernel_rfl
 c9 := by kernel_rfl
 c20 := by kernel_rfl
 c21 := by kernel_rfl
 c37 := by kernel_rfl
 c46 := by kernel_rfl
 c51 := by kernel_rfl
 c53 := by kernel_rfl
 c75 := by kernel_rfl
 c76 := by kernel_rfl
 c80 := by kernel_rfl
 c85 := by kernel_rfl
 c127 := by kernel_rfl
 c143 := by kernel_rfl
 c145 := by kernel_rfl
 c167 := by kernel_rfl
 c168 := by kernel_rfl
 c171 := by kernel_rfl
 c173 := by kernel_rfl
 c175 := by kernel_rfl
 c210 := by kernel_rfl
 c212 := by kernel_rfl
 c213 := by kernel_rfl
 c232 := by kernel_rfl
 c233 := by kernel_rfl }
open Go.RowKit in
theorem Tryz.strconv_Atoi_ok (s : ByteArray) (hmax : s.size ≤ 9223372036854775806) (v : Int) (h : Lib.atoiAll s.data.toList = .ok v) (w : World) :
  Calls Tryz.prog 100 #[.string s] w fun e w' => e = .returned (.tuple #[.int .i64 v, .nilIface]) ∧ (w' = w ∨ ∃ t, w' = Lib.bytesWorld w 5 t) := Any.strconv_Atoi_ok Tryz.laysC172 s hmax v h w
open Go.RowKit in
theorem Tryz.strconv_Atoi_syntax (s : ByteArray) (hlim : s.size ≤ 281474976710656) (h : Lib.atoiAll s.data.toList = .«syntax») (ev : Value) (w : World) (hv : w.cell? ⟨1, 0, none⟩ = some ev) (hev : ev = .nilIface ∨ ∃ te pe, ev = .iface te pe) :
  Calls Tryz.prog 100 #[.string s] w fun e w' => ∃ N, e = .returned (.tuple #[.int .i64 (0), .iface 134 (.pointer (some ⟨N, 0, none⟩))]) ∧ w.heap.size ≤ N ∧ w'.heap[N]? = some (.cells #[.string ⟨#[65, 116, 111, 105]⟩, .string s, ev] 146 (0, 0)) ∧ Below w.heap.size w w' := Any.strconv_Atoi_syntax Tryz.laysC172 s hlim h ev w hv hev
open Go.RowKit in
theorem Tryz.strconv_Atoi_range (s : ByteArray) (hlim : s.size ≤ 281474976710656) (h : Lib.atoiAll s.data.toList = .range) (ev : Value) (w : World) (hv : w.cell? ⟨2, 0, none⟩ = some ev) (hev : ev = .nilIface ∨ ∃ te pe, ev = .iface te pe) :
  Calls Tryz.prog 100 #[.string s] w fun e w' => ∃ N, e = .returned (.tuple #[.int .i64 (Lib.atoiSat s.data.toList), .iface 134 (.pointer (some ⟨N, 0, none⟩))]) ∧ w.heap.size ≤ N ∧ w'.heap[N]? = some (.cells #[.string ⟨#[65, 116, 111, 105]⟩, .string s, ev] 146 (0, 0)) ∧ Below w.heap.size w w' := Any.strconv_Atoi_range Tryz.laysC172 s hlim h ev w hv hev
def Tryz.lays145_ren : Go.Shelf.Ren := ⟨fun | 145 => 54 | 220 => 77 | 219 => 99 | 217 => 101 | 225 => 117 | 224 => 118 | 267 => 119 | 266 => 122 | 314 => 129 | n => n, fun | 9 => 9 | 4 => 4 | 59 => 65 | 3 => 3 | 5 => 5 | 46 => 120 | 146 => 129 | 51 => 128 | n => n, fun | 1 => 0 | n => n⟩
theorem Tryz.lays145 : Go.Proofs.Lays.n145 Tryz.prog Tryz.lays145_ren := {
 mixed := by kernel_rfl
 f145 := Tryz.func54.trans (congrArg some (by kernel_rfl))
 f217 := Tryz.func101.trans (congrArg some (by kernel_rfl))
 f219 := Tryz.func99.trans (congrArg some (by kernel_rfl))
 f220 := Tryz.func77.trans (congrArg some (by kernel_rfl))
 f224 := Tryz.func118.trans (congrArg some (by kernel_rfl))
 f225 := Tryz.func117.trans (congrArg some (by kernel_rfl))
 f266 := Tryz.func122.trans (congrArg some (by kernel_rfl))
 f267 := Tryz.func119.trans (congrArg some (by kernel_rfl))
 f314 := Tryz.func129.trans (congrArg some (by kernel_rfl))
 t3 := Tryz.underlying3
 a3 := Tryz.isAgg3
 z3 := Tryz.sizeOf3
 v3 := Tryz.zeroValue3
 t4 := Tryz.underlying4
 a4 := Tryz.isAgg4
 z4 := Tryz.sizeOf4
 v4 := Tryz.zeroValue4
 t5 := Tryz.underlying5
 a5 := Tryz.isAgg5
 z5 := Tryz.sizeOf5
 v5 := Tryz.zeroValue5
 t9 := Tryz.underlying9
 a9 := Tryz.isAgg9
 z9 := Tryz.sizeOf9
 v9 := Tryz.zeroValue9
 t46 := Tryz.underlying120
 a46 := Tryz.isAgg120
 z46 := Tryz.sizeOf120
 v46 := Tryz.zeroValue120
 t51 := Tryz.underlying128
 a51 := Tryz.isAgg128
 z51 := Tryz.sizeOf128
 v51 := Tryz.zeroValue128
 t59 := Tryz.underlying65
 a59 := Tryz.isAgg65
 z59 := Tryz.sizeOf65
 v59 := Tryz.zeroValue65
 t146 := Tryz.underlying129
 a146 := Tryz.isAgg129
 z146 := Tryz.sizeOf129
 v146 := Tryz.zeroValue129
 g1 := by kernel_rfl }
open Go.RowKit Go.Lib in
theorem Tryz.strings_Cut (s sep : ByteArray) (m : Int) (w : World) (hs : s.size < 4294967281) (hm : w.cell? ⟨0, 0, none⟩ = some (.int .i64 m)) :
  Calls Tryz.prog 54 #[.string s, .string sep] w fun e w' => e = .returned (.tuple #[.string ⟨(Lib.cut s.data.toList sep.data.toList).1.toArray⟩, .string ⟨(Lib.cut s.data.toList sep.data.toList).2.1.toArray⟩, .bool (Lib.cut s.data.toList sep.data.toList).2.2]) ∧ ∃ n, w' = w.drewN n := Any.strings_Cut Tryz.lays145 s sep m w hs hm
def Tryz.lays146_ren : Go.Shelf.Ren := ⟨fun | 146 => 56 | 221 => 80 | 268 => 102 | 138 => 103 | 143 => 104 | 195 => 123 | 197 => 124 | 218 => 125 | 219 => 99 | 260 => 135 | 217 => 101 | 225 => 117 | 224 => 118 | 267 => 119 | 266 => 122 | 314 => 129 | n => n, fun | 9 => 9 | 31 => 69 | 3 => 3 | 4 => 4 | 0 => 0 | 105 => 122 | 21 => 21 | 5 => 5 | 46 => 120 | 119 => 148 | 139 => 151 | 138 => 150 | 146 => 129 | 51 => 128 | n => n, fun | 1 => 0 | 3 => 3 | 4 => 4 | n => n⟩
theorem Tryz.lays146 : Go.Proofs.Lays.n146 Tryz.prog Tryz.lays146_ren := {
 mixed := by kernel_rfl
 f138 := Tryz.func103.trans (congrArg some (by kernel_rfl))
 f143 := Tryz.func104.trans (congrArg some (by kernel_rfl))
 f146 := Tryz.func56.trans (congrArg some (by kernel_rfl))
 f195 := Tryz.func123.trans (congrArg some (by kernel_rfl))
 f197 := Tryz.func124.trans (congrArg some (by kernel_rfl))
 f217 := Tryz.func101.trans (congrArg some (by kernel_rfl))
 f218 := Tryz.func125.trans (congrArg some (by kernel_rfl))
 f219 := Tryz.func99.trans (congrArg some (by kernel_rfl))
 f221 := Tryz.func80.trans (congrArg some (by kernel_rfl))
 f224 := Tryz.func118.trans (congrArg some (by kernel_rfl))
 f225 := Tryz.func117.trans (congrArg some (by kernel_rfl))
 f260 := Tryz.func135.trans (congrArg some (by kernel_rfl))
 f266 := Tryz.func122.trans (congrArg some (by kernel_rfl))
 f267 := Tryz.func119.trans (congrArg some (by kernel_rfl))
 f268 := Tryz.func102.trans (congrArg some (by kernel_rfl))
 f314 := Tryz.func129.trans (congrArg some (by kernel_rfl))
 t0 := Tryz.underlying0
 a0 := Tryz.isAgg0
 z0 := Tryz.sizeOf0
 v0 := Tryz.zeroValue0
 t3 := Tryz.underlying3
 a3 := Tryz.isAgg3
 z3 := Tryz.sizeOf3
 v3 := Tryz.zeroValue3
 t4 := Tryz.underlying4
 a4 := Tryz.isAgg4
 z4 := Tryz.sizeOf4
 v4 := Tryz.zeroValue4
 t5 := Tryz.underlying5
 a5 := Tryz.isAgg5
 z5 := Tryz.sizeOf5
 v5 := Tryz.zeroValue5
 t9 := Tryz.underlying9
 a9 := Tryz.isAgg9
 z9 := Tryz.sizeOf9
 v9 := Tryz.zeroValue9
 t21 := Tryz.underlying21
 a21 := Tryz.isAgg21
 z21 := Tryz.sizeOf21
 v21 := Tryz.zeroValue21
 t31 := Tryz.underlying69
 a31 := Tryz.isAgg69
 z31 := Tryz.sizeOf69
 v31 := Tryz.zeroValue69
 t46 := Tryz.underlying120
 a46 := Tryz.isAgg120
 z46 := Tryz.sizeOf120
 v46 := Tryz.zeroValue120
 t51 := Tryz.underlying128
 a51 := Tryz.isAgg128
 z51 := Tryz.sizeOf128
 v51 := Tryz.zeroValue128
 t105 := Tryz.underlying122
 a105 := Tryz.isAgg122
 z105 := Tryz.sizeOf122
 v105 := Tryz.zeroValue122
 t119 := Tryz.underlying148
 a119 := Tryz.isAgg148
 z119 := Tryz.sizeOf148
 t138 := Tryz.underlying150
 a138 := Tryz.isAgg150
 z138 := Tryz.sizeOf150
 v138 := Tryz.zeroValue150
 t139 := Tryz.underlying151
 a139 := Tryz.isAgg151
 z139 := Tryz.sizeOf151
 v139 := Tryz.zeroValue151
 t146 := Tryz.underlying129
 a146 := Tryz.isAgg129
 z146 := Tryz.sizeOf129
 v146 := Tryz.zeroValue129
 g1 := by kernel_rfl
 g3 := by kernel_rfl
 g4 := by kernel_rfl }
open Go.RowKit Go.Lib in
theorem Tryz.strings_Split (s sep : ByteArray) (m : Int) (w : World) (hs : s.size < 4294967281) (hm : w.cell? ⟨0, 0, none⟩ = some (.int .i64 m)) (h1 : 1 ≤ sep.size) :
  Calls Tryz.prog 56 #[.string s, .string sep] w fun e w' =>
   e = .returned (.slice (some ⟨w.heap.size, 0, none⟩) (Lib.countB s sep + 1) (Lib.countB s sep + 1)) ∧ w' = w.alloc (.cells ((Lib.splitB sep 0 (Lib.countB s sep) s).map Value.string).toArray 9) := Any.strings_Split Tryz.lays146 (by kernel_rfl) s sep m w hs hm h1
end Go.Proofs
end
section
namespace Go.Proofs.YtijcdpnnjiamjaaGreatDoor.G
open Go.RowKit Go.Proofs.YtijcdpnnjiamjaaGreatDoorW.PrintWords Go.Proofs.YtijcdpnnjiamjaaGreatDoorW.PrintLast Go.Proofs.YtijcdpnnjiamjaaGreatDoorW.PrintMore
attribute [local go_sem] max2_int min2_int max_two min_two max_three min_three max_four min_four
set_option linter.unusedVariables false
set_option linter.unusedSimpArgs false
def strconv_Itoa.f (a0 : Int) : Option (ByteArray) := if -9223372036854775808 ≤ a0 then (if a0 ≤ 9223372036854775807 then some ⟨(Lib.itoa a0).toArray⟩ else none) else none
theorem strconv_Itoa.calls (a0 : Int) (r : ByteArray) (w : World) (hT : Tb w) (h : strconv_Itoa.f a0 = some r) :
  Calls Tryz.prog 92 #[.int .i64 a0] w fun e w' => e = .returned (.string r) ∧ Below w.heap.size w w' := by
 unfold strconv_Itoa.f at h
 by_cases c1 : -9223372036854775808 ≤ a0
 ·rw [if_pos c1] at h
  by_cases c2 : a0 ≤ 9223372036854775807
  ·rw [if_pos c2] at h
   obtain rfl := Option.some.inj h
   refine (Tryz.strconv_Itoa a0 c1 c2 w hT.tab).mono ?_
   rintro e w' ⟨rfl, k, os, rfl⟩
   exact ⟨rfl, Lib.below_grow _ _ (Nat.le_refl _) k os⟩
  ·rw [if_neg c2] at h
   cases h
 ·rw [if_neg c1] at h
  cases h
def rnum (l : List UInt8) : Int × Bool := match Lib.atoiAll l with
 | .ok v => if Lib.itoa v = l then (v, true) else (0, false)
 | _ => (0, false)
theorem atoi_range {l : List UInt8} {v : Int} (h : Lib.atoiAll l = .ok v) : -9223372036854775808 ≤ v ∧ v ≤ 9223372036854775807 := by
 unfold Lib.atoiAll at h
 cases l with
 | nil => cases h
 | cons c r =>
  simp only at h
  split at h
  ·cases h
  ·cases h
  ·rename_i u hu
   split at h
   ·cases h
   ·split at h
    ·cases h
    ·injection h with h
     by_cases hn : c.toNat = 45
     ·simp [hn] at *
      omega
     ·simp [hn] at *
      omega
def impl_readNumber.f (a0 : ByteArray) : Option (Int × Bool) := if a0.size ≤ 281474976710656 then some (rnum a0.data.toList) else none
theorem impl_readNumber.calls (a0 : ByteArray) (r1 : Int) (r2 : Bool) (w : World) (hT : Tb w) (h : impl_readNumber.f a0 = some (r1, r2)) :
  Calls Tryz.prog 78 #[.string a0] w fun e w' => e = .returned (.tuple #[.int .i64 r1, .bool r2]) ∧ Below w.heap.size w w' := by
 unfold impl_readNumber.f at h
 by_cases c1 : a0.size ≤ 281474976710656
 ·rw [if_pos c1] at h
  have hR := Option.some.inj h
  clear h
  cases hat : Lib.atoiAll a0.data.toList with
  | «syntax» =>
   have e : (r1, r2) = (0, false) := by rw [← hR, rnum, hat]
   obtain ⟨rfl, rfl⟩ := Prod.mk.inj e
   clear e hR
   obtain ⟨u, v, hv⟩ := hT.esyn
   have HC := am (Tryz.strconv_Atoi_syntax a0 c1 hat (.iface u v) w hv (.inr ⟨u, v, rfl⟩))
   clear hT hat hv c1
   go_enter Tryz.func78, Tryz.ntmps78
   go_wp2_with fail
   refine HC.out.mono ?_
   rintro e w1 ⟨N, rfl, _, _, hb⟩
   have HB := am hb
   clear hb
   go_wp2
   go_ret2
   exact ⟨rfl, HB.out⟩
  | range =>
   have e : (r1, r2) = (0, false) := by rw [← hR, rnum, hat]
   obtain ⟨rfl, rfl⟩ := Prod.mk.inj e
   clear e hR
   obtain ⟨u, v, hv⟩ := hT.erng
   have HC := am (Tryz.strconv_Atoi_range a0 c1 hat (.iface u v) w hv (.inr ⟨u, v, rfl⟩))
   clear hT hat hv c1
   go_enter Tryz.func78, Tryz.ntmps78
   go_wp2_with fail
   refine HC.out.mono ?_
   rintro e w1 ⟨N, rfl, _, _, hb⟩
   have HB := am hb
   clear hb
   go_wp2
   go_ret2
   exact ⟨rfl, HB.out⟩
  | ok v =>
   obtain ⟨b1, b2⟩ := atoi_range hat
   have HC := am (Tryz.strconv_Atoi_ok a0 (by omega) v hat w)
   have HT := am hT
   have HI := am (show strconv_Itoa.f v = some ⟨(Lib.itoa v).toArray⟩ by unfold strconv_Itoa.f; rw [if_pos b1, if_pos b2])
   have e2 : a0.toList = a0.data.toList := ByteArray.toList_eq a0
   clear hT b1 b2 c1
   by_cases hq : Lib.itoa v = a0.data.toList
   ·have e : (r1, r2) = (v, true) := by rw [← hR, rnum, hat]; simp only; rw [if_pos hq]
    obtain ⟨rfl, rfl⟩ := Prod.mk.inj e
    clear e hR hat
    have q1 : (Lib.itoa r1 == a0.toList) = true := by rw [e2, hq]; exact beq_self_eq_true _
    have q2 : (Lib.itoa r1 != a0.toList) = false := by rw [e2, hq]; exact bne_self_eq_false _
    clear e2 hq
    go_enter Tryz.func78, Tryz.ntmps78
    go_wp2_with fail
    refine HC.out.mono ?_
    rintro e w1 ⟨rfl, hw⟩
    have hb : Below w.heap.size w w1 := by
     rcases hw with rfl | ⟨t, rfl⟩
     ·exact Below.refl _ _
     ·exact Lib.bytesWorld_below _ _ _
    have HB := am hb
    clear hb hw
    go_wp2_with fail
    refine (strconv_Itoa.calls r1 _ _ (Tb.below HT.out HB.out) HI.out).mono ?_
    rintro e w2 ⟨rfl, hb⟩
    have HB2 := am (below_step HB.out hb)
    clear hb HB
    go_wp2
    go_ret2
    exact ⟨rfl, HB2.out⟩
   ·have e : (r1, r2) = (0, false) := by rw [← hR, rnum, hat]; simp only; rw [if_neg hq]
    obtain ⟨rfl, rfl⟩ := Prod.mk.inj e
    clear e hR hat
    have q1 : (Lib.itoa v == a0.toList) = false := by rw [e2]; exact beq_eq_false_iff_ne.mpr hq
    have q2 : (Lib.itoa v != a0.toList) = true := by rw [e2]; exact bne_iff_ne.mpr hq
    clear e2 hq
    go_enter Tryz.func78, Tryz.ntmps78
    go_wp2_with fail
    refine HC.out.mono ?_
    rintro e w1 ⟨rfl, hw⟩
    have hb : Below w.heap.size w w1 := by
     rcases hw with rfl | ⟨t, rfl⟩
     ·exact Below.refl _ _
     ·exact Lib.bytesWorld_below _ _ _
    have HB := am hb
    clear hb hw
    go_wp2_with fail
    refine (strconv_Itoa.calls v _ _ (Tb.below HT.out HB.out) HI.out).mono ?_
    rintro e w2 ⟨rfl, hb⟩
    have HB2 := am (below_step HB.out hb)
    clear hb HB
    go_wp2
    go_ret2
    exact ⟨rfl, HB2.out⟩
 ·rw [if_neg c1] at h
  cases h
theorem R_strs (xs : List ByteArray) (e : Nat) (w : World) (hm : xs.length ≤ 9223372036854775807) :
  Kd.R Kd.string e (w.alloc (.cells (xs.map Value.string).toArray e)) w.heap.size (fun _ => True) (.slice (some ⟨w.heap.size, 0, none⟩) xs.length xs.length) xs := by
 refine ⟨fun _ _ => trivial, xs.map Value.string, ?_, ?_⟩
 ·have h2 := World.ownsRow_lit (base := w.heap.size) (e := e) (size := 1) w (xs.map Value.string).toArray xs.length (Nat.le_refl _) (by simpa [maxLen] using hm) (by simp)
  have h3 : (w.alloc (.cells (xs.map Value.string).toArray e)).ownsRow w.heap.size e 1 (.slice (some ⟨w.heap.size, 0, none⟩) xs.length xs.length) xs.length (xs.map Value.string) := by simpa using h2
  exact h3
 ·exact Kd.reps_scalar (enc := Value.string) xs
def strings_Split.f (a0 : ByteArray) (a1 : ByteArray) : Option (List ByteArray) := if a1.size = 1 then (if a0.size < 4294967281 then some (Lib.splitB a1 0 (Lib.countB a0 a1) a0) else none) else none
theorem strings_Split.calls (a0 : ByteArray) (a1 : ByteArray) (r : List ByteArray) (w : World) (hT : Tb w) (h : strings_Split.f a0 a1 = some r) :
  Calls Tryz.prog 56 #[.string a0, .string a1] w fun e w' => ∃ v0_ : Value, e = .returned (v0_) ∧ Kd.R Kd.string 9 w' w.heap.size (fun _ => True) v0_ r ∧ Below w.heap.size w w' := by
 unfold strings_Split.f at h
 by_cases c1 : a1.size = 1
 ·rw [if_pos c1] at h
  by_cases c2 : a0.size < 4294967281
  ·rw [if_pos c2] at h
   obtain rfl := Option.some.inj h
   obtain ⟨m, hm⟩ := hT.maxl
   refine (Tryz.strings_Split a0 a1 m w c2 hm (by omega)).mono ?_
   have hlen := Lib.splitB_all a1 (by omega) 0 (Lib.countB a0 a1) a0 rfl
   have hle := Lib.countB_le a1 (by omega) a0.size a0 (Nat.le_refl _)
   rintro e w' ⟨rfl, rfl⟩
   refine ⟨_, by rw [← hlen], ?_, below_alloc (Below.refl _ _) _⟩
   exact R_strs _ 9 w (by omega)
  ·rw [if_neg c2] at h
   cases h
 ·rw [if_neg c1] at h
  cases h
def impl_readNumbers.l0 : Nat → List Int → List ByteArray → Int → Int → Option (List Int × Bool)
 | 0, _, _, _, _ => none
 | k + 1, x6, x13, x14, x15 => if x15 < x14 then (if 0 ≤ x15 then (if x15 < (x13.length : Int) then ((impl_readNumber.f (rdOf ByteArray.empty x13 x15)).bind fun bt105 => (if bt105.2 = true then (if x6.length < 17592186044416 then (impl_readNumbers.l0 k (x6 ++ [bt105.1]) x13 x14 (wrap64 (x15 + 1))) else (none)) else (some (([] : List Int), false)))) else (none)) else (none)) else (some (x6, true))
def impl_readNumbers.f (k : Nat) (a0 : ByteArray) (a1 : ByteArray) : Option (List Int × Bool) := (strings_Split.f a0 a1).bind fun t101 => (impl_readNumbers.l0 k ([] : List Int) t101 (t101.length : Int) 0)
theorem impl_readNumbers.calls (k : Nat) (a0 : ByteArray) (a1 : ByteArray) (r1 : List Int) (r2 : Bool) (w : World) (hT : Tb w) (h : impl_readNumbers.f k a0 a1 = some (r1, r2)) :
  Calls Tryz.prog 57 #[.string a0, .string a1] w fun e w' => ∃ v0_ : Value, e = .returned (.tuple #[v0_, .bool r2]) ∧ Kd.R (Kd.int .i64) 3 w' w.heap.size (fun _ => True) v0_ r1 ∧ Below w.heap.size w w' := by
 have HT0 := am hT
 clear hT
 have HB := am (Below.refl w.heap.size w)
 have H := h
 clear h
 unfold impl_readNumbers.f at H
 obtain ⟨t101, A30, H⟩ := bH H
 have A3 := am A30
 clear A30
 have H' := am H
 clear H
 go_enter Tryz.func57, Tryz.ntmps57
 go_wp2_with (((with_reducible refine gate_callee (f := 56) rfl ?_); refine uGo (some 13) Tryz.func56 #[.string a0, .string a1] ?_; (with_reducible refine (strings_Split.calls a0 a1 t101 _ ?side1 A3.out).mono ?_); (case side1 => exact Tb.below HT0.out uW); rintro e w4 ⟨v102, rfl, ho0, hb⟩; refine ⟨_, rfl, ?_⟩; have HO103 := am (Kd.R_lower ho0 (below_size uW)); replace HB := uS hb; (try clear hb); (try clear ho0); obtain ⟨Ao5, co5, eo5⟩ := Kd.R_slice HO103.out; subst eo5))
 go_loopg [6, 15] k (fun kq v6 v15 w' => ∃ (x6_1 : List Int) (x15_1 : Int), v15 = .int .i64 x15_1 ∧ Aside0 (impl_readNumbers.l0 kq x6_1 t101 (t101.length : Int) x15_1 = some (r1, r2)) ∧ Aside0 (kq ≤ k) ∧ Aside0 (Kd.R (Kd.int .i64) 3 w' w.heap.size (fun _ => True) v6 x6_1) ∧ Aside0 (Kd.R Kd.string 9 w' w.heap.size (fun _ => True) (.slice Ao5 t101.length co5) t101) ∧ Aside0 (Below w.heap.size w w'))
 case atStart => exact ⟨(([] : List Int)), (0), (by rfl), H', ⟨Nat.le_refl _⟩, ⟨uN⟩, ⟨by (with_reducible skip); exact HO103.out⟩, ⟨by exact uW⟩⟩
 case round =>
  clear H'
  obtain ⟨x6_1, x15_1, rfl, HA, HK1, HO_6, HO_13, HB⟩ := hrel
  cases gk with
  | zero => exact absurd HA.out (by simp [impl_readNumbers.l0])
  | succ k1 =>
   have H := HA.out
   clear HA
   simp only [impl_readNumbers.l0] at H
   by_cases c6 : x15_1 < (t101.length : Int)
   ·rw [if_pos c6] at H
    have c6b0 : decide (x15_1 < (t101.length : Int)) = true := decide_eq_true c6
    clear c6
    by_cases c7 : 0 ≤ x15_1
    ·rw [if_pos c7] at H
     have c7b0 : decide (0 ≤ x15_1) = true := decide_eq_true c7
     clear c7
     by_cases c8 : x15_1 < (t101.length : Int)
     ·rw [if_pos c8] at H
      have c8b0 : decide (x15_1 < (t101.length : Int)) = true := decide_eq_true c8
      clear c8
      obtain ⟨⟨t105, t106⟩, A90, H⟩ := bH H
      dsimp only at H
      have A9 := am A90
      clear A90
      by_cases c10 : t106 = true
      ·subst c10
       rw [if_pos rfl] at H
       by_cases c11 : x6_1.length < 17592186044416
       ·rw [if_pos c11] at H
        have LMc11 := am c11
        clear c11
        obtain ⟨y107, hy107⟩ : ∃ y_ : List Int, y_ = (x6_1 ++ [t105]) := ⟨_, rfl⟩
        replace H : (impl_readNumbers.l0 k1 y107 t101 (t101.length : Int) (wrap64 (x15_1 + 1))) = some (r1, r2) := by (rw [hy107]; with_reducible exact H)
        have Ny107 := am hy107
        clear hy107
        have H' := am H
        clear H
        have p104 : 0 ≤ (x15_1 : Int) := of_decide_eq_true (by (with_reducible assumption))
        have q104 : x15_1 < (t101.length : Int) := of_decide_eq_true (by (with_reducible assumption))
        obtain ⟨ad104, e104, hx104_0⟩ := Kd.at_string (Kd.R_reads' HO_13.out).2.2 x15_1 p104 q104
        cases e104
        replace p104 := eq_true p104
        replace q104 := eq_true q104
        go_wp2_with (first | ((with_reducible refine gate_callee (f := 78) rfl ?_); refine uGo (some 21) Tryz.func78 #[.string (rdOf ByteArray.empty t101 x15_1)] ?_; (with_reducible refine (impl_readNumber.calls (rdOf ByteArray.empty t101 x15_1) t105 true _ ?side1 A9.out).mono ?_); (case side1 => exact Tb.below HT0.out uW); rintro e w12 ⟨rfl, hb⟩; refine ⟨_, rfl, ?_⟩; replace HO_6 := am (Kd.R_below (uR HO_6) hb); replace HO_13 := am (Kd.R_below (uR HO_13) hb); replace HB := uS hb; (try clear hb)) | ((with_reducible refine gate_builtin (b := .append) (xs := #[.tmp 26, .tmp 28]) rfl ?_); at_builtin; refine Kd.R_append (Kd.int .i64) (w0 := w) w.heap.size rfl (.tmp 26) (.tmp 28) 30 3 (.int .i64 0) 8 rfl Tryz.underlying30 info3 rfl (by decide) (by omega) u6 x6_1 t105 [.int .i64 t105] (fun _ => True) (fun _ => False) rfl rfl ?aP (fun _ hk => hk.elim) ?aF ?aO ?aB ?aS ?aL ?_; (case aP => exact rfl); (case aB => exact uW); (case aF => exact (fun _ _ => trivial)); (case aO => exact (uR HO_6)); (case aS => exact (below_size uW)); (case aL => have := LMc11.out; omega); intro v108 w13 ho hb hg hat; rw [← Ny107.out] at ho; have HO109 := am (ho); replace HO_13 := am (Kd.R_over' (uR HO_13) (Kd.R_typed (uR HO_6)) (by decide) hg); replace HB := am (hb); clear HO_6; clear ho hb hg hat))
        go_roundg k1
        case measure => have := HK1.out; omega
        case rel => exact ⟨(y107), (wrap64 (x15_1 + 1)), (by rfl), H', ⟨by have := HK1.out; omega⟩, ⟨by (with_reducible skip); exact HO109.out⟩, ⟨by (with_reducible skip); exact HO_13.out⟩, ⟨by exact uW⟩⟩
       ·rw [if_neg c11] at H
        exact absurd H (by simp)
      ·replace c10 := Bool.eq_false_iff.mpr c10
       subst c10
       rw [if_neg (show ¬ (false = true) by decide)] at H
       simp only [Option.some.injEq, Prod.mk.injEq] at H
       obtain ⟨rfl, rfl⟩ := H
       have p104 : 0 ≤ (x15_1 : Int) := of_decide_eq_true (by (with_reducible assumption))
       have q104 : x15_1 < (t101.length : Int) := of_decide_eq_true (by (with_reducible assumption))
       obtain ⟨ad104, e104, hx104_0⟩ := Kd.at_string (Kd.R_reads' HO_13.out).2.2 x15_1 p104 q104
       cases e104
       replace p104 := eq_true p104
       replace q104 := eq_true q104
       go_wp2_with (((with_reducible refine gate_callee (f := 78) rfl ?_); refine uGo (some 21) Tryz.func78 #[.string (rdOf ByteArray.empty t101 x15_1)] ?_; (with_reducible refine (impl_readNumber.calls (rdOf ByteArray.empty t101 x15_1) t105 false _ ?side1 A9.out).mono ?_); (case side1 => exact Tb.below HT0.out uW); rintro e w14 ⟨rfl, hb⟩; refine ⟨_, rfl, ?_⟩; replace HO_6 := am (Kd.R_below (uR HO_6) hb); replace HO_13 := am (Kd.R_below (uR HO_13) hb); replace HB := uS hb; (try clear hb)))
       go_ret2
       exact ⟨_, uA, uN, by exact uW⟩
     ·rw [if_neg c8] at H
      exact absurd H (by simp)
    ·rw [if_neg c7] at H
     exact absurd H (by simp)
   ·rw [if_neg c6] at H
    have c6b0 : decide (x15_1 < (t101.length : Int)) = false := decide_eq_false c6
    clear c6
    simp only [Option.some.injEq, Prod.mk.injEq] at H
    obtain ⟨rfl, rfl⟩ := H
    go_wp2
    go_ret2
    exact ⟨_, uA, by (with_reducible skip); exact HO_6.out, by exact uW⟩
def fitsAll (a b : Int) (l : List S46) (h : Int) : Option Bool :=
 if l.all (fun x => (impl_doesFit.f a b x.f0 x.f1 x.f2 h).isSome) = true then some (!(l.any fun x => !((impl_doesFit.f a b x.f0 x.f1 x.f2 h).getD false))) else none
def solGo (a b : Int) (l : List S46) : Nat → List Int → Int → Option (List Int)
 | 0, acc, _ => some acc
 | m + 1, acc, h => (fitsAll a b l h).bind fun ok => if ok = true then (if acc.length < 17592186044416 then solGo a b l m (acc ++ [h]) (h + 1) else none) else solGo a b l m acc (h + 1)
def impl_solutions.f (a0_0 : Int) (a0_1 : Int) (l1 : List (S46)) : Option (List Int) := (impl_housesOf.f a0_0 a0_1).bind fun n => if n ≤ 9223372036854775806 then solGo a0_0 a0_1 l1 n.toNat [] 1 else none
theorem sol_fits {a b h : Int} {l : List S46} {t : Bool} (hf : fitsAll a b l h = some t) : t = (!(l.any fun x => !((impl_doesFit.f a b x.f0 x.f1 x.f2 h).getD false))) ∧ ∀ x ∈ l, impl_doesFit.f a b x.f0 x.f1 x.f2 h = some ((impl_doesFit.f a b x.f0 x.f1 x.f2 h).getD false) := by
 unfold fitsAll at hf
 split at hf
 ·rename_i hall
  refine ⟨(Option.some.inj hf).symm, fun x hx => ?_⟩
  have := List.all_eq_true.1 hall x hx
  obtain ⟨y, hy⟩ := Option.isSome_iff_exists.1 this
  rw [hy]
  rfl
 ·cases hf
theorem sol_keep {wr W W' : World} {gh gs : Nat} {x y z : Value} (h : W.cell? ⟨gh, 0, none⟩ = some x ∧ W.cell? ⟨gs, 0, none⟩ = some y ∧ W.cell? ⟨gs, 1, none⟩ = some z ∧ Below wr.heap.size wr W) (hb : Below W.heap.size W W') :
  W'.cell? ⟨gh, 0, none⟩ = some x ∧ W'.cell? ⟨gs, 0, none⟩ = some y ∧ W'.cell? ⟨gs, 1, none⟩ = some z ∧ Below wr.heap.size wr W' :=
 ⟨(hb.cell (World.block_lt_of_cell? W _ h.1)).trans h.1, (hb.cell (World.block_lt_of_cell? W _ h.2.1)).trans h.2.1, (hb.cell (World.block_lt_of_cell? W _ h.2.2.1)).trans h.2.2.1, below_step h.2.2.2 hb⟩
theorem sol_fresh {W : World} {gs gh : Nat} {o o' : Obj} (h : W.heap[gs]? = some o) (h' : W.heap[gh]? = some o') : ∀ k, W.heap.size ≤ k → k ≠ gh ∧ k ≠ gs := fun k hk => by
 have := blk_lt h
 have := blk_lt h'
 omega
theorem sol_left {W : World} {g : Nat} {o : Obj} (h : W.heap[g]? = some o) (o' : Obj) : (W.alloc o').heap[g]? = some o := blk_alloc h o'
theorem sol_row {W : World} {gs gh base : Nat} {o o' : Obj} {v : Value} {xs : List Int} (h : Kd.R (Kd.int .i64) 3 W base (fun k_ => k_ ≠ gh ∧ k_ ≠ gs) v xs) (h' : W.heap[gs]? = some o) : Kd.R (Kd.int .i64) 3 (W.alloc o') base (fun k_ => k_ ≠ W.heap.size ∧ k_ ≠ gs) v xs :=
 Kd.R_alloc (Kd.R_mono (Kd.R_bound h) (fun k hk => ⟨by omega, hk.1.2⟩)) o'
theorem impl_solutions.calls (a0_0 : Int) (a0_1 : Int) (A1 : Option Addr) (c1 : Nat) (l1 : List (S46)) (r : List Int) (w : World) (hr1 : Kd.C k46 w A1 l1.length l1) (hc1 : l1.length ≤ c1) (h : impl_solutions.f a0_0 a0_1 l1 = some r) :
  Calls Tryz.prog 37 #[.agg #[.int .i64 a0_0, .int .i64 a0_1], .slice A1 l1.length c1] w fun e w' => ∃ v0_ : Value, e = .returned (v0_) ∧ Kd.R (Kd.int .i64) 3 w' w.heap.size (fun _ => True) v0_ r ∧ Below w.heap.size w w' := by
 have hu27 := Tryz.underlying25
 unfold impl_solutions.f at h
 obtain ⟨n, hn, h⟩ := Option.bind_eq_some_iff.1 h
 by_cases hmax : n ≤ 9223372036854775806
 ·rw [if_pos hmax] at h
  have HR := am hr1
  have HC := am hc1
  have HH := am h
  have HN := am hn
  have HM := am hmax
  have eg := am (enters_of Tryz.func63 (by kernel_rfl) rfl)
  clear hr1 hc1 h hn hmax
  go_enter Tryz.func37, Tryz.ntmps37
  go_wp2
  go_loopg [5, 6] (n.toNat + 1) (fun gk v5 v6 wr => ∃ (acc : List Int) (hh : Int) (gh : Nat), v6 = .pointer (some ⟨gh, 0, none⟩) ∧ Aside0 (∃ m, m + 1 = gk ∧ solGo a0_0 a0_1 l1 m acc hh = some r ∧ 1 ≤ hh ∧ hh + m = max n 0 + 1) ∧ Aside0 (wr.heap[w.heap.size]? = some (.cells #[.int .i64 a0_0, .int .i64 a0_1] 25 (0, 0))) ∧ Aside0 (wr.heap[gh]? = some (.cells #[.int .i64 hh] 3 (0, 0))) ∧ Aside0 (w.heap.size < gh) ∧ Aside0 (Kd.R (Kd.int .i64) 3 wr w.heap.size (fun k_ => k_ ≠ gh ∧ k_ ≠ w.heap.size) v5 acc) ∧ Aside0 (Below w.heap.size w wr))
  case atStart => exact ⟨[], 1, w.heap.size + 1, rfl, ⟨n.toNat, rfl, HH.out, by omega, by omega⟩, ⟨blk_alloc (blk_new _ _) _⟩, ⟨by have := blk_new (w.alloc (.cells #[.int .i64 a0_0, .int .i64 a0_1] 25)) (.cells #[.int .i64 1] 3); simpa using this⟩, ⟨by omega⟩, ⟨Kd.R_nil _ _ _ _ _⟩, ⟨((Below.refl _ _).alloc (Nat.le_refl _) _).alloc (by simp) _⟩⟩
  case round =>
   obtain ⟨acc, hh, gh, rfl, HS, KS, KH, HL, HO, HB⟩ := hrel
   have s0 : wr.cell? ⟨gh, 0, none⟩ = some (.int .i64 hh) ∧ wr.cell? ⟨w.heap.size, 0, none⟩ = some (.int .i64 a0_0) ∧ wr.cell? ⟨w.heap.size, 1, none⟩ = some (.int .i64 a0_1) ∧ Below wr.heap.size wr wr := ⟨blk_cell KH.out 0, blk_cell KS.out 0, blk_cell KS.out 1, Below.refl _ _⟩
   go_wp2_with fail
   go_region_held3 (fun W => W.cell? ⟨gh, 0, none⟩ = some (.int .i64 hh) ∧ W.cell? ⟨w.heap.size, 0, none⟩ = some (.int .i64 a0_0) ∧ W.cell? ⟨w.heap.size, 1, none⟩ = some (.int .i64 a0_1) ∧ Below wr.heap.size wr W) (first | exact ⟨s0.1, s0.2.1, s0.2.2.1, s0.2.2.2.drew⟩ | exact sol_keep (by assumption) (by assumption)) ((go_at_call 50; refine (impl_housesOf.calls a0_0 a0_1 n _ HN.out).mono ?_; rintro e w' ⟨rfl, hb⟩))
   have hb2 : Below wr.heap.size wr w' := below_step ((Below.refl wr.heap.size wr).drew) hb
   have KS1 := am (blk_below KS.out hb2)
   have KH1 := am (blk_below KH.out hb2)
   have HO1 := am (Kd.R_below HO.out hb2)
   have HB1 := am (below_step HB.out hb2)
   clear hb hb2 s0 KS KH HO HB
   obtain ⟨m, hm, hgo, h1, hsum⟩ := HS.out
   clear HS
   have HG := am hgo
   clear hgo
   by_cases hle : hh ≤ n
   ·obtain ⟨m', rfl⟩ : ∃ m', m = m' + 1 := ⟨m - 1, by omega⟩
    have hgo := HG.out
    unfold solGo at hgo
    obtain ⟨ok, hfit, hgo⟩ := Option.bind_eq_some_iff.1 hgo
    obtain ⟨hok, hall⟩ := sol_fits hfit
    have HF := am hall
    have HK := am hok
    have HG2 := am hgo
    have hs : w.heap.size < w'.heap.size := Nat.lt_of_lt_of_le (blk_lt KS1.out) (Nat.le_refl _)
    have hg : gh < w'.heap.size := blk_lt KH1.out
    have hle2 : hh ≤ 9223372036854775806 := by have := HM.out; omega
    have HMg := am hm
    clear hfit hok hall hgo HG hm
    go_wp2_with fail
    refine (clue_containsFunc (fun x => !((impl_doesFit.f a0_0 a0_1 x.f0 x.f1 x.f2 hh).getD false)) 63 #[.pointer (some ⟨w.heap.size, 0, none⟩), .pointer (some ⟨gh, 0, none⟩)] eg.out A1 c1 l1 w' (Kd.C_below HR.out HB1.out) HC.out (fun W x hx hW => (sol_bad w.heap.size gh a0_0 a0_1 hh _ W x (HF.out x hx) ((blk_cell (blk_below KS1.out hW) 0).trans rfl) ((blk_cell (blk_below KS1.out hW) 1).trans rfl) ((blk_cell (blk_below KH1.out hW) 0).trans rfl) (Nat.lt_of_lt_of_le hs hW.size) (Nat.lt_of_lt_of_le hg hW.size)).mono fun e w' h => ⟨h.1, below_step hW h.2⟩)).mono ?_
    rintro e w2 ⟨rfl, hb⟩
    have hq : (l1.any fun x => !((impl_doesFit.f a0_0 a0_1 x.f0 x.f1 x.f2 hh).getD false)) = !ok := by rw [HK.out, Bool.not_not]
    rw [hq]
    clear hq
    have KS2 := am (blk_below KS1.out hb)
    have KH2 := am (blk_below KH1.out hb)
    have HO2 := am (Kd.R_below HO1.out hb)
    have HB2 := am (below_step HB1.out hb)
    clear KS1 KH1 HO1 HB1 hb hs hg HF HK
    have e0 : w2.cell? ⟨gh, 0, none⟩ = some (.int .i64 hh) := (blk_cell KH2.out 0).trans rfl
    cases ok with
    | true =>
     have hgo := HG2.out
     rw [if_pos rfl] at hgo
     by_cases hL : acc.length < 17592186044416
     ·rw [if_pos hL] at hgo
      have HG3 := am hgo
      have HLM := am hL
      clear hgo hL HG2
      go_wp2_with (((with_reducible refine gate_builtin (b := .append) (xs := #[.tmp 17, .tmp 19]) rfl ?_); at_builtin; refine Kd.R_append (Kd.int .i64) (w0 := w) w.heap.size rfl (.tmp 17) (.tmp 19) 30 3 (.int .i64 0) 8 rfl Tryz.underlying30 info3 rfl (by decide) (by omega) u5 acc hh [.int .i64 hh] (fun k_ => k_ ≠ gh ∧ k_ ≠ w.heap.size) (fun _ => False) rfl rfl ?aP (fun _ hk => hk.elim) ?aF ?aO ?aB ?aS ?aL ?_; (case aP => exact rfl); (case aF => exact sol_fresh KS2.out KH2.out); (case aO => exact HO2.out); (case aB => exact HB2.out); (case aS => exact HB2.out.size); (case aL => have := HLM.out; omega); intro v1 w3 ho hb hg hat; have KS3 := am (blk_grown KS2.out hg (fun e => (HO2.out.1 _ e.symm).2 rfl)); have KH3 := am (blk_grown KH2.out hg (fun e => (HO2.out.1 _ e.symm).1 rfl)); have HO3 := am ho; have HB3 := am hb; clear e0 KS2 KH2 HO2 HB2 ho hb hg hat; have e0 : w3.cell? ⟨gh, 0, none⟩ = some (.int .i64 hh) := (blk_cell KH3.out 0).trans rfl))
      go_roundg (m' + 1)
      case measure => have := HMg.out; omega
      case rel => exact ⟨acc ++ [hh], hh + 1, w3.heap.size, rfl, ⟨m', rfl, HG3.out, by omega, by omega⟩, ⟨sol_left KS3.out _⟩, ⟨blk_new _ _⟩, ⟨blk_lt KS3.out⟩, ⟨sol_row HO3.out KS3.out⟩, ⟨below_alloc HB3.out _⟩⟩
     ·rw [if_neg hL] at hgo
      cases hgo
    | false =>
     have hgo := HG2.out
     rw [if_neg (by decide)] at hgo
     have HG3 := am hgo
     clear hgo HG2
     go_wp2
     go_roundg (m' + 1)
     case measure => have := HMg.out; omega
     case rel => exact ⟨acc, hh + 1, w2.heap.size, rfl, ⟨m', rfl, HG3.out, by omega, by omega⟩, ⟨sol_left KS2.out _⟩, ⟨blk_new _ _⟩, ⟨blk_lt KS2.out⟩, ⟨sol_row HO2.out KS2.out⟩, ⟨below_alloc HB2.out _⟩⟩
   ·obtain rfl : m = 0 := by omega
    have hgo := HG.out
    unfold solGo at hgo
    obtain rfl := Option.some.inj hgo
    clear hgo HG hm h1 hsum
    go_wp2
    go_ret
    exact ⟨_, rfl, Kd.R_mono HO1.out (fun _ _ => trivial), HB1.out⟩
 ·rw [if_neg hmax] at h
  cases h
def strings_IndexByte.f (a0 : ByteArray) (a1 : Int) : Option (Int) := some (Lib.indexByte a0.data.toList a1.toNat.toUInt8)
theorem strings_IndexByte.calls (a0 : ByteArray) (a1 : Int) (r : Int) (w : World) (h : strings_IndexByte.f a0 a1 = some r) :
  Calls Tryz.prog 79 #[.string a0, .int .u8 a1] w fun e w' => e = .returned (.int .i64 r) ∧ Drawn0 w w' := by
 unfold strings_IndexByte.f at h
 obtain rfl := Option.some.inj h
 refine (Tryz.strings_IndexByte a0 a1 w).mono ?_
 rintro e w' ⟨rfl, rfl⟩
 exact ⟨rfl, Drawn0.refl _⟩
def spec_pzText.l0 : Nat → ByteArray → List (S46) → Int → Int → Option (ByteArray)
 | 0, _, _, _, _ => none
 | k + 1, x3, x11, x12, x13 => if x13 < x12 then (if 0 ≤ x13 then (if x13 < (x11.length : Int) then (if x13 > 0 then (if x3.size + 1 ≤ 9223372036854775807 then ((spec_l1Num.f k ((rd_T46 x11 x13).f0)).bind fun t105 => (if t105.size + 1 ≤ 9223372036854775807 then ((spec_l1Num.f k ((rd_T46 x11 x13).f1)).bind fun t106 => (if (t105 ++ (⟨#[46]⟩ : ByteArray)).size + t106.size ≤ 9223372036854775807 then (if ((t105 ++ (⟨#[46]⟩ : ByteArray)) ++ t106).size + 1 ≤ 9223372036854775807 then ((spec_l1Num.f k ((rd_T46 x11 x13).f2)).bind fun t107 => (if (((t105 ++ (⟨#[46]⟩ : ByteArray)) ++ t106) ++ (⟨#[46]⟩ : ByteArray)).size + t107.size ≤ 9223372036854775807 then (if (x3 ++ (⟨#[44]⟩ : ByteArray)).size + ((((t105 ++ (⟨#[46]⟩ : ByteArray)) ++ t106) ++ (⟨#[46]⟩ : ByteArray)) ++ t107).size ≤ 9223372036854775807 then (spec_pzText.l0 k ((x3 ++ (⟨#[44]⟩ : ByteArray)) ++ ((((t105 ++ (⟨#[46]⟩ : ByteArray)) ++ t106) ++ (⟨#[46]⟩ : ByteArray)) ++ t107)) x11 x12 (wrap64 (x13 + 1))) else (none)) else (none))) else (none)) else (none))) else (none))) else (none)) else ((spec_l1Num.f k ((rd_T46 x11 x13).f0)).bind fun t108 => (if t108.size + 1 ≤ 9223372036854775807 then ((spec_l1Num.f k ((rd_T46 x11 x13).f1)).bind fun t109 => (if (t108 ++ (⟨#[46]⟩ : ByteArray)).size + t109.size ≤ 9223372036854775807 then (if ((t108 ++ (⟨#[46]⟩ : ByteArray)) ++ t109).size + 1 ≤ 9223372036854775807 then ((spec_l1Num.f k ((rd_T46 x11 x13).f2)).bind fun t110 => (if (((t108 ++ (⟨#[46]⟩ : ByteArray)) ++ t109) ++ (⟨#[46]⟩ : ByteArray)).size + t110.size ≤ 9223372036854775807 then (if x3.size + ((((t108 ++ (⟨#[46]⟩ : ByteArray)) ++ t109) ++ (⟨#[46]⟩ : ByteArray)) ++ t110).size ≤ 9223372036854775807 then (spec_pzText.l0 k (x3 ++ ((((t108 ++ (⟨#[46]⟩ : ByteArray)) ++ t109) ++ (⟨#[46]⟩ : ByteArray)) ++ t110)) x11 x12 (wrap64 (x13 + 1))) else (none)) else (none))) else (none)) else (none))) else (none)))) else (none)) else (none)) else (some x3)
def spec_pzText.f (k : Nat) (a0_0 : Int) (a0_1 : Int) (l0_2 : List (S46)) : Option (ByteArray) := (spec_nuText.f k a0_0 a0_1).bind fun t102 => (if t102.size + 1 ≤ 9223372036854775807 then (spec_pzText.l0 k (t102 ++ (⟨#[59]⟩ : ByteArray)) l0_2 (l0_2.length : Int) 0) else (none))
def spec_pzText.T7 : Bool × List (List Nat × List Nat) := (true, [([], []), ([], []), ([1], [1]), ([2], [2]), ([3], [3]), ([], []), ([5], [5]), ([6, 3], [6]), ([4, 7], [4, 7]), ([8], [8]), ([], []), ([10], [10]), ([11, 7], [11]), ([9, 12], [9, 12]), ([0, 13], [0, 13]), ([14, 12, 0, 1, 2, 3, 4, 5, 6, 7, 8, 9, 10, 11, 12, 13, 14], [0, 14])])
def spec_pzText.B7 : List Nat := [0, 0, 2, 6, 14, 0, 32, 110, 254, 510, 0, 1024, 3310, 8190, 16383, 32767]
theorem spec_pzText.tab7 : rtab .any (opsOf Tryz.f44 7) = spec_pzText.T7 := by kernel_rfl
theorem spec_pzText.bits7 : waitsOk spec_pzText.T7.2 spec_pzText.B7 = true := by kernel_rfl
theorem spec_pzText.calls (k : Nat) (a0_0 : Int) (a0_1 : Int) (A0_2 : Option Addr) (c0_2 : Nat) (l0_2 : List (S46)) (r : ByteArray) (w : World) (hr0_2 : Kd.C k46 w A0_2 l0_2.length l0_2) (hc0_2 : l0_2.length ≤ c0_2) (h : spec_pzText.f k a0_0 a0_1 l0_2 = some r) :
  Calls Tryz.prog 44 #[.agg #[.int .i64 a0_0, .int .i64 a0_1, .slice A0_2 l0_2.length c0_2]] w fun e w' => e = .returned (.string r) ∧ Below w.heap.size w w' := by
 have hu28 := Tryz.underlying28
 have hu25 := Tryz.underlying25
 have hu46 := Tryz.underlying46
 have HR0_2 := am hr0_2
 have HC0_2 := am hc0_2
 clear hr0_2 hc0_2
 have HB := am (Below.refl w.heap.size w)
 have H := h
 clear h
 unfold spec_pzText.f at H
 obtain ⟨t102, A20, H⟩ := bH H
 have A2 := am A20
 clear A20
 by_cases c3 : t102.size + 1 ≤ 9223372036854775807
 ·rw [if_pos c3] at H
  have c3b0 := eq_true c3
  have c3b1 : decide (t102.size + 1 ≤ 9223372036854775807) = true := decide_eq_true c3
  try have c3b2 : (9223372036854775807 < t102.size + 1) = False := eq_false (Nat.not_lt.2 c3)
  have H' := am H
  clear H
  go_enter Tryz.func44, Tryz.ntmps44
  go_wp2_with (first | ((with_reducible refine gate_dst (N := 1) rfl ?_); refine uX (N := 1) (cs := #[.int .i64 a0_0, .int .i64 a0_1, .slice A0_2 l0_2.length c0_2]) (t := 28) ?_; intro gb101 hg w4 hbox hb; have BK101 := am (hbox); have GW101 := uE hg; have GE101 := GW101; replace HB := uS hb; clear hb hbox hg; obtain ⟨hcz5_0, hcz5_1, hcz5_2, hfz5_0, hfz5_1, hfz5_2⟩ := uZ3 BK101) | ((with_reducible refine gate_callee (f := 73) rfl ?_); refine uGo (some 8) Tryz.func73 #[.agg #[.int .i64 a0_0, .int .i64 a0_1]] ?_; (with_reducible refine (spec_nuText.calls k a0_0 a0_1 t102 _ A2.out).mono ?_); rintro e w6 ⟨rfl, hb⟩; refine ⟨_, rfl, ?_⟩; replace BK101 := uB BK101 hb; replace HB := uS hb; (try clear hb); obtain ⟨hcz7_0, hcz7_1, hcz7_2, hfz7_0, hfz7_1, hfz7_2⟩ := uZ3 BK101))
  go_loopg [3, 13] k (fun kq v3 v13 w' => ∃ (x3_1 : ByteArray) (x13_1 : Int), v3 = .string x3_1 ∧ v13 = .int .i64 x13_1 ∧ Aside0 (spec_pzText.l0 kq x3_1 l0_2 (l0_2.length : Int) x13_1 = some r) ∧ Aside0 (kq ≤ k) ∧ Aside0 (w'.heap[gb101]? = some (.cells #[.int .i64 a0_0, .int .i64 a0_1, (.slice A0_2 l0_2.length c0_2)] 28 (0, 0))) ∧ Aside0 (Below w.heap.size w w'))
  case atStart => exact ⟨(t102 ++ (⟨#[59]⟩ : ByteArray)), (0), (by rfl), (by rfl), H', ⟨Nat.le_refl _⟩, ⟨by (with_reducible skip); exact BK101.out⟩, ⟨by exact uW⟩⟩
  case round =>
   clear H'
   try clear c3
   try clear c3b0
   try clear c3b1
   try clear c3b2
   try clear hcz5_0
   try clear hcz5_1
   try clear hcz5_2
   try clear hcz7_0
   try clear hcz7_1
   try clear hcz7_2
   try clear hfz5_0
   try clear hfz5_1
   try clear hfz5_2
   try clear hfz7_0
   try clear hfz7_1
   try clear hfz7_2
   obtain ⟨x3_1, x13_1, rfl, rfl, HA, HK1, BK101, HB⟩ := hrel
   cases gk with
   | zero => exact absurd HA.out (by simp [spec_pzText.l0])
   | succ k1 =>
    have H := HA.out
    clear HA
    simp only [spec_pzText.l0] at H
    by_cases c8 : x13_1 < (l0_2.length : Int)
    ·rw [if_pos c8] at H
     have c8b0 : decide (x13_1 < (l0_2.length : Int)) = true := decide_eq_true c8
     clear c8
     by_cases c9 : 0 ≤ x13_1
     ·rw [if_pos c9] at H
      have c9b0 : decide (0 ≤ x13_1) = true := decide_eq_true c9
      clear c9
      by_cases c10 : x13_1 < (l0_2.length : Int)
      ·rw [if_pos c10] at H
       have c10b0 : decide (x13_1 < (l0_2.length : Int)) = true := decide_eq_true c10
       clear c10
       by_cases c11 : x13_1 > 0
       ·rw [if_pos c11] at H
        have c11b0 : decide (0 < x13_1) = true := decide_eq_true c11
        clear c11
        by_cases c12 : x3_1.size + 1 ≤ 9223372036854775807
        ·rw [if_pos c12] at H
         have c12b0 := eq_true c12
         have c12b1 : decide (x3_1.size + 1 ≤ 9223372036854775807) = true := decide_eq_true c12
         try have c12b2 : (9223372036854775807 < x3_1.size + 1) = False := eq_false (Nat.not_lt.2 c12)
         obtain ⟨t105, A130, H⟩ := bH H
         have A13 := am A130
         clear A130
         by_cases c14 : t105.size + 1 ≤ 9223372036854775807
         ·rw [if_pos c14] at H
          have c14b0 := eq_true c14
          have c14b1 : decide (t105.size + 1 ≤ 9223372036854775807) = true := decide_eq_true c14
          try have c14b2 : (9223372036854775807 < t105.size + 1) = False := eq_false (Nat.not_lt.2 c14)
          obtain ⟨t106, A150, H⟩ := bH H
          have A15 := am A150
          clear A150
          by_cases c16 : (t105 ++ (⟨#[46]⟩ : ByteArray)).size + t106.size ≤ 9223372036854775807
          ·rw [if_pos c16] at H
           have c16b0 := eq_true c16
           have c16b1 : decide ((t105 ++ (⟨#[46]⟩ : ByteArray)).size + t106.size ≤ 9223372036854775807) = true := decide_eq_true c16
           try have c16b2 : (9223372036854775807 < (t105 ++ (⟨#[46]⟩ : ByteArray)).size + t106.size) = False := eq_false (Nat.not_lt.2 c16)
           try have c16b3 : (9223372036854775807 < t105.size + 1 + t106.size) = False := eq_false (by have h_ := c16; simp only [ByteArray.size_append, ByteArray.size_extract, show (⟨#[46]⟩ : ByteArray).size = 1 from rfl] at h_; omega)
           by_cases c17 : ((t105 ++ (⟨#[46]⟩ : ByteArray)) ++ t106).size + 1 ≤ 9223372036854775807
           ·rw [if_pos c17] at H
            have c17b0 := eq_true c17
            have c17b1 : decide (((t105 ++ (⟨#[46]⟩ : ByteArray)) ++ t106).size + 1 ≤ 9223372036854775807) = true := decide_eq_true c17
            try have c17b2 : (9223372036854775807 < ((t105 ++ (⟨#[46]⟩ : ByteArray)) ++ t106).size + 1) = False := eq_false (Nat.not_lt.2 c17)
            try have c17b3 : (9223372036854775807 < t105.size + 1 + t106.size + 1) = False := eq_false (by have h_ := c17; simp only [ByteArray.size_append, ByteArray.size_extract, show (⟨#[46]⟩ : ByteArray).size = 1 from rfl] at h_; omega)
            obtain ⟨t107, A180, H⟩ := bH H
            have A18 := am A180
            clear A180
            by_cases c19 : (((t105 ++ (⟨#[46]⟩ : ByteArray)) ++ t106) ++ (⟨#[46]⟩ : ByteArray)).size + t107.size ≤ 9223372036854775807
            ·rw [if_pos c19] at H
             have c19b0 := eq_true c19
             have c19b1 : decide ((((t105 ++ (⟨#[46]⟩ : ByteArray)) ++ t106) ++ (⟨#[46]⟩ : ByteArray)).size + t107.size ≤ 9223372036854775807) = true := decide_eq_true c19
             try have c19b2 : (9223372036854775807 < (((t105 ++ (⟨#[46]⟩ : ByteArray)) ++ t106) ++ (⟨#[46]⟩ : ByteArray)).size + t107.size) = False := eq_false (Nat.not_lt.2 c19)
             try have c19b3 : (9223372036854775807 < t105.size + 1 + t106.size + 1 + t107.size) = False := eq_false (by have h_ := c19; simp only [ByteArray.size_append, ByteArray.size_extract, show (⟨#[46]⟩ : ByteArray).size = 1 from rfl, show (⟨#[46]⟩ : ByteArray).size = 1 from rfl] at h_; omega)
             by_cases c20 : (x3_1 ++ (⟨#[44]⟩ : ByteArray)).size + ((((t105 ++ (⟨#[46]⟩ : ByteArray)) ++ t106) ++ (⟨#[46]⟩ : ByteArray)) ++ t107).size ≤ 9223372036854775807
             ·rw [if_pos c20] at H
              have c20b0 := eq_true c20
              have c20b1 : decide ((x3_1 ++ (⟨#[44]⟩ : ByteArray)).size + ((((t105 ++ (⟨#[46]⟩ : ByteArray)) ++ t106) ++ (⟨#[46]⟩ : ByteArray)) ++ t107).size ≤ 9223372036854775807) = true := decide_eq_true c20
              try have c20b2 : (9223372036854775807 < (x3_1 ++ (⟨#[44]⟩ : ByteArray)).size + ((((t105 ++ (⟨#[46]⟩ : ByteArray)) ++ t106) ++ (⟨#[46]⟩ : ByteArray)) ++ t107).size) = False := eq_false (Nat.not_lt.2 c20)
              try have c20b3 : (9223372036854775807 < x3_1.size + 1 + (t105.size + 1 + t106.size + 1 + t107.size)) = False := eq_false (by have h_ := c20; simp only [ByteArray.size_append, ByteArray.size_extract, show (⟨#[44]⟩ : ByteArray).size = 1 from rfl, show (⟨#[46]⟩ : ByteArray).size = 1 from rfl, show (⟨#[46]⟩ : ByteArray).size = 1 from rfl] at h_; omega)
              have H' := am H
              clear H
              have p103 : 0 ≤ (x13_1 : Int) := of_decide_eq_true (by (with_reducible assumption))
              have q103 : x13_1 < (l0_2.length : Int) := of_decide_eq_true (by (with_reducible assumption))
              obtain ⟨ad103, e103, hx103_0, hx103_1, hx103_2⟩ := at_T46 HR0_2.out x13_1 p103 q103
              cases e103
              try replace hx103_0 := (HB.out.cell (World.block_lt_of_cell? w _ hx103_0)).trans hx103_0
              try replace hx103_1 := (HB.out.cell (World.block_lt_of_cell? w _ hx103_1)).trans hx103_1
              try replace hx103_2 := (HB.out.cell (World.block_lt_of_cell? w _ hx103_2)).trans hx103_2
              replace p103 := eq_true p103
              replace q103 := eq_true q103
              try go_wp2_with (((with_reducible refine gate_dst (N := 5) rfl ?_); refine uX (N := 5) (cs := #[.int .i64 0, .int .i64 0, .int .i64 0]) (t := 46) ?_; intro gb104 hg w21 hbox hb; have BK104 := am (hbox); have GW104 := uE hg; have GE104 := GW104; have NB101_104 := uL BK101 hg; have NB104_101 := uY NB101_104; replace BK101 := uB BK101 hb; replace HB := uS hb; clear hb hbox hg; have hnb22 := NB104_101.out; have hnc22 := NB101_104.out; obtain ⟨hcz23_0, hcz23_1, hcz23_2, hfz23_0, hfz23_1, hfz23_2⟩ := uZ3 BK104))
              have n0_ : Aside0 ((((w21.setCell ⟨gb104, 0, none⟩ (.int .i64 ((rd_T46 l0_2 x13_1).f0))).setCell ⟨gb104, 1, none⟩ (.int .i64 ((rd_T46 l0_2 x13_1).f1))).setCell ⟨gb104, 2, none⟩ (.int .i64 ((rd_T46 l0_2 x13_1).f2))).heap[gb101]? = some (.cells #[.int .i64 a0_0, .int .i64 a0_1, .slice (some ad103) l0_2.length c0_2] 28 (0, 0))) := ⟨by refine blk_far ?_ NB101_104.out _; refine blk_far ?_ NB101_104.out _; refine blk_far ?_ NB101_104.out _; exact (uP BK101)⟩
              have n1_ : Aside0 ((((w21.setCell ⟨gb104, 0, none⟩ (.int .i64 ((rd_T46 l0_2 x13_1).f0))).setCell ⟨gb104, 1, none⟩ (.int .i64 ((rd_T46 l0_2 x13_1).f1))).setCell ⟨gb104, 2, none⟩ (.int .i64 ((rd_T46 l0_2 x13_1).f2))).heap[gb104]? = some (.cells #[.int .i64 ((rd_T46 l0_2 x13_1).f0), .int .i64 ((rd_T46 l0_2 x13_1).f1), .int .i64 ((rd_T46 l0_2 x13_1).f2)] 46 (0, 0))) := ⟨by refine blk_put (cs := #[.int .i64 ((rd_T46 l0_2 x13_1).f0), .int .i64 ((rd_T46 l0_2 x13_1).f1), .int .i64 0]) ?_ 2 _ rfl; refine blk_put (cs := #[.int .i64 ((rd_T46 l0_2 x13_1).f0), .int .i64 0, .int .i64 0]) ?_ 1 _ rfl; refine blk_put (cs := #[.int .i64 0, .int .i64 0, .int .i64 0]) ?_ 0 _ rfl; exact (uP BK104)⟩
              have n2_ : Aside0 (Below w.heap.size w (((w21.setCell ⟨gb104, 0, none⟩ (.int .i64 ((rd_T46 l0_2 x13_1).f0))).setCell ⟨gb104, 1, none⟩ (.int .i64 ((rd_T46 l0_2 x13_1).f1))).setCell ⟨gb104, 2, none⟩ (.int .i64 ((rd_T46 l0_2 x13_1).f2)))) := ⟨by exact uW⟩
              (try clear BK101)
              (try clear BK104)
              (try clear HB)
              generalize (((w21.setCell ⟨gb104, 0, none⟩ (.int .i64 ((rd_T46 l0_2 x13_1).f0))).setCell ⟨gb104, 1, none⟩ (.int .i64 ((rd_T46 l0_2 x13_1).f1))).setCell ⟨gb104, 2, none⟩ (.int .i64 ((rd_T46 l0_2 x13_1).f2))) = w24 at n0_ n1_ n2_ ⊢
              have BK101 := n0_
              have BK104 := n1_
              have HB := n2_
              clear n0_ n1_ n2_
              replace BK101 := am (blk_drew BK101.out)
              replace BK104 := am (blk_drew BK104.out)
              replace HB := am (below_drew1 HB.out)
              refine start_ (n := 16) (S := fun w' => w'.cell? ⟨gb104, 0, none⟩ = some (.int .i64 ((rd_T46 l0_2 x13_1).f0)) ∧ w'.cell? ⟨gb104, 1, none⟩ = some (.int .i64 ((rd_T46 l0_2 x13_1).f1)) ∧ w'.cell? ⟨gb104, 2, none⟩ = some (.int .i64 ((rd_T46 l0_2 x13_1).f2))) (ds := []) #[false, false, false, false, false, false, false, false, false, false, false, false, false, false, false, false] (by kernel_rfl) rfl rfl ⟨uT BK104 0, uT BK104 1, uT BK104 2⟩ (fun hHeld => ?_); refine with_tabW spec_pzText.tab7 spec_pzText.bits7 (fun HT_ HW_ => ?_)
              generalize w24.drew = w25 at BK101 BK104 HB hHeld ⊢
              refine uPu (i := 0) (N := some 22) #[true, false, false, false, false, false, false, false, false, false, false, false, false, false, false, false] ?_
              refine uPu (i := 1) (N := some 23) #[true, true, false, false, false, false, false, false, false, false, false, false, false, false, false, false] ?_
              refine uPu (i := 5) (N := some 27) #[true, true, false, false, false, true, false, false, false, false, false, false, false, false, false, false] ?_
              refine uPu (i := 10) (N := some 32) #[true, true, false, false, false, true, false, false, false, false, true, false, false, false, false, false] ?_
              refine uTk (i := 2) (N := some 24) #[true, true, true, false, false, true, false, false, false, false, true, false, false, false, false, false] hHeld ?_
              refine uTk (i := 6) (N := some 28) #[true, true, true, false, false, true, true, false, false, false, true, false, false, false, false, false] hHeld ?_
              refine uTk (i := 11) (N := some 33) #[true, true, true, false, false, true, true, false, false, false, true, true, false, false, false, false] hHeld ?_
              refine uOn (i := 3) (N := some 25) #[true, true, true, true, false, true, true, false, false, false, true, true, false, false, false, false] (fun K hK => ?_)
              refine uGs Tryz.func74 #[.int .i64 ((rd_T46 l0_2 x13_1).f0)] ?_
              with_reducible refine (spec_l1Num.calls k1 ((rd_T46 l0_2 x13_1).f0) t105 _ A13.out).mono ?_
              rintro e w26 ⟨rfl, hb⟩
              refine ⟨_, rfl, ?_⟩
              replace BK101 := uB BK101 hb
              replace BK104 := uB BK104 hb
              replace HB := uS hb
              (try clear hb)
              (skip)
              (skip)
              (skip)
              refine hK.out _ _ ⟨uT BK104 0, uT BK104 1, uT BK104 2⟩ (fun hHeld => ?_)
              clear hK K
              refine uNo (some 25) ?_
              refine uPu (i := 4) (N := some 26) #[true, true, true, true, true, true, true, false, false, false, true, true, false, false, false, false] ?_
              refine uOn (i := 7) (N := some 29) #[true, true, true, true, true, true, true, true, false, false, true, true, false, false, false, false] (fun K hK => ?_)
              refine uGs Tryz.func74 #[.int .i64 ((rd_T46 l0_2 x13_1).f1)] ?_
              with_reducible refine (spec_l1Num.calls k1 ((rd_T46 l0_2 x13_1).f1) t106 _ A15.out).mono ?_
              rintro e w27 ⟨rfl, hb⟩
              refine ⟨_, rfl, ?_⟩
              replace BK101 := uB BK101 hb
              replace BK104 := uB BK104 hb
              replace HB := uS hb
              (try clear hb)
              (skip)
              (skip)
              (skip)
              refine hK.out _ _ ⟨uT BK104 0, uT BK104 1, uT BK104 2⟩ (fun hHeld => ?_)
              clear hK K
              refine uNo (some 29) ?_
              refine uPu (i := 8) (N := some 30) #[true, true, true, true, true, true, true, true, true, false, true, true, false, false, false, false] ?_
              refine uPu (i := 9) (N := some 31) #[true, true, true, true, true, true, true, true, true, true, true, true, false, false, false, false] ?_
              refine uOn (i := 12) (N := some 34) #[true, true, true, true, true, true, true, true, true, true, true, true, true, false, false, false] (fun K hK => ?_)
              refine uGs Tryz.func74 #[.int .i64 ((rd_T46 l0_2 x13_1).f2)] ?_
              with_reducible refine (spec_l1Num.calls k1 ((rd_T46 l0_2 x13_1).f2) t107 _ A18.out).mono ?_
              rintro e w28 ⟨rfl, hb⟩
              refine ⟨_, rfl, ?_⟩
              replace BK101 := uB BK101 hb
              replace BK104 := uB BK104 hb
              replace HB := uS hb
              (try clear hb)
              (skip)
              (skip)
              (skip)
              refine hK.out _ _ ⟨uT BK104 0, uT BK104 1, uT BK104 2⟩ (fun hHeld => ?_)
              clear hK K
              refine uNo (some 34) ?_
              refine uPu (i := 13) (N := some 35) #[true, true, true, true, true, true, true, true, true, true, true, true, true, true, false, false] ?_
              refine uPu (i := 14) (N := some 36) #[true, true, true, true, true, true, true, true, true, true, true, true, true, true, true, false] ?_
              refine uPu (i := 15) (N := some 3) #[true, true, true, true, true, true, true, true, true, true, true, true, true, true, true, true] ?_
              refine done_ (done_of HT_.out (by kernel_rfl)) ?_
              try go_wp2
              go_roundg k1
              case measure => have := HK1.out; omega
              case rel => exact ⟨((x3_1 ++ (⟨#[44]⟩ : ByteArray)) ++ ((((t105 ++ (⟨#[46]⟩ : ByteArray)) ++ t106) ++ (⟨#[46]⟩ : ByteArray)) ++ t107)), (wrap64 (x13_1 + 1)), (by rfl), (by rfl), H', ⟨by have := HK1.out; omega⟩, ⟨by (with_reducible skip); exact BK101.out⟩, ⟨by exact uW⟩⟩
             ·rw [if_neg c20] at H
              exact absurd H (by simp)
            ·rw [if_neg c19] at H
             exact absurd H (by simp)
           ·rw [if_neg c17] at H
            exact absurd H (by simp)
          ·rw [if_neg c16] at H
           exact absurd H (by simp)
         ·rw [if_neg c14] at H
          exact absurd H (by simp)
        ·rw [if_neg c12] at H
         exact absurd H (by simp)
       ·rw [if_neg c11] at H
        have c11b0 : decide (0 < x13_1) = false := decide_eq_false c11
        clear c11
        obtain ⟨t108, A290, H⟩ := bH H
        have A29 := am A290
        clear A290
        by_cases c30 : t108.size + 1 ≤ 9223372036854775807
        ·rw [if_pos c30] at H
         have c30b0 := eq_true c30
         have c30b1 : decide (t108.size + 1 ≤ 9223372036854775807) = true := decide_eq_true c30
         try have c30b2 : (9223372036854775807 < t108.size + 1) = False := eq_false (Nat.not_lt.2 c30)
         obtain ⟨t109, A310, H⟩ := bH H
         have A31 := am A310
         clear A310
         by_cases c32 : (t108 ++ (⟨#[46]⟩ : ByteArray)).size + t109.size ≤ 9223372036854775807
         ·rw [if_pos c32] at H
          have c32b0 := eq_true c32
          have c32b1 : decide ((t108 ++ (⟨#[46]⟩ : ByteArray)).size + t109.size ≤ 9223372036854775807) = true := decide_eq_true c32
          try have c32b2 : (9223372036854775807 < (t108 ++ (⟨#[46]⟩ : ByteArray)).size + t109.size) = False := eq_false (Nat.not_lt.2 c32)
          try have c32b3 : (9223372036854775807 < t108.size + 1 + t109.size) = False := eq_false (by have h_ := c32; simp only [ByteArray.size_append, ByteArray.size_extract, show (⟨#[46]⟩ : ByteArray).size = 1 from rfl] at h_; omega)
          by_cases c33 : ((t108 ++ (⟨#[46]⟩ : ByteArray)) ++ t109).size + 1 ≤ 9223372036854775807
          ·rw [if_pos c33] at H
           have c33b0 := eq_true c33
           have c33b1 : decide (((t108 ++ (⟨#[46]⟩ : ByteArray)) ++ t109).size + 1 ≤ 9223372036854775807) = true := decide_eq_true c33
           try have c33b2 : (9223372036854775807 < ((t108 ++ (⟨#[46]⟩ : ByteArray)) ++ t109).size + 1) = False := eq_false (Nat.not_lt.2 c33)
           try have c33b3 : (9223372036854775807 < t108.size + 1 + t109.size + 1) = False := eq_false (by have h_ := c33; simp only [ByteArray.size_append, ByteArray.size_extract, show (⟨#[46]⟩ : ByteArray).size = 1 from rfl] at h_; omega)
           obtain ⟨t110, A340, H⟩ := bH H
           have A34 := am A340
           clear A340
           by_cases c35 : (((t108 ++ (⟨#[46]⟩ : ByteArray)) ++ t109) ++ (⟨#[46]⟩ : ByteArray)).size + t110.size ≤ 9223372036854775807
           ·rw [if_pos c35] at H
            have c35b0 := eq_true c35
            have c35b1 : decide ((((t108 ++ (⟨#[46]⟩ : ByteArray)) ++ t109) ++ (⟨#[46]⟩ : ByteArray)).size + t110.size ≤ 9223372036854775807) = true := decide_eq_true c35
            try have c35b2 : (9223372036854775807 < (((t108 ++ (⟨#[46]⟩ : ByteArray)) ++ t109) ++ (⟨#[46]⟩ : ByteArray)).size + t110.size) = False := eq_false (Nat.not_lt.2 c35)
            try have c35b3 : (9223372036854775807 < t108.size + 1 + t109.size + 1 + t110.size) = False := eq_false (by have h_ := c35; simp only [ByteArray.size_append, ByteArray.size_extract, show (⟨#[46]⟩ : ByteArray).size = 1 from rfl, show (⟨#[46]⟩ : ByteArray).size = 1 from rfl] at h_; omega)
            by_cases c36 : x3_1.size + ((((t108 ++ (⟨#[46]⟩ : ByteArray)) ++ t109) ++ (⟨#[46]⟩ : ByteArray)) ++ t110).size ≤ 9223372036854775807
            ·rw [if_pos c36] at H
             have c36b0 := eq_true c36
             have c36b1 : decide (x3_1.size + ((((t108 ++ (⟨#[46]⟩ : ByteArray)) ++ t109) ++ (⟨#[46]⟩ : ByteArray)) ++ t110).size ≤ 9223372036854775807) = true := decide_eq_true c36
             try have c36b2 : (9223372036854775807 < x3_1.size + ((((t108 ++ (⟨#[46]⟩ : ByteArray)) ++ t109) ++ (⟨#[46]⟩ : ByteArray)) ++ t110).size) = False := eq_false (Nat.not_lt.2 c36)
             try have c36b3 : (9223372036854775807 < x3_1.size + (t108.size + 1 + t109.size + 1 + t110.size)) = False := eq_false (by have h_ := c36; simp only [ByteArray.size_append, ByteArray.size_extract, show (⟨#[46]⟩ : ByteArray).size = 1 from rfl, show (⟨#[46]⟩ : ByteArray).size = 1 from rfl] at h_; omega)
             have H' := am H
             clear H
             have p103 : 0 ≤ (x13_1 : Int) := of_decide_eq_true (by (with_reducible assumption))
             have q103 : x13_1 < (l0_2.length : Int) := of_decide_eq_true (by (with_reducible assumption))
             obtain ⟨ad103, e103, hx103_0, hx103_1, hx103_2⟩ := at_T46 HR0_2.out x13_1 p103 q103
             cases e103
             try replace hx103_0 := (HB.out.cell (World.block_lt_of_cell? w _ hx103_0)).trans hx103_0
             try replace hx103_1 := (HB.out.cell (World.block_lt_of_cell? w _ hx103_1)).trans hx103_1
             try replace hx103_2 := (HB.out.cell (World.block_lt_of_cell? w _ hx103_2)).trans hx103_2
             replace p103 := eq_true p103
             replace q103 := eq_true q103
             try go_wp2_with (((with_reducible refine gate_dst (N := 5) rfl ?_); refine uX (N := 5) (cs := #[.int .i64 0, .int .i64 0, .int .i64 0]) (t := 46) ?_; intro gb104 hg w37 hbox hb; have BK104 := am (hbox); have GW104 := uE hg; have GE104 := GW104; have NB101_104 := uL BK101 hg; have NB104_101 := uY NB101_104; replace BK101 := uB BK101 hb; replace HB := uS hb; clear hb hbox hg; have hnb38 := NB104_101.out; have hnc38 := NB101_104.out; obtain ⟨hcz39_0, hcz39_1, hcz39_2, hfz39_0, hfz39_1, hfz39_2⟩ := uZ3 BK104))
             have n0_ : Aside0 ((((w37.setCell ⟨gb104, 0, none⟩ (.int .i64 ((rd_T46 l0_2 x13_1).f0))).setCell ⟨gb104, 1, none⟩ (.int .i64 ((rd_T46 l0_2 x13_1).f1))).setCell ⟨gb104, 2, none⟩ (.int .i64 ((rd_T46 l0_2 x13_1).f2))).heap[gb101]? = some (.cells #[.int .i64 a0_0, .int .i64 a0_1, .slice (some ad103) l0_2.length c0_2] 28 (0, 0))) := ⟨by refine blk_far ?_ NB101_104.out _; refine blk_far ?_ NB101_104.out _; refine blk_far ?_ NB101_104.out _; exact (uP BK101)⟩
             have n1_ : Aside0 ((((w37.setCell ⟨gb104, 0, none⟩ (.int .i64 ((rd_T46 l0_2 x13_1).f0))).setCell ⟨gb104, 1, none⟩ (.int .i64 ((rd_T46 l0_2 x13_1).f1))).setCell ⟨gb104, 2, none⟩ (.int .i64 ((rd_T46 l0_2 x13_1).f2))).heap[gb104]? = some (.cells #[.int .i64 ((rd_T46 l0_2 x13_1).f0), .int .i64 ((rd_T46 l0_2 x13_1).f1), .int .i64 ((rd_T46 l0_2 x13_1).f2)] 46 (0, 0))) := ⟨by refine blk_put (cs := #[.int .i64 ((rd_T46 l0_2 x13_1).f0), .int .i64 ((rd_T46 l0_2 x13_1).f1), .int .i64 0]) ?_ 2 _ rfl; refine blk_put (cs := #[.int .i64 ((rd_T46 l0_2 x13_1).f0), .int .i64 0, .int .i64 0]) ?_ 1 _ rfl; refine blk_put (cs := #[.int .i64 0, .int .i64 0, .int .i64 0]) ?_ 0 _ rfl; exact (uP BK104)⟩
             have n2_ : Aside0 (Below w.heap.size w (((w37.setCell ⟨gb104, 0, none⟩ (.int .i64 ((rd_T46 l0_2 x13_1).f0))).setCell ⟨gb104, 1, none⟩ (.int .i64 ((rd_T46 l0_2 x13_1).f1))).setCell ⟨gb104, 2, none⟩ (.int .i64 ((rd_T46 l0_2 x13_1).f2)))) := ⟨by exact uW⟩
             (try clear BK101)
             (try clear BK104)
             (try clear HB)
             generalize (((w37.setCell ⟨gb104, 0, none⟩ (.int .i64 ((rd_T46 l0_2 x13_1).f0))).setCell ⟨gb104, 1, none⟩ (.int .i64 ((rd_T46 l0_2 x13_1).f1))).setCell ⟨gb104, 2, none⟩ (.int .i64 ((rd_T46 l0_2 x13_1).f2))) = w40 at n0_ n1_ n2_ ⊢
             have BK101 := n0_
             have BK104 := n1_
             have HB := n2_
             clear n0_ n1_ n2_
             replace BK101 := am (blk_drew BK101.out)
             replace BK104 := am (blk_drew BK104.out)
             replace HB := am (below_drew1 HB.out)
             refine start_ (n := 16) (S := fun w' => w'.cell? ⟨gb104, 0, none⟩ = some (.int .i64 ((rd_T46 l0_2 x13_1).f0)) ∧ w'.cell? ⟨gb104, 1, none⟩ = some (.int .i64 ((rd_T46 l0_2 x13_1).f1)) ∧ w'.cell? ⟨gb104, 2, none⟩ = some (.int .i64 ((rd_T46 l0_2 x13_1).f2))) (ds := []) #[false, false, false, false, false, false, false, false, false, false, false, false, false, false, false, false] (by kernel_rfl) rfl rfl ⟨uT BK104 0, uT BK104 1, uT BK104 2⟩ (fun hHeld => ?_); refine with_tabW spec_pzText.tab7 spec_pzText.bits7 (fun HT_ HW_ => ?_)
             generalize w40.drew = w41 at BK101 BK104 HB hHeld ⊢
             refine uPu (i := 0) (N := some 22) #[true, false, false, false, false, false, false, false, false, false, false, false, false, false, false, false] ?_
             refine uPu (i := 1) (N := some 23) #[true, true, false, false, false, false, false, false, false, false, false, false, false, false, false, false] ?_
             refine uPu (i := 5) (N := some 27) #[true, true, false, false, false, true, false, false, false, false, false, false, false, false, false, false] ?_
             refine uPu (i := 10) (N := some 32) #[true, true, false, false, false, true, false, false, false, false, true, false, false, false, false, false] ?_
             refine uTk (i := 2) (N := some 24) #[true, true, true, false, false, true, false, false, false, false, true, false, false, false, false, false] hHeld ?_
             refine uTk (i := 6) (N := some 28) #[true, true, true, false, false, true, true, false, false, false, true, false, false, false, false, false] hHeld ?_
             refine uTk (i := 11) (N := some 33) #[true, true, true, false, false, true, true, false, false, false, true, true, false, false, false, false] hHeld ?_
             refine uOn (i := 3) (N := some 25) #[true, true, true, true, false, true, true, false, false, false, true, true, false, false, false, false] (fun K hK => ?_)
             refine uGs Tryz.func74 #[.int .i64 ((rd_T46 l0_2 x13_1).f0)] ?_
             with_reducible refine (spec_l1Num.calls k1 ((rd_T46 l0_2 x13_1).f0) t108 _ A29.out).mono ?_
             rintro e w42 ⟨rfl, hb⟩
             refine ⟨_, rfl, ?_⟩
             replace BK101 := uB BK101 hb
             replace BK104 := uB BK104 hb
             replace HB := uS hb
             (try clear hb)
             (skip)
             (skip)
             (skip)
             refine hK.out _ _ ⟨uT BK104 0, uT BK104 1, uT BK104 2⟩ (fun hHeld => ?_)
             clear hK K
             refine uNo (some 25) ?_
             refine uPu (i := 4) (N := some 26) #[true, true, true, true, true, true, true, false, false, false, true, true, false, false, false, false] ?_
             refine uOn (i := 7) (N := some 29) #[true, true, true, true, true, true, true, true, false, false, true, true, false, false, false, false] (fun K hK => ?_)
             refine uGs Tryz.func74 #[.int .i64 ((rd_T46 l0_2 x13_1).f1)] ?_
             with_reducible refine (spec_l1Num.calls k1 ((rd_T46 l0_2 x13_1).f1) t109 _ A31.out).mono ?_
             rintro e w43 ⟨rfl, hb⟩
             refine ⟨_, rfl, ?_⟩
             replace BK101 := uB BK101 hb
             replace BK104 := uB BK104 hb
             replace HB := uS hb
             (try clear hb)
             (skip)
             (skip)
             (skip)
             refine hK.out _ _ ⟨uT BK104 0, uT BK104 1, uT BK104 2⟩ (fun hHeld => ?_)
             clear hK K
             refine uNo (some 29) ?_
             refine uPu (i := 8) (N := some 30) #[true, true, true, true, true, true, true, true, true, false, true, true, false, false, false, false] ?_
             refine uPu (i := 9) (N := some 31) #[true, true, true, true, true, true, true, true, true, true, true, true, false, false, false, false] ?_
             refine uOn (i := 12) (N := some 34) #[true, true, true, true, true, true, true, true, true, true, true, true, true, false, false, false] (fun K hK => ?_)
             refine uGs Tryz.func74 #[.int .i64 ((rd_T46 l0_2 x13_1).f2)] ?_
             with_reducible refine (spec_l1Num.calls k1 ((rd_T46 l0_2 x13_1).f2) t110 _ A34.out).mono ?_
             rintro e w44 ⟨rfl, hb⟩
             refine ⟨_, rfl, ?_⟩
             replace BK101 := uB BK101 hb
             replace BK104 := uB BK104 hb
             replace HB := uS hb
             (try clear hb)
             (skip)
             (skip)
             (skip)
             refine hK.out _ _ ⟨uT BK104 0, uT BK104 1, uT BK104 2⟩ (fun hHeld => ?_)
             clear hK K
             refine uNo (some 34) ?_
             refine uPu (i := 13) (N := some 35) #[true, true, true, true, true, true, true, true, true, true, true, true, true, true, false, false] ?_
             refine uPu (i := 14) (N := some 36) #[true, true, true, true, true, true, true, true, true, true, true, true, true, true, true, false] ?_
             refine uPu (i := 15) (N := some 3) #[true, true, true, true, true, true, true, true, true, true, true, true, true, true, true, true] ?_
             refine done_ (done_of HT_.out (by kernel_rfl)) ?_
             try go_wp2
             go_roundg k1
             case measure => have := HK1.out; omega
             case rel => exact ⟨(x3_1 ++ ((((t108 ++ (⟨#[46]⟩ : ByteArray)) ++ t109) ++ (⟨#[46]⟩ : ByteArray)) ++ t110)), (wrap64 (x13_1 + 1)), (by rfl), (by rfl), H', ⟨by have := HK1.out; omega⟩, ⟨by (with_reducible skip); exact BK101.out⟩, ⟨by exact uW⟩⟩
            ·rw [if_neg c36] at H
             exact absurd H (by simp)
           ·rw [if_neg c35] at H
            exact absurd H (by simp)
          ·rw [if_neg c33] at H
           exact absurd H (by simp)
         ·rw [if_neg c32] at H
          exact absurd H (by simp)
        ·rw [if_neg c30] at H
         exact absurd H (by simp)
      ·rw [if_neg c10] at H
       exact absurd H (by simp)
     ·rw [if_neg c9] at H
      exact absurd H (by simp)
    ·rw [if_neg c8] at H
     have c8b0 : decide (x13_1 < (l0_2.length : Int)) = false := decide_eq_false c8
     clear c8
     obtain rfl := Option.some.inj H
     go_wp2
     go_ret
     exact ⟨uA, by exact uW⟩
 ·rw [if_neg c3] at H
  exact absurd H (by simp)
def laws_big.f (l0 : List Int) (l1 : List Int) : Option (Bool) := if (l0.length : Int) > 1048576 then (some true) else (some (decide ((l1.length : Int) > (wrap64 (1048576 - (l0.length : Int))))))
theorem laws_big.calls (A0 : Option Addr) (c0 : Nat) (l0 : List Int) (A1 : Option Addr) (c1 : Nat) (l1 : List Int) (r : Bool) (w : World) (hr0 : Kd.C (Kd.int .u8) w A0 l0.length l0) (hc0 : l0.length ≤ c0) (hr1 : Kd.C (Kd.int .u8) w A1 l1.length l1) (hc1 : l1.length ≤ c1) (h : laws_big.f l0 l1 = some r) :
  Calls Tryz.prog 4 #[.slice A0 l0.length c0, .slice A1 l1.length c1] w fun e w' => e = .returned (.bool r) ∧ Drawn0 w w' := by
 have HR0 := am hr0
 have HC0 := am hc0
 clear hr0 hc0
 have HR1 := am hr1
 have HC1 := am hc1
 clear hr1 hc1
 have H := h
 clear h
 unfold laws_big.f at H
 by_cases c3 : (l0.length : Int) > 1048576
 ·rw [if_pos c3] at H
  have c3b0 : decide (1048576 < (l0.length : Int)) = true := decide_eq_true c3
  have c3b1 : decide (1048576 < l0.length) = true := decide_eq_true (by omega)
  clear c3
  obtain rfl := Option.some.inj H
  go_enter Tryz.func4, Tryz.ntmps4
  go_wp2
  go_ret
  exact ⟨by rfl, by repeat (exact Drawn0.refl _)⟩
 ·rw [if_neg c3] at H
  have c3b0 : decide (1048576 < (l0.length : Int)) = false := decide_eq_false c3
  have c3b1 : decide (1048576 < l0.length) = false := decide_eq_false (by omega)
  clear c3
  obtain rfl := Option.some.inj H
  go_enter Tryz.func4, Tryz.ntmps4
  go_wp2
  go_ret
  exact ⟨by rfl, by repeat (exact Drawn0.refl _)⟩
def spec_nuHouses.f (a0_0 : Int) (a0_1 : Int) : Option (Int) := if a0_0 = 0 then (some a0_1) else (some (wrap64 (2 * a0_1)))
theorem spec_nuHouses.calls (a0_0 : Int) (a0_1 : Int) (r : Int) (w : World) (h : spec_nuHouses.f a0_0 a0_1 = some r) :
  Calls Tryz.prog 66 #[.agg #[.int .i64 a0_0, .int .i64 a0_1]] w fun e w' => e = .returned (.int .i64 r) ∧ Below w.heap.size w w' := by
 have hu25 := Tryz.underlying25
 have HB := am (Below.refl w.heap.size w)
 have H := h
 clear h
 unfold spec_nuHouses.f at H
 by_cases c2 : a0_0 = 0
 ·rw [if_pos c2] at H
  have c2b0 : (a0_0 == 0) = true := beq_iff_eq.mpr c2
  have c2b1 : (a0_0 != 0) = false := bne_eq_false_iff_eq.mpr c2
  clear c2
  obtain rfl := Option.some.inj H
  go_enter Tryz.func66, Tryz.ntmps66
  go_wp2_with (((with_reducible refine gate_dst (N := 1) rfl ?_); refine uX (N := 1) (cs := #[.int .i64 a0_0, .int .i64 a0_1]) (t := 25) ?_; intro gb101 hg w3 hbox hb; have BK101 := am (hbox); have GW101 := uE hg; have GE101 := GW101; replace HB := uS hb; clear hb hbox hg; obtain ⟨hcz4_0, hcz4_1, hfz4_0, hfz4_1⟩ := uZ2 BK101))
  go_ret
  exact ⟨uA, by exact uW⟩
 ·rw [if_neg c2] at H
  have c2b0 : (a0_0 == 0) = false := beq_eq_false_iff_ne.mpr c2
  have c2b1 : (a0_0 != 0) = true := bne_iff_ne.mpr c2
  obtain rfl := Option.some.inj H
  go_enter Tryz.func66, Tryz.ntmps66
  go_wp2_with (((with_reducible refine gate_dst (N := 1) rfl ?_); refine uX (N := 1) (cs := #[.int .i64 a0_0, .int .i64 a0_1]) (t := 25) ?_; intro gb101 hg w5 hbox hb; have BK101 := am (hbox); have GW101 := uE hg; have GE101 := GW101; replace HB := uS hb; clear hb hbox hg; obtain ⟨hcz6_0, hcz6_1, hfz6_0, hfz6_1⟩ := uZ2 BK101))
  go_ret
  exact ⟨uA, by exact uW⟩
def IsS75 (w0 W : World) (g : Nat) (f0 : List Int) (f1 : Int) (f2 : Int) : Prop := ∃ A0 c0, W.heap[g]? = some (.cells #[.slice A0 f0.length c0, .int .i64 f1, .int .u64 f2] 75 (0, 0)) ∧ w0.heap.size ≤ g ∧ Kd.C (Kd.int .u8) w0 A0 f0.length f0
theorem IsS75.grown {w0 W : World} {g : Nat} {f0 : List Int} {f1 : Int} {f2 : Int} {W1 : World} {row : Option Nat} (h : IsS75 w0 W g f0 f1 f2) (hw : W.grownBy W1 row) (hne : some g ≠ row) : IsS75 w0 W1 g f0 f1 f2 := by
 obtain ⟨A0, c0, hb, hg, hr0⟩ := h
 exact ⟨A0, c0, blk_grown hb hw hne, hg, hr0⟩
theorem IsS75.fresh {w0 W : World} {g : Nat} {f0 : List Int} {f1 : Int} {f2 : Int} (h : IsS75 w0 W g f0 f1 f2) : ∀ k, W.heap.size ≤ k → k ≠ g := by
 obtain ⟨A0, c0, hb, hg, hr0⟩ := h
 exact Kd.freshB hb
theorem IsS75.below {w0 W : World} {g : Nat} {f0 : List Int} {f1 : Int} {f2 : Int} {W1 : World} (h : IsS75 w0 W g f0 f1 f2) (hw : Below W.heap.size W W1) : IsS75 w0 W1 g f0 f1 f2 := h.grown (grown_of_below hw none) (by simp)
theorem IsS75.alloc {w0 W : World} {g : Nat} {f0 : List Int} {f1 : Int} {f2 : Int} (h : IsS75 w0 W g f0 f1 f2) (o : Obj) : IsS75 w0 (W.alloc o) g f0 f1 f2 := h.below (below_alloc (Below.refl _ _) o)
theorem IsS75.drewN {w0 W : World} {g : Nat} {f0 : List Int} {f1 : Int} {f2 : Int} (h : IsS75 w0 W g f0 f1 f2) (m : Nat) : IsS75 w0 (W.drewN m) g f0 f1 f2 := h
theorem IsS75.drew {w0 W : World} {g : Nat} {f0 : List Int} {f1 : Int} {f2 : Int} (h : IsS75 w0 W g f0 f1 f2) : IsS75 w0 W.drew g f0 f1 f2 := h
theorem IsS75.apart {w0 W : World} {g : Nat} {f0 : List Int} {f1 : Int} {f2 : Int} {α : Type} {d : Kd α} {e : Nat} {base : Nat} {ok : Nat → Prop} {v : Value} {xs : List α} (h : IsS75 w0 W g f0 f1 f2) (ho : d.R e W base ok v xs) (ht : ∀ q, q ∈ e :: d.E → q ≠ 75) : d.R e W base (fun k => ok k ∧ k ≠ g) v xs := by
 obtain ⟨A0, c0, hb, hg, hr0⟩ := h
 exact Kd.R_types ho hb ht
theorem IsS75.own_ne {w0 W : World} {g : Nat} {f0 : List Int} {f1 : Int} {f2 : Int} {α : Type} {d : Kd α} {e : Nat} {base : Nat} {ok : Nat → Prop} {v : Value} {xs : List α} (h : IsS75 w0 W g f0 f1 f2) (ho : d.R e W base ok v xs) (ht : e ≠ 75) : some g ≠ v.ownBlock := by
 obtain ⟨A0, c0, hb, hg, hr0⟩ := h
 exact Kd.R_ne ho hb ht
theorem IsS75.lt {w0 W : World} {g : Nat} {f0 : List Int} {f1 : Int} {f2 : Int} (h : IsS75 w0 W g f0 f1 f2) : g < W.heap.size := by
 obtain ⟨A0, c0, hb, hg, hr0⟩ := h
 exact blk_lt hb
theorem IsS75.ge {w0 W : World} {g : Nat} {f0 : List Int} {f1 : Int} {f2 : Int} (h : IsS75 w0 W g f0 f1 f2) : w0.heap.size ≤ g := by
 obtain ⟨A0, c0, hb, hg, hr0⟩ := h
 exact hg
theorem IsS75.far {w0 W : World} {g : Nat} {f0 : List Int} {f1 : Int} {f2 : Int} {p : Addr} (h : IsS75 w0 W g f0 f1 f2) (hne : g ≠ p.block) (u : Value) : IsS75 w0 (W.setCell p u) g f0 f1 f2 := by
 obtain ⟨A0, c0, hb, hg, hr0⟩ := h
 exact ⟨A0, c0, blk_far hb hne u, hg, hr0⟩
theorem cellS75_0 {W : World} {g : Nat} {A0 : Option Addr} {c0 : Nat} {f0 : List Int} {f1 : Int} {f2 : Int} (h : W.heap[g]? = some (.cells #[.slice A0 f0.length c0, .int .i64 f1, .int .u64 f2] 75 (0, 0))) : W.cell? ⟨g, 0, none⟩ = some (.slice A0 f0.length c0) := (blk_cell h 0).trans rfl
theorem cellS75_1 {W : World} {g : Nat} {A0 : Option Addr} {c0 : Nat} {f0 : List Int} {f1 : Int} {f2 : Int} (h : W.heap[g]? = some (.cells #[.slice A0 f0.length c0, .int .i64 f1, .int .u64 f2] 75 (0, 0))) : W.cell? ⟨g, 1, none⟩ = some (.int .i64 f1) := (blk_cell h 1).trans rfl
theorem IsS75.set_1 {w0 W : World} {g : Nat} {f0 : List Int} {f1 : Int} {f2 : Int} (h : IsS75 w0 W g f0 f1 f2) (x : Int) : IsS75 w0 (W.setCell ⟨g, 1, none⟩ (.int .i64 x)) g f0 x f2 := by
 obtain ⟨A0, c0, hb, hg, hr0⟩ := h
 exact ⟨A0, c0, by simpa using blk_set hb 1 (.int .i64 x), hg, hr0⟩
theorem cellS75_2 {W : World} {g : Nat} {A0 : Option Addr} {c0 : Nat} {f0 : List Int} {f1 : Int} {f2 : Int} (h : W.heap[g]? = some (.cells #[.slice A0 f0.length c0, .int .i64 f1, .int .u64 f2] 75 (0, 0))) : W.cell? ⟨g, 2, none⟩ = some (.int .u64 f2) := (blk_cell h 2).trans rfl
theorem IsS75.set_2 {w0 W : World} {g : Nat} {f0 : List Int} {f1 : Int} {f2 : Int} (h : IsS75 w0 W g f0 f1 f2) (x : Int) : IsS75 w0 (W.setCell ⟨g, 2, none⟩ (.int .u64 x)) g f0 f1 x := by
 obtain ⟨A0, c0, hb, hg, hr0⟩ := h
 exact ⟨A0, c0, by simpa using blk_set hb 2 (.int .u64 x), hg, hr0⟩
def spec_l1Cur_next.f (s0_0 : List Int) (s0_1 : Int) (s0_2 : Int) : Option (Int × Int × Int) := if s0_1 < (s0_0.length : Int) then (if 0 ≤ s0_1 then (if (wrap64 (s0_1 + 1)) ≤ (s0_0.length : Int) then (some (wrap64 (rd s0_0 s0_1), wrap64 (s0_1 + 1), IntKind.u64.wrap ((IntKind.u64.wrap ((IntKind.u64.wrap (s0_2 * 6364136223846793005)) + (IntKind.u64.wrap (wrap64 (rd s0_0 s0_1))))) + 1442695040888963407))) else (some (wrap64 (Go.bits .and .u64 ((IntKind.u64.wrap ((IntKind.u64.wrap ((IntKind.u64.wrap (s0_2 * 6364136223846793005)) + (IntKind.u64.wrap (wrap64 (rd s0_0 s0_1))))) + 1442695040888963407)) / 1099511627776) 255), wrap64 (s0_1 + 1), IntKind.u64.wrap ((IntKind.u64.wrap ((IntKind.u64.wrap (s0_2 * 6364136223846793005)) + (IntKind.u64.wrap (wrap64 (rd s0_0 s0_1))))) + 1442695040888963407)))) else (none)) else (if (wrap64 (s0_1 + 1)) ≤ (s0_0.length : Int) then (some (0, wrap64 (s0_1 + 1), IntKind.u64.wrap ((IntKind.u64.wrap (IntKind.u64.wrap (s0_2 * 6364136223846793005))) + 1442695040888963407))) else (some (wrap64 (Go.bits .and .u64 ((IntKind.u64.wrap ((IntKind.u64.wrap (IntKind.u64.wrap (s0_2 * 6364136223846793005))) + 1442695040888963407)) / 1099511627776) 255), wrap64 (s0_1 + 1), IntKind.u64.wrap ((IntKind.u64.wrap (IntKind.u64.wrap (s0_2 * 6364136223846793005))) + 1442695040888963407))))
theorem spec_l1Cur_next.calls (g : Nat) (s0_0 : List Int) (s0_1 : Int) (s0_2 : Int) (r1 : Int) (r2 : Int) (r3 : Int) (w0 w : World) (hI : IsS75 w0 w g s0_0 s0_1 s0_2) (hB : Below w0.heap.size w0 w) (h : spec_l1Cur_next.f s0_0 s0_1 s0_2 = some (r1, r2, r3)) :
  Calls Tryz.prog 108 #[.pointer (some ⟨g, 0, none⟩)] w fun e w' => e = .returned (.int .i64 r1) ∧ IsS75 w0 w' g s0_0 r2 r3 ∧ Below w0.heap.size w0 w' ∧ KeepBut w w' g none := by
 have HI0 := am hI
 have HK := am (KeepBut.refl w g none)
 have HL := am hB.size
 clear hI
 have HW0 := am hB.size
 have HB := am hB
 clear hB
 have H := h
 clear h
 unfold spec_l1Cur_next.f at H
 by_cases c2 : s0_1 < (s0_0.length : Int)
 ·rw [if_pos c2] at H
  have c2b0 : decide (s0_1 < (s0_0.length : Int)) = true := decide_eq_true c2
  clear c2
  by_cases c3 : 0 ≤ s0_1
  ·rw [if_pos c3] at H
   have c3b0 : decide (0 ≤ s0_1) = true := decide_eq_true c3
   clear c3
   by_cases c4 : (wrap64 (s0_1 + 1)) ≤ (s0_0.length : Int)
   ·rw [if_pos c4] at H
    have c4b0 : decide ((wrap64 (s0_1 + 1)) ≤ (s0_0.length : Int)) = true := decide_eq_true c4
    clear c4
    simp only [Option.some.injEq, Prod.mk.injEq] at H
    obtain ⟨rfl, rfl, rfl⟩ := H
    obtain ⟨ASz5_0, cSz5_0, HGz5, hgz5, HSz5_0⟩ := HI0.out
    have hcz5_0 := cellS75_0 HGz5
    have hcz5_1 := cellS75_1 HGz5
    have hcz5_2 := cellS75_2 HGz5
    have hfz5_1 := blk_frozen HGz5 1
    have hfz5_2 := blk_frozen HGz5 2
    clear HGz5 hgz5
    have p101 : 0 ≤ (s0_1 : Int) := of_decide_eq_true (by (with_reducible assumption))
    have q101 : s0_1 < (s0_0.length : Int) := of_decide_eq_true (by (with_reducible assumption))
    obtain ⟨ad101, e101, hx101_0⟩ := Kd.at_int HSz5_0 s0_1 p101 q101
    cases e101
    replace hx101_0 := pw_cell_below HB.out hx101_0
    replace p101 := eq_true p101
    replace q101 := eq_true q101
    go_enter Tryz.func108, Tryz.ntmps108
    go_wp2
    repeat (go_quiet (fail); try go_wp2)
    go_ret
    exact ⟨uA, by exact uI, by exact uW, by exact uV⟩
   ·rw [if_neg c4] at H
    have c4b0 : decide ((wrap64 (s0_1 + 1)) ≤ (s0_0.length : Int)) = false := decide_eq_false c4
    clear c4
    simp only [Option.some.injEq, Prod.mk.injEq] at H
    obtain ⟨rfl, rfl, rfl⟩ := H
    obtain ⟨ASz6_0, cSz6_0, HGz6, hgz6, HSz6_0⟩ := HI0.out
    have hcz6_0 := cellS75_0 HGz6
    have hcz6_1 := cellS75_1 HGz6
    have hcz6_2 := cellS75_2 HGz6
    have hfz6_1 := blk_frozen HGz6 1
    have hfz6_2 := blk_frozen HGz6 2
    clear HGz6 hgz6
    have p101 : 0 ≤ (s0_1 : Int) := of_decide_eq_true (by (with_reducible assumption))
    have q101 : s0_1 < (s0_0.length : Int) := of_decide_eq_true (by (with_reducible assumption))
    obtain ⟨ad101, e101, hx101_0⟩ := Kd.at_int HSz6_0 s0_1 p101 q101
    cases e101
    replace hx101_0 := pw_cell_below HB.out hx101_0
    replace p101 := eq_true p101
    replace q101 := eq_true q101
    go_enter Tryz.func108, Tryz.ntmps108
    go_wp2
    repeat (go_quiet (fail); try go_wp2)
    go_ret
    exact ⟨uA, by exact uI, by exact uW, by exact uV⟩
  ·rw [if_neg c3] at H
   exact absurd H (by simp)
 ·rw [if_neg c2] at H
  have c2b0 : decide (s0_1 < (s0_0.length : Int)) = false := decide_eq_false c2
  clear c2
  by_cases c7 : (wrap64 (s0_1 + 1)) ≤ (s0_0.length : Int)
  ·rw [if_pos c7] at H
   have c7b0 : decide ((wrap64 (s0_1 + 1)) ≤ (s0_0.length : Int)) = true := decide_eq_true c7
   clear c7
   simp only [Option.some.injEq, Prod.mk.injEq] at H
   obtain ⟨rfl, rfl, rfl⟩ := H
   obtain ⟨ASz8_0, cSz8_0, HGz8, hgz8, HSz8_0⟩ := HI0.out
   have hcz8_0 := cellS75_0 HGz8
   have hcz8_1 := cellS75_1 HGz8
   have hcz8_2 := cellS75_2 HGz8
   have hfz8_1 := blk_frozen HGz8 1
   have hfz8_2 := blk_frozen HGz8 2
   clear HGz8 hgz8
   go_enter Tryz.func108, Tryz.ntmps108
   go_wp2
   repeat (go_quiet (fail); try go_wp2)
   go_ret
   exact ⟨uA, by exact uI, by exact uW, by exact uV⟩
  ·rw [if_neg c7] at H
   have c7b0 : decide ((wrap64 (s0_1 + 1)) ≤ (s0_0.length : Int)) = false := decide_eq_false c7
   clear c7
   simp only [Option.some.injEq, Prod.mk.injEq] at H
   obtain ⟨rfl, rfl, rfl⟩ := H
   obtain ⟨ASz9_0, cSz9_0, HGz9, hgz9, HSz9_0⟩ := HI0.out
   have hcz9_0 := cellS75_0 HGz9
   have hcz9_1 := cellS75_1 HGz9
   have hcz9_2 := cellS75_2 HGz9
   have hfz9_1 := blk_frozen HGz9 1
   have hfz9_2 := blk_frozen HGz9 2
   clear HGz9 hgz9
   go_enter Tryz.func108, Tryz.ntmps108
   go_wp2
   repeat (go_quiet (fail); try go_wp2)
   go_ret
   exact ⟨uA, by exact uI, by exact uW, by exact uV⟩
def spec_l1Cur_pick.f (s0_0 : List Int) (s0_1 : Int) (s0_2 : Int) (a1 : Int) : Option (Int × Int × Int) := if a1 ≤ 1 then (some (0, s0_1, s0_2)) else ((spec_l1Cur_next.f s0_0 s0_1 s0_2).bind fun bt101 => (if a1 > 200 then ((spec_l1Cur_next.f s0_0 bt101.2.1 bt101.2.2).bind fun bt104 => (if a1 = 0 then (none) else (some (Int.tmod (wrap64 ((wrap64 (bt101.1 * 256)) + bt104.1)) a1, bt104.2.1, bt104.2.2)))) else (if a1 = 0 then (none) else (some (Int.tmod bt101.1 a1, bt101.2.1, bt101.2.2)))))
theorem spec_l1Cur_pick.calls (g : Nat) (s0_0 : List Int) (s0_1 : Int) (s0_2 : Int) (a1 : Int) (r1 : Int) (r2 : Int) (r3 : Int) (w0 w : World) (hI : IsS75 w0 w g s0_0 s0_1 s0_2) (hB : Below w0.heap.size w0 w) (h : spec_l1Cur_pick.f s0_0 s0_1 s0_2 a1 = some (r1, r2, r3)) :
  Calls Tryz.prog 83 #[.pointer (some ⟨g, 0, none⟩), .int .i64 a1] w fun e w' => e = .returned (.int .i64 r1) ∧ IsS75 w0 w' g s0_0 r2 r3 ∧ Below w0.heap.size w0 w' ∧ KeepBut w w' g none := by
 have HI0 := am hI
 have HK := am (KeepBut.refl w g none)
 have HL := am hB.size
 clear hI
 have HW0 := am hB.size
 have HB := am hB
 clear hB
 have H := h
 clear h
 unfold spec_l1Cur_pick.f at H
 by_cases c3 : a1 ≤ 1
 ·rw [if_pos c3] at H
  have c3b0 : decide (a1 ≤ 1) = true := decide_eq_true c3
  clear c3
  simp only [Option.some.injEq, Prod.mk.injEq] at H
  obtain ⟨rfl, rfl, rfl⟩ := H
  go_enter Tryz.func83, Tryz.ntmps83
  go_wp2
  go_ret
  exact ⟨uA, by exact uI, by exact uW, by exact uV⟩
 ·rw [if_neg c3] at H
  have c3b0 : decide (a1 ≤ 1) = false := decide_eq_false c3
  clear c3
  obtain ⟨⟨t101, t102, t103⟩, A40, H⟩ := bH H
  dsimp only at H
  have A4 := am A40
  clear A40
  by_cases c5 : a1 > 200
  ·rw [if_pos c5] at H
   have c5b0 : decide (200 < a1) = true := decide_eq_true c5
   clear c5
   obtain ⟨⟨t104, t105, t106⟩, A60, H⟩ := bH H
   dsimp only at H
   have A6 := am A60
   clear A60
   by_cases c7 : a1 = 0
   ·rw [if_pos c7] at H
    exact absurd H (by simp)
   ·rw [if_neg c7] at H
    have c7b0 : (a1 == 0) = false := beq_eq_false_iff_ne.mpr c7
    have c7b1 : (a1 != 0) = true := bne_iff_ne.mpr c7
    simp only [Option.some.injEq, Prod.mk.injEq] at H
    obtain ⟨rfl, rfl, rfl⟩ := H
    go_enter Tryz.func83, Tryz.ntmps83
    go_wp2_with (first | ((with_reducible refine gate_callee (f := 108) rfl ?_); refine uGo (some 9) Tryz.func108 #[.pointer (some ⟨g, 0, none⟩)] ?_; (with_reducible refine (spec_l1Cur_next.calls g s0_0 s0_1 s0_2 t101 t102 t103 w0 _ ?side1 ?side2 A4.out).mono ?_); (case side1 => exact uI); (case side2 => exact uW); rintro e w8 ⟨rfl, hi, hb, hk⟩; refine ⟨_, rfl, ?_⟩; replace HK := am (KeepBut.trans uV hk (.inl rfl)); replace HB := am (hb); replace HI0 := am (hi); (try clear hb); (try clear hk); (try clear hi)) | ((with_reducible refine gate_callee (f := 108) rfl ?_); refine uGo (some 15) Tryz.func108 #[.pointer (some ⟨g, 0, none⟩)] ?_; (with_reducible refine (spec_l1Cur_next.calls g s0_0 t102 t103 t104 t105 t106 w0 _ ?side1 ?side2 A6.out).mono ?_); (case side1 => exact uI); (case side2 => exact uW); rintro e w9 ⟨rfl, hi, hb, hk⟩; refine ⟨_, rfl, ?_⟩; replace HK := am (KeepBut.trans uV hk (.inl rfl)); replace HB := am (hb); replace HI0 := am (hi); (try clear hb); (try clear hk); (try clear hi)))
    go_ret
    exact ⟨uA, by exact uI, by exact uW, by exact uV⟩
  ·rw [if_neg c5] at H
   have c5b0 : decide (200 < a1) = false := decide_eq_false c5
   clear c5
   by_cases c10 : a1 = 0
   ·rw [if_pos c10] at H
    exact absurd H (by simp)
   ·rw [if_neg c10] at H
    have c10b0 : (a1 == 0) = false := beq_eq_false_iff_ne.mpr c10
    have c10b1 : (a1 != 0) = true := bne_iff_ne.mpr c10
    simp only [Option.some.injEq, Prod.mk.injEq] at H
    obtain ⟨rfl, rfl, rfl⟩ := H
    go_enter Tryz.func83, Tryz.ntmps83
    go_wp2_with (((with_reducible refine gate_callee (f := 108) rfl ?_); refine uGo (some 9) Tryz.func108 #[.pointer (some ⟨g, 0, none⟩)] ?_; (with_reducible refine (spec_l1Cur_next.calls g s0_0 s0_1 s0_2 t101 t102 t103 w0 _ ?side1 ?side2 A4.out).mono ?_); (case side1 => exact uI); (case side2 => exact uW); rintro e w11 ⟨rfl, hi, hb, hk⟩; refine ⟨_, rfl, ?_⟩; replace HK := am (KeepBut.trans uV hk (.inl rfl)); replace HB := am (hb); replace HI0 := am (hi); (try clear hb); (try clear hk); (try clear hi)))
    go_ret
    exact ⟨uA, by exact uI, by exact uW, by exact uV⟩
def spec_l1Cur_hidden.f (s0_0 : List Int) (s0_1 : Int) (s0_2 : Int) : Option (Int × Int × Int × Int × Int) := (spec_l1Cur_pick.f s0_0 s0_1 s0_2 3).bind fun bt102 => ((spec_l1Cur_pick.f s0_0 bt102.2.1 bt102.2.2 20).bind fun bt105 => ((spec_nuHouses.f bt102.1 (wrap64 (1 + bt105.1))).bind fun t109 => ((spec_l1Cur_pick.f s0_0 bt105.2.1 bt105.2.2 t109).bind fun bt110 => (some (bt102.1, wrap64 (1 + bt105.1), wrap64 (1 + bt110.1), bt110.2.1, bt110.2.2)))))
def spec_l1Cur_hidden.T2 : Bool × List (List Nat × List Nat) := (true, [([], []), ([], []), ([], []), ([2], [2]), ([1, 3, 3], [1, 3]), ([4], [4]), ([0, 4, 0], [0]), ([5, 6, 0, 1, 2, 3, 4, 5, 6], [5])])
def spec_l1Cur_hidden.B2 : List Nat := [0, 0, 0, 4, 14, 30, 31, 127]
theorem spec_l1Cur_hidden.tab2 : rtab .any (opsOf Tryz.f81 2) = spec_l1Cur_hidden.T2 := by kernel_rfl
theorem spec_l1Cur_hidden.bits2 : waitsOk spec_l1Cur_hidden.T2.2 spec_l1Cur_hidden.B2 = true := by kernel_rfl
theorem spec_l1Cur_hidden.calls (g : Nat) (s0_0 : List Int) (s0_1 : Int) (s0_2 : Int) (r1 : Int) (r2 : Int) (r3 : Int) (r4 : Int) (r5 : Int) (w0 w : World) (hI : IsS75 w0 w g s0_0 s0_1 s0_2) (hB : Below w0.heap.size w0 w) (h : spec_l1Cur_hidden.f s0_0 s0_1 s0_2 = some (r1, r2, r3, r4, r5)) :
  Calls Tryz.prog 81 #[.pointer (some ⟨g, 0, none⟩)] w fun e w' => e = .returned (.tuple #[.agg #[.int .i64 r1, .int .i64 r2], .int .i64 r3]) ∧ IsS75 w0 w' g s0_0 r4 r5 ∧ Below w0.heap.size w0 w' ∧ KeepBut w w' g none := by
 have hu25 := Tryz.underlying25
 have HI0 := am hI
 have HK := am (KeepBut.refl w g none)
 have HL := am hB.size
 clear hI
 have HW0 := am hB.size
 have HB := am hB
 clear hB
 have H := h
 clear h
 unfold spec_l1Cur_hidden.f at H
 obtain ⟨⟨t102, t103, t104⟩, A20, H⟩ := bH H
 dsimp only at H
 have A2 := am A20
 clear A20
 obtain ⟨⟨t105, t106, t107⟩, A30, H⟩ := bH H
 dsimp only at H
 have A3 := am A30
 clear A30
 obtain ⟨t109, A40, H⟩ := bH H
 have A4 := am A40
 clear A40
 obtain ⟨⟨t110, t111, t112⟩, A50, H⟩ := bH H
 dsimp only at H
 have A5 := am A50
 clear A50
 simp only [Option.some.injEq, Prod.mk.injEq] at H
 obtain ⟨rfl, rfl, rfl, rfl, rfl⟩ := H
 go_enter Tryz.func81, Tryz.ntmps81
 try go_wp2_with (first | ((with_reducible refine gate_dst (N := 2) rfl ?_); refine uX (N := 2) (cs := #[.int .i64 0, .int .i64 0]) (t := 25) ?_; intro gb101 hg w6 hbox hb; have BK101 := am (hbox); have GW101 := am ((by rw [hg]; exact (keep_size (w := w) (g := g) (row := none) uV) : w.heap.size ≤ gb101)); have GE101 := am ((Nat.le_trans HW0.out (by rw [hg]; exact (keep_size (w := w) (g := g) (row := none) uV) : w.heap.size ≤ gb101) : w0.heap.size ≤ gb101)); have NB0_101 := am ((by rw [hg]; exact Nat.ne_of_lt (IsS75.lt (show IsS75 w0 _ g s0_0 s0_1 s0_2 from by exact uI)) : g ≠ gb101)); have NB101_0 := am ((by rw [hg]; exact Nat.ne_of_gt (IsS75.lt (show IsS75 w0 _ g s0_0 s0_1 s0_2 from by exact uI)) : gb101 ≠ g)); replace HI0 := am (IsS75.below uI hb); replace HK := am (KeepBut.trans uV (KeepBut.of_below hb g none) (.inl rfl)); replace HB := uS hb; clear hb hbox hg) | ((with_reducible refine gate_callee (f := 83) rfl ?_); refine uGo (some 6) Tryz.func83 #[.pointer (some ⟨g, 0, none⟩), .int .i64 3] ?_; (with_reducible refine (spec_l1Cur_pick.calls g s0_0 s0_1 s0_2 3 t102 t103 t104 w0 _ ?side1 ?side2 A2.out).mono ?_); (case side1 => exact uI); (case side2 => exact uW); rintro e w7 ⟨rfl, hi, hb, hk⟩; refine ⟨_, rfl, ?_⟩; replace BK101 := am (KeepBut.blk hk (uP BK101) NB101_0.out (by simp)); replace HK := am (KeepBut.trans uV hk (.inl rfl)); replace HB := am (hb); replace HI0 := am (hi); (try clear hb); (try clear hk); (try clear hi)) | ((with_reducible refine gate_callee (f := 83) rfl ?_); refine uGo (some 8) Tryz.func83 #[.pointer (some ⟨g, 0, none⟩), .int .i64 20] ?_; (with_reducible refine (spec_l1Cur_pick.calls g s0_0 t103 t104 20 t105 t106 t107 w0 _ ?side1 ?side2 A3.out).mono ?_); (case side1 => exact uI); (case side2 => exact uW); rintro e w8 ⟨rfl, hi, hb, hk⟩; refine ⟨_, rfl, ?_⟩; replace BK101 := am (KeepBut.blk hk (uP BK101) NB101_0.out (by simp)); replace HK := am (KeepBut.trans uV hk (.inl rfl)); replace HB := am (hb); replace HI0 := am (hi); (try clear hb); (try clear hk); (try clear hi)) | ((with_reducible refine gate_dst (N := 4) rfl ?_); refine uX (N := 4) (cs := #[.int .i64 0, .int .i64 0]) (t := 25) ?_; intro gb108 hg w9 hbox hb; have BK108 := am (hbox); have GW108 := am ((by rw [hg]; exact (keep_size (w := w) (g := g) (row := none) uV) : w.heap.size ≤ gb108)); have GE108 := am ((Nat.le_trans HW0.out (by rw [hg]; exact (keep_size (w := w) (g := g) (row := none) uV) : w.heap.size ≤ gb108) : w0.heap.size ≤ gb108)); have NB101_108 := uL BK101 hg; have NB108_101 := uY NB101_108; have NB0_108 := am ((by rw [hg]; exact Nat.ne_of_lt (IsS75.lt (show IsS75 w0 _ g s0_0 t106 t107 from by exact uI)) : g ≠ gb108)); have NB108_0 := am ((by rw [hg]; exact Nat.ne_of_gt (IsS75.lt (show IsS75 w0 _ g s0_0 t106 t107 from by exact uI)) : gb108 ≠ g)); replace HI0 := am (IsS75.below uI hb); replace BK101 := uB BK101 hb; replace HK := am (KeepBut.trans uV (KeepBut.of_below hb g none) (.inl rfl)); replace HB := uS hb; clear hb hbox hg; have hnb10 := NB108_101.out; have hnc10 := NB101_108.out; have hnb11 := NB108_0.out; have hnc11 := NB0_108.out; obtain ⟨hcz12_0, hcz12_1, hfz12_0, hfz12_1⟩ := uZ2 BK108))
 have n0_ : Aside0 (((w9.setCell ⟨gb108, 0, none⟩ (.int .i64 t102)).setCell ⟨gb108, 1, none⟩ (.int .i64 (wrap64 (1 + t105)))).heap[gb101]? = some (.cells #[.int .i64 0, .int .i64 0] 25 (0, 0))) := ⟨by refine blk_far ?_ NB101_108.out _; refine blk_far ?_ NB101_108.out _; exact (uP BK101)⟩
 have n1_ : Aside0 (((w9.setCell ⟨gb108, 0, none⟩ (.int .i64 t102)).setCell ⟨gb108, 1, none⟩ (.int .i64 (wrap64 (1 + t105)))).heap[gb108]? = some (.cells #[.int .i64 t102, .int .i64 (wrap64 (1 + t105))] 25 (0, 0))) := ⟨by refine blk_put (cs := #[.int .i64 t102, .int .i64 0]) ?_ 1 _ rfl; refine blk_put (cs := #[.int .i64 0, .int .i64 0]) ?_ 0 _ rfl; exact (uP BK108)⟩
 have n2_ : Aside0 (IsS75 w0 ((w9.setCell ⟨gb108, 0, none⟩ (.int .i64 t102)).setCell ⟨gb108, 1, none⟩ (.int .i64 (wrap64 (1 + t105)))) g s0_0 t106 t107) := ⟨by exact uI⟩
 have n3_ : Aside0 (KeepBut w ((w9.setCell ⟨gb108, 0, none⟩ (.int .i64 t102)).setCell ⟨gb108, 1, none⟩ (.int .i64 (wrap64 (1 + t105)))) g none) := ⟨by exact uV⟩
 have n4_ : Aside0 (Below w0.heap.size w0 ((w9.setCell ⟨gb108, 0, none⟩ (.int .i64 t102)).setCell ⟨gb108, 1, none⟩ (.int .i64 (wrap64 (1 + t105))))) := ⟨by exact uW⟩
 (try clear BK101)
 (try clear BK108)
 (try clear HI0)
 (try clear HK)
 (try clear HB)
 generalize ((w9.setCell ⟨gb108, 0, none⟩ (.int .i64 t102)).setCell ⟨gb108, 1, none⟩ (.int .i64 (wrap64 (1 + t105)))) = w13 at n0_ n1_ n2_ n3_ n4_ ⊢
 have BK101 := n0_
 have BK108 := n1_
 have HI0 := n2_
 have HK := n3_
 have HB := n4_
 clear n0_ n1_ n2_ n3_ n4_
 replace BK101 := am (blk_drew BK101.out)
 replace BK108 := am (blk_drew BK108.out)
 replace HI0 := am (IsS75.drew HI0.out)
 replace HK := am (keep_drew HK.out)
 replace HB := am (below_drew1 HB.out)
 refine start_ (n := 8) (S := fun w' => w'.cell? ⟨gb108, 0, none⟩ = some (.int .i64 t102) ∧ w'.cell? ⟨gb108, 1, none⟩ = some (.int .i64 (wrap64 (1 + t105)))) (ds := []) #[false, false, false, false, false, false, false, false] (by kernel_rfl) rfl rfl ⟨uT BK108 0, uT BK108 1⟩ (fun hHeld => ?_); refine with_tabW spec_l1Cur_hidden.tab2 spec_l1Cur_hidden.bits2 (fun HT_ HW_ => ?_)
 generalize w13.drew = w14 at BK101 BK108 HI0 HK HB hHeld ⊢
 refine uPu (i := 1) (N := some 12) #[false, true, false, false, false, false, false, false] ?_
 refine uTk (i := 0) (N := some 11) #[true, true, false, false, false, false, false, false] hHeld ?_
 refine uTk (i := 2) (N := some 13) #[true, true, true, false, false, false, false, false] hHeld ?_
 refine uOn (i := 3) (N := some 14) #[true, true, true, true, false, false, false, false] (fun K hK => ?_)
 refine uGs Tryz.func66 #[.agg #[.int .i64 t102, .int .i64 (wrap64 (1 + t105))]] ?_
 with_reducible refine (spec_nuHouses.calls t102 (wrap64 (1 + t105)) t109 _ A4.out).mono ?_
 rintro e w15 ⟨rfl, hb⟩
 refine ⟨_, rfl, ?_⟩
 replace HI0 := am (IsS75.below uI hb)
 replace BK101 := uB BK101 hb
 replace BK108 := uB BK108 hb
 replace HK := am (KeepBut.trans uV (KeepBut.of_below hb g none) (.inl rfl))
 replace HB := uS hb
 (try clear hb)
 (skip)
 (skip)
 (skip)
 refine hK.out _ _ ⟨uT BK108 0, uT BK108 1⟩ (fun hHeld => ?_)
 clear hK K
 refine uNo (some 14) ?_
 refine uOn (i := 4) (N := some 15) #[true, true, true, true, true, false, false, false] (fun K hK => ?_)
 refine uGs Tryz.func83 #[.pointer (some ⟨g, 0, none⟩), .int .i64 t109] ?_
 with_reducible refine (spec_l1Cur_pick.calls g s0_0 t106 t107 t109 t110 t111 t112 w0 _ ?side1 ?side2 A5.out).mono ?_
 (case side1 => exact uI)
 (case side2 => exact uW)
 rintro e w16 ⟨rfl, hi, hb, hk⟩
 refine ⟨_, rfl, ?_⟩
 replace BK101 := am (KeepBut.blk hk (uP BK101) NB101_0.out (by simp))
 replace BK108 := am (KeepBut.blk hk (uP BK108) NB108_0.out (by simp))
 replace HK := am (KeepBut.trans uV hk (.inl rfl))
 replace HB := am (hb)
 replace HI0 := am (hi)
 (try clear hb)
 (skip)
 (try clear hk)
 (try clear hi)
 refine hK.out _ _ ⟨uT BK108 0, uT BK108 1⟩ (fun hHeld => ?_)
 clear hK K
 refine uNo (some 15) ?_
 refine uPu (i := 5) (N := some 16) #[true, true, true, true, true, true, false, false] ?_
 refine uOn (i := 6) (N := none) #[true, true, true, true, true, true, true, false] (fun K hK => ?_)
 have hs17 : w16.cell? ⟨gb101, 0, none⟩ = some (.int .i64 0) := uT BK101 0
 have hfs17 := blk_frozen BK101.out 0
 have hns17_1 := NB108_101.out
 have hms17_1 := NB101_108.out
 have hs18 : w16.cell? ⟨gb101, 1, none⟩ = some (.int .i64 0) := uT BK101 1
 have hfs18 := blk_frozen BK101.out 1
 have hns18_1 := NB108_101.out
 have hms18_1 := NB101_108.out
 refine skip_ (w1 := ?_) (by rfl) rfl ?_ ?_
 rotate_left
 ·go_simp
  rfl
 refine hK.out _ _ ⟨((cell_far (p := ⟨gb101, _, none⟩) NB108_101.out _).trans (((cell_far (p := ⟨gb101, _, none⟩) NB108_101.out _).trans (hHeld.1)))), ((cell_far (p := ⟨gb101, _, none⟩) NB108_101.out _).trans (((cell_far (p := ⟨gb101, _, none⟩) NB108_101.out _).trans (hHeld.2))))⟩ (fun hHeld => ?_)
 clear hK K
 refine uPu (i := 7) (N := some 3) #[true, true, true, true, true, true, true, true] ?_
 refine done_ (done_of HT_.out (by kernel_rfl)) ?_
 try go_wp2
 refine bodyPost_ret (results_ct rfl _ _ gb101 25 #[.int .i64 t102, .int .i64 (wrap64 (1 + t105))] (0, 0) _ rfl (by refine blk_put (cs := #[.int .i64 t102, .int .i64 0]) ?_ 1 _ rfl; refine blk_put (cs := #[.int .i64 0, .int .i64 0]) ?_ 0 _ rfl; exact (uP BK101)) Tryz.underlying25 rfl (by kernel_rfl)) rfl ?_
 exact ⟨uA, by exact uI, by exact uW, by exact uV⟩
def spec_l1In.f (a0 : Int) (a1 : Int) (a2 : Int) : Option (Bool) := if a0 ≥ a1 then (some (decide (a0 ≤ a2))) else (some false)
theorem spec_l1In.calls (a0 : Int) (a1 : Int) (a2 : Int) (r : Bool) (w : World) (h : spec_l1In.f a0 a1 a2 = some r) :
  Calls Tryz.prog 90 #[.int .i64 a0, .int .i64 a1, .int .i64 a2] w fun e w' => e = .returned (.bool r) ∧ Drawn0 w w' := by
 have H := h
 clear h
 unfold spec_l1In.f at H
 by_cases c4 : a0 ≥ a1
 ·rw [if_pos c4] at H
  have c4b0 : decide (a1 ≤ a0) = true := decide_eq_true c4
  clear c4
  obtain rfl := Option.some.inj H
  go_enter Tryz.func90, Tryz.ntmps90
  go_wp2
  go_ret
  exact ⟨by rfl, by repeat (exact Drawn0.refl _)⟩
 ·rw [if_neg c4] at H
  have c4b0 : decide (a1 ≤ a0) = false := decide_eq_false c4
  clear c4
  obtain rfl := Option.some.inj H
  go_enter Tryz.func90, Tryz.ntmps90
  go_wp2
  go_ret
  exact ⟨by rfl, by repeat (exact Drawn0.refl _)⟩
def spec_nuGood.f (a0_0 : Int) (a0_1 : Int) : Option (Bool) := (spec_l1In.f a0_0 0 2).bind fun t102 => (if t102 = true then ((spec_l1In.f a0_1 1 1000).bind fun t103 => (some t103)) else (some false))
theorem spec_nuGood.calls (a0_0 : Int) (a0_1 : Int) (r : Bool) (w : World) (h : spec_nuGood.f a0_0 a0_1 = some r) :
  Calls Tryz.prog 89 #[.agg #[.int .i64 a0_0, .int .i64 a0_1]] w fun e w' => e = .returned (.bool r) ∧ Below w.heap.size w w' := by
 have hu25 := Tryz.underlying25
 have HB := am (Below.refl w.heap.size w)
 have H := h
 clear h
 unfold spec_nuGood.f at H
 obtain ⟨t102, A20, H⟩ := bH H
 have A2 := am A20
 clear A20
 by_cases c3 : t102 = true
 ·subst c3
  rw [if_pos rfl] at H
  obtain ⟨t103, A40, H⟩ := bH H
  have A4 := am A40
  clear A40
  obtain rfl := Option.some.inj H
  go_enter Tryz.func89, Tryz.ntmps89
  go_wp2_with (first | ((with_reducible refine gate_dst (N := 1) rfl ?_); refine uX (N := 1) (cs := #[.int .i64 a0_0, .int .i64 a0_1]) (t := 25) ?_; intro gb101 hg w5 hbox hb; have BK101 := am (hbox); have GW101 := uE hg; have GE101 := GW101; replace HB := uS hb; clear hb hbox hg; obtain ⟨hcz6_0, hcz6_1, hfz6_0, hfz6_1⟩ := uZ2 BK101) | ((with_reducible refine gate_callee (f := 90) rfl ?_); refine uGo (some 5) Tryz.func90 #[.int .i64 a0_0, .int .i64 0, .int .i64 2] ?_; (with_reducible refine (spec_l1In.calls a0_0 0 2 true _ A2.out).mono ?_); rintro e w' ⟨rfl, ⟨nd, rfl⟩⟩; refine ⟨_, rfl, ?_⟩) | (go_at_call 90; (with_reducible refine (spec_l1In.calls a0_1 1 1000 t103 _ A4.out).mono ?_); rintro e w' ⟨rfl, ⟨nd, rfl⟩⟩))
  go_ret
  exact ⟨uA, by exact uW⟩
 ·replace c3 := Bool.eq_false_iff.mpr c3
  subst c3
  rw [if_neg (show ¬ (false = true) by decide)] at H
  obtain rfl := Option.some.inj H
  go_enter Tryz.func89, Tryz.ntmps89
  go_wp2_with (first | ((with_reducible refine gate_dst (N := 1) rfl ?_); refine uX (N := 1) (cs := #[.int .i64 a0_0, .int .i64 a0_1]) (t := 25) ?_; intro gb101 hg w7 hbox hb; have BK101 := am (hbox); have GW101 := uE hg; have GE101 := GW101; replace HB := uS hb; clear hb hbox hg; obtain ⟨hcz8_0, hcz8_1, hfz8_0, hfz8_1⟩ := uZ2 BK101) | ((with_reducible refine gate_callee (f := 90) rfl ?_); refine uGo (some 5) Tryz.func90 #[.int .i64 a0_0, .int .i64 0, .int .i64 2] ?_; (with_reducible refine (spec_l1In.calls a0_0 0 2 false _ A2.out).mono ?_); rintro e w' ⟨rfl, ⟨nd, rfl⟩⟩; refine ⟨_, rfl, ?_⟩))
  go_ret
  exact ⟨uA, by exact uW⟩
def spec_pzStreet.f (a0_0 : Int) (a0_1 : Int) : Option (Bool) := (spec_nuGood.f a0_0 a0_1).bind fun t102 => (if t102 = true then (some (decide (a0_1 ≤ 20))) else (some false))
theorem spec_pzStreet.calls (a0_0 : Int) (a0_1 : Int) (r : Bool) (w : World) (h : spec_pzStreet.f a0_0 a0_1 = some r) :
  Calls Tryz.prog 64 #[.agg #[.int .i64 a0_0, .int .i64 a0_1]] w fun e w' => e = .returned (.bool r) ∧ Below w.heap.size w w' := by
 have hu25 := Tryz.underlying25
 have HB := am (Below.refl w.heap.size w)
 have H := h
 clear h
 unfold spec_pzStreet.f at H
 obtain ⟨t102, A20, H⟩ := bH H
 have A2 := am A20
 clear A20
 by_cases c3 : t102 = true
 ·subst c3
  rw [if_pos rfl] at H
  obtain rfl := Option.some.inj H
  go_enter Tryz.func64, Tryz.ntmps64
  go_wp2_with (first | ((with_reducible refine gate_dst (N := 1) rfl ?_); refine uX (N := 1) (cs := #[.int .i64 a0_0, .int .i64 a0_1]) (t := 25) ?_; intro gb101 hg w4 hbox hb; have BK101 := am (hbox); have GW101 := uE hg; have GE101 := GW101; replace HB := uS hb; clear hb hbox hg; obtain ⟨hcz5_0, hcz5_1, hfz5_0, hfz5_1⟩ := uZ2 BK101) | ((with_reducible refine gate_callee (f := 89) rfl ?_); refine uGo (some 4) Tryz.func89 #[.agg #[.int .i64 a0_0, .int .i64 a0_1]] ?_; (with_reducible refine (spec_nuGood.calls a0_0 a0_1 true _ A2.out).mono ?_); rintro e w6 ⟨rfl, hb⟩; refine ⟨_, rfl, ?_⟩; replace BK101 := uB BK101 hb; replace HB := uS hb; (try clear hb); obtain ⟨hcz7_0, hcz7_1, hfz7_0, hfz7_1⟩ := uZ2 BK101))
  go_ret
  exact ⟨uA, by exact uW⟩
 ·replace c3 := Bool.eq_false_iff.mpr c3
  subst c3
  rw [if_neg (show ¬ (false = true) by decide)] at H
  obtain rfl := Option.some.inj H
  go_enter Tryz.func64, Tryz.ntmps64
  go_wp2_with (first | ((with_reducible refine gate_dst (N := 1) rfl ?_); refine uX (N := 1) (cs := #[.int .i64 a0_0, .int .i64 a0_1]) (t := 25) ?_; intro gb101 hg w8 hbox hb; have BK101 := am (hbox); have GW101 := uE hg; have GE101 := GW101; replace HB := uS hb; clear hb hbox hg; obtain ⟨hcz9_0, hcz9_1, hfz9_0, hfz9_1⟩ := uZ2 BK101) | ((with_reducible refine gate_callee (f := 89) rfl ?_); refine uGo (some 4) Tryz.func89 #[.agg #[.int .i64 a0_0, .int .i64 a0_1]] ?_; (with_reducible refine (spec_nuGood.calls a0_0 a0_1 false _ A2.out).mono ?_); rintro e w10 ⟨rfl, hb⟩; refine ⟨_, rfl, ?_⟩; replace BK101 := uB BK101 hb; replace HB := uS hb; (try clear hb)))
  go_ret
  exact ⟨uA, by exact uW⟩
def spec_pzHidden.f (a0_0 : Int) (a0_1 : Int) (a1 : Int) : Option (Bool) := (spec_pzStreet.f a0_0 a0_1).bind fun t102 => (if t102 = true then ((spec_nuHouses.f a0_0 a0_1).bind fun t103 => ((spec_l1In.f a1 1 t103).bind fun t104 => (some t104))) else (some false))
theorem spec_pzHidden.calls (a0_0 : Int) (a0_1 : Int) (a1 : Int) (r : Bool) (w : World) (h : spec_pzHidden.f a0_0 a0_1 a1 = some r) :
  Calls Tryz.prog 105 #[.agg #[.int .i64 a0_0, .int .i64 a0_1], .int .i64 a1] w fun e w' => e = .returned (.bool r) ∧ Below w.heap.size w w' := by
 have hu25 := Tryz.underlying25
 have HB := am (Below.refl w.heap.size w)
 have H := h
 clear h
 unfold spec_pzHidden.f at H
 obtain ⟨t102, A30, H⟩ := bH H
 have A3 := am A30
 clear A30
 by_cases c4 : t102 = true
 ·subst c4
  rw [if_pos rfl] at H
  obtain ⟨t103, A50, H⟩ := bH H
  have A5 := am A50
  clear A50
  obtain ⟨t104, A60, H⟩ := bH H
  have A6 := am A60
  clear A60
  obtain rfl := Option.some.inj H
  go_enter Tryz.func105, Tryz.ntmps105
  go_wp2_with (first | ((with_reducible refine gate_dst (N := 2) rfl ?_); refine uX (N := 2) (cs := #[.int .i64 a0_0, .int .i64 a0_1]) (t := 25) ?_; intro gb101 hg w7 hbox hb; have BK101 := am (hbox); have GW101 := uE hg; have GE101 := GW101; replace HB := uS hb; clear hb hbox hg; obtain ⟨hcz8_0, hcz8_1, hfz8_0, hfz8_1⟩ := uZ2 BK101) | ((with_reducible refine gate_callee (f := 64) rfl ?_); refine uGo (some 6) Tryz.func64 #[.agg #[.int .i64 a0_0, .int .i64 a0_1]] ?_; (with_reducible refine (spec_pzStreet.calls a0_0 a0_1 true _ A3.out).mono ?_); rintro e w9 ⟨rfl, hb⟩; refine ⟨_, rfl, ?_⟩; replace BK101 := uB BK101 hb; replace HB := uS hb; (try clear hb); obtain ⟨hcz10_0, hcz10_1, hfz10_0, hfz10_1⟩ := uZ2 BK101) | (go_at_call 66; (with_reducible refine (spec_nuHouses.calls a0_0 a0_1 t103 _ A5.out).mono ?_); rintro e w11 ⟨rfl, hb⟩; replace BK101 := uB BK101 hb; replace HB := uS hb; (try clear hb)) | (go_at_call 90; (with_reducible refine (spec_l1In.calls a1 1 t103 t104 _ A6.out).mono ?_); rintro e w' ⟨rfl, ⟨nd, rfl⟩⟩))
  go_ret
  exact ⟨uA, by exact uW⟩
 ·replace c4 := Bool.eq_false_iff.mpr c4
  subst c4
  rw [if_neg (show ¬ (false = true) by decide)] at H
  obtain rfl := Option.some.inj H
  go_enter Tryz.func105, Tryz.ntmps105
  go_wp2_with (first | ((with_reducible refine gate_dst (N := 2) rfl ?_); refine uX (N := 2) (cs := #[.int .i64 a0_0, .int .i64 a0_1]) (t := 25) ?_; intro gb101 hg w12 hbox hb; have BK101 := am (hbox); have GW101 := uE hg; have GE101 := GW101; replace HB := uS hb; clear hb hbox hg; obtain ⟨hcz13_0, hcz13_1, hfz13_0, hfz13_1⟩ := uZ2 BK101) | ((with_reducible refine gate_callee (f := 64) rfl ?_); refine uGo (some 6) Tryz.func64 #[.agg #[.int .i64 a0_0, .int .i64 a0_1]] ?_; (with_reducible refine (spec_pzStreet.calls a0_0 a0_1 false _ A3.out).mono ?_); rintro e w14 ⟨rfl, hb⟩; refine ⟨_, rfl, ?_⟩; replace BK101 := uB BK101 hb; replace HB := uS hb; (try clear hb)))
  go_ret
  exact ⟨uA, by exact uW⟩
def spec_pzNext.f (a0 : Int) : Option (Int) := some (Int.tmod (wrap64 ((wrap64 (233 * a0)) + 1871)) 10007)
theorem spec_pzNext.calls (a0 : Int) (r : Int) (w : World) (h : spec_pzNext.f a0 = some r) :
  Calls Tryz.prog 106 #[.int .i64 a0] w fun e w' => e = .returned (.int .i64 r) ∧ Drawn0 w w' := by
 have H := h
 clear h
 unfold spec_pzNext.f at H
 obtain rfl := Option.some.inj H
 go_enter Tryz.func106, Tryz.ntmps106
 go_wp2
 go_ret
 exact ⟨by rfl, by repeat (exact Drawn0.refl _)⟩
def spec_nuPlot.f (a0_0 : Int) (a0_1 : Int) (a1 : Int) : Option (Int × Int) := if a0_0 = 1 then (some (wrap64 (1 - (Int.tmod a1 2)), wrap64 (Int.tdiv (wrap64 (a1 - 1)) 2))) else (if a1 > a0_1 then (some (1, wrap64 ((wrap64 (2 * a0_1)) - a1))) else (some (0, wrap64 (a1 - 1))))
theorem spec_nuPlot.calls (a0_0 : Int) (a0_1 : Int) (a1 : Int) (r1 : Int) (r2 : Int) (w : World) (h : spec_nuPlot.f a0_0 a0_1 a1 = some (r1, r2)) :
  Calls Tryz.prog 111 #[.agg #[.int .i64 a0_0, .int .i64 a0_1], .int .i64 a1] w fun e w' => e = .returned (.tuple #[.int .i64 r1, .int .i64 r2]) ∧ Below w.heap.size w w' := by
 have hu25 := Tryz.underlying25
 have HB := am (Below.refl w.heap.size w)
 have H := h
 clear h
 unfold spec_nuPlot.f at H
 by_cases c3 : a0_0 = 1
 ·rw [if_pos c3] at H
  have c3b0 : (a0_0 == 1) = true := beq_iff_eq.mpr c3
  have c3b1 : (a0_0 != 1) = false := bne_eq_false_iff_eq.mpr c3
  clear c3
  simp only [Option.some.injEq, Prod.mk.injEq] at H
  obtain ⟨rfl, rfl⟩ := H
  go_enter Tryz.func111, Tryz.ntmps111
  go_wp2_with (((with_reducible refine gate_dst (N := 2) rfl ?_); refine uX (N := 2) (cs := #[.int .i64 a0_0, .int .i64 a0_1]) (t := 25) ?_; intro gb101 hg w4 hbox hb; have BK101 := am (hbox); have GW101 := uE hg; have GE101 := GW101; replace HB := uS hb; clear hb hbox hg; obtain ⟨hcz5_0, hcz5_1, hfz5_0, hfz5_1⟩ := uZ2 BK101))
  go_ret2
  exact ⟨uA, by exact uW⟩
 ·rw [if_neg c3] at H
  have c3b0 : (a0_0 == 1) = false := beq_eq_false_iff_ne.mpr c3
  have c3b1 : (a0_0 != 1) = true := bne_iff_ne.mpr c3
  by_cases c6 : a1 > a0_1
  ·rw [if_pos c6] at H
   have c6b0 : decide (a0_1 < a1) = true := decide_eq_true c6
   clear c6
   simp only [Option.some.injEq, Prod.mk.injEq] at H
   obtain ⟨rfl, rfl⟩ := H
   go_enter Tryz.func111, Tryz.ntmps111
   go_wp2_with (((with_reducible refine gate_dst (N := 2) rfl ?_); refine uX (N := 2) (cs := #[.int .i64 a0_0, .int .i64 a0_1]) (t := 25) ?_; intro gb101 hg w7 hbox hb; have BK101 := am (hbox); have GW101 := uE hg; have GE101 := GW101; replace HB := uS hb; clear hb hbox hg; obtain ⟨hcz8_0, hcz8_1, hfz8_0, hfz8_1⟩ := uZ2 BK101))
   repeat (go_quiet (((with_reducible refine gate_dst (N := 2) rfl ?_); refine uX (N := 2) (cs := #[.int .i64 a0_0, .int .i64 a0_1]) (t := 25) ?_; intro gb101 hg w7 hbox hb; have BK101 := am (hbox); have GW101 := uE hg; have GE101 := GW101; replace HB := uS hb; clear hb hbox hg; obtain ⟨hcz8_0, hcz8_1, hfz8_0, hfz8_1⟩ := uZ2 BK101)); try go_wp2_with (((with_reducible refine gate_dst (N := 2) rfl ?_); refine uX (N := 2) (cs := #[.int .i64 a0_0, .int .i64 a0_1]) (t := 25) ?_; intro gb101 hg w7 hbox hb; have BK101 := am (hbox); have GW101 := uE hg; have GE101 := GW101; replace HB := uS hb; clear hb hbox hg; obtain ⟨hcz8_0, hcz8_1, hfz8_0, hfz8_1⟩ := uZ2 BK101)))
   go_ret2
   exact ⟨uA, by exact uW⟩
  ·rw [if_neg c6] at H
   have c6b0 : decide (a0_1 < a1) = false := decide_eq_false c6
   clear c6
   simp only [Option.some.injEq, Prod.mk.injEq] at H
   obtain ⟨rfl, rfl⟩ := H
   go_enter Tryz.func111, Tryz.ntmps111
   go_wp2_with (((with_reducible refine gate_dst (N := 2) rfl ?_); refine uX (N := 2) (cs := #[.int .i64 a0_0, .int .i64 a0_1]) (t := 25) ?_; intro gb101 hg w9 hbox hb; have BK101 := am (hbox); have GW101 := uE hg; have GE101 := GW101; replace HB := uS hb; clear hb hbox hg; obtain ⟨hcz10_0, hcz10_1, hfz10_0, hfz10_1⟩ := uZ2 BK101))
   go_ret2
   exact ⟨uA, by exact uW⟩
def spec_pzIf.f (a0 : Bool) : Option (Int) := if a0 = true then (some 1) else (some 0)
theorem spec_pzIf.calls (a0 : Bool) (r : Int) (w : World) (h : spec_pzIf.f a0 = some r) :
  Calls Tryz.prog 112 #[.bool a0] w fun e w' => e = .returned (.int .i64 r) ∧ Drawn0 w w' := by
 have H := h
 clear h
 unfold spec_pzIf.f at H
 by_cases c2 : a0 = true
 ·subst c2
  rw [if_pos rfl] at H
  obtain rfl := Option.some.inj H
  go_enter Tryz.func112, Tryz.ntmps112
  go_wp2
  go_ret
  exact ⟨by rfl, by repeat (exact Drawn0.refl _)⟩
 ·replace c2 := Bool.eq_false_iff.mpr c2
  subst c2
  rw [if_neg (show ¬ (false = true) by decide)] at H
  obtain rfl := Option.some.inj H
  go_enter Tryz.func112, Tryz.ntmps112
  go_wp2
  go_ret
  exact ⟨by rfl, by repeat (exact Drawn0.refl _)⟩
def spec_nuNumber.f (a0_0 : Int) (a0_1 : Int) (a1 : Int) (a2 : Int) : Option (Int) := if a0_0 = 1 then (some (wrap64 ((wrap64 ((wrap64 (2 * a2)) + 1)) + a1))) else (if a1 = 1 then (some (wrap64 ((wrap64 (2 * a0_1)) - a2))) else (some (wrap64 (a2 + 1))))
theorem spec_nuNumber.calls (a0_0 : Int) (a0_1 : Int) (a1 : Int) (a2 : Int) (r : Int) (w : World) (h : spec_nuNumber.f a0_0 a0_1 a1 a2 = some r) :
  Calls Tryz.prog 113 #[.agg #[.int .i64 a0_0, .int .i64 a0_1], .int .i64 a1, .int .i64 a2] w fun e w' => e = .returned (.int .i64 r) ∧ Below w.heap.size w w' := by
 have hu25 := Tryz.underlying25
 have HB := am (Below.refl w.heap.size w)
 have H := h
 clear h
 unfold spec_nuNumber.f at H
 by_cases c4 : a0_0 = 1
 ·rw [if_pos c4] at H
  have c4b0 : (a0_0 == 1) = true := beq_iff_eq.mpr c4
  have c4b1 : (a0_0 != 1) = false := bne_eq_false_iff_eq.mpr c4
  clear c4
  obtain rfl := Option.some.inj H
  go_enter Tryz.func113, Tryz.ntmps113
  go_wp2_with (((with_reducible refine gate_dst (N := 3) rfl ?_); refine uX (N := 3) (cs := #[.int .i64 a0_0, .int .i64 a0_1]) (t := 25) ?_; intro gb101 hg w5 hbox hb; have BK101 := am (hbox); have GW101 := uE hg; have GE101 := GW101; replace HB := uS hb; clear hb hbox hg; obtain ⟨hcz6_0, hcz6_1, hfz6_0, hfz6_1⟩ := uZ2 BK101))
  go_ret
  exact ⟨uA, by exact uW⟩
 ·rw [if_neg c4] at H
  have c4b0 : (a0_0 == 1) = false := beq_eq_false_iff_ne.mpr c4
  have c4b1 : (a0_0 != 1) = true := bne_iff_ne.mpr c4
  by_cases c7 : a1 = 1
  ·rw [if_pos c7] at H
   have c7b0 : (a1 == 1) = true := beq_iff_eq.mpr c7
   have c7b1 : (a1 != 1) = false := bne_eq_false_iff_eq.mpr c7
   clear c7
   obtain rfl := Option.some.inj H
   go_enter Tryz.func113, Tryz.ntmps113
   go_wp2_with (((with_reducible refine gate_dst (N := 3) rfl ?_); refine uX (N := 3) (cs := #[.int .i64 a0_0, .int .i64 a0_1]) (t := 25) ?_; intro gb101 hg w8 hbox hb; have BK101 := am (hbox); have GW101 := uE hg; have GE101 := GW101; replace HB := uS hb; clear hb hbox hg; obtain ⟨hcz9_0, hcz9_1, hfz9_0, hfz9_1⟩ := uZ2 BK101))
   go_ret
   exact ⟨uA, by exact uW⟩
  ·rw [if_neg c7] at H
   have c7b0 : (a1 == 1) = false := beq_eq_false_iff_ne.mpr c7
   have c7b1 : (a1 != 1) = true := bne_iff_ne.mpr c7
   obtain rfl := Option.some.inj H
   go_enter Tryz.func113, Tryz.ntmps113
   go_wp2_with (((with_reducible refine gate_dst (N := 3) rfl ?_); refine uX (N := 3) (cs := #[.int .i64 a0_0, .int .i64 a0_1]) (t := 25) ?_; intro gb101 hg w10 hbox hb; have BK101 := am (hbox); have GW101 := uE hg; have GE101 := GW101; replace HB := uS hb; clear hb hbox hg; obtain ⟨hcz11_0, hcz11_1, hfz11_0, hfz11_1⟩ := uZ2 BK101))
   go_ret
   exact ⟨uA, by exact uW⟩
def spec_pzValue.f (a0_0 : Int) (a0_1 : Int) (a1 : Int) (a2 : Int) (a3 : Int) : Option (Int) := (spec_nuPlot.f a0_0 a0_1 a3).bind fun bt102 => (if a1 = 0 then (some bt102.1) else (if a1 = 1 then (some bt102.2) else (if a1 = 2 then (if a2 = 0 then (none) else ((spec_pzIf.f ((Int.tmod a3 a2) == 0)).bind fun t104 => (some t104))) else (if a1 = 3 then (some (wrap64 ((wrap64 (Int.tdiv a3 10)) + (Int.tmod a3 10)))) else (if a1 = 4 then ((spec_pzIf.f (decide (a3 > a2))).bind fun t105 => (some t105)) else (if a0_0 = 0 then (some 0) else ((spec_nuNumber.f a0_0 a0_1 (wrap64 (1 - bt102.1)) bt102.2).bind fun t106 => (some t106))))))))
theorem spec_pzValue.calls (a0_0 : Int) (a0_1 : Int) (a1 : Int) (a2 : Int) (a3 : Int) (r : Int) (w : World) (h : spec_pzValue.f a0_0 a0_1 a1 a2 a3 = some r) :
  Calls Tryz.prog 91 #[.agg #[.int .i64 a0_0, .int .i64 a0_1], .int .i64 a1, .int .i64 a2, .int .i64 a3] w fun e w' => e = .returned (.int .i64 r) ∧ Below w.heap.size w w' := by
 have hu25 := Tryz.underlying25
 have HB := am (Below.refl w.heap.size w)
 have H := h
 clear h
 unfold spec_pzValue.f at H
 obtain ⟨⟨t102, t103⟩, A50, H⟩ := bH H
 dsimp only at H
 have A5 := am A50
 clear A50
 by_cases c6 : a1 = 0
 ·rw [if_pos c6] at H
  have c6b0 : (a1 == 0) = true := beq_iff_eq.mpr c6
  have c6b1 : (a1 != 0) = false := bne_eq_false_iff_eq.mpr c6
  clear c6
  obtain rfl := Option.some.inj H
  go_enter Tryz.func91, Tryz.ntmps91
  go_wp2_with (first | ((with_reducible refine gate_dst (N := 4) rfl ?_); refine uX (N := 4) (cs := #[.int .i64 a0_0, .int .i64 a0_1]) (t := 25) ?_; intro gb101 hg w7 hbox hb; have BK101 := am (hbox); have GW101 := uE hg; have GE101 := GW101; replace HB := uS hb; clear hb hbox hg; obtain ⟨hcz8_0, hcz8_1, hfz8_0, hfz8_1⟩ := uZ2 BK101) | ((with_reducible refine gate_callee (f := 111) rfl ?_); refine uGo (some 14) Tryz.func111 #[.agg #[.int .i64 a0_0, .int .i64 a0_1], .int .i64 a3] ?_; (with_reducible refine (spec_nuPlot.calls a0_0 a0_1 a3 t102 t103 _ A5.out).mono ?_); rintro e w9 ⟨rfl, hb⟩; refine ⟨_, rfl, ?_⟩; replace BK101 := uB BK101 hb; replace HB := uS hb; (try clear hb)))
  go_ret
  exact ⟨uA, by exact uW⟩
 ·rw [if_neg c6] at H
  have c6b0 : (a1 == 0) = false := beq_eq_false_iff_ne.mpr c6
  have c6b1 : (a1 != 0) = true := bne_iff_ne.mpr c6
  by_cases c10 : a1 = 1
  ·rw [if_pos c10] at H
   have c10b0 : (a1 == 1) = true := beq_iff_eq.mpr c10
   have c10b1 : (a1 != 1) = false := bne_eq_false_iff_eq.mpr c10
   clear c10
   obtain rfl := Option.some.inj H
   go_enter Tryz.func91, Tryz.ntmps91
   go_wp2_with (first | ((with_reducible refine gate_dst (N := 4) rfl ?_); refine uX (N := 4) (cs := #[.int .i64 a0_0, .int .i64 a0_1]) (t := 25) ?_; intro gb101 hg w11 hbox hb; have BK101 := am (hbox); have GW101 := uE hg; have GE101 := GW101; replace HB := uS hb; clear hb hbox hg; obtain ⟨hcz12_0, hcz12_1, hfz12_0, hfz12_1⟩ := uZ2 BK101) | ((with_reducible refine gate_callee (f := 111) rfl ?_); refine uGo (some 14) Tryz.func111 #[.agg #[.int .i64 a0_0, .int .i64 a0_1], .int .i64 a3] ?_; (with_reducible refine (spec_nuPlot.calls a0_0 a0_1 a3 t102 t103 _ A5.out).mono ?_); rintro e w13 ⟨rfl, hb⟩; refine ⟨_, rfl, ?_⟩; replace BK101 := uB BK101 hb; replace HB := uS hb; (try clear hb)))
   go_ret
   exact ⟨uA, by exact uW⟩
  ·rw [if_neg c10] at H
   have c10b0 : (a1 == 1) = false := beq_eq_false_iff_ne.mpr c10
   have c10b1 : (a1 != 1) = true := bne_iff_ne.mpr c10
   by_cases c14 : a1 = 2
   ·rw [if_pos c14] at H
    have c14b0 : (a1 == 2) = true := beq_iff_eq.mpr c14
    have c14b1 : (a1 != 2) = false := bne_eq_false_iff_eq.mpr c14
    clear c14
    by_cases c15 : a2 = 0
    ·rw [if_pos c15] at H
     exact absurd H (by simp)
    ·rw [if_neg c15] at H
     have c15b0 : (a2 == 0) = false := beq_eq_false_iff_ne.mpr c15
     have c15b1 : (a2 != 0) = true := bne_iff_ne.mpr c15
     obtain ⟨t104, A160, H⟩ := bH H
     have A16 := am A160
     clear A160
     obtain rfl := Option.some.inj H
     go_enter Tryz.func91, Tryz.ntmps91
     go_wp2_with (first | ((with_reducible refine gate_dst (N := 4) rfl ?_); refine uX (N := 4) (cs := #[.int .i64 a0_0, .int .i64 a0_1]) (t := 25) ?_; intro gb101 hg w17 hbox hb; have BK101 := am (hbox); have GW101 := uE hg; have GE101 := GW101; replace HB := uS hb; clear hb hbox hg; obtain ⟨hcz18_0, hcz18_1, hfz18_0, hfz18_1⟩ := uZ2 BK101) | ((with_reducible refine gate_callee (f := 111) rfl ?_); refine uGo (some 14) Tryz.func111 #[.agg #[.int .i64 a0_0, .int .i64 a0_1], .int .i64 a3] ?_; (with_reducible refine (spec_nuPlot.calls a0_0 a0_1 a3 t102 t103 _ A5.out).mono ?_); rintro e w19 ⟨rfl, hb⟩; refine ⟨_, rfl, ?_⟩; replace BK101 := uB BK101 hb; replace HB := uS hb; (try clear hb)) | ((with_reducible refine gate_callee (f := 112) rfl ?_); refine uGo (some 30) Tryz.func112 #[.bool ((Int.tmod a3 a2) == 0)] ?_; (with_reducible refine (spec_pzIf.calls ((Int.tmod a3 a2) == 0) t104 _ A16.out).mono ?_); rintro e w' ⟨rfl, ⟨nd, rfl⟩⟩; refine ⟨_, rfl, ?_⟩))
     go_ret
     exact ⟨uA, by exact uW⟩
   ·rw [if_neg c14] at H
    have c14b0 : (a1 == 2) = false := beq_eq_false_iff_ne.mpr c14
    have c14b1 : (a1 != 2) = true := bne_iff_ne.mpr c14
    by_cases c20 : a1 = 3
    ·rw [if_pos c20] at H
     have c20b0 : (a1 == 3) = true := beq_iff_eq.mpr c20
     have c20b1 : (a1 != 3) = false := bne_eq_false_iff_eq.mpr c20
     clear c20
     obtain rfl := Option.some.inj H
     go_enter Tryz.func91, Tryz.ntmps91
     go_wp2_with (first | ((with_reducible refine gate_dst (N := 4) rfl ?_); refine uX (N := 4) (cs := #[.int .i64 a0_0, .int .i64 a0_1]) (t := 25) ?_; intro gb101 hg w21 hbox hb; have BK101 := am (hbox); have GW101 := uE hg; have GE101 := GW101; replace HB := uS hb; clear hb hbox hg; obtain ⟨hcz22_0, hcz22_1, hfz22_0, hfz22_1⟩ := uZ2 BK101) | ((with_reducible refine gate_callee (f := 111) rfl ?_); refine uGo (some 14) Tryz.func111 #[.agg #[.int .i64 a0_0, .int .i64 a0_1], .int .i64 a3] ?_; (with_reducible refine (spec_nuPlot.calls a0_0 a0_1 a3 t102 t103 _ A5.out).mono ?_); rintro e w23 ⟨rfl, hb⟩; refine ⟨_, rfl, ?_⟩; replace BK101 := uB BK101 hb; replace HB := uS hb; (try clear hb)))
     go_ret
     exact ⟨uA, by exact uW⟩
    ·rw [if_neg c20] at H
     have c20b0 : (a1 == 3) = false := beq_eq_false_iff_ne.mpr c20
     have c20b1 : (a1 != 3) = true := bne_iff_ne.mpr c20
     by_cases c24 : a1 = 4
     ·rw [if_pos c24] at H
      have c24b0 : (a1 == 4) = true := beq_iff_eq.mpr c24
      have c24b1 : (a1 != 4) = false := bne_eq_false_iff_eq.mpr c24
      clear c24
      obtain ⟨t105, A250, H⟩ := bH H
      have A25 := am A250
      clear A250
      obtain rfl := Option.some.inj H
      go_enter Tryz.func91, Tryz.ntmps91
      go_wp2_with (first | ((with_reducible refine gate_dst (N := 4) rfl ?_); refine uX (N := 4) (cs := #[.int .i64 a0_0, .int .i64 a0_1]) (t := 25) ?_; intro gb101 hg w26 hbox hb; have BK101 := am (hbox); have GW101 := uE hg; have GE101 := GW101; replace HB := uS hb; clear hb hbox hg; obtain ⟨hcz27_0, hcz27_1, hfz27_0, hfz27_1⟩ := uZ2 BK101) | ((with_reducible refine gate_callee (f := 111) rfl ?_); refine uGo (some 14) Tryz.func111 #[.agg #[.int .i64 a0_0, .int .i64 a0_1], .int .i64 a3] ?_; (with_reducible refine (spec_nuPlot.calls a0_0 a0_1 a3 t102 t103 _ A5.out).mono ?_); rintro e w28 ⟨rfl, hb⟩; refine ⟨_, rfl, ?_⟩; replace BK101 := uB BK101 hb; replace HB := uS hb; (try clear hb)) | ((with_reducible refine gate_callee (f := 112) rfl ?_); refine uGo (some 43) Tryz.func112 #[.bool (decide (a3 > a2))] ?_; (with_reducible refine (spec_pzIf.calls (decide (a3 > a2)) t105 _ A25.out).mono ?_); rintro e w' ⟨rfl, ⟨nd, rfl⟩⟩; refine ⟨_, rfl, ?_⟩))
      go_ret
      exact ⟨uA, by exact uW⟩
     ·rw [if_neg c24] at H
      have c24b0 : (a1 == 4) = false := beq_eq_false_iff_ne.mpr c24
      have c24b1 : (a1 != 4) = true := bne_iff_ne.mpr c24
      by_cases c29 : a0_0 = 0
      ·rw [if_pos c29] at H
       have c29b0 : (a0_0 == 0) = true := beq_iff_eq.mpr c29
       have c29b1 : (a0_0 != 0) = false := bne_eq_false_iff_eq.mpr c29
       clear c29
       obtain rfl := Option.some.inj H
       go_enter Tryz.func91, Tryz.ntmps91
       go_wp2_with (first | ((with_reducible refine gate_dst (N := 4) rfl ?_); refine uX (N := 4) (cs := #[.int .i64 a0_0, .int .i64 a0_1]) (t := 25) ?_; intro gb101 hg w30 hbox hb; have BK101 := am (hbox); have GW101 := uE hg; have GE101 := GW101; replace HB := uS hb; clear hb hbox hg; obtain ⟨hcz31_0, hcz31_1, hfz31_0, hfz31_1⟩ := uZ2 BK101) | ((with_reducible refine gate_callee (f := 111) rfl ?_); refine uGo (some 14) Tryz.func111 #[.agg #[.int .i64 a0_0, .int .i64 a0_1], .int .i64 a3] ?_; (with_reducible refine (spec_nuPlot.calls a0_0 a0_1 a3 t102 t103 _ A5.out).mono ?_); rintro e w32 ⟨rfl, hb⟩; refine ⟨_, rfl, ?_⟩; replace BK101 := uB BK101 hb; replace HB := uS hb; (try clear hb); obtain ⟨hcz33_0, hcz33_1, hfz33_0, hfz33_1⟩ := uZ2 BK101))
       go_ret
       exact ⟨uA, by exact uW⟩
      ·rw [if_neg c29] at H
       have c29b0 : (a0_0 == 0) = false := beq_eq_false_iff_ne.mpr c29
       have c29b1 : (a0_0 != 0) = true := bne_iff_ne.mpr c29
       obtain ⟨t106, A340, H⟩ := bH H
       have A34 := am A340
       clear A340
       obtain rfl := Option.some.inj H
       go_enter Tryz.func91, Tryz.ntmps91
       go_wp2_with (first | ((with_reducible refine gate_dst (N := 4) rfl ?_); refine uX (N := 4) (cs := #[.int .i64 a0_0, .int .i64 a0_1]) (t := 25) ?_; intro gb101 hg w35 hbox hb; have BK101 := am (hbox); have GW101 := uE hg; have GE101 := GW101; replace HB := uS hb; clear hb hbox hg; obtain ⟨hcz36_0, hcz36_1, hfz36_0, hfz36_1⟩ := uZ2 BK101) | ((with_reducible refine gate_callee (f := 111) rfl ?_); refine uGo (some 14) Tryz.func111 #[.agg #[.int .i64 a0_0, .int .i64 a0_1], .int .i64 a3] ?_; (with_reducible refine (spec_nuPlot.calls a0_0 a0_1 a3 t102 t103 _ A5.out).mono ?_); rintro e w37 ⟨rfl, hb⟩; refine ⟨_, rfl, ?_⟩; replace BK101 := uB BK101 hb; replace HB := uS hb; (try clear hb); obtain ⟨hcz38_0, hcz38_1, hfz38_0, hfz38_1⟩ := uZ2 BK101) | ((with_reducible refine gate_callee (f := 113) rfl ?_); refine uGo (some 51) Tryz.func113 #[.agg #[.int .i64 a0_0, .int .i64 a0_1], .int .i64 (wrap64 (1 - t102)), .int .i64 t103] ?_; (with_reducible refine (spec_nuNumber.calls a0_0 a0_1 (wrap64 (1 - t102)) t103 t106 _ A34.out).mono ?_); rintro e w39 ⟨rfl, hb⟩; refine ⟨_, rfl, ?_⟩; replace BK101 := uB BK101 hb; replace HB := uS hb; (try clear hb)))
       go_ret
       exact ⟨uA, by exact uW⟩
def spec_pzOf.f (a0_0 : Int) (a0_1 : Int) (a1 : Int) (a2 : Int) (a3 : Int) : Option (Int × Int × Int) := if a1 = 2 then ((spec_pzValue.f a0_0 a0_1 a1 (wrap64 ((Int.tmod a2 8) + 2)) a3).bind fun t103 => (some (a1, wrap64 ((Int.tmod a2 8) + 2), t103))) else (if a1 = 4 then ((spec_pzValue.f a0_0 a0_1 a1 (wrap64 ((Int.tmod a2 40) + 1)) a3).bind fun t104 => (some (a1, wrap64 ((Int.tmod a2 40) + 1), t104))) else ((spec_pzValue.f a0_0 a0_1 a1 0 a3).bind fun t105 => (some (a1, 0, t105))))
theorem spec_pzOf.calls (a0_0 : Int) (a0_1 : Int) (a1 : Int) (a2 : Int) (a3 : Int) (r1 : Int) (r2 : Int) (r3 : Int) (w : World) (h : spec_pzOf.f a0_0 a0_1 a1 a2 a3 = some (r1, r2, r3)) :
  Calls Tryz.prog 107 #[.agg #[.int .i64 a0_0, .int .i64 a0_1], .int .i64 a1, .int .i64 a2, .int .i64 a3] w fun e w' => e = .returned (.agg #[.int .i64 r1, .int .i64 r2, .int .i64 r3]) ∧ Below w.heap.size w w' := by
 have hu25 := Tryz.underlying25
 have hu46 := Tryz.underlying46
 have HB := am (Below.refl w.heap.size w)
 have H := h
 clear h
 unfold spec_pzOf.f at H
 by_cases c5 : a1 = 2
 ·rw [if_pos c5] at H
  have c5b0 : (a1 == 2) = true := beq_iff_eq.mpr c5
  have c5b1 : (a1 != 2) = false := bne_eq_false_iff_eq.mpr c5
  clear c5
  obtain ⟨t103, A60, H⟩ := bH H
  have A6 := am A60
  clear A60
  simp only [Option.some.injEq, Prod.mk.injEq] at H
  obtain ⟨rfl, rfl, rfl⟩ := H
  go_enter Tryz.func107, Tryz.ntmps107
  go_wp2_with (first | ((with_reducible refine gate_dst (N := 4) rfl ?_); refine uX (N := 4) (cs := #[.int .i64 a0_0, .int .i64 a0_1]) (t := 25) ?_; intro gb101 hg w7 hbox hb; have BK101 := am (hbox); have GW101 := uE hg; have GE101 := GW101; replace HB := uS hb; clear hb hbox hg) | ((with_reducible refine gate_dst (N := 8) rfl ?_); refine uX (N := 8) (cs := #[.int .i64 0, .int .i64 0, .int .i64 0]) (t := 46) ?_; intro gb102 hg w8 hbox hb; have BK102 := am (hbox); have GW102 := uE hg; have GE102 := GW102; have NB101_102 := uL BK101 hg; have NB102_101 := uY NB101_102; replace BK101 := uB BK101 hb; replace HB := uS hb; clear hb hbox hg; have hnb9 := NB101_102.out; have hnc9 := NB102_101.out; obtain ⟨hcz10_0, hcz10_1, hfz10_0, hfz10_1⟩ := uZ2 BK101) | ((with_reducible refine gate_callee (f := 91) rfl ?_); refine uGo (some 27) Tryz.func91 #[.agg #[.int .i64 a0_0, .int .i64 a0_1], .int .i64 a1, .int .i64 (wrap64 ((Int.tmod a2 8) + 2)), .int .i64 a3] ?_; (with_reducible refine (spec_pzValue.calls a0_0 a0_1 a1 (wrap64 ((Int.tmod a2 8) + 2)) a3 t103 _ A6.out).mono ?_); rintro e w11 ⟨rfl, hb⟩; refine ⟨_, rfl, ?_⟩; replace BK101 := uB BK101 hb; replace BK102 := uB BK102 hb; replace HB := uS hb; (try clear hb); obtain ⟨hcz12_0, hcz12_1, hcz12_2, hfz12_0, hfz12_1, hfz12_2⟩ := uZ3 BK102))
  refine bodyPost_ret (results_cell_row rfl _ _ gb102 46 #[.int .i64 a1, .int .i64 (wrap64 ((Int.tmod a2 8) + 2)), .int .i64 t103] (0, 0) _ rfl (by refine blk_put (cs := #[.int .i64 a1, .int .i64 (wrap64 ((Int.tmod a2 8) + 2)), .int .i64 0]) ?_ 2 _ rfl; refine blk_put (cs := #[.int .i64 a1, .int .i64 0, .int .i64 0]) ?_ 1 _ rfl; refine blk_put (cs := #[.int .i64 0, .int .i64 0, .int .i64 0]) ?_ 0 _ rfl; exact (uP BK102)) Tryz.underlying46 rfl (by kernel_rfl)) rfl ?_
  exact ⟨uA, by exact uW⟩
 ·rw [if_neg c5] at H
  have c5b0 : (a1 == 2) = false := beq_eq_false_iff_ne.mpr c5
  have c5b1 : (a1 != 2) = true := bne_iff_ne.mpr c5
  by_cases c13 : a1 = 4
  ·rw [if_pos c13] at H
   have c13b0 : (a1 == 4) = true := beq_iff_eq.mpr c13
   have c13b1 : (a1 != 4) = false := bne_eq_false_iff_eq.mpr c13
   clear c13
   obtain ⟨t104, A140, H⟩ := bH H
   have A14 := am A140
   clear A140
   simp only [Option.some.injEq, Prod.mk.injEq] at H
   obtain ⟨rfl, rfl, rfl⟩ := H
   go_enter Tryz.func107, Tryz.ntmps107
   go_wp2_with (first | ((with_reducible refine gate_dst (N := 4) rfl ?_); refine uX (N := 4) (cs := #[.int .i64 a0_0, .int .i64 a0_1]) (t := 25) ?_; intro gb101 hg w15 hbox hb; have BK101 := am (hbox); have GW101 := uE hg; have GE101 := GW101; replace HB := uS hb; clear hb hbox hg) | ((with_reducible refine gate_dst (N := 8) rfl ?_); refine uX (N := 8) (cs := #[.int .i64 0, .int .i64 0, .int .i64 0]) (t := 46) ?_; intro gb102 hg w16 hbox hb; have BK102 := am (hbox); have GW102 := uE hg; have GE102 := GW102; have NB101_102 := uL BK101 hg; have NB102_101 := uY NB101_102; replace BK101 := uB BK101 hb; replace HB := uS hb; clear hb hbox hg; have hnb17 := NB101_102.out; have hnc17 := NB102_101.out; obtain ⟨hcz18_0, hcz18_1, hfz18_0, hfz18_1⟩ := uZ2 BK101) | ((with_reducible refine gate_callee (f := 91) rfl ?_); refine uGo (some 27) Tryz.func91 #[.agg #[.int .i64 a0_0, .int .i64 a0_1], .int .i64 a1, .int .i64 (wrap64 ((Int.tmod a2 40) + 1)), .int .i64 a3] ?_; (with_reducible refine (spec_pzValue.calls a0_0 a0_1 a1 (wrap64 ((Int.tmod a2 40) + 1)) a3 t104 _ A14.out).mono ?_); rintro e w19 ⟨rfl, hb⟩; refine ⟨_, rfl, ?_⟩; replace BK101 := uB BK101 hb; replace BK102 := uB BK102 hb; replace HB := uS hb; (try clear hb); obtain ⟨hcz20_0, hcz20_1, hcz20_2, hfz20_0, hfz20_1, hfz20_2⟩ := uZ3 BK102))
   refine bodyPost_ret (results_cell_row rfl _ _ gb102 46 #[.int .i64 a1, .int .i64 (wrap64 ((Int.tmod a2 40) + 1)), .int .i64 t104] (0, 0) _ rfl (by refine blk_put (cs := #[.int .i64 a1, .int .i64 (wrap64 ((Int.tmod a2 40) + 1)), .int .i64 0]) ?_ 2 _ rfl; refine blk_put (cs := #[.int .i64 a1, .int .i64 0, .int .i64 0]) ?_ 1 _ rfl; refine blk_put (cs := #[.int .i64 0, .int .i64 0, .int .i64 0]) ?_ 0 _ rfl; exact (uP BK102)) Tryz.underlying46 rfl (by kernel_rfl)) rfl ?_
   exact ⟨uA, by exact uW⟩
  ·rw [if_neg c13] at H
   have c13b0 : (a1 == 4) = false := beq_eq_false_iff_ne.mpr c13
   have c13b1 : (a1 != 4) = true := bne_iff_ne.mpr c13
   obtain ⟨t105, A210, H⟩ := bH H
   have A21 := am A210
   clear A210
   simp only [Option.some.injEq, Prod.mk.injEq] at H
   obtain ⟨rfl, rfl, rfl⟩ := H
   go_enter Tryz.func107, Tryz.ntmps107
   go_wp2_with (first | ((with_reducible refine gate_dst (N := 4) rfl ?_); refine uX (N := 4) (cs := #[.int .i64 a0_0, .int .i64 a0_1]) (t := 25) ?_; intro gb101 hg w22 hbox hb; have BK101 := am (hbox); have GW101 := uE hg; have GE101 := GW101; replace HB := uS hb; clear hb hbox hg) | ((with_reducible refine gate_dst (N := 8) rfl ?_); refine uX (N := 8) (cs := #[.int .i64 0, .int .i64 0, .int .i64 0]) (t := 46) ?_; intro gb102 hg w23 hbox hb; have BK102 := am (hbox); have GW102 := uE hg; have GE102 := GW102; have NB101_102 := uL BK101 hg; have NB102_101 := uY NB101_102; replace BK101 := uB BK101 hb; replace HB := uS hb; clear hb hbox hg; have hnb24 := NB101_102.out; have hnc24 := NB102_101.out; obtain ⟨hcz25_0, hcz25_1, hfz25_0, hfz25_1⟩ := uZ2 BK101) | ((with_reducible refine gate_callee (f := 91) rfl ?_); refine uGo (some 27) Tryz.func91 #[.agg #[.int .i64 a0_0, .int .i64 a0_1], .int .i64 a1, .int .i64 0, .int .i64 a3] ?_; (with_reducible refine (spec_pzValue.calls a0_0 a0_1 a1 0 a3 t105 _ A21.out).mono ?_); rintro e w26 ⟨rfl, hb⟩; refine ⟨_, rfl, ?_⟩; replace BK101 := uB BK101 hb; replace BK102 := uB BK102 hb; replace HB := uS hb; (try clear hb); obtain ⟨hcz27_0, hcz27_1, hcz27_2, hfz27_0, hfz27_1, hfz27_2⟩ := uZ3 BK102))
   refine bodyPost_ret (results_cell_row rfl _ _ gb102 46 #[.int .i64 a1, .int .i64 0, .int .i64 t105] (0, 0) _ rfl (by refine blk_put (cs := #[.int .i64 a1, .int .i64 0, .int .i64 0]) ?_ 2 _ rfl; refine blk_put (cs := #[.int .i64 a1, .int .i64 0, .int .i64 0]) ?_ 1 _ rfl; refine blk_put (cs := #[.int .i64 0, .int .i64 0, .int .i64 0]) ?_ 0 _ rfl; exact (uP BK102)) Tryz.underlying46 rfl (by kernel_rfl)) rfl ?_
   exact ⟨uA, by exact uW⟩
mutual
def spec_MakePuzzle.j0 : Nat → Int → Int → Int → Bool → Int → Int → Option (Int × Int × (List (S46)) × Bool)
 | 0, _, _, _, _, _, _ => none
 | k + 1, x1, x2, x3, x26, x102000, x102001 => if x26 = true then (some (0, 0, ([] : List (S46)), false)) else (spec_MakePuzzle.l0 k x1 x2 x3 x102000 x102001 x102000 x102001 ([] : List (S46)))
def spec_MakePuzzle.l0 : Nat → Int → Int → Int → Int → Int → Int → Int → List (S46) → Option (Int × Int × (List (S46)) × Bool)
 | 0, _, _, _, _, _, _, _, _ => none
 | k + 1, x1, x2, x11, x102000, x102001, x107000, x107001, x107002 => if x2 > 0 then ((spec_pzNext.f x11).bind fun t107 => ((spec_pzNext.f t107).bind fun t108 => ((spec_pzOf.f x102000 x102001 (Int.tmod t107 6) t108 x1).bind fun bt109 => (if x107002.length < 5864062014805 then (spec_MakePuzzle.l0 k x1 (wrap64 (x2 - 1)) t108 x102000 x102001 x107000 x107001 (x107002 ++ [(⟨bt109.1, bt109.2.1, bt109.2.2⟩ : S46)])) else (none))))) else (some (x107000, x107001, x107002, true))
end
def spec_MakePuzzle.f (k : Nat) (a0_0 : Int) (a0_1 : Int) (a1 : Int) (a2 : Int) (a3 : Int) : Option (Int × Int × (List (S46)) × Bool) := (spec_pzHidden.f a0_0 a0_1 a1).bind fun t103 => (if t103 = true then ((spec_l1In.f a2 0 6).bind fun t104 => (if t104 = true then ((spec_l1In.f a3 0 9999).bind fun t105 => (spec_MakePuzzle.j0 k a1 a2 a3 (!t105) a0_0 a0_1)) else (spec_MakePuzzle.j0 k a1 a2 a3 true a0_0 a0_1))) else (spec_MakePuzzle.j0 k a1 a2 a3 true a0_0 a0_1))
def spec_MakePuzzle.T10 : Bool × List (List Nat × List Nat) := (true, [([], []), ([0], [0]), ([], []), ([], []), ([], []), ([], []), ([2, 3, 4, 5], [2, 3, 4, 5]), ([6], [6]), ([1, 7, 6], [1, 7]), ([0, 1, 2, 3, 4, 5, 6, 7, 8], []), ([9, 8, 8, 0, 1, 2, 3, 4, 5, 6, 7, 8], [8, 9])])
def spec_MakePuzzle.B10 : List Nat := [0, 1, 0, 0, 0, 0, 60, 124, 255, 511, 1023]
theorem spec_MakePuzzle.tab10 : rtab .any (opsOf Tryz.f82 10) = spec_MakePuzzle.T10 := by kernel_rfl
theorem spec_MakePuzzle.bits10 : waitsOk spec_MakePuzzle.T10.2 spec_MakePuzzle.B10 = true := by kernel_rfl
theorem spec_MakePuzzle.calls (k : Nat) (a0_0 : Int) (a0_1 : Int) (a1 : Int) (a2 : Int) (a3 : Int) (r1 : Int) (r2 : Int) (r3 : List (S46)) (r4 : Bool) (w : World) (h : spec_MakePuzzle.f k a0_0 a0_1 a1 a2 a3 = some (r1, r2, r3, r4)) :
  Calls Tryz.prog 82 #[.agg #[.int .i64 a0_0, .int .i64 a0_1], .int .i64 a1, .int .i64 a2, .int .i64 a3] w fun e w' => ∃ v2_ : Value, e = .returned (.tuple #[.agg #[.int .i64 r1, .int .i64 r2, v2_], .bool r4]) ∧ Kd.R k46 46 w' w.heap.size (fun _ => True) v2_ r3 ∧ Below w.heap.size w w' := by
 have hu25 := Tryz.underlying25
 have hu28 := Tryz.underlying28
 have HB := am (Below.refl w.heap.size w)
 have H := h
 clear h
 unfold spec_MakePuzzle.f at H
 have HC5 := am H
 clear H
 go_enter Tryz.func82, Tryz.ntmps82
 go_upto_region 1 with (first | ((with_reducible refine gate_dst (N := 4) rfl ?_); refine uX (N := 4) (cs := #[.int .i64 a0_0, .int .i64 a0_1]) (t := 25) ?_; intro gb101 hg w6 hbox hb; have BK101 := am (hbox); have GW101 := uE hg; have GE101 := GW101; replace HB := uS hb; clear hb hbox hg) | ((with_reducible refine gate_dst (N := 8) rfl ?_); refine uX (N := 8) (cs := #[.int .i64 0, .int .i64 0, .slice none 0 0]) (t := 28) ?_; intro gb102 hg w7 hbox hb; have BK102 := am (hbox); have GW102 := uE hg; have GE102 := GW102; have NB101_102 := uL BK101 hg; have NB102_101 := uY NB101_102; replace BK101 := uB BK101 hb; replace HB := uS hb; clear hb hbox hg))
 (skip)
 go_cut [26] (fun v26 wc => ∃ (kq : Nat) (x26_4 : Bool), v26 = .bool x26_4 ∧ Aside0 (spec_MakePuzzle.j0 kq a1 a2 a3 x26_4 a0_0 a0_1 = some (r1, r2, r3, r4)) ∧ Aside0 (kq ≤ k) ∧ Aside0 (wc.heap[gb101]? = some (.cells #[.int .i64 a0_0, .int .i64 a0_1] 25 (0, 0))) ∧ Aside0 (wc.heap[gb102]? = some (.cells #[.int .i64 0, .int .i64 0, (.slice none 0 0)] 28 (0, 0))) ∧ Aside0 (Below w.heap.size w wc))
 case first =>
  have H := HC5.out
  clear HC5
  obtain ⟨t103, A80, H⟩ := bH H
  have A8 := am A80
  clear A80
  by_cases c9 : t103 = true
  ·subst c9
   rw [if_pos rfl] at H
   obtain ⟨t104, A100, H⟩ := bH H
   have A10 := am A100
   clear A100
   by_cases c11 : t104 = true
   ·subst c11
    rw [if_pos rfl] at H
    obtain ⟨t105, A120, H⟩ := bH H
    have A12 := am A120
    clear A120
    have H' := am H
    clear H
    have hnb13 := NB101_102.out
    have hnc13 := NB102_101.out
    obtain ⟨hcz14_0, hcz14_1, hfz14_0, hfz14_1⟩ := uZ2 BK101
    go_wp2_with (first | ((with_reducible refine gate_callee (f := 105) rfl ?_); refine uGo (some 15) Tryz.func105 #[.agg #[.int .i64 a0_0, .int .i64 a0_1], .int .i64 a1] ?_; (with_reducible refine (spec_pzHidden.calls a0_0 a0_1 a1 true _ A8.out).mono ?_); rintro e w15 ⟨rfl, hb⟩; refine ⟨_, rfl, ?_⟩; replace BK101 := uB BK101 hb; replace BK102 := uB BK102 hb; replace HB := uS hb; (try clear hb)) | (go_at_call 90; (with_reducible refine (spec_l1In.calls a2 0 6 true _ A10.out).mono ?_); rintro e w' ⟨rfl, ⟨nd, rfl⟩⟩) | (go_at_call 90; (with_reducible refine (spec_l1In.calls a3 0 9999 t105 _ A12.out).mono ?_); rintro e w' ⟨rfl, ⟨nd, rfl⟩⟩))
    go_meet
    case rel => exact ⟨_, (!t105), (by rfl), H', ⟨by omega⟩, ⟨by (with_reducible repeat (refine bN ?_ _)); exact BK101.out⟩, ⟨by (with_reducible repeat (refine bN ?_ _)); exact BK102.out⟩, ⟨by exact uW⟩⟩
   ·replace c11 := Bool.eq_false_iff.mpr c11
    subst c11
    rw [if_neg (show ¬ (false = true) by decide)] at H
    have H' := am H
    clear H
    have hnb16 := NB101_102.out
    have hnc16 := NB102_101.out
    obtain ⟨hcz17_0, hcz17_1, hfz17_0, hfz17_1⟩ := uZ2 BK101
    go_wp2_with (first | ((with_reducible refine gate_callee (f := 105) rfl ?_); refine uGo (some 15) Tryz.func105 #[.agg #[.int .i64 a0_0, .int .i64 a0_1], .int .i64 a1] ?_; (with_reducible refine (spec_pzHidden.calls a0_0 a0_1 a1 true _ A8.out).mono ?_); rintro e w18 ⟨rfl, hb⟩; refine ⟨_, rfl, ?_⟩; replace BK101 := uB BK101 hb; replace BK102 := uB BK102 hb; replace HB := uS hb; (try clear hb)) | (go_at_call 90; (with_reducible refine (spec_l1In.calls a2 0 6 false _ A10.out).mono ?_); rintro e w' ⟨rfl, ⟨nd, rfl⟩⟩))
    go_meet
    case rel => exact ⟨_, (true), (by rfl), H', ⟨by omega⟩, ⟨by (with_reducible repeat (refine bN ?_ _)); exact BK101.out⟩, ⟨by (with_reducible repeat (refine bN ?_ _)); exact BK102.out⟩, ⟨by exact uW⟩⟩
  ·replace c9 := Bool.eq_false_iff.mpr c9
   subst c9
   rw [if_neg (show ¬ (false = true) by decide)] at H
   have H' := am H
   clear H
   have hnb19 := NB101_102.out
   have hnc19 := NB102_101.out
   obtain ⟨hcz20_0, hcz20_1, hfz20_0, hfz20_1⟩ := uZ2 BK101
   go_wp2_with (((with_reducible refine gate_callee (f := 105) rfl ?_); refine uGo (some 15) Tryz.func105 #[.agg #[.int .i64 a0_0, .int .i64 a0_1], .int .i64 a1] ?_; (with_reducible refine (spec_pzHidden.calls a0_0 a0_1 a1 false _ A8.out).mono ?_); rintro e w21 ⟨rfl, hb⟩; refine ⟨_, rfl, ?_⟩; replace BK101 := uB BK101 hb; replace BK102 := uB BK102 hb; replace HB := uS hb; (try clear hb)))
   go_meet
   case rel => exact ⟨_, (true), (by rfl), H', ⟨by omega⟩, ⟨by (with_reducible skip); exact BK101.out⟩, ⟨by (with_reducible skip); exact BK102.out⟩, ⟨by exact uW⟩⟩
 case rest =>
  clear HC5
  obtain ⟨kq, x26_4, rfl, HA, HJ4, BK101, BK102, HB⟩ := hcut
  cases kq with
  | zero => exact absurd HA.out (by simp [spec_MakePuzzle.j0])
  | succ kj4 =>
   have H := HA.out
   clear HA
   simp only [spec_MakePuzzle.j0] at H
   by_cases c22 : x26_4 = true
   ·subst c22
    rw [if_pos rfl] at H
    simp only [Option.some.injEq, Prod.mk.injEq] at H
    obtain ⟨rfl, rfl, rfl, rfl⟩ := H
    have hnb23 := NB102_101.out
    have hnc23 := NB101_102.out
    obtain ⟨hcz24_0, hcz24_1, hcz24_2, hfz24_0, hfz24_1, hfz24_2⟩ := uZ3 BK102
    go_wp2
    refine bodyPost_ret (results_ct rfl _ _ gb102 28 #[.int .i64 0, .int .i64 0, .slice none 0 0] (0, 0) _ rfl (by refine blk_put (cs := #[.int .i64 0, .int .i64 0, .slice none 0 0]) ?_ 2 _ rfl; refine blk_put (cs := #[.int .i64 0, .int .i64 0, .slice none 0 0]) ?_ 1 _ rfl; refine blk_put (cs := #[.int .i64 0, .int .i64 0, .slice none 0 0]) ?_ 0 _ rfl; exact (uP BK102)) Tryz.underlying28 rfl (by kernel_rfl)) rfl ?_
    exact ⟨_, uA, uN, by exact uW⟩
   ·replace c22 := Bool.eq_false_iff.mpr c22
    subst c22
    rw [if_neg (show ¬ (false = true) by decide)] at H
    have H' := am H
    clear H
    have hnb25 := NB101_102.out
    have hnc25 := NB102_101.out
    obtain ⟨hcz26_0, hcz26_1, hfz26_0, hfz26_1⟩ := uZ2 BK101
    go_wp2_with (((with_reducible refine gate_dst (N := 10) rfl ?_); refine uX (N := 10) (cs := #[.int .i64 0, .int .i64 0, .slice none 0 0]) (t := 28) ?_; intro gb106 hg w27 hbox hb; have BK106 := am (hbox); have GW106 := uE hg; have GE106 := GW106; have NB101_106 := uL BK101 hg; have NB106_101 := uY NB101_106; have NB102_106 := uL BK102 hg; have NB106_102 := uY NB102_106; replace BK101 := uB BK101 hb; replace BK102 := uB BK102 hb; replace HB := uS hb; clear hb hbox hg; have hnb28 := NB106_101.out; have hnc28 := NB101_106.out; have hnb29 := NB106_102.out; have hnc29 := NB102_106.out; obtain ⟨hcz30_0, hcz30_1, hcz30_2, hfz30_0, hfz30_1, hfz30_2⟩ := uZ3 BK106))
    go_loopg [2, 11] kj4 (fun kq v2 v11 w' => ∃ (x2_2 : Int) (x11_2 : Int) (x107002_2 : List (S46)) (u107002 : Value), v2 = .int .i64 x2_2 ∧ v11 = .int .i64 x11_2 ∧ Aside0 (spec_MakePuzzle.l0 kq a1 x2_2 x11_2 a0_0 a0_1 a0_0 a0_1 x107002_2 = some (r1, r2, r3, r4)) ∧ Aside0 (kq ≤ kj4) ∧ Aside0 (Kd.R k46 46 w' w.heap.size (fun _ => True) u107002 x107002_2) ∧ Aside0 (w'.heap[gb101]? = some (.cells #[.int .i64 a0_0, .int .i64 a0_1] 25 (0, 0))) ∧ Aside0 (w'.heap[gb102]? = some (.cells #[.int .i64 0, .int .i64 0, (.slice none 0 0)] 28 (0, 0))) ∧ Aside0 (w'.heap[gb106]? = some (.cells #[.int .i64 a0_0, .int .i64 a0_1, u107002] 28 (0, 0))) ∧ Aside0 (Below w.heap.size w w'))
    case atStart => exact ⟨(a2), (a3), (([] : List (S46))), (.slice none 0 0), (by rfl), (by rfl), H', ⟨Nat.le_refl _⟩, ⟨uN⟩, ⟨by refine blk_far ?_ NB101_106.out _; refine blk_far ?_ NB101_106.out _; refine blk_far ?_ NB101_106.out _; exact (uP BK101)⟩, ⟨by refine blk_far ?_ NB102_106.out _; refine blk_far ?_ NB102_106.out _; refine blk_far ?_ NB102_106.out _; exact (uP BK102)⟩, ⟨by refine blk_put (cs := #[.int .i64 a0_0, .int .i64 a0_1, .slice none 0 0]) ?_ 2 _ rfl; refine blk_put (cs := #[.int .i64 a0_0, .int .i64 0, .slice none 0 0]) ?_ 1 _ rfl; refine blk_put (cs := #[.int .i64 0, .int .i64 0, .slice none 0 0]) ?_ 0 _ rfl; exact (uP BK106)⟩, ⟨by exact uW⟩⟩
    case round =>
     clear H'
     try clear hcz26_0
     try clear hcz26_1
     try clear hcz30_0
     try clear hcz30_1
     try clear hcz30_2
     try clear hfz26_0
     try clear hfz26_1
     try clear hfz30_0
     try clear hfz30_1
     try clear hfz30_2
     obtain ⟨x2_2, x11_2, x107002_2, u107002, rfl, rfl, HA, HK2, HO_107002, BK101, BK102, BK106, HB⟩ := hrel
     cases gk with
     | zero => exact absurd HA.out (by simp [spec_MakePuzzle.l0])
     | succ k2 =>
      have H := HA.out
      clear HA
      simp only [spec_MakePuzzle.l0] at H
      by_cases c31 : x2_2 > 0
      ·rw [if_pos c31] at H
       have c31b0 : decide (0 < x2_2) = true := decide_eq_true c31
       clear c31
       obtain ⟨t107, A320, H⟩ := bH H
       have A32 := am A320
       clear A320
       obtain ⟨t108, A330, H⟩ := bH H
       have A33 := am A330
       clear A330
       obtain ⟨⟨t109, t110, t111⟩, A340, H⟩ := bH H
       dsimp only at H
       have A34 := am A340
       clear A340
       by_cases c35 : x107002_2.length < 5864062014805
       ·rw [if_pos c35] at H
        have LMc35 := am c35
        clear c35
        obtain ⟨y112, hy112⟩ : ∃ y_ : List (S46), y_ = (x107002_2 ++ [(⟨t109, t110, t111⟩ : S46)]) := ⟨_, rfl⟩
        replace H : (spec_MakePuzzle.l0 k2 a1 (wrap64 (x2_2 - 1)) t108 a0_0 a0_1 a0_0 a0_1 y112) = some (r1, r2, r3, r4) := by (rw [hy112]; with_reducible exact H)
        have Ny112 := am hy112
        clear hy112
        have H' := am H
        clear H
        try go_wp2_with (first | ((with_reducible refine gate_callee (f := 106) rfl ?_); refine uGo (some 36) Tryz.func106 #[.int .i64 x11_2] ?_; (with_reducible refine (spec_pzNext.calls x11_2 t107 _ A32.out).mono ?_); rintro e w' ⟨rfl, ⟨nd, rfl⟩⟩; refine ⟨_, rfl, ?_⟩; (try (rw [drewN_self wr]; generalize hq_ : World.drewN wr _ = wr; have n0_ : Aside0 (Kd.R k46 46 wr w.heap.size (fun _ => True) u107002 x107002_2) := ⟨by rw [← hq_]; exact (uR HO_107002)⟩; have n1_ : Aside0 (wr.heap[gb101]? = some (.cells #[.int .i64 a0_0, .int .i64 a0_1] 25 (0, 0))) := ⟨by rw [← hq_]; exact (uP BK101)⟩; have n2_ : Aside0 (wr.heap[gb102]? = some (.cells #[.int .i64 0, .int .i64 0, .slice none 0 0] 28 (0, 0))) := ⟨by rw [← hq_]; exact (uP BK102)⟩; have n3_ : Aside0 (wr.heap[gb106]? = some (.cells #[.int .i64 a0_0, .int .i64 a0_1, u107002] 28 (0, 0))) := ⟨by rw [← hq_]; exact (uP BK106)⟩; have n4_ : Aside0 (Below w.heap.size w wr) := ⟨by rw [← hq_]; exact uW⟩; clear HO_107002 BK101 BK102 BK106 HB hq_; have HO_107002 := n0_; have BK101 := n1_; have BK102 := n2_; have BK106 := n3_; have HB := n4_; clear n0_ n1_ n2_ n3_ n4_))) | ((with_reducible refine gate_callee (f := 106) rfl ?_); refine uGo (some 40) Tryz.func106 #[.int .i64 t107] ?_; (with_reducible refine (spec_pzNext.calls t107 t108 _ A33.out).mono ?_); rintro e w' ⟨rfl, ⟨nd, rfl⟩⟩; refine ⟨_, rfl, ?_⟩; (try (rw [drewN_self wr]; generalize hq_ : World.drewN wr _ = wr; have n0_ : Aside0 (Kd.R k46 46 wr w.heap.size (fun _ => True) u107002 x107002_2) := ⟨by rw [← hq_]; exact (uR HO_107002)⟩; have n1_ : Aside0 (wr.heap[gb101]? = some (.cells #[.int .i64 a0_0, .int .i64 a0_1] 25 (0, 0))) := ⟨by rw [← hq_]; exact (uP BK101)⟩; have n2_ : Aside0 (wr.heap[gb102]? = some (.cells #[.int .i64 0, .int .i64 0, .slice none 0 0] 28 (0, 0))) := ⟨by rw [← hq_]; exact (uP BK102)⟩; have n3_ : Aside0 (wr.heap[gb106]? = some (.cells #[.int .i64 a0_0, .int .i64 a0_1, u107002] 28 (0, 0))) := ⟨by rw [← hq_]; exact (uP BK106)⟩; have n4_ : Aside0 (Below w.heap.size w wr) := ⟨by rw [← hq_]; exact uW⟩; clear HO_107002 BK101 BK102 BK106 HB hq_; have HO_107002 := n0_; have BK101 := n1_; have BK102 := n2_; have BK106 := n3_; have HB := n4_; clear n0_ n1_ n2_ n3_ n4_))))
        replace HO_107002 := am (Kd.R_drew HO_107002.out)
        replace BK101 := am (blk_drew BK101.out)
        replace BK102 := am (blk_drew BK102.out)
        replace BK106 := am (blk_drew BK106.out)
        replace HB := am (below_drew1 HB.out)
        refine start_ (n := 11) (S := fun w' => w'.cell? ⟨gb106, 0, none⟩ = some (.int .i64 a0_0) ∧ w'.cell? ⟨gb106, 1, none⟩ = some (.int .i64 a0_1) ∧ w'.cell? ⟨gb106, 2, none⟩ = some (u107002) ∧ w'.cell? ⟨gb101, 0, none⟩ = some (.int .i64 a0_0) ∧ w'.cell? ⟨gb101, 1, none⟩ = some (.int .i64 a0_1)) (ds := [10]) #[false, false, false, false, false, false, false, false, false, false, false] (by kernel_rfl) rfl rfl ⟨uT BK106 0, uT BK106 1, uT BK106 2, uT BK101 0, uT BK101 1⟩ (fun hHeld => ?_); refine with_tabW spec_MakePuzzle.tab10 spec_MakePuzzle.bits10 (fun HT_ HW_ => ?_)
        generalize wr.drew = w36 at HO_107002 BK101 BK102 BK106 HB hHeld ⊢
        refine uPu (i := 0) (N := some 41) #[true, false, false, false, false, false, false, false, false, false, false] ?_
        refine uPu (i := 3) (N := some 44) #[true, false, false, true, false, false, false, false, false, false, false] ?_
        refine uPu (i := 4) (N := some 45) #[true, false, false, true, true, false, false, false, false, false, false] ?_
        refine uPu (i := 5) (N := some 46) #[true, false, false, true, true, true, false, false, false, false, false] ?_
        refine uTk (i := 1) (N := some 42) #[true, true, false, true, true, true, false, false, false, false, false] hHeld ?_
        refine uTk (i := 2) (N := some 43) #[true, true, true, true, true, true, false, false, false, false, false] hHeld ?_
        refine uOn (i := 6) (N := some 47) #[true, true, true, true, true, true, true, false, false, false, false] (fun K hK => ?_)
        refine uGs Tryz.func107 #[.agg #[.int .i64 a0_0, .int .i64 a0_1], .int .i64 (Int.tmod t107 6), .int .i64 t108, .int .i64 a1] ?_
        with_reducible refine (spec_pzOf.calls a0_0 a0_1 (Int.tmod t107 6) t108 a1 t109 t110 t111 _ A34.out).mono ?_
        rintro e w37 ⟨rfl, hb⟩
        refine ⟨_, rfl, ?_⟩
        replace HO_107002 := am (Kd.R_below (uR HO_107002) hb)
        replace BK101 := uB BK101 hb
        replace BK102 := uB BK102 hb
        replace BK106 := uB BK106 hb
        replace HB := uS hb
        (try clear hb)
        (skip)
        (skip)
        (skip)
        refine hK.out _ _ ⟨uT BK106 0, uT BK106 1, uT BK106 2, uT BK101 0, uT BK101 1⟩ (fun hHeld => ?_)
        clear hK K
        refine uNo (some 47) ?_
        refine uOn (i := 7) (N := some 48) #[true, true, true, true, true, true, true, true, false, false, false] (fun K hK => ?_)
        refine value_ (w1 := ?_) (v := ?_) (by rfl) rfl ?_ ?_
        rotate_left 2
        ·go_simp
         constructor
         ·rfl
         ·rfl
        refine hK.out _ _ ⟨(blk_cell (blk_alloc BK106.out _) 0).trans rfl, (blk_cell (blk_alloc BK106.out _) 1).trans rfl, (blk_cell (blk_alloc BK106.out _) 2).trans rfl, (blk_cell (blk_alloc BK101.out _) 0).trans rfl, (blk_cell (blk_alloc BK101.out _) 1).trans rfl⟩ (fun hHeld => ?_)
        clear hK K
        refine uNo (some 48) ?_
        refine uOn (i := 8) (N := some 49) #[true, true, true, true, true, true, true, true, true, false, false] (fun K hK => ?_)
        refine Kd.R_append_step k46 (w0 := w) w.heap.size (by rfl) (.tmp 42) (.tmp 48) 26 46 (.agg #[(.int .i64 0), (.int .i64 0), (.int .i64 0)]) 24 rfl Tryz.underlying26 info46 rfl (by decide) (by omega) u107002 x107002_2 (⟨t109, t110, t111⟩ : S46) [.int .i64 t109, .int .i64 t110, .int .i64 t111] (fun _ => True) (fun _ => False) rfl rfl ?aP (fun _ hk => hk.elim) ?aF ?aO ?aB ?aS ?aL ?_
        (case aP => exact k46_mkM _ _ _ (⟨t109, t110, t111⟩ : S46))
        (case aB => exact uW)
        (case aF => exact (fun _ _ => trivial))
        (case aO => exact (uR HO_107002))
        (case aS => exact (below_size uW))
        (case aL => have := LMc35.out; omega)
        intro v113 w38 ho hb hg hat
        rw [← Ny112.out] at ho
        have HO114 := am (ho)
        replace BK101 := am (blk_grown (uP BK101) hg (Kd.R_ne HO_107002.out BK101.out (by decide)))
        replace BK102 := am (blk_grown (uP BK102) hg (Kd.R_ne HO_107002.out BK102.out (by decide)))
        replace BK106 := am (blk_grown (uP BK106) hg (Kd.R_ne HO_107002.out BK106.out (by decide)))
        replace HB := am (hb)
        clear HO_107002
        clear ho hb hg hat
        obtain ⟨Ao39, co39, eo39⟩ := Kd.R_slice HO114.out
        (subst eo39)
        refine hK.out _ _ ⟨uT BK106 0, uT BK106 1, uT BK106 2, uT BK101 0, uT BK101 1⟩ (fun hHeld => ?_)
        clear hK K
        refine uNo (some 49) ?_
        refine uPu (i := 9) (N := some 50) #[true, true, true, true, true, true, true, true, true, true, false] ?_
        refine last_ (i := 10) (N := none) #[true, true, true, true, true, true, true, true, true, true, true] rfl rfl (one_of HT_.out (by kernel_rfl)) (by decide) (fun K hK => ?_)
        have hs40 : w38.cell? ⟨gb106, 2, none⟩ = some (u107002) := uT BK106 2
        have hfs40 := blk_frozen BK106.out 2
        have hns40_0 := NB101_106.out
        have hns40_1 := NB102_106.out
        have hms40_0 := NB106_101.out
        have hms40_1 := NB106_102.out
        refine skip_ (w1 := ?_) (by rfl) rfl ?_ ?_
        rotate_left
        ·go_simp
         rfl
        refine hK.out _ _ ?_
        clear hK K
        refine done_ (done_of HT_.out (by kernel_rfl)) ?_
        try go_wp2
        go_roundg k2
        case measure => have := HJ4.out; have := HK2.out; omega
        case rel => exact ⟨(wrap64 (x2_2 - 1)), (t108), (y112), (.slice Ao39 y112.length co39), (by rfl), (by rfl), H', ⟨by have := HJ4.out; have := HK2.out; omega⟩, ⟨by (with_reducible skip); exact Kd.R_mono (Kd.R_far (p := ⟨gb106, 2, none⟩) (Kd.R_types HO114.out BK106.out (by decide)) (fun _ hk => hk.2) (.slice Ao39 y112.length co39)) (fun _ hk => trivial)⟩, ⟨by refine blk_far ?_ NB101_106.out _; exact (uP BK101)⟩, ⟨by refine blk_far ?_ NB102_106.out _; exact (uP BK102)⟩, ⟨by refine blk_put (cs := #[.int .i64 a0_0, .int .i64 a0_1, u107002]) ?_ 2 _ rfl; exact (uP BK106)⟩, ⟨by exact uW⟩⟩
       ·rw [if_neg c35] at H
        exact absurd H (by simp)
      ·rw [if_neg c31] at H
       have c31b0 : decide (0 < x2_2) = false := decide_eq_false c31
       clear c31
       simp only [Option.some.injEq, Prod.mk.injEq] at H
       obtain ⟨rfl, rfl, rfl, rfl⟩ := H
       have hnb41 := NB106_101.out
       have hnc41 := NB101_106.out
       have hnb42 := NB106_102.out
       have hnc42 := NB102_106.out
       obtain ⟨hcz43_0, hcz43_1, hcz43_2, hfz43_0, hfz43_1, hfz43_2⟩ := uZ3 BK106
       have hnb44 := NB102_101.out
       have hnc44 := NB101_102.out
       obtain ⟨hcz45_0, hcz45_1, hcz45_2, hfz45_0, hfz45_1, hfz45_2⟩ := uZ3 BK102
       obtain ⟨Ao46, co46, eo46⟩ := Kd.R_slice HO_107002.out
       subst eo46
       go_wp2
       refine bodyPost_ret (results_ct rfl _ _ gb102 28 #[.int .i64 a0_0, .int .i64 a0_1, .slice Ao46 x107002_2.length co46] (0, 0) _ rfl (by refine blk_put (cs := #[.int .i64 a0_0, .int .i64 a0_1, .slice none 0 0]) ?_ 2 _ rfl; refine blk_put (cs := #[.int .i64 a0_0, .int .i64 0, .slice none 0 0]) ?_ 1 _ rfl; refine blk_put (cs := #[.int .i64 0, .int .i64 0, .slice none 0 0]) ?_ 0 _ rfl; exact (uP BK102)) Tryz.underlying28 rfl (by kernel_rfl)) rfl ?_
       exact ⟨_, uA, by (with_reducible skip); exact Kd.R_mono (Kd.R_far (p := ⟨gb102, 2, none⟩) (Kd.R_far (p := ⟨gb102, 1, none⟩) (Kd.R_far (p := ⟨gb102, 0, none⟩) (Kd.R_types HO_107002.out BK102.out (by decide)) (fun _ hk => hk.2) (.int .i64 a0_0)) (fun _ hk => hk.2) (.int .i64 a0_1)) (fun _ hk => hk.2) (.slice Ao46 x107002_2.length co46)) (fun _ hk => trivial), by exact uW⟩
def spec_l1Cur_surePuzzle.f (k : Nat) (s0_0 : List Int) (s0_1 : Int) (s0_2 : Int) (a1 : Int) : Option (Int × Int × (List (S46)) × Int × Int) := (spec_l1Cur_hidden.f s0_0 s0_1 s0_2).bind fun bt102 => ((spec_l1Cur_pick.f s0_0 bt102.2.2.2.1 bt102.2.2.2.2 (wrap64 (a1 + 1))).bind fun bt108 => ((spec_l1Cur_pick.f s0_0 bt108.2.1 bt108.2.2 10000).bind fun bt111 => ((spec_MakePuzzle.f k bt102.1 bt102.2.1 bt102.2.2.1 bt108.1 bt111.1).bind fun bt114 => (some (bt114.1, bt114.2.1, bt114.2.2.1, bt111.2.1, bt111.2.2)))))
def spec_l1Cur_surePuzzle.T2 : Bool × List (List Nat × List Nat) := (true, [([], []), ([], []), ([], []), ([], []), ([3], [3]), ([2, 4], [2, 4]), ([], []), ([6, 5], [6]), ([0, 1, 5, 7, 7], [0, 1, 5, 7]), ([8], [8]), ([9], [9]), ([9], [9]), ([], []), ([12, 10, 8, 0, 1, 2, 3, 4, 5, 6, 7, 8, 9, 10, 12], [10, 12]), ([11, 13, 0, 1, 2, 3, 4, 5, 6, 7, 8, 9, 10, 11, 12, 13], [11])])
def spec_l1Cur_surePuzzle.B2 : List Nat := [0, 0, 0, 0, 8, 28, 0, 124, 255, 511, 1023, 1023, 0, 6143, 16383]
theorem spec_l1Cur_surePuzzle.tab2 : rtab .any (opsOf Tryz.f58 2) = spec_l1Cur_surePuzzle.T2 := by kernel_rfl
theorem spec_l1Cur_surePuzzle.bits2 : waitsOk spec_l1Cur_surePuzzle.T2.2 spec_l1Cur_surePuzzle.B2 = true := by kernel_rfl
theorem spec_l1Cur_surePuzzle.calls (k : Nat) (g : Nat) (s0_0 : List Int) (s0_1 : Int) (s0_2 : Int) (a1 : Int) (r1 : Int) (r2 : Int) (r3 : List (S46)) (r4 : Int) (r5 : Int) (w0 w : World) (hI : IsS75 w0 w g s0_0 s0_1 s0_2) (hB : Below w0.heap.size w0 w) (h : spec_l1Cur_surePuzzle.f k s0_0 s0_1 s0_2 a1 = some (r1, r2, r3, r4, r5)) :
  Calls Tryz.prog 58 #[.pointer (some ⟨g, 0, none⟩), .int .i64 a1] w fun e w' => ∃ v2_ : Value, e = .returned (.agg #[.int .i64 r1, .int .i64 r2, v2_]) ∧ Kd.R k46 46 w' w.heap.size (fun _ => True) v2_ r3 ∧ IsS75 w0 w' g s0_0 r4 r5 ∧ Below w0.heap.size w0 w' ∧ KeepBut w w' g none := by
 have hu28 := Tryz.underlying28
 have hu25 := Tryz.underlying25
 have HI0 := am hI
 have HK := am (KeepBut.refl w g none)
 have HL := am hB.size
 clear hI
 have HW0 := am hB.size
 have HB := am hB
 clear hB
 have H := h
 clear h
 unfold spec_l1Cur_surePuzzle.f at H
 obtain ⟨⟨t102, t103, t104, t105, t106⟩, A30, H⟩ := bH H
 dsimp only at H
 have A3 := am A30
 clear A30
 obtain ⟨⟨t108, t109, t110⟩, A40, H⟩ := bH H
 dsimp only at H
 have A4 := am A40
 clear A40
 obtain ⟨⟨t111, t112, t113⟩, A50, H⟩ := bH H
 dsimp only at H
 have A5 := am A50
 clear A50
 obtain ⟨⟨t114, t115, t116, t119⟩, A60, H⟩ := bH H
 dsimp only at H
 have A6 := am A60
 clear A60
 simp only [Option.some.injEq, Prod.mk.injEq] at H
 obtain ⟨rfl, rfl, rfl, rfl, rfl⟩ := H
 go_enter Tryz.func58, Tryz.ntmps58
 try go_wp2_with (first | ((with_reducible refine gate_dst (N := 4) rfl ?_); refine uX (N := 4) (cs := #[.int .i64 0, .int .i64 0, .slice none 0 0]) (t := 28) ?_; intro gb101 hg w7 hbox hb; have BK101 := am (hbox); have GW101 := am ((by rw [hg]; exact (keep_size (w := w) (g := g) (row := none) uV) : w.heap.size ≤ gb101)); have GE101 := am ((Nat.le_trans HW0.out (by rw [hg]; exact (keep_size (w := w) (g := g) (row := none) uV) : w.heap.size ≤ gb101) : w0.heap.size ≤ gb101)); have NB0_101 := am ((by rw [hg]; exact Nat.ne_of_lt (IsS75.lt (show IsS75 w0 _ g s0_0 s0_1 s0_2 from by exact uI)) : g ≠ gb101)); have NB101_0 := am ((by rw [hg]; exact Nat.ne_of_gt (IsS75.lt (show IsS75 w0 _ g s0_0 s0_1 s0_2 from by exact uI)) : gb101 ≠ g)); replace HI0 := am (IsS75.below uI hb); replace HK := am (KeepBut.trans uV (KeepBut.of_below hb g none) (.inl rfl)); replace HB := uS hb; clear hb hbox hg) | ((with_reducible refine gate_callee (f := 81) rfl ?_); refine uGo (some 11) Tryz.func81 #[.pointer (some ⟨g, 0, none⟩)] ?_; (with_reducible refine (spec_l1Cur_hidden.calls g s0_0 s0_1 s0_2 t102 t103 t104 t105 t106 w0 _ ?side1 ?side2 A3.out).mono ?_); (case side1 => exact uI); (case side2 => exact uW); rintro e w8 ⟨rfl, hi, hb, hk⟩; refine ⟨_, rfl, ?_⟩; replace BK101 := am (KeepBut.blk hk (uP BK101) NB101_0.out (by simp)); replace HK := am (KeepBut.trans uV hk (.inl rfl)); replace HB := am (hb); replace HI0 := am (hi); (try clear hb); (try clear hk); (try clear hi)) | ((with_reducible refine gate_dst (N := 5) rfl ?_); refine uX (N := 5) (cs := #[.int .i64 0, .int .i64 0]) (t := 25) ?_; intro gb107 hg w9 hbox hb; have BK107 := am (hbox); have GW107 := am ((by rw [hg]; exact (keep_size (w := w) (g := g) (row := none) uV) : w.heap.size ≤ gb107)); have GE107 := am ((Nat.le_trans HW0.out (by rw [hg]; exact (keep_size (w := w) (g := g) (row := none) uV) : w.heap.size ≤ gb107) : w0.heap.size ≤ gb107)); have NB101_107 := uL BK101 hg; have NB107_101 := uY NB101_107; have NB0_107 := am ((by rw [hg]; exact Nat.ne_of_lt (IsS75.lt (show IsS75 w0 _ g s0_0 t105 t106 from by exact uI)) : g ≠ gb107)); have NB107_0 := am ((by rw [hg]; exact Nat.ne_of_gt (IsS75.lt (show IsS75 w0 _ g s0_0 t105 t106 from by exact uI)) : gb107 ≠ g)); replace HI0 := am (IsS75.below uI hb); replace BK101 := uB BK101 hb; replace HK := am (KeepBut.trans uV (KeepBut.of_below hb g none) (.inl rfl)); replace HB := uS hb; clear hb hbox hg; have hnb10 := NB107_101.out; have hnc10 := NB101_107.out; have hnb11 := NB107_0.out; have hnc11 := NB0_107.out; obtain ⟨hcz12_0, hcz12_1, hfz12_0, hfz12_1⟩ := uZ2 BK107))
 have n0_ : Aside0 (((w9.setCell ⟨gb107, 0, none⟩ (.int .i64 t102)).setCell ⟨gb107, 1, none⟩ (.int .i64 t103)).heap[gb101]? = some (.cells #[.int .i64 0, .int .i64 0, .slice none 0 0] 28 (0, 0))) := ⟨by refine blk_far ?_ NB101_107.out _; refine blk_far ?_ NB101_107.out _; exact (uP BK101)⟩
 have n1_ : Aside0 (((w9.setCell ⟨gb107, 0, none⟩ (.int .i64 t102)).setCell ⟨gb107, 1, none⟩ (.int .i64 t103)).heap[gb107]? = some (.cells #[.int .i64 t102, .int .i64 t103] 25 (0, 0))) := ⟨by refine blk_put (cs := #[.int .i64 t102, .int .i64 0]) ?_ 1 _ rfl; refine blk_put (cs := #[.int .i64 0, .int .i64 0]) ?_ 0 _ rfl; exact (uP BK107)⟩
 have n2_ : Aside0 (IsS75 w0 ((w9.setCell ⟨gb107, 0, none⟩ (.int .i64 t102)).setCell ⟨gb107, 1, none⟩ (.int .i64 t103)) g s0_0 t105 t106) := ⟨by exact uI⟩
 have n3_ : Aside0 (KeepBut w ((w9.setCell ⟨gb107, 0, none⟩ (.int .i64 t102)).setCell ⟨gb107, 1, none⟩ (.int .i64 t103)) g none) := ⟨by exact uV⟩
 have n4_ : Aside0 (Below w0.heap.size w0 ((w9.setCell ⟨gb107, 0, none⟩ (.int .i64 t102)).setCell ⟨gb107, 1, none⟩ (.int .i64 t103))) := ⟨by exact uW⟩
 (try clear BK101)
 (try clear BK107)
 (try clear HI0)
 (try clear HK)
 (try clear HB)
 generalize ((w9.setCell ⟨gb107, 0, none⟩ (.int .i64 t102)).setCell ⟨gb107, 1, none⟩ (.int .i64 t103)) = w13 at n0_ n1_ n2_ n3_ n4_ ⊢
 have BK101 := n0_
 have BK107 := n1_
 have HI0 := n2_
 have HK := n3_
 have HB := n4_
 clear n0_ n1_ n2_ n3_ n4_
 replace BK101 := am (blk_drew BK101.out)
 replace BK107 := am (blk_drew BK107.out)
 replace HI0 := am (IsS75.drew HI0.out)
 replace HK := am (keep_drew HK.out)
 replace HB := am (below_drew1 HB.out)
 refine start_ (n := 15) (S := fun w' => w'.cell? ⟨gb107, 0, none⟩ = some (.int .i64 t102) ∧ w'.cell? ⟨gb107, 1, none⟩ = some (.int .i64 t103)) (ds := []) #[false, false, false, false, false, false, false, false, false, false, false, false, false, false, false] (by kernel_rfl) rfl rfl ⟨uT BK107 0, uT BK107 1⟩ (fun hHeld => ?_); refine with_tabW spec_l1Cur_surePuzzle.tab2 spec_l1Cur_surePuzzle.bits2 (fun HT_ HW_ => ?_)
 generalize w13.drew = w14 at BK101 BK107 HI0 HK HB hHeld ⊢
 refine uPu (i := 1) (N := some 16) #[false, true, false, false, false, false, false, false, false, false, false, false, false, false, false] ?_
 refine uPu (i := 2) (N := some 17) #[false, true, true, false, false, false, false, false, false, false, false, false, false, false, false] ?_
 refine uPu (i := 3) (N := some 18) #[false, true, true, true, false, false, false, false, false, false, false, false, false, false, false] ?_
 refine uPu (i := 4) (N := some 19) #[false, true, true, true, true, false, false, false, false, false, false, false, false, false, false] ?_
 refine uPu (i := 6) (N := some 21) #[false, true, true, true, true, false, true, false, false, false, false, false, false, false, false] ?_
 refine uTk (i := 0) (N := some 15) #[true, true, true, true, true, false, true, false, false, false, false, false, false, false, false] hHeld ?_
 refine join_ (σ := Value × Nat) 2 #[true, true, true, true, true, true, true, true, true, true, true, true, true, false, false] (fun s_ => [(20, .int .i64 t108), (22, .int .i64 t111), (23, .tuple #[.agg #[.int .i64 t114, .int .i64 t115, s_.1], .bool t119]), (7, .pointer (some ⟨s_.2, 0, none⟩)), (14, .tuple #[.agg #[.int .i64 t114, .int .i64 t115, s_.1], .bool t119]), (24, .agg #[.int .i64 t114, .int .i64 t115, s_.1]), (25, .bool t119)]) (fun s_ w' => (w'.cell? ⟨gb107, 0, none⟩ = some (.int .i64 t102) ∧ w'.cell? ⟨gb107, 1, none⟩ = some (.int .i64 t103)) ∧ (Kd.R k46 46 w' w.heap.size (fun _ => True) s_.1 t116) ∧ (w'.heap[gb101]? = some (.cells #[.int .i64 0, .int .i64 0, .slice none 0 0] 28 (0, 0))) ∧ (w'.heap[gb107]? = some (.cells #[.int .i64 t102, .int .i64 t103] 25 (0, 0))) ∧ (w'.heap[s_.2]? = some (.cells #[.int .i64 0, .int .i64 0, .slice none 0 0] 28 (0, 0))) ∧ (w.heap.size ≤ s_.2) ∧ (w0.heap.size ≤ s_.2) ∧ (g ≠ s_.2) ∧ (s_.2 ≠ g) ∧ (gb101 ≠ s_.2) ∧ (s_.2 ≠ gb101) ∧ (gb107 ≠ s_.2) ∧ (s_.2 ≠ gb107) ∧ (IsS75 w0 w' g s0_0 t112 t113) ∧ (KeepBut w w' g none) ∧ (Below w0.heap.size w0 w')) ?_ ?_
 rotate_left
 ·intro hCont
  refine two_ (i := 5) (j := 12) (Ni := some 20) (Nj := some 7) #[true, true, true, true, true, true, true, false, false, false, false, false, false, false, false] #[true, true, true, true, true, false, true, false, false, false, false, false, true, false, false] rfl rfl rfl rfl (two_of HT_.out (by kernel_rfl)) (by decide) (by decide) (fun K hK => ?_) (fun K hK => ?_)
  ·skip
   refine uGs Tryz.func83 #[.pointer (some ⟨g, 0, none⟩), .int .i64 (wrap64 (a1 + 1))] ?_
   with_reducible refine (spec_l1Cur_pick.calls g s0_0 t105 t106 (wrap64 (a1 + 1)) t108 t109 t110 w0 _ ?side1 ?side2 A4.out).mono ?_
   (case side1 => exact uI)
   (case side2 => exact uW)
   rintro e w15 ⟨rfl, hi, hb, hk⟩
   refine ⟨_, rfl, ?_⟩
   replace BK101 := am (KeepBut.blk hk (uP BK101) NB101_0.out (by simp))
   replace BK107 := am (KeepBut.blk hk (uP BK107) NB107_0.out (by simp))
   replace HK := am (KeepBut.trans uV hk (.inl rfl))
   replace HB := am (hb)
   replace HI0 := am (hi)
   (try clear hb)
   (skip)
   (try clear hk)
   (try clear hi)
   refine hK.out _ _ ⟨uT BK107 0, uT BK107 1⟩ (fun hHeld => ?_)
   clear hK K
   refine uNo (some 20) ?_
   refine two_ (i := 7) (j := 12) (Ni := some 22) (Nj := some 7) #[true, true, true, true, true, true, true, true, false, false, false, false, false, false, false] #[true, true, true, true, true, true, true, false, false, false, false, false, true, false, false] rfl rfl rfl rfl (two_of HT_.out (by kernel_rfl)) (by decide) (by decide) (fun K hK => ?_) (fun K hK => ?_)
   ·skip
    refine uGs Tryz.func83 #[.pointer (some ⟨g, 0, none⟩), .int .i64 10000] ?_
    with_reducible refine (spec_l1Cur_pick.calls g s0_0 t109 t110 10000 t111 t112 t113 w0 _ ?side1 ?side2 A5.out).mono ?_
    (case side1 => exact uI)
    (case side2 => exact uW)
    rintro e w16 ⟨rfl, hi, hb, hk⟩
    refine ⟨_, rfl, ?_⟩
    replace BK101 := am (KeepBut.blk hk (uP BK101) NB101_0.out (by simp))
    replace BK107 := am (KeepBut.blk hk (uP BK107) NB107_0.out (by simp))
    replace HK := am (KeepBut.trans uV hk (.inl rfl))
    replace HB := am (hb)
    replace HI0 := am (hi)
    (try clear hb)
    (skip)
    (try clear hk)
    (try clear hi)
    refine hK.out _ _ ⟨uT BK107 0, uT BK107 1⟩ (fun hHeld => ?_)
    clear hK K
    refine uNo (some 22) ?_
    refine two_ (i := 8) (j := 12) (Ni := some 23) (Nj := some 7) #[true, true, true, true, true, true, true, true, true, false, false, false, false, false, false] #[true, true, true, true, true, true, true, true, false, false, false, false, true, false, false] rfl rfl rfl rfl (two_of HT_.out (by kernel_rfl)) (by decide) (by decide) (fun K hK => ?_) (fun K hK => ?_)
    ·skip
     refine uGs Tryz.func82 #[.agg #[.int .i64 t102, .int .i64 t103], .int .i64 t104, .int .i64 t108, .int .i64 t111] ?_
     with_reducible refine (spec_MakePuzzle.calls k t102 t103 t104 t108 t111 t114 t115 t116 t119 _ A6.out).mono ?_
     rintro e w17 ⟨v117, rfl, ho0, hb⟩
     refine ⟨_, rfl, ?_⟩
     have HO118 := am (Kd.R_lower ho0 (keep_size (w := w) (g := g) (row := none) uV))
     replace HI0 := am (IsS75.below uI hb)
     replace BK101 := uB BK101 hb
     replace BK107 := uB BK107 hb
     replace HK := am (KeepBut.trans uV (KeepBut.of_below hb g none) (.inl rfl))
     replace HB := uS hb
     (try clear hb)
     (skip)
     (skip)
     (skip)
     (try clear ho0)
     refine hK.out _ _ ⟨uT BK107 0, uT BK107 1⟩ (fun hHeld => ?_)
     clear hK K
     refine uNo (some 23) ?_
     refine uPu (i := 9) (N := some 14) #[true, true, true, true, true, true, true, true, true, true, false, false, false, false, false] ?_
     refine uPu (i := 10) (N := some 24) #[true, true, true, true, true, true, true, true, true, true, true, false, false, false, false] ?_
     refine uPu (i := 11) (N := some 25) #[true, true, true, true, true, true, true, true, true, true, true, true, false, false, false] ?_
     refine uOn (i := 12) (N := some 7) #[true, true, true, true, true, true, true, true, true, true, true, true, true, false, false] (fun K hK => ?_)
     refine box_step ?hg (N := 7) ?hd (cs := #[.int .i64 0, .int .i64 0, .slice none 0 0]) (t := 28) ?hr ?_; (case hd => rfl); (case hg => rfl); (case hr => (go_simp; done))
     intro gb120 hg w18 hbox hb
     have BK120 := am (hbox)
     have GW120 := am ((by rw [hg]; exact (keep_size (w := w) (g := g) (row := none) uV) : w.heap.size ≤ gb120))
     have GE120 := am ((Nat.le_trans HW0.out (by rw [hg]; exact (keep_size (w := w) (g := g) (row := none) uV) : w.heap.size ≤ gb120) : w0.heap.size ≤ gb120))
     have NB101_120 := uL BK101 hg
     have NB120_101 := uY NB101_120
     have NB107_120 := uL BK107 hg
     have NB120_107 := uY NB107_120
     have NB0_120 := am ((by rw [hg]; exact Nat.ne_of_lt (IsS75.lt (show IsS75 w0 _ g s0_0 t112 t113 from by exact uI)) : g ≠ gb120))
     have NB120_0 := am ((by rw [hg]; exact Nat.ne_of_gt (IsS75.lt (show IsS75 w0 _ g s0_0 t112 t113 from by exact uI)) : gb120 ≠ g))
     replace HO118 := am (Kd.R_below (uR HO118) hb)
     replace HI0 := am (IsS75.below uI hb)
     replace BK101 := uB BK101 hb
     replace BK107 := uB BK107 hb
     replace HK := am (KeepBut.trans uV (KeepBut.of_below hb g none) (.inl rfl))
     replace HB := uS hb
     clear hb hbox hg
     refine hK.out _ _ ⟨uT BK107 0, uT BK107 1⟩ (fun hHeld => ?_)
     clear hK K
     refine uNo (some 7) ?_
     exact norm_ (by simp only [putAll, Act.put, List.setIfInBounds_toArray, List.set_cons_zero, List.set_cons_succ]) (hCont (v117, gb120) _ ⟨hHeld, (uR HO118), (uP BK101), (uP BK107), (uP BK120), GW120.out, GE120.out, NB0_120.out, NB120_0.out, NB101_120.out, NB120_101.out, NB107_120.out, NB120_107.out, uI, uV, uW⟩)
    ·skip
     refine box_step ?hg (N := 7) ?hd (cs := #[.int .i64 0, .int .i64 0, .slice none 0 0]) (t := 28) ?hr ?_; (case hd => rfl); (case hg => rfl); (case hr => (go_simp; done))
     intro gb120 hg w17 hbox hb
     have BK120 := am (hbox)
     have GW120 := am ((by rw [hg]; exact (keep_size (w := w) (g := g) (row := none) uV) : w.heap.size ≤ gb120))
     have GE120 := am ((Nat.le_trans HW0.out (by rw [hg]; exact (keep_size (w := w) (g := g) (row := none) uV) : w.heap.size ≤ gb120) : w0.heap.size ≤ gb120))
     have NB101_120 := uL BK101 hg
     have NB120_101 := uY NB101_120
     have NB107_120 := uL BK107 hg
     have NB120_107 := uY NB107_120
     have NB0_120 := am ((by rw [hg]; exact Nat.ne_of_lt (IsS75.lt (show IsS75 w0 _ g s0_0 t112 t113 from by exact uI)) : g ≠ gb120))
     have NB120_0 := am ((by rw [hg]; exact Nat.ne_of_gt (IsS75.lt (show IsS75 w0 _ g s0_0 t112 t113 from by exact uI)) : gb120 ≠ g))
     replace HI0 := am (IsS75.below uI hb)
     replace BK101 := uB BK101 hb
     replace BK107 := uB BK107 hb
     replace HK := am (KeepBut.trans uV (KeepBut.of_below hb g none) (.inl rfl))
     replace HB := uS hb
     clear hb hbox hg
     refine hK.out _ _ ⟨uT BK107 0, uT BK107 1⟩ (fun hHeld => ?_)
     clear hK K
     refine uNo (some 7) ?_
     refine uOn (i := 8) (N := some 23) #[true, true, true, true, true, true, true, true, true, false, false, false, true, false, false] (fun K hK => ?_)
     refine uGs Tryz.func82 #[.agg #[.int .i64 t102, .int .i64 t103], .int .i64 t104, .int .i64 t108, .int .i64 t111] ?_
     with_reducible refine (spec_MakePuzzle.calls k t102 t103 t104 t108 t111 t114 t115 t116 t119 _ A6.out).mono ?_
     rintro e w18 ⟨v117, rfl, ho0, hb⟩
     refine ⟨_, rfl, ?_⟩
     have HO118 := am (Kd.R_lower ho0 (keep_size (w := w) (g := g) (row := none) uV))
     replace HI0 := am (IsS75.below uI hb)
     replace BK101 := uB BK101 hb
     replace BK107 := uB BK107 hb
     replace BK120 := uB BK120 hb
     replace HK := am (KeepBut.trans uV (KeepBut.of_below hb g none) (.inl rfl))
     replace HB := uS hb
     (try clear hb)
     (skip)
     (skip)
     (skip)
     (try clear ho0)
     refine hK.out _ _ ⟨uT BK107 0, uT BK107 1⟩ (fun hHeld => ?_)
     clear hK K
     refine uNo (some 23) ?_
     refine uPu (i := 9) (N := some 14) #[true, true, true, true, true, true, true, true, true, true, false, false, true, false, false] ?_
     refine uPu (i := 10) (N := some 24) #[true, true, true, true, true, true, true, true, true, true, true, false, true, false, false] ?_
     refine uPu (i := 11) (N := some 25) #[true, true, true, true, true, true, true, true, true, true, true, true, true, false, false] ?_
     exact norm_ (by simp only [putAll, Act.put, List.setIfInBounds_toArray, List.set_cons_zero, List.set_cons_succ]) (hCont (v117, gb120) _ ⟨hHeld, (uR HO118), (uP BK101), (uP BK107), (uP BK120), GW120.out, GE120.out, NB0_120.out, NB120_0.out, NB101_120.out, NB120_101.out, NB107_120.out, NB120_107.out, uI, uV, uW⟩)
   ·skip
    refine box_step ?hg (N := 7) ?hd (cs := #[.int .i64 0, .int .i64 0, .slice none 0 0]) (t := 28) ?hr ?_; (case hd => rfl); (case hg => rfl); (case hr => (go_simp; done))
    intro gb120 hg w16 hbox hb
    have BK120 := am (hbox)
    have GW120 := am ((by rw [hg]; exact (keep_size (w := w) (g := g) (row := none) uV) : w.heap.size ≤ gb120))
    have GE120 := am ((Nat.le_trans HW0.out (by rw [hg]; exact (keep_size (w := w) (g := g) (row := none) uV) : w.heap.size ≤ gb120) : w0.heap.size ≤ gb120))
    have NB101_120 := uL BK101 hg
    have NB120_101 := uY NB101_120
    have NB107_120 := uL BK107 hg
    have NB120_107 := uY NB107_120
    have NB0_120 := am ((by rw [hg]; exact Nat.ne_of_lt (IsS75.lt (show IsS75 w0 _ g s0_0 t109 t110 from by exact uI)) : g ≠ gb120))
    have NB120_0 := am ((by rw [hg]; exact Nat.ne_of_gt (IsS75.lt (show IsS75 w0 _ g s0_0 t109 t110 from by exact uI)) : gb120 ≠ g))
    replace HI0 := am (IsS75.below uI hb)
    replace BK101 := uB BK101 hb
    replace BK107 := uB BK107 hb
    replace HK := am (KeepBut.trans uV (KeepBut.of_below hb g none) (.inl rfl))
    replace HB := uS hb
    clear hb hbox hg
    refine hK.out _ _ ⟨uT BK107 0, uT BK107 1⟩ (fun hHeld => ?_)
    clear hK K
    refine uNo (some 7) ?_
    refine uOn (i := 7) (N := some 22) #[true, true, true, true, true, true, true, true, false, false, false, false, true, false, false] (fun K hK => ?_)
    refine uGs Tryz.func83 #[.pointer (some ⟨g, 0, none⟩), .int .i64 10000] ?_
    with_reducible refine (spec_l1Cur_pick.calls g s0_0 t109 t110 10000 t111 t112 t113 w0 _ ?side1 ?side2 A5.out).mono ?_
    (case side1 => exact uI)
    (case side2 => exact uW)
    rintro e w17 ⟨rfl, hi, hb, hk⟩
    refine ⟨_, rfl, ?_⟩
    replace BK101 := am (KeepBut.blk hk (uP BK101) NB101_0.out (by simp))
    replace BK107 := am (KeepBut.blk hk (uP BK107) NB107_0.out (by simp))
    replace BK120 := am (KeepBut.blk hk (uP BK120) NB120_0.out (by simp))
    replace HK := am (KeepBut.trans uV hk (.inl rfl))
    replace HB := am (hb)
    replace HI0 := am (hi)
    (try clear hb)
    (skip)
    (try clear hk)
    (try clear hi)
    refine hK.out _ _ ⟨uT BK107 0, uT BK107 1⟩ (fun hHeld => ?_)
    clear hK K
    refine uNo (some 22) ?_
    refine uOn (i := 8) (N := some 23) #[true, true, true, true, true, true, true, true, true, false, false, false, true, false, false] (fun K hK => ?_)
    refine uGs Tryz.func82 #[.agg #[.int .i64 t102, .int .i64 t103], .int .i64 t104, .int .i64 t108, .int .i64 t111] ?_
    with_reducible refine (spec_MakePuzzle.calls k t102 t103 t104 t108 t111 t114 t115 t116 t119 _ A6.out).mono ?_
    rintro e w18 ⟨v117, rfl, ho0, hb⟩
    refine ⟨_, rfl, ?_⟩
    have HO118 := am (Kd.R_lower ho0 (keep_size (w := w) (g := g) (row := none) uV))
    replace HI0 := am (IsS75.below uI hb)
    replace BK101 := uB BK101 hb
    replace BK107 := uB BK107 hb
    replace BK120 := uB BK120 hb
    replace HK := am (KeepBut.trans uV (KeepBut.of_below hb g none) (.inl rfl))
    replace HB := uS hb
    (try clear hb)
    (skip)
    (skip)
    (skip)
    (try clear ho0)
    refine hK.out _ _ ⟨uT BK107 0, uT BK107 1⟩ (fun hHeld => ?_)
    clear hK K
    refine uNo (some 23) ?_
    refine uPu (i := 9) (N := some 14) #[true, true, true, true, true, true, true, true, true, true, false, false, true, false, false] ?_
    refine uPu (i := 10) (N := some 24) #[true, true, true, true, true, true, true, true, true, true, true, false, true, false, false] ?_
    refine uPu (i := 11) (N := some 25) #[true, true, true, true, true, true, true, true, true, true, true, true, true, false, false] ?_
    exact norm_ (by simp only [putAll, Act.put, List.setIfInBounds_toArray, List.set_cons_zero, List.set_cons_succ]) (hCont (v117, gb120) _ ⟨hHeld, (uR HO118), (uP BK101), (uP BK107), (uP BK120), GW120.out, GE120.out, NB0_120.out, NB120_0.out, NB101_120.out, NB120_101.out, NB107_120.out, NB120_107.out, uI, uV, uW⟩)
  ·skip
   refine box_step ?hg (N := 7) ?hd (cs := #[.int .i64 0, .int .i64 0, .slice none 0 0]) (t := 28) ?hr ?_; (case hd => rfl); (case hg => rfl); (case hr => (go_simp; done))
   intro gb120 hg w15 hbox hb
   have BK120 := am (hbox)
   have GW120 := am ((by rw [hg]; exact (keep_size (w := w) (g := g) (row := none) uV) : w.heap.size ≤ gb120))
   have GE120 := am ((Nat.le_trans HW0.out (by rw [hg]; exact (keep_size (w := w) (g := g) (row := none) uV) : w.heap.size ≤ gb120) : w0.heap.size ≤ gb120))
   have NB101_120 := uL BK101 hg
   have NB120_101 := uY NB101_120
   have NB107_120 := uL BK107 hg
   have NB120_107 := uY NB107_120
   have NB0_120 := am ((by rw [hg]; exact Nat.ne_of_lt (IsS75.lt (show IsS75 w0 _ g s0_0 t105 t106 from by exact uI)) : g ≠ gb120))
   have NB120_0 := am ((by rw [hg]; exact Nat.ne_of_gt (IsS75.lt (show IsS75 w0 _ g s0_0 t105 t106 from by exact uI)) : gb120 ≠ g))
   replace HI0 := am (IsS75.below uI hb)
   replace BK101 := uB BK101 hb
   replace BK107 := uB BK107 hb
   replace HK := am (KeepBut.trans uV (KeepBut.of_below hb g none) (.inl rfl))
   replace HB := uS hb
   clear hb hbox hg
   refine hK.out _ _ ⟨uT BK107 0, uT BK107 1⟩ (fun hHeld => ?_)
   clear hK K
   refine uNo (some 7) ?_
   refine uOn (i := 5) (N := some 20) #[true, true, true, true, true, true, true, false, false, false, false, false, true, false, false] (fun K hK => ?_)
   refine uGs Tryz.func83 #[.pointer (some ⟨g, 0, none⟩), .int .i64 (wrap64 (a1 + 1))] ?_
   with_reducible refine (spec_l1Cur_pick.calls g s0_0 t105 t106 (wrap64 (a1 + 1)) t108 t109 t110 w0 _ ?side1 ?side2 A4.out).mono ?_
   (case side1 => exact uI)
   (case side2 => exact uW)
   rintro e w16 ⟨rfl, hi, hb, hk⟩
   refine ⟨_, rfl, ?_⟩
   replace BK101 := am (KeepBut.blk hk (uP BK101) NB101_0.out (by simp))
   replace BK107 := am (KeepBut.blk hk (uP BK107) NB107_0.out (by simp))
   replace BK120 := am (KeepBut.blk hk (uP BK120) NB120_0.out (by simp))
   replace HK := am (KeepBut.trans uV hk (.inl rfl))
   replace HB := am (hb)
   replace HI0 := am (hi)
   (try clear hb)
   (skip)
   (try clear hk)
   (try clear hi)
   refine hK.out _ _ ⟨uT BK107 0, uT BK107 1⟩ (fun hHeld => ?_)
   clear hK K
   refine uNo (some 20) ?_
   refine uOn (i := 7) (N := some 22) #[true, true, true, true, true, true, true, true, false, false, false, false, true, false, false] (fun K hK => ?_)
   refine uGs Tryz.func83 #[.pointer (some ⟨g, 0, none⟩), .int .i64 10000] ?_
   with_reducible refine (spec_l1Cur_pick.calls g s0_0 t109 t110 10000 t111 t112 t113 w0 _ ?side1 ?side2 A5.out).mono ?_
   (case side1 => exact uI)
   (case side2 => exact uW)
   rintro e w17 ⟨rfl, hi, hb, hk⟩
   refine ⟨_, rfl, ?_⟩
   replace BK101 := am (KeepBut.blk hk (uP BK101) NB101_0.out (by simp))
   replace BK107 := am (KeepBut.blk hk (uP BK107) NB107_0.out (by simp))
   replace BK120 := am (KeepBut.blk hk (uP BK120) NB120_0.out (by simp))
   replace HK := am (KeepBut.trans uV hk (.inl rfl))
   replace HB := am (hb)
   replace HI0 := am (hi)
   (try clear hb)
   (skip)
   (try clear hk)
   (try clear hi)
   refine hK.out _ _ ⟨uT BK107 0, uT BK107 1⟩ (fun hHeld => ?_)
   clear hK K
   refine uNo (some 22) ?_
   refine uOn (i := 8) (N := some 23) #[true, true, true, true, true, true, true, true, true, false, false, false, true, false, false] (fun K hK => ?_)
   refine uGs Tryz.func82 #[.agg #[.int .i64 t102, .int .i64 t103], .int .i64 t104, .int .i64 t108, .int .i64 t111] ?_
   with_reducible refine (spec_MakePuzzle.calls k t102 t103 t104 t108 t111 t114 t115 t116 t119 _ A6.out).mono ?_
   rintro e w18 ⟨v117, rfl, ho0, hb⟩
   refine ⟨_, rfl, ?_⟩
   have HO118 := am (Kd.R_lower ho0 (keep_size (w := w) (g := g) (row := none) uV))
   replace HI0 := am (IsS75.below uI hb)
   replace BK101 := uB BK101 hb
   replace BK107 := uB BK107 hb
   replace BK120 := uB BK120 hb
   replace HK := am (KeepBut.trans uV (KeepBut.of_below hb g none) (.inl rfl))
   replace HB := uS hb
   (try clear hb)
   (skip)
   (skip)
   (skip)
   (try clear ho0)
   refine hK.out _ _ ⟨uT BK107 0, uT BK107 1⟩ (fun hHeld => ?_)
   clear hK K
   refine uNo (some 23) ?_
   refine uPu (i := 9) (N := some 14) #[true, true, true, true, true, true, true, true, true, true, false, false, true, false, false] ?_
   refine uPu (i := 10) (N := some 24) #[true, true, true, true, true, true, true, true, true, true, true, false, true, false, false] ?_
   refine uPu (i := 11) (N := some 25) #[true, true, true, true, true, true, true, true, true, true, true, true, true, false, false] ?_
   exact norm_ (by simp only [putAll, Act.put, List.setIfInBounds_toArray, List.set_cons_zero, List.set_cons_succ]) (hCont (v117, gb120) _ ⟨hHeld, (uR HO118), (uP BK101), (uP BK107), (uP BK120), GW120.out, GE120.out, NB0_120.out, NB120_0.out, NB101_120.out, NB120_101.out, NB107_120.out, NB120_107.out, uI, uV, uW⟩)
 rintro ⟨v117, gb120⟩ w19 ⟨hS_, h0_, h1_, h2_, h3_, h4_, h5_, h6_, h7_, h8_, h9_, h10_, h11_, h12_, h13_, h14_⟩
 have n0_ : Aside0 (Kd.R k46 46 w19 w.heap.size (fun _ => True) v117 t116) := ⟨h0_⟩
 have n1_ : Aside0 (w19.heap[gb101]? = some (.cells #[.int .i64 0, .int .i64 0, .slice none 0 0] 28 (0, 0))) := ⟨h1_⟩
 have n2_ : Aside0 (w19.heap[gb107]? = some (.cells #[.int .i64 t102, .int .i64 t103] 25 (0, 0))) := ⟨h2_⟩
 have n3_ : Aside0 (w19.heap[gb120]? = some (.cells #[.int .i64 0, .int .i64 0, .slice none 0 0] 28 (0, 0))) := ⟨h3_⟩
 have n4_ : Aside0 (w.heap.size ≤ gb120) := ⟨h4_⟩
 have n5_ : Aside0 (w0.heap.size ≤ gb120) := ⟨h5_⟩
 have n6_ : Aside0 (g ≠ gb120) := ⟨h6_⟩
 have n7_ : Aside0 (gb120 ≠ g) := ⟨h7_⟩
 have n8_ : Aside0 (gb101 ≠ gb120) := ⟨h8_⟩
 have n9_ : Aside0 (gb120 ≠ gb101) := ⟨h9_⟩
 have n10_ : Aside0 (gb107 ≠ gb120) := ⟨h10_⟩
 have n11_ : Aside0 (gb120 ≠ gb107) := ⟨h11_⟩
 have n12_ : Aside0 (IsS75 w0 w19 g s0_0 t112 t113) := ⟨h12_⟩
 have n13_ : Aside0 (KeepBut w w19 g none) := ⟨h13_⟩
 have n14_ : Aside0 (Below w0.heap.size w0 w19) := ⟨h14_⟩
 clear BK101
 clear BK107
 clear HI0
 clear HK
 clear HB
 clear h0_ h1_ h2_ h3_ h4_ h5_ h6_ h7_ h8_ h9_ h10_ h11_ h12_ h13_ h14_
 have HO118 := n0_
 have BK101 := n1_
 have BK107 := n2_
 have BK120 := n3_
 have GW120 := n4_
 have GE120 := n5_
 have NB0_120 := n6_
 have NB120_0 := n7_
 have NB101_120 := n8_
 have NB120_101 := n9_
 have NB107_120 := n10_
 have NB120_107 := n11_
 have HI0 := n12_
 have HK := n13_
 have HB := n14_
 clear n0_ n1_ n2_ n3_ n4_ n5_ n6_ n7_ n8_ n9_ n10_ n11_ n12_ n13_ n14_
 have hHeld : w19.cell? ⟨gb107, 0, none⟩ = some (.int .i64 t102) ∧ w19.cell? ⟨gb107, 1, none⟩ = some (.int .i64 t103) := hS_
 obtain ⟨Ao22, co22, eo22⟩ := Kd.R_slice HO118.out
 (subst eo22)
 refine uNp ?_
 refine uOn (i := 13) (N := none) #[true, true, true, true, true, true, true, true, true, true, true, true, true, true, false] (fun K hK => ?_)
 have hs20 : w19.cell? ⟨gb120, 0, none⟩ = some (.int .i64 0) := uT BK120 0
 have hfs20 := blk_frozen BK120.out 0
 have hns20_0 := NB101_120.out
 have hns20_1 := NB107_120.out
 have hms20_0 := NB120_101.out
 have hms20_1 := NB120_107.out
 have hs21 : w19.cell? ⟨gb120, 1, none⟩ = some (.int .i64 0) := uT BK120 1
 have hfs21 := blk_frozen BK120.out 1
 have hns21_0 := NB101_120.out
 have hns21_1 := NB107_120.out
 have hms21_0 := NB120_101.out
 have hms21_1 := NB120_107.out
 have hs23 : w19.cell? ⟨gb120, 2, none⟩ = some (.slice none 0 0) := uT BK120 2
 have hfs23 := blk_frozen BK120.out 2
 have hns23_0 := NB101_120.out
 have hns23_1 := NB107_120.out
 have hms23_0 := NB120_101.out
 have hms23_1 := NB120_107.out
 refine skip_ (w1 := ?_) (by rfl) rfl ?_ ?_
 rotate_left
 ·go_simp
  rfl
 refine hK.out _ _ ⟨((cell_far (p := ⟨gb120, _, none⟩) NB107_120.out _).trans (((cell_far (p := ⟨gb120, _, none⟩) NB107_120.out _).trans (((cell_far (p := ⟨gb120, _, none⟩) NB107_120.out _).trans (hHeld.1)))))), ((cell_far (p := ⟨gb120, _, none⟩) NB107_120.out _).trans (((cell_far (p := ⟨gb120, _, none⟩) NB107_120.out _).trans (((cell_far (p := ⟨gb120, _, none⟩) NB107_120.out _).trans (hHeld.2))))))⟩ (fun hHeld => ?_)
 clear hK K
 refine uPu (i := 14) (N := some 8) #[true, true, true, true, true, true, true, true, true, true, true, true, true, true, true] ?_
 refine done_ (done_of HT_.out (by kernel_rfl)) ?_
 have hnb24 := NB120_101.out
 have hnc24 := NB101_120.out
 have hnb25 := NB120_107.out
 have hnc25 := NB107_120.out
 have hnb26 := NB120_0.out
 have hnc26 := NB0_120.out
 obtain ⟨hcz27_0, hcz27_1, hcz27_2, hfz27_0, hfz27_1, hfz27_2⟩ := uZ3 BK120
 have hnb28 := NB101_0.out
 have hnc28 := NB0_101.out
 obtain ⟨hcz29_0, hcz29_1, hcz29_2, hfz29_0, hfz29_1, hfz29_2⟩ := uZ3 BK101
 try go_wp2
 refine bodyPost_ret (results_cell_row rfl _ _ gb101 28 #[.int .i64 t114, .int .i64 t115, .slice Ao22 t116.length co22] (0, 0) _ rfl (by refine blk_put (cs := #[.int .i64 t114, .int .i64 t115, .slice none 0 0]) ?_ 2 _ rfl; refine blk_put (cs := #[.int .i64 t114, .int .i64 0, .slice none 0 0]) ?_ 1 _ rfl; refine blk_put (cs := #[.int .i64 0, .int .i64 0, .slice none 0 0]) ?_ 0 _ rfl; refine blk_far ?_ NB101_120.out _; refine blk_far ?_ NB101_120.out _; refine blk_far ?_ NB101_120.out _; exact (uP BK101)) Tryz.underlying28 rfl (by kernel_rfl)) rfl ?_
 exact ⟨_, uA, by (with_reducible skip); exact Kd.R_mono (Kd.R_far (p := ⟨gb101, 2, none⟩) (Kd.R_far (p := ⟨gb101, 1, none⟩) (Kd.R_far (p := ⟨gb101, 0, none⟩) (Kd.R_far (p := ⟨gb120, 2, none⟩) (Kd.R_far (p := ⟨gb120, 1, none⟩) (Kd.R_far (p := ⟨gb120, 0, none⟩) (Kd.R_types (Kd.R_types HO118.out BK120.out (by decide)) BK101.out (by decide)) (fun _ hk => hk.1.2) (.int .i64 t114)) (fun _ hk => hk.1.2) (.int .i64 t115)) (fun _ hk => hk.1.2) (.slice Ao22 t116.length co22)) (fun _ hk => hk.2) (.int .i64 t114)) (fun _ hk => hk.2) (.int .i64 t115)) (fun _ hk => hk.2) (.slice Ao22 t116.length co22)) (fun _ hk => trivial), by exact uI, by exact uW, by exact uV⟩
def spec_l1Cur_sureStreet.f (s0_0 : List Int) (s0_1 : Int) (s0_2 : Int) : Option (Int × Int × Int × Int) := (spec_l1Cur_pick.f s0_0 s0_1 s0_2 3).bind fun bt102 => ((spec_l1Cur_pick.f s0_0 bt102.2.1 bt102.2.2 12).bind fun bt105 => (some (bt102.1, wrap64 (1 + bt105.1), bt105.2.1, bt105.2.2)))
theorem spec_l1Cur_sureStreet.calls (g : Nat) (s0_0 : List Int) (s0_1 : Int) (s0_2 : Int) (r1 : Int) (r2 : Int) (r3 : Int) (r4 : Int) (w0 w : World) (hI : IsS75 w0 w g s0_0 s0_1 s0_2) (hB : Below w0.heap.size w0 w) (h : spec_l1Cur_sureStreet.f s0_0 s0_1 s0_2 = some (r1, r2, r3, r4)) :
  Calls Tryz.prog 109 #[.pointer (some ⟨g, 0, none⟩)] w fun e w' => e = .returned (.agg #[.int .i64 r1, .int .i64 r2]) ∧ IsS75 w0 w' g s0_0 r3 r4 ∧ Below w0.heap.size w0 w' ∧ KeepBut w w' g none := by
 have hu25 := Tryz.underlying25
 have HI0 := am hI
 have HK := am (KeepBut.refl w g none)
 have HL := am hB.size
 clear hI
 have HW0 := am hB.size
 have HB := am hB
 clear hB
 have H := h
 clear h
 unfold spec_l1Cur_sureStreet.f at H
 obtain ⟨⟨t102, t103, t104⟩, A20, H⟩ := bH H
 dsimp only at H
 have A2 := am A20
 clear A20
 obtain ⟨⟨t105, t106, t107⟩, A30, H⟩ := bH H
 dsimp only at H
 have A3 := am A30
 clear A30
 simp only [Option.some.injEq, Prod.mk.injEq] at H
 obtain ⟨rfl, rfl, rfl, rfl⟩ := H
 go_enter Tryz.func109, Tryz.ntmps109
 go_wp2_with (first | ((with_reducible refine gate_dst (N := 2) rfl ?_); refine uX (N := 2) (cs := #[.int .i64 0, .int .i64 0]) (t := 25) ?_; intro gb101 hg w4 hbox hb; have BK101 := am (hbox); have GW101 := am ((by rw [hg]; exact (keep_size (w := w) (g := g) (row := none) uV) : w.heap.size ≤ gb101)); have GE101 := am ((Nat.le_trans HW0.out (by rw [hg]; exact (keep_size (w := w) (g := g) (row := none) uV) : w.heap.size ≤ gb101) : w0.heap.size ≤ gb101)); have NB0_101 := am ((by rw [hg]; exact Nat.ne_of_lt (IsS75.lt (show IsS75 w0 _ g s0_0 s0_1 s0_2 from by exact uI)) : g ≠ gb101)); have NB101_0 := am ((by rw [hg]; exact Nat.ne_of_gt (IsS75.lt (show IsS75 w0 _ g s0_0 s0_1 s0_2 from by exact uI)) : gb101 ≠ g)); replace HI0 := am (IsS75.below uI hb); replace HK := am (KeepBut.trans uV (KeepBut.of_below hb g none) (.inl rfl)); replace HB := uS hb; clear hb hbox hg) | ((with_reducible refine gate_callee (f := 83) rfl ?_); refine uGo (some 4) Tryz.func83 #[.pointer (some ⟨g, 0, none⟩), .int .i64 3] ?_; (with_reducible refine (spec_l1Cur_pick.calls g s0_0 s0_1 s0_2 3 t102 t103 t104 w0 _ ?side1 ?side2 A2.out).mono ?_); (case side1 => exact uI); (case side2 => exact uW); rintro e w5 ⟨rfl, hi, hb, hk⟩; refine ⟨_, rfl, ?_⟩; replace BK101 := am (KeepBut.blk hk (uP BK101) NB101_0.out (by simp)); replace HK := am (KeepBut.trans uV hk (.inl rfl)); replace HB := am (hb); replace HI0 := am (hi); (try clear hb); (try clear hk); (try clear hi)) | ((with_reducible refine gate_callee (f := 83) rfl ?_); refine uGo (some 6) Tryz.func83 #[.pointer (some ⟨g, 0, none⟩), .int .i64 12] ?_; (with_reducible refine (spec_l1Cur_pick.calls g s0_0 t103 t104 12 t105 t106 t107 w0 _ ?side1 ?side2 A3.out).mono ?_); (case side1 => exact uI); (case side2 => exact uW); rintro e w6 ⟨rfl, hi, hb, hk⟩; refine ⟨_, rfl, ?_⟩; replace BK101 := am (KeepBut.blk hk (uP BK101) NB101_0.out (by simp)); replace HK := am (KeepBut.trans uV hk (.inl rfl)); replace HB := am (hb); replace HI0 := am (hi); (try clear hb); (try clear hk); (try clear hi); have hnb7 := NB101_0.out; have hnc7 := NB0_101.out; obtain ⟨hcz8_0, hcz8_1, hfz8_0, hfz8_1⟩ := uZ2 BK101))
 refine bodyPost_ret (results_cell_row rfl _ _ gb101 25 #[.int .i64 t102, .int .i64 (wrap64 (1 + t105))] (0, 0) _ rfl (by refine blk_put (cs := #[.int .i64 t102, .int .i64 0]) ?_ 1 _ rfl; refine blk_put (cs := #[.int .i64 0, .int .i64 0]) ?_ 0 _ rfl; exact (uP BK101)) Tryz.underlying25 rfl (by kernel_rfl)) rfl ?_
 exact ⟨uA, by exact uI, by exact uW, by exact uV⟩
def spec_l1Cur_among.f (s0_0 : List Int) (s0_1 : Int) (s0_2 : Int) (l1 : List Int) : Option (Int × Int × Int) := (spec_l1Cur_pick.f s0_0 s0_1 s0_2 (l1.length : Int)).bind fun bt101 => (if 0 ≤ bt101.1 then (if bt101.1 < (l1.length : Int) then (some (rd l1 bt101.1, bt101.2.1, bt101.2.2)) else (none)) else (none))
theorem spec_l1Cur_among.calls (g : Nat) (s0_0 : List Int) (s0_1 : Int) (s0_2 : Int) (A1 : Option Addr) (c1 : Nat) (l1 : List Int) (r1 : Int) (r2 : Int) (r3 : Int) (w0 w : World) (hI : IsS75 w0 w g s0_0 s0_1 s0_2) (hB : Below w0.heap.size w0 w) (hr1 : Kd.C (Kd.int .i64) w A1 l1.length l1) (hc1 : l1.length ≤ c1) (hf1 : ∀ ad, A1 = some ad → 0 < l1.length → ad.block ≠ g) (h : spec_l1Cur_among.f s0_0 s0_1 s0_2 l1 = some (r1, r2, r3)) :
  Calls Tryz.prog 110 #[.pointer (some ⟨g, 0, none⟩), .slice A1 l1.length c1] w fun e w' => e = .returned (.int .i64 r1) ∧ IsS75 w0 w' g s0_0 r2 r3 ∧ Below w0.heap.size w0 w' ∧ KeepBut w w' g none := by
 have HR1 := am hr1
 have HC1 := am hc1
 clear hr1 hc1
 have HI0 := am hI
 have HK := am (KeepBut.refl w g none)
 have HL := am hB.size
 clear hI
 have HW0 := am hB.size
 have HB := am hB
 clear hB
 have H := h
 clear h
 unfold spec_l1Cur_among.f at H
 obtain ⟨⟨t101, t102, t103⟩, A30, H⟩ := bH H
 dsimp only at H
 have A3 := am A30
 clear A30
 by_cases c4 : 0 ≤ t101
 ·rw [if_pos c4] at H
  have c4b0 : decide (0 ≤ t101) = true := decide_eq_true c4
  clear c4
  by_cases c5 : t101 < (l1.length : Int)
  ·rw [if_pos c5] at H
   have c5b0 : decide (t101 < (l1.length : Int)) = true := decide_eq_true c5
   clear c5
   simp only [Option.some.injEq, Prod.mk.injEq] at H
   obtain ⟨rfl, rfl, rfl⟩ := H
   go_enter Tryz.func110, Tryz.ntmps110
   go_wp2_with (((with_reducible refine gate_callee (f := 83) rfl ?_); refine uGo (some 9) Tryz.func83 #[.pointer (some ⟨g, 0, none⟩), .int .i64 (l1.length : Int)] ?_; (with_reducible refine (spec_l1Cur_pick.calls g s0_0 s0_1 s0_2 (l1.length : Int) t101 t102 t103 w0 _ ?side1 ?side2 A3.out).mono ?_); (case side1 => exact uI); (case side2 => exact uW); rintro e w6 ⟨rfl, hi, hb, hk⟩; refine ⟨_, rfl, ?_⟩; replace HK := am (KeepBut.trans uV hk (.inl rfl)); replace HB := am (hb); replace HI0 := am (hi); (try clear hb); (try clear hk); (try clear hi); have p104 : 0 ≤ (t101 : Int) := of_decide_eq_true (by (with_reducible assumption)); have q104 : t101 < (l1.length : Int) := of_decide_eq_true (by (with_reducible assumption)); obtain ⟨ad104, e104, hx104_0⟩ := Kd.at_int HR1.out t101 p104 q104; cases e104; replace hx104_0 := keep_cell HK.out hx104_0 (by (rw [add_block]; exact hf1 _ rfl (by omega))); replace p104 := eq_true p104; replace q104 := eq_true q104))
   go_ret
   exact ⟨uA, by exact uI, by exact uW, by exact uV⟩
  ·rw [if_neg c5] at H
   exact absurd H (by simp)
 ·rw [if_neg c4] at H
  exact absurd H (by simp)
def spec_l1Cur_street.f (s0_0 : List Int) (s0_1 : Int) (s0_2 : Int) : Option (Int × Int × Int × Int) := (spec_l1Cur_sureStreet.f s0_0 s0_1 s0_2).bind fun bt102 => ((spec_l1Cur_pick.f s0_0 bt102.2.2.1 bt102.2.2.2 14).bind fun bt107 => (if bt107.1 = 0 then ((spec_l1Cur_among.f s0_0 bt107.2.1 bt107.2.2 (([(-1), 3, 4611686018427387904] : List Int))).bind fun bt113 => (some (bt113.1, bt102.2.1, bt113.2.1, bt113.2.2))) else (if bt107.1 = 1 then ((spec_l1Cur_among.f s0_0 bt107.2.1 bt107.2.2 (([0, (-1), 1000, 1001, 4611686018427387904] : List Int))).bind fun bt119 => (some (bt102.1, bt119.1, bt119.2.1, bt119.2.2))) else (some (bt102.1, bt102.2.1, bt107.2.1, bt107.2.2)))))
theorem spec_l1Cur_street.calls (g : Nat) (s0_0 : List Int) (s0_1 : Int) (s0_2 : Int) (r1 : Int) (r2 : Int) (r3 : Int) (r4 : Int) (w0 w : World) (hI : IsS75 w0 w g s0_0 s0_1 s0_2) (hB : Below w0.heap.size w0 w) (h : spec_l1Cur_street.f s0_0 s0_1 s0_2 = some (r1, r2, r3, r4)) :
  Calls Tryz.prog 87 #[.pointer (some ⟨g, 0, none⟩)] w fun e w' => e = .returned (.agg #[.int .i64 r1, .int .i64 r2]) ∧ IsS75 w0 w' g s0_0 r3 r4 ∧ Below w0.heap.size w0 w' ∧ KeepBut w w' g none := by
 have hu25 := Tryz.underlying25
 have HI0 := am hI
 have HK := am (KeepBut.refl w g none)
 have HL := am hB.size
 clear hI
 have HW0 := am hB.size
 have HB := am hB
 clear hB
 have H := h
 clear h
 unfold spec_l1Cur_street.f at H
 obtain ⟨⟨t102, t103, t104, t105⟩, A20, H⟩ := bH H
 dsimp only at H
 have A2 := am A20
 clear A20
 obtain ⟨⟨t107, t108, t109⟩, A30, H⟩ := bH H
 dsimp only at H
 have A3 := am A30
 clear A30
 by_cases c4 : t107 = 0
 ·rw [if_pos c4] at H
  have c4b0 : (t107 == 0) = true := beq_iff_eq.mpr c4
  have c4b1 : (t107 != 0) = false := bne_eq_false_iff_eq.mpr c4
  clear c4
  obtain ⟨y110, hy110⟩ : ∃ y_ : List Int, y_ = (([(-1), 3, 4611686018427387904] : List Int)) := ⟨_, rfl⟩
  replace H : ((spec_l1Cur_among.f s0_0 t108 t109 y110).bind fun bt113 => (some (bt113.1, t103, bt113.2.1, bt113.2.2))) = some (r1, r2, r3, r4) := by (rw [hy110]; with_reducible exact H)
  have Ny110 := am hy110
  clear hy110
  obtain ⟨⟨t113, t114, t115⟩, A50, H⟩ := bH H
  dsimp only at H
  have A5 := am A50
  clear A50
  simp only [Option.some.injEq, Prod.mk.injEq] at H
  obtain ⟨rfl, rfl, rfl, rfl⟩ := H
  go_enter Tryz.func87, Tryz.ntmps87
  go_wp2_with (first | ((with_reducible refine gate_dst (N := 2) rfl ?_); refine uX (N := 2) (cs := #[.int .i64 0, .int .i64 0]) (t := 25) ?_; intro gb101 hg w6 hbox hb; have BK101 := am (hbox); have GW101 := am ((by rw [hg]; exact (keep_size (w := w) (g := g) (row := none) uV) : w.heap.size ≤ gb101)); have GE101 := am ((Nat.le_trans HW0.out (by rw [hg]; exact (keep_size (w := w) (g := g) (row := none) uV) : w.heap.size ≤ gb101) : w0.heap.size ≤ gb101)); have NB0_101 := am ((by rw [hg]; exact Nat.ne_of_lt (IsS75.lt (show IsS75 w0 _ g s0_0 s0_1 s0_2 from by exact uI)) : g ≠ gb101)); have NB101_0 := am ((by rw [hg]; exact Nat.ne_of_gt (IsS75.lt (show IsS75 w0 _ g s0_0 s0_1 s0_2 from by exact uI)) : gb101 ≠ g)); replace HI0 := am (IsS75.below uI hb); replace HK := am (KeepBut.trans uV (KeepBut.of_below hb g none) (.inl rfl)); replace HB := uS hb; clear hb hbox hg) | ((with_reducible refine gate_callee (f := 109) rfl ?_); refine uGo (some 5) Tryz.func109 #[.pointer (some ⟨g, 0, none⟩)] ?_; (with_reducible refine (spec_l1Cur_sureStreet.calls g s0_0 s0_1 s0_2 t102 t103 t104 t105 w0 _ ?side1 ?side2 A2.out).mono ?_); (case side1 => exact uI); (case side2 => exact uW); rintro e w7 ⟨rfl, hi, hb, hk⟩; refine ⟨_, rfl, ?_⟩; replace BK101 := am (KeepBut.blk hk (uP BK101) NB101_0.out (by simp)); replace HK := am (KeepBut.trans uV hk (.inl rfl)); replace HB := am (hb); replace HI0 := am (hi); (try clear hb); (try clear hk); (try clear hi)) | ((with_reducible refine gate_dst (N := 3) rfl ?_); refine uX (N := 3) (cs := #[.int .i64 0, .int .i64 0]) (t := 25) ?_; intro gb106 hg w8 hbox hb; have BK106 := am (hbox); have GW106 := am ((by rw [hg]; exact (keep_size (w := w) (g := g) (row := none) uV) : w.heap.size ≤ gb106)); have GE106 := am ((Nat.le_trans HW0.out (by rw [hg]; exact (keep_size (w := w) (g := g) (row := none) uV) : w.heap.size ≤ gb106) : w0.heap.size ≤ gb106)); have NB101_106 := uL BK101 hg; have NB106_101 := uY NB101_106; have NB0_106 := am ((by rw [hg]; exact Nat.ne_of_lt (IsS75.lt (show IsS75 w0 _ g s0_0 t104 t105 from by exact uI)) : g ≠ gb106)); have NB106_0 := am ((by rw [hg]; exact Nat.ne_of_gt (IsS75.lt (show IsS75 w0 _ g s0_0 t104 t105 from by exact uI)) : gb106 ≠ g)); replace HI0 := am (IsS75.below uI hb); replace BK101 := uB BK101 hb; replace HK := am (KeepBut.trans uV (KeepBut.of_below hb g none) (.inl rfl)); replace HB := uS hb; clear hb hbox hg; have hnb9 := NB106_101.out; have hnc9 := NB101_106.out; have hnb10 := NB106_0.out; have hnc10 := NB0_106.out; obtain ⟨hcz11_0, hcz11_1, hfz11_0, hfz11_1⟩ := uZ2 BK106) | ((with_reducible refine gate_callee (f := 83) rfl ?_); refine uGo (some 7) Tryz.func83 #[.pointer (some ⟨g, 0, none⟩), .int .i64 14] ?_; (with_reducible refine (spec_l1Cur_pick.calls g s0_0 t104 t105 14 t107 t108 t109 w0 _ ?side1 ?side2 A3.out).mono ?_); (case side1 => exact uI); (case side2 => exact uW); rintro e w12 ⟨rfl, hi, hb, hk⟩; refine ⟨_, rfl, ?_⟩; replace BK101 := am (KeepBut.blk hk (g' := gb101) (o := .cells #[.int .i64 0, .int .i64 0] 25 (0, 0)) (by refine blk_far ?_ NB101_106.out _; refine blk_far ?_ NB101_106.out _; exact (uP BK101)) NB101_0.out (by simp)); replace BK106 := am (KeepBut.blk hk (g' := gb106) (o := .cells #[.int .i64 t102, .int .i64 t103] 25 (0, 0)) (by refine blk_put (cs := #[.int .i64 t102, .int .i64 0]) ?_ 1 _ rfl; refine blk_put (cs := #[.int .i64 0, .int .i64 0]) ?_ 0 _ rfl; exact (uP BK106)) NB106_0.out (by simp)); replace HK := am (KeepBut.trans uV hk (.inl rfl)); replace HB := am (hb); replace HI0 := am (hi); (try clear hb); (try clear hk); (try clear hi)) | ((with_reducible refine gate_dst (N := 11) rfl ?_); refine Kd.R_lit (Kd.int .i64) _ 3 ?hg (N := 11) ?hd (xs := ([(-1), 3, 4611686018427387904] : List Int)) (inner := [.int .i64 (-1), .int .i64 3, .int .i64 4611686018427387904]) (ok := fun _ => True) (okp := fun _ => True) ?hr ?hp (fun _ hk => hk) trivial (Below.refl _ _) (Nat.le_refl _) (by simp) ?_; (case hd => rfl); (case hg => rfl); (case hr => (go_simp; done)); (case hp => exact (Reps.one (show Kd.M (Kd.int .i64) _ _ _ (-1) [.int .i64 (-1)] from rfl) (Reps.one (show Kd.M (Kd.int .i64) _ _ _ 3 [.int .i64 3] from rfl) (Reps.one (show Kd.M (Kd.int .i64) _ _ _ 4611686018427387904 [.int .i64 4611686018427387904] from rfl) (Reps.none _ _))))); intro v111 w13 ho14 hb hg_ hnew_; clear hg_ hnew_; (rw [← Ny110.out] at ho14); have HO112 := am (Kd.R_lower ho14 (keep_size (w := w) (g := g) (row := none) uV)); replace HI0 := am (IsS75.below uI hb); replace BK101 := uB BK101 hb; replace BK106 := uB BK106 hb; replace HK := am (KeepBut.trans uV (KeepBut.of_below hb g none) (.inl rfl)); replace HB := uS hb; clear hb ho14; obtain ⟨Ao15, co15, eo15⟩ := Kd.R_slice HO112.out; subst eo15) | ((with_reducible refine gate_callee (f := 110) rfl ?_); refine uGo (some 12) Tryz.func110 #[.pointer (some ⟨g, 0, none⟩), .slice Ao15 y110.length co15] ?_; (with_reducible refine (spec_l1Cur_among.calls g s0_0 t108 t109 _ _ y110 t113 t114 t115 w0 _ ?side1 ?side2 ?side3 ?side4 ?side5 A5.out).mono ?_); (case side1 => exact uI); (case side2 => exact uW); (case side3 => repeat (exact (Kd.R_reads' HO112.out).2.2)); (case side4 => exact (Kd.R_reads' HO112.out).2.1); (case side5 => exact far_slice (IsS75.own_ne HI0.out HO112.out (by decide))); rintro e w16 ⟨rfl, hi, hb, hk⟩; refine ⟨_, rfl, ?_⟩; replace BK101 := am (KeepBut.blk hk (uP BK101) NB101_0.out (by simp)); replace BK106 := am (KeepBut.blk hk (uP BK106) NB106_0.out (by simp)); replace HO112 := am (Kd.R_mono (Kd.R_keep (IsS75.apart (show IsS75 w0 _ g s0_0 t108 t109 from by exact uI) (uR HO112) (by decide)) hk (fun _ h => h.2)) (fun _ h => h.1)); replace HK := am (KeepBut.trans uV hk (.inl rfl)); replace HB := am (hb); replace HI0 := am (hi); (try clear hb); (try clear hk); (try clear hi); obtain ⟨hcz17_0, hcz17_1, hfz17_0, hfz17_1⟩ := uZ2 BK106; have hnb18 := NB101_0.out; have hnc18 := NB0_101.out; obtain ⟨hcz19_0, hcz19_1, hfz19_0, hfz19_1⟩ := uZ2 BK101))
  refine bodyPost_ret (results_cell_row rfl _ _ gb101 25 #[.int .i64 t113, .int .i64 t103] (0, 0) _ rfl (by refine blk_put (cs := #[.int .i64 t113, .int .i64 0]) ?_ 1 _ rfl; refine blk_put (cs := #[.int .i64 0, .int .i64 0]) ?_ 0 _ rfl; refine blk_far ?_ NB101_106.out _; exact (uP BK101)) Tryz.underlying25 rfl (by kernel_rfl)) rfl ?_
  exact ⟨uA, by exact uI, by exact uW, by exact uV⟩
 ·rw [if_neg c4] at H
  have c4b0 : (t107 == 0) = false := beq_eq_false_iff_ne.mpr c4
  have c4b1 : (t107 != 0) = true := bne_iff_ne.mpr c4
  by_cases c20 : t107 = 1
  ·rw [if_pos c20] at H
   have c20b0 : (t107 == 1) = true := beq_iff_eq.mpr c20
   have c20b1 : (t107 != 1) = false := bne_eq_false_iff_eq.mpr c20
   clear c20
   obtain ⟨y116, hy116⟩ : ∃ y_ : List Int, y_ = (([0, (-1), 1000, 1001, 4611686018427387904] : List Int)) := ⟨_, rfl⟩
   replace H : ((spec_l1Cur_among.f s0_0 t108 t109 y116).bind fun bt119 => (some (t102, bt119.1, bt119.2.1, bt119.2.2))) = some (r1, r2, r3, r4) := by (rw [hy116]; with_reducible exact H)
   have Ny116 := am hy116
   clear hy116
   obtain ⟨⟨t119, t120, t121⟩, A210, H⟩ := bH H
   dsimp only at H
   have A21 := am A210
   clear A210
   simp only [Option.some.injEq, Prod.mk.injEq] at H
   obtain ⟨rfl, rfl, rfl, rfl⟩ := H
   go_enter Tryz.func87, Tryz.ntmps87
   go_wp2_with (first | ((with_reducible refine gate_dst (N := 2) rfl ?_); refine uX (N := 2) (cs := #[.int .i64 0, .int .i64 0]) (t := 25) ?_; intro gb101 hg w22 hbox hb; have BK101 := am (hbox); have GW101 := am ((by rw [hg]; exact (keep_size (w := w) (g := g) (row := none) uV) : w.heap.size ≤ gb101)); have GE101 := am ((Nat.le_trans HW0.out (by rw [hg]; exact (keep_size (w := w) (g := g) (row := none) uV) : w.heap.size ≤ gb101) : w0.heap.size ≤ gb101)); have NB0_101 := am ((by rw [hg]; exact Nat.ne_of_lt (IsS75.lt (show IsS75 w0 _ g s0_0 s0_1 s0_2 from by exact uI)) : g ≠ gb101)); have NB101_0 := am ((by rw [hg]; exact Nat.ne_of_gt (IsS75.lt (show IsS75 w0 _ g s0_0 s0_1 s0_2 from by exact uI)) : gb101 ≠ g)); replace HI0 := am (IsS75.below uI hb); replace HK := am (KeepBut.trans uV (KeepBut.of_below hb g none) (.inl rfl)); replace HB := uS hb; clear hb hbox hg) | ((with_reducible refine gate_callee (f := 109) rfl ?_); refine uGo (some 5) Tryz.func109 #[.pointer (some ⟨g, 0, none⟩)] ?_; (with_reducible refine (spec_l1Cur_sureStreet.calls g s0_0 s0_1 s0_2 t102 t103 t104 t105 w0 _ ?side1 ?side2 A2.out).mono ?_); (case side1 => exact uI); (case side2 => exact uW); rintro e w23 ⟨rfl, hi, hb, hk⟩; refine ⟨_, rfl, ?_⟩; replace BK101 := am (KeepBut.blk hk (uP BK101) NB101_0.out (by simp)); replace HK := am (KeepBut.trans uV hk (.inl rfl)); replace HB := am (hb); replace HI0 := am (hi); (try clear hb); (try clear hk); (try clear hi)) | ((with_reducible refine gate_dst (N := 3) rfl ?_); refine uX (N := 3) (cs := #[.int .i64 0, .int .i64 0]) (t := 25) ?_; intro gb106 hg w24 hbox hb; have BK106 := am (hbox); have GW106 := am ((by rw [hg]; exact (keep_size (w := w) (g := g) (row := none) uV) : w.heap.size ≤ gb106)); have GE106 := am ((Nat.le_trans HW0.out (by rw [hg]; exact (keep_size (w := w) (g := g) (row := none) uV) : w.heap.size ≤ gb106) : w0.heap.size ≤ gb106)); have NB101_106 := uL BK101 hg; have NB106_101 := uY NB101_106; have NB0_106 := am ((by rw [hg]; exact Nat.ne_of_lt (IsS75.lt (show IsS75 w0 _ g s0_0 t104 t105 from by exact uI)) : g ≠ gb106)); have NB106_0 := am ((by rw [hg]; exact Nat.ne_of_gt (IsS75.lt (show IsS75 w0 _ g s0_0 t104 t105 from by exact uI)) : gb106 ≠ g)); replace HI0 := am (IsS75.below uI hb); replace BK101 := uB BK101 hb; replace HK := am (KeepBut.trans uV (KeepBut.of_below hb g none) (.inl rfl)); replace HB := uS hb; clear hb hbox hg; have hnb25 := NB106_101.out; have hnc25 := NB101_106.out; have hnb26 := NB106_0.out; have hnc26 := NB0_106.out; obtain ⟨hcz27_0, hcz27_1, hfz27_0, hfz27_1⟩ := uZ2 BK106) | ((with_reducible refine gate_callee (f := 83) rfl ?_); refine uGo (some 7) Tryz.func83 #[.pointer (some ⟨g, 0, none⟩), .int .i64 14] ?_; (with_reducible refine (spec_l1Cur_pick.calls g s0_0 t104 t105 14 t107 t108 t109 w0 _ ?side1 ?side2 A3.out).mono ?_); (case side1 => exact uI); (case side2 => exact uW); rintro e w28 ⟨rfl, hi, hb, hk⟩; refine ⟨_, rfl, ?_⟩; replace BK101 := am (KeepBut.blk hk (g' := gb101) (o := .cells #[.int .i64 0, .int .i64 0] 25 (0, 0)) (by refine blk_far ?_ NB101_106.out _; refine blk_far ?_ NB101_106.out _; exact (uP BK101)) NB101_0.out (by simp)); replace BK106 := am (KeepBut.blk hk (g' := gb106) (o := .cells #[.int .i64 t102, .int .i64 t103] 25 (0, 0)) (by refine blk_put (cs := #[.int .i64 t102, .int .i64 0]) ?_ 1 _ rfl; refine blk_put (cs := #[.int .i64 0, .int .i64 0]) ?_ 0 _ rfl; exact (uP BK106)) NB106_0.out (by simp)); replace HK := am (KeepBut.trans uV hk (.inl rfl)); replace HB := am (hb); replace HI0 := am (hi); (try clear hb); (try clear hk); (try clear hi)) | ((with_reducible refine gate_dst (N := 17) rfl ?_); refine Kd.R_lit (Kd.int .i64) _ 3 ?hg (N := 17) ?hd (xs := ([0, (-1), 1000, 1001, 4611686018427387904] : List Int)) (inner := [.int .i64 0, .int .i64 (-1), .int .i64 1000, .int .i64 1001, .int .i64 4611686018427387904]) (ok := fun _ => True) (okp := fun _ => True) ?hr ?hp (fun _ hk => hk) trivial (Below.refl _ _) (Nat.le_refl _) (by simp) ?_; (case hd => rfl); (case hg => rfl); (case hr => (go_simp; done)); (case hp => exact (Reps.one (show Kd.M (Kd.int .i64) _ _ _ 0 [.int .i64 0] from rfl) (Reps.one (show Kd.M (Kd.int .i64) _ _ _ (-1) [.int .i64 (-1)] from rfl) (Reps.one (show Kd.M (Kd.int .i64) _ _ _ 1000 [.int .i64 1000] from rfl) (Reps.one (show Kd.M (Kd.int .i64) _ _ _ 1001 [.int .i64 1001] from rfl) (Reps.one (show Kd.M (Kd.int .i64) _ _ _ 4611686018427387904 [.int .i64 4611686018427387904] from rfl) (Reps.none _ _))))))); intro v117 w29 ho30 hb hg_ hnew_; clear hg_ hnew_; (rw [← Ny116.out] at ho30); have HO118 := am (Kd.R_lower ho30 (keep_size (w := w) (g := g) (row := none) uV)); replace HI0 := am (IsS75.below uI hb); replace BK101 := uB BK101 hb; replace BK106 := uB BK106 hb; replace HK := am (KeepBut.trans uV (KeepBut.of_below hb g none) (.inl rfl)); replace HB := uS hb; clear hb ho30; obtain ⟨Ao31, co31, eo31⟩ := Kd.R_slice HO118.out; subst eo31) | ((with_reducible refine gate_callee (f := 110) rfl ?_); refine uGo (some 18) Tryz.func110 #[.pointer (some ⟨g, 0, none⟩), .slice Ao31 y116.length co31] ?_; (with_reducible refine (spec_l1Cur_among.calls g s0_0 t108 t109 _ _ y116 t119 t120 t121 w0 _ ?side1 ?side2 ?side3 ?side4 ?side5 A21.out).mono ?_); (case side1 => exact uI); (case side2 => exact uW); (case side3 => repeat (exact (Kd.R_reads' HO118.out).2.2)); (case side4 => exact (Kd.R_reads' HO118.out).2.1); (case side5 => exact far_slice (IsS75.own_ne HI0.out HO118.out (by decide))); rintro e w32 ⟨rfl, hi, hb, hk⟩; refine ⟨_, rfl, ?_⟩; replace BK101 := am (KeepBut.blk hk (uP BK101) NB101_0.out (by simp)); replace BK106 := am (KeepBut.blk hk (uP BK106) NB106_0.out (by simp)); replace HO118 := am (Kd.R_mono (Kd.R_keep (IsS75.apart (show IsS75 w0 _ g s0_0 t108 t109 from by exact uI) (uR HO118) (by decide)) hk (fun _ h => h.2)) (fun _ h => h.1)); replace HK := am (KeepBut.trans uV hk (.inl rfl)); replace HB := am (hb); replace HI0 := am (hi); (try clear hb); (try clear hk); (try clear hi); obtain ⟨hcz33_0, hcz33_1, hfz33_0, hfz33_1⟩ := uZ2 BK106; have hnb34 := NB101_0.out; have hnc34 := NB0_101.out; obtain ⟨hcz35_0, hcz35_1, hfz35_0, hfz35_1⟩ := uZ2 BK101))
   refine bodyPost_ret (results_cell_row rfl _ _ gb101 25 #[.int .i64 t102, .int .i64 t119] (0, 0) _ rfl (by refine blk_put (cs := #[.int .i64 t102, .int .i64 0]) ?_ 1 _ rfl; refine blk_put (cs := #[.int .i64 0, .int .i64 0]) ?_ 0 _ rfl; refine blk_far ?_ NB101_106.out _; exact (uP BK101)) Tryz.underlying25 rfl (by kernel_rfl)) rfl ?_
   exact ⟨uA, by exact uI, by exact uW, by exact uV⟩
  ·rw [if_neg c20] at H
   have c20b0 : (t107 == 1) = false := beq_eq_false_iff_ne.mpr c20
   have c20b1 : (t107 != 1) = true := bne_iff_ne.mpr c20
   simp only [Option.some.injEq, Prod.mk.injEq] at H
   obtain ⟨rfl, rfl, rfl, rfl⟩ := H
   go_enter Tryz.func87, Tryz.ntmps87
   go_wp2_with (first | ((with_reducible refine gate_dst (N := 2) rfl ?_); refine uX (N := 2) (cs := #[.int .i64 0, .int .i64 0]) (t := 25) ?_; intro gb101 hg w36 hbox hb; have BK101 := am (hbox); have GW101 := am ((by rw [hg]; exact (keep_size (w := w) (g := g) (row := none) uV) : w.heap.size ≤ gb101)); have GE101 := am ((Nat.le_trans HW0.out (by rw [hg]; exact (keep_size (w := w) (g := g) (row := none) uV) : w.heap.size ≤ gb101) : w0.heap.size ≤ gb101)); have NB0_101 := am ((by rw [hg]; exact Nat.ne_of_lt (IsS75.lt (show IsS75 w0 _ g s0_0 s0_1 s0_2 from by exact uI)) : g ≠ gb101)); have NB101_0 := am ((by rw [hg]; exact Nat.ne_of_gt (IsS75.lt (show IsS75 w0 _ g s0_0 s0_1 s0_2 from by exact uI)) : gb101 ≠ g)); replace HI0 := am (IsS75.below uI hb); replace HK := am (KeepBut.trans uV (KeepBut.of_below hb g none) (.inl rfl)); replace HB := uS hb; clear hb hbox hg) | ((with_reducible refine gate_callee (f := 109) rfl ?_); refine uGo (some 5) Tryz.func109 #[.pointer (some ⟨g, 0, none⟩)] ?_; (with_reducible refine (spec_l1Cur_sureStreet.calls g s0_0 s0_1 s0_2 t102 t103 t104 t105 w0 _ ?side1 ?side2 A2.out).mono ?_); (case side1 => exact uI); (case side2 => exact uW); rintro e w37 ⟨rfl, hi, hb, hk⟩; refine ⟨_, rfl, ?_⟩; replace BK101 := am (KeepBut.blk hk (uP BK101) NB101_0.out (by simp)); replace HK := am (KeepBut.trans uV hk (.inl rfl)); replace HB := am (hb); replace HI0 := am (hi); (try clear hb); (try clear hk); (try clear hi)) | ((with_reducible refine gate_dst (N := 3) rfl ?_); refine uX (N := 3) (cs := #[.int .i64 0, .int .i64 0]) (t := 25) ?_; intro gb106 hg w38 hbox hb; have BK106 := am (hbox); have GW106 := am ((by rw [hg]; exact (keep_size (w := w) (g := g) (row := none) uV) : w.heap.size ≤ gb106)); have GE106 := am ((Nat.le_trans HW0.out (by rw [hg]; exact (keep_size (w := w) (g := g) (row := none) uV) : w.heap.size ≤ gb106) : w0.heap.size ≤ gb106)); have NB101_106 := uL BK101 hg; have NB106_101 := uY NB101_106; have NB0_106 := am ((by rw [hg]; exact Nat.ne_of_lt (IsS75.lt (show IsS75 w0 _ g s0_0 t104 t105 from by exact uI)) : g ≠ gb106)); have NB106_0 := am ((by rw [hg]; exact Nat.ne_of_gt (IsS75.lt (show IsS75 w0 _ g s0_0 t104 t105 from by exact uI)) : gb106 ≠ g)); replace HI0 := am (IsS75.below uI hb); replace BK101 := uB BK101 hb; replace HK := am (KeepBut.trans uV (KeepBut.of_below hb g none) (.inl rfl)); replace HB := uS hb; clear hb hbox hg; have hnb39 := NB106_101.out; have hnc39 := NB101_106.out; have hnb40 := NB106_0.out; have hnc40 := NB0_106.out; obtain ⟨hcz41_0, hcz41_1, hfz41_0, hfz41_1⟩ := uZ2 BK106) | ((with_reducible refine gate_callee (f := 83) rfl ?_); refine uGo (some 7) Tryz.func83 #[.pointer (some ⟨g, 0, none⟩), .int .i64 14] ?_; (with_reducible refine (spec_l1Cur_pick.calls g s0_0 t104 t105 14 t107 t108 t109 w0 _ ?side1 ?side2 A3.out).mono ?_); (case side1 => exact uI); (case side2 => exact uW); rintro e w42 ⟨rfl, hi, hb, hk⟩; refine ⟨_, rfl, ?_⟩; replace BK101 := am (KeepBut.blk hk (g' := gb101) (o := .cells #[.int .i64 0, .int .i64 0] 25 (0, 0)) (by refine blk_far ?_ NB101_106.out _; refine blk_far ?_ NB101_106.out _; exact (uP BK101)) NB101_0.out (by simp)); replace BK106 := am (KeepBut.blk hk (g' := gb106) (o := .cells #[.int .i64 t102, .int .i64 t103] 25 (0, 0)) (by refine blk_put (cs := #[.int .i64 t102, .int .i64 0]) ?_ 1 _ rfl; refine blk_put (cs := #[.int .i64 0, .int .i64 0]) ?_ 0 _ rfl; exact (uP BK106)) NB106_0.out (by simp)); replace HK := am (KeepBut.trans uV hk (.inl rfl)); replace HB := am (hb); replace HI0 := am (hi); (try clear hb); (try clear hk); (try clear hi); obtain ⟨hcz43_0, hcz43_1, hfz43_0, hfz43_1⟩ := uZ2 BK106; have hnb44 := NB101_0.out; have hnc44 := NB0_101.out; obtain ⟨hcz45_0, hcz45_1, hfz45_0, hfz45_1⟩ := uZ2 BK101))
   refine bodyPost_ret (results_cell_row rfl _ _ gb101 25 #[.int .i64 t102, .int .i64 t103] (0, 0) _ rfl (by refine blk_put (cs := #[.int .i64 t102, .int .i64 0]) ?_ 1 _ rfl; refine blk_put (cs := #[.int .i64 0, .int .i64 0]) ?_ 0 _ rfl; exact (uP BK101)) Tryz.underlying25 rfl (by kernel_rfl)) rfl ?_
   exact ⟨uA, by exact uI, by exact uW, by exact uV⟩
def spec_l1Cur_one.f (s0_0 : List Int) (s0_1 : Int) (s0_2 : Int) (a1 : Int) : Option (Bool × Int × Int) := (spec_l1Cur_pick.f s0_0 s0_1 s0_2 a1).bind fun bt101 => (some ((bt101.1 == 0), bt101.2.1, bt101.2.2))
theorem spec_l1Cur_one.calls (g : Nat) (s0_0 : List Int) (s0_1 : Int) (s0_2 : Int) (a1 : Int) (r1 : Bool) (r2 : Int) (r3 : Int) (w0 w : World) (hI : IsS75 w0 w g s0_0 s0_1 s0_2) (hB : Below w0.heap.size w0 w) (h : spec_l1Cur_one.f s0_0 s0_1 s0_2 a1 = some (r1, r2, r3)) :
  Calls Tryz.prog 59 #[.pointer (some ⟨g, 0, none⟩), .int .i64 a1] w fun e w' => e = .returned (.bool r1) ∧ IsS75 w0 w' g s0_0 r2 r3 ∧ Below w0.heap.size w0 w' ∧ KeepBut w w' g none := by
 have HI0 := am hI
 have HK := am (KeepBut.refl w g none)
 have HL := am hB.size
 clear hI
 have HW0 := am hB.size
 have HB := am hB
 clear hB
 have H := h
 clear h
 unfold spec_l1Cur_one.f at H
 obtain ⟨⟨t101, t102, t103⟩, A30, H⟩ := bH H
 dsimp only at H
 have A3 := am A30
 clear A30
 simp only [Option.some.injEq, Prod.mk.injEq] at H
 obtain ⟨rfl, rfl, rfl⟩ := H
 go_enter Tryz.func59, Tryz.ntmps59
 go_wp2_with (((with_reducible refine gate_callee (f := 83) rfl ?_); refine uGo (some 7) Tryz.func83 #[.pointer (some ⟨g, 0, none⟩), .int .i64 a1] ?_; (with_reducible refine (spec_l1Cur_pick.calls g s0_0 s0_1 s0_2 a1 t101 t102 t103 w0 _ ?side1 ?side2 A3.out).mono ?_); (case side1 => exact uI); (case side2 => exact uW); rintro e w4 ⟨rfl, hi, hb, hk⟩; refine ⟨_, rfl, ?_⟩; replace HK := am (KeepBut.trans uV hk (.inl rfl)); replace HB := am (hb); replace HI0 := am (hi); (try clear hb); (try clear hk); (try clear hi)))
 go_ret
 exact ⟨uA, by exact uI, by exact uW, by exact uV⟩
def spec_l1Cur_clue.j0 : Nat → Bool → List Int → Int → Int → Int → Int → Int → Option (Int × Int × Int × Int × Int)
 | 0, _, _, _, _, _, _, _ => none
 | k + 1, x28, x1000, x1001, x1002, x115000, x115001, x115002 => if x28 = true then ((spec_l1Cur_pick.f x1000 x1001 x1002 10).bind fun bt118 => ((spec_l1Cur_pick.f x1000 bt118.2.1 bt118.2.2 3).bind fun bt121 => ((spec_l1Cur_pick.f x1000 bt121.2.1 bt121.2.2 9).bind fun bt124 => (some (x115000, wrap64 (1 + bt118.1), wrap64 (bt121.1 - (wrap64 (Int.tdiv bt124.1 8))), bt124.2.1, bt124.2.2))))) else (some (x115000, x115001, x115002, x1001, x1002))
def spec_l1Cur_clue.f (k : Nat) (s0_0 : List Int) (s0_1 : Int) (s0_2 : Int) : Option (Int × Int × Int × Int × Int) := (spec_l1Cur_pick.f s0_0 s0_1 s0_2 6).bind fun bt102 => ((spec_l1Cur_pick.f s0_0 bt102.2.1 bt102.2.2 9).bind fun bt105 => ((spec_l1Cur_pick.f s0_0 bt105.2.1 bt105.2.2 9).bind fun bt108 => ((spec_l1Cur_pick.f s0_0 bt108.2.1 bt108.2.2 9).bind fun bt111 => (if (wrap64 (bt102.1 + (wrap64 (Int.tdiv bt105.1 8)))) = 2 then (spec_l1Cur_clue.j0 k true s0_0 bt111.2.1 bt111.2.2 (wrap64 (bt102.1 + (wrap64 (Int.tdiv bt105.1 8)))) 0 (wrap64 (bt108.1 - (wrap64 (Int.tdiv bt111.1 8))))) else (if (wrap64 (bt102.1 + (wrap64 (Int.tdiv bt105.1 8)))) = 4 then (spec_l1Cur_clue.j0 k true s0_0 bt111.2.1 bt111.2.2 (wrap64 (bt102.1 + (wrap64 (Int.tdiv bt105.1 8)))) 0 (wrap64 (bt108.1 - (wrap64 (Int.tdiv bt111.1 8))))) else ((spec_l1Cur_one.f s0_0 bt111.2.1 bt111.2.2 10).bind fun bt115 => (spec_l1Cur_clue.j0 k bt115.1 s0_0 bt115.2.1 bt115.2.2 (wrap64 (bt102.1 + (wrap64 (Int.tdiv bt105.1 8)))) 0 (wrap64 (bt108.1 - (wrap64 (Int.tdiv bt111.1 8)))))))))))
theorem spec_l1Cur_clue.calls (k : Nat) (g : Nat) (s0_0 : List Int) (s0_1 : Int) (s0_2 : Int) (r1 : Int) (r2 : Int) (r3 : Int) (r4 : Int) (r5 : Int) (w0 w : World) (hI : IsS75 w0 w g s0_0 s0_1 s0_2) (hB : Below w0.heap.size w0 w) (h : spec_l1Cur_clue.f k s0_0 s0_1 s0_2 = some (r1, r2, r3, r4, r5)) :
  Calls Tryz.prog 88 #[.pointer (some ⟨g, 0, none⟩)] w fun e w' => e = .returned (.agg #[.int .i64 r1, .int .i64 r2, .int .i64 r3]) ∧ IsS75 w0 w' g s0_0 r4 r5 ∧ Below w0.heap.size w0 w' ∧ KeepBut w w' g none := by
 have hu46 := Tryz.underlying46
 have HI0 := am hI
 have HK := am (KeepBut.refl w g none)
 have HL := am hB.size
 clear hI
 have HW0 := am hB.size
 have HB := am hB
 clear hB
 have H := h
 clear h
 unfold spec_l1Cur_clue.f at H
 obtain ⟨⟨t102, t103, t104⟩, A20, H⟩ := bH H
 dsimp only at H
 have A2 := am A20
 clear A20
 obtain ⟨⟨t105, t106, t107⟩, A30, H⟩ := bH H
 dsimp only at H
 have A3 := am A30
 clear A30
 obtain ⟨⟨t108, t109, t110⟩, A40, H⟩ := bH H
 dsimp only at H
 have A4 := am A40
 clear A40
 obtain ⟨⟨t111, t112, t113⟩, A50, H⟩ := bH H
 dsimp only at H
 have A5 := am A50
 clear A50
 have HC6 := am H
 clear H
 go_enter Tryz.func88, Tryz.ntmps88
 go_upto_region 2 with (first | ((with_reducible refine gate_dst (N := 2) rfl ?_); refine uX (N := 2) (cs := #[.int .i64 0, .int .i64 0, .int .i64 0]) (t := 46) ?_; intro gb101 hg w7 hbox hb; have BK101 := am (hbox); have GW101 := am ((by rw [hg]; exact (keep_size (w := w) (g := g) (row := none) uV) : w.heap.size ≤ gb101)); have GE101 := am ((Nat.le_trans HW0.out (by rw [hg]; exact (keep_size (w := w) (g := g) (row := none) uV) : w.heap.size ≤ gb101) : w0.heap.size ≤ gb101)); have NB0_101 := am ((by rw [hg]; exact Nat.ne_of_lt (IsS75.lt (show IsS75 w0 _ g s0_0 s0_1 s0_2 from by exact uI)) : g ≠ gb101)); have NB101_0 := am ((by rw [hg]; exact Nat.ne_of_gt (IsS75.lt (show IsS75 w0 _ g s0_0 s0_1 s0_2 from by exact uI)) : gb101 ≠ g)); replace HI0 := am (IsS75.below uI hb); replace HK := am (KeepBut.trans uV (KeepBut.of_below hb g none) (.inl rfl)); replace HB := uS hb; clear hb hbox hg) | ((with_reducible refine gate_callee (f := 83) rfl ?_); refine uGo (some 5) Tryz.func83 #[.pointer (some ⟨g, 0, none⟩), .int .i64 6] ?_; (with_reducible refine (spec_l1Cur_pick.calls g s0_0 s0_1 s0_2 6 t102 t103 t104 w0 _ ?side1 ?side2 A2.out).mono ?_); (case side1 => exact uI); (case side2 => exact uW); rintro e w8 ⟨rfl, hi, hb, hk⟩; refine ⟨_, rfl, ?_⟩; replace BK101 := am (KeepBut.blk hk (uP BK101) NB101_0.out (by simp)); replace HK := am (KeepBut.trans uV hk (.inl rfl)); replace HB := am (hb); replace HI0 := am (hi); (try clear hb); (try clear hk); (try clear hi)) | ((with_reducible refine gate_callee (f := 83) rfl ?_); refine uGo (some 7) Tryz.func83 #[.pointer (some ⟨g, 0, none⟩), .int .i64 9] ?_; (with_reducible refine (spec_l1Cur_pick.calls g s0_0 t103 t104 9 t105 t106 t107 w0 _ ?side1 ?side2 A3.out).mono ?_); (case side1 => exact uI); (case side2 => exact uW); rintro e w9 ⟨rfl, hi, hb, hk⟩; refine ⟨_, rfl, ?_⟩; replace BK101 := am (KeepBut.blk hk (uP BK101) NB101_0.out (by simp)); replace HK := am (KeepBut.trans uV hk (.inl rfl)); replace HB := am (hb); replace HI0 := am (hi); (try clear hb); (try clear hk); (try clear hi)) | ((with_reducible refine gate_callee (f := 83) rfl ?_); refine uGo (some 11) Tryz.func83 #[.pointer (some ⟨g, 0, none⟩), .int .i64 9] ?_; (with_reducible refine (spec_l1Cur_pick.calls g s0_0 t106 t107 9 t108 t109 t110 w0 _ ?side1 ?side2 A4.out).mono ?_); (case side1 => exact uI); (case side2 => exact uW); rintro e w10 ⟨rfl, hi, hb, hk⟩; refine ⟨_, rfl, ?_⟩; replace BK101 := am (KeepBut.blk hk (uP BK101) NB101_0.out (by simp)); replace HK := am (KeepBut.trans uV hk (.inl rfl)); replace HB := am (hb); replace HI0 := am (hi); (try clear hb); (try clear hk); (try clear hi)) | ((with_reducible refine gate_callee (f := 83) rfl ?_); refine uGo (some 13) Tryz.func83 #[.pointer (some ⟨g, 0, none⟩), .int .i64 9] ?_; (with_reducible refine (spec_l1Cur_pick.calls g s0_0 t109 t110 9 t111 t112 t113 w0 _ ?side1 ?side2 A5.out).mono ?_); (case side1 => exact uI); (case side2 => exact uW); rintro e w11 ⟨rfl, hi, hb, hk⟩; refine ⟨_, rfl, ?_⟩; replace BK101 := am (KeepBut.blk hk (uP BK101) NB101_0.out (by simp)); replace HK := am (KeepBut.trans uV hk (.inl rfl)); replace HB := am (hb); replace HI0 := am (hi); (try clear hb); (try clear hk); (try clear hi)) | ((with_reducible refine gate_dst (N := 3) rfl ?_); refine uX (N := 3) (cs := #[.int .i64 0, .int .i64 0, .int .i64 0]) (t := 46) ?_; intro gb114 hg w12 hbox hb; have BK114 := am (hbox); have GW114 := am ((by rw [hg]; exact (keep_size (w := w) (g := g) (row := none) uV) : w.heap.size ≤ gb114)); have GE114 := am ((Nat.le_trans HW0.out (by rw [hg]; exact (keep_size (w := w) (g := g) (row := none) uV) : w.heap.size ≤ gb114) : w0.heap.size ≤ gb114)); have NB101_114 := uL BK101 hg; have NB114_101 := uY NB101_114; have NB0_114 := am ((by rw [hg]; exact Nat.ne_of_lt (IsS75.lt (show IsS75 w0 _ g s0_0 t112 t113 from by exact uI)) : g ≠ gb114)); have NB114_0 := am ((by rw [hg]; exact Nat.ne_of_gt (IsS75.lt (show IsS75 w0 _ g s0_0 t112 t113 from by exact uI)) : gb114 ≠ g)); replace HI0 := am (IsS75.below uI hb); replace BK101 := uB BK101 hb; replace HK := am (KeepBut.trans uV (KeepBut.of_below hb g none) (.inl rfl)); replace HB := uS hb; clear hb hbox hg; have hnb13 := NB114_101.out; have hnc13 := NB101_114.out; have hnb14 := NB114_0.out; have hnc14 := NB0_114.out; obtain ⟨hcz15_0, hcz15_1, hcz15_2, hfz15_0, hfz15_1, hfz15_2⟩ := uZ3 BK114))
 (skip)
 go_cut [28] (fun v28 wc => ∃ (kq : Nat) (x28_5 : Bool) (x1001_5 : Int) (x1002_5 : Int), v28 = .bool x28_5 ∧ Aside0 (spec_l1Cur_clue.j0 kq x28_5 s0_0 x1001_5 x1002_5 (wrap64 (t102 + (wrap64 (Int.tdiv t105 8)))) 0 (wrap64 (t108 - (wrap64 (Int.tdiv t111 8)))) = some (r1, r2, r3, r4, r5)) ∧ Aside0 (kq ≤ k) ∧ Aside0 (wc.heap[gb101]? = some (.cells #[.int .i64 0, .int .i64 0, .int .i64 0] 46 (0, 0))) ∧ Aside0 (wc.heap[gb114]? = some (.cells #[.int .i64 (wrap64 (t102 + (wrap64 (Int.tdiv t105 8)))), .int .i64 0, .int .i64 (wrap64 (t108 - (wrap64 (Int.tdiv t111 8))))] 46 (0, 0))) ∧ Aside0 (IsS75 w0 wc g s0_0 x1001_5 x1002_5) ∧ Aside0 (KeepBut w wc g none) ∧ Aside0 (Below w0.heap.size w0 wc))
 case first =>
  have H := HC6.out
  clear HC6
  by_cases c16 : (wrap64 (t102 + (wrap64 (Int.tdiv t105 8)))) = 2
  ·rw [if_pos c16] at H
   have c16b0 : ((wrap64 (t102 + (wrap64 (Int.tdiv t105 8)))) == 2) = true := beq_iff_eq.mpr c16
   have c16b1 : ((wrap64 (t102 + (wrap64 (Int.tdiv t105 8)))) != 2) = false := bne_eq_false_iff_eq.mpr c16
   clear c16
   (skip)
   have H' := am H
   clear H
   have hnb17 := NB114_101.out
   have hnc17 := NB101_114.out
   have hnb18 := NB114_0.out
   have hnc18 := NB0_114.out
   obtain ⟨hcz19_0, hcz19_1, hcz19_2, hfz19_0, hfz19_1, hfz19_2⟩ := uZ3 BK114
   go_wp2
   go_meet
   case rel => exact ⟨_, (true), (t112), (t113), (by rfl), H', ⟨by omega⟩, ⟨by refine blk_far ?_ NB101_114.out _; refine blk_far ?_ NB101_114.out _; refine blk_far ?_ NB101_114.out _; exact (uP BK101)⟩, ⟨by refine blk_put (cs := #[.int .i64 (wrap64 (t102 + (wrap64 (Int.tdiv t105 8)))), .int .i64 0, .int .i64 0]) ?_ 2 _ rfl; refine blk_put (cs := #[.int .i64 (wrap64 (t102 + (wrap64 (Int.tdiv t105 8)))), .int .i64 0, .int .i64 0]) ?_ 1 _ rfl; refine blk_put (cs := #[.int .i64 0, .int .i64 0, .int .i64 0]) ?_ 0 _ rfl; exact (uP BK114)⟩, ⟨by exact uI⟩, ⟨by exact uV⟩, ⟨by exact uW⟩⟩
  ·rw [if_neg c16] at H
   have c16b0 : ((wrap64 (t102 + (wrap64 (Int.tdiv t105 8)))) == 2) = false := beq_eq_false_iff_ne.mpr c16
   have c16b1 : ((wrap64 (t102 + (wrap64 (Int.tdiv t105 8)))) != 2) = true := bne_iff_ne.mpr c16
   (skip)
   by_cases c20 : (wrap64 (t102 + (wrap64 (Int.tdiv t105 8)))) = 4
   ·rw [if_pos c20] at H
    have c20b0 : ((wrap64 (t102 + (wrap64 (Int.tdiv t105 8)))) == 4) = true := beq_iff_eq.mpr c20
    have c20b1 : ((wrap64 (t102 + (wrap64 (Int.tdiv t105 8)))) != 4) = false := bne_eq_false_iff_eq.mpr c20
    clear c20
    have H' := am H
    clear H
    have hnb21 := NB114_101.out
    have hnc21 := NB101_114.out
    have hnb22 := NB114_0.out
    have hnc22 := NB0_114.out
    obtain ⟨hcz23_0, hcz23_1, hcz23_2, hfz23_0, hfz23_1, hfz23_2⟩ := uZ3 BK114
    go_wp2
    go_meet
    case rel => exact ⟨_, (true), (t112), (t113), (by rfl), H', ⟨by omega⟩, ⟨by refine blk_far ?_ NB101_114.out _; refine blk_far ?_ NB101_114.out _; refine blk_far ?_ NB101_114.out _; exact (uP BK101)⟩, ⟨by refine blk_put (cs := #[.int .i64 (wrap64 (t102 + (wrap64 (Int.tdiv t105 8)))), .int .i64 0, .int .i64 0]) ?_ 2 _ rfl; refine blk_put (cs := #[.int .i64 (wrap64 (t102 + (wrap64 (Int.tdiv t105 8)))), .int .i64 0, .int .i64 0]) ?_ 1 _ rfl; refine blk_put (cs := #[.int .i64 0, .int .i64 0, .int .i64 0]) ?_ 0 _ rfl; exact (uP BK114)⟩, ⟨by exact uI⟩, ⟨by exact uV⟩, ⟨by exact uW⟩⟩
   ·rw [if_neg c20] at H
    have c20b0 : ((wrap64 (t102 + (wrap64 (Int.tdiv t105 8)))) == 4) = false := beq_eq_false_iff_ne.mpr c20
    have c20b1 : ((wrap64 (t102 + (wrap64 (Int.tdiv t105 8)))) != 4) = true := bne_iff_ne.mpr c20
    obtain ⟨⟨t115, t116, t117⟩, A240, H⟩ := bH H
    dsimp only at H
    have A24 := am A240
    clear A240
    have H' := am H
    clear H
    have hnb25 := NB114_101.out
    have hnc25 := NB101_114.out
    have hnb26 := NB114_0.out
    have hnc26 := NB0_114.out
    obtain ⟨hcz27_0, hcz27_1, hcz27_2, hfz27_0, hfz27_1, hfz27_2⟩ := uZ3 BK114
    go_wp2_with ((go_at_call 59; (with_reducible refine (spec_l1Cur_one.calls g s0_0 t112 t113 10 t115 t116 t117 w0 _ ?side1 ?side2 A24.out).mono ?_); (case side1 => exact uI); (case side2 => exact uW); rintro e w28 ⟨rfl, hi, hb, hk⟩; replace BK101 := am (KeepBut.blk hk (g' := gb101) (o := .cells #[.int .i64 0, .int .i64 0, .int .i64 0] 46 (0, 0)) (by refine blk_far ?_ NB101_114.out _; refine blk_far ?_ NB101_114.out _; refine blk_far ?_ NB101_114.out _; exact (uP BK101)) NB101_0.out (by simp)); replace BK114 := am (KeepBut.blk hk (g' := gb114) (o := .cells #[.int .i64 (wrap64 (t102 + (wrap64 (Int.tdiv t105 8)))), .int .i64 0, .int .i64 (wrap64 (t108 - (wrap64 (Int.tdiv t111 8))))] 46 (0, 0)) (by refine blk_put (cs := #[.int .i64 (wrap64 (t102 + (wrap64 (Int.tdiv t105 8)))), .int .i64 0, .int .i64 0]) ?_ 2 _ rfl; refine blk_put (cs := #[.int .i64 (wrap64 (t102 + (wrap64 (Int.tdiv t105 8)))), .int .i64 0, .int .i64 0]) ?_ 1 _ rfl; refine blk_put (cs := #[.int .i64 0, .int .i64 0, .int .i64 0]) ?_ 0 _ rfl; exact (uP BK114)) NB114_0.out (by simp)); replace HK := am (KeepBut.trans uV hk (.inl rfl)); replace HB := am (hb); replace HI0 := am (hi); (try clear hb); (try clear hk); (try clear hi)))
    go_meet
    case rel => exact ⟨_, (t115), (t116), (t117), (by rfl), H', ⟨by omega⟩, ⟨by (with_reducible skip); exact BK101.out⟩, ⟨by (with_reducible skip); exact BK114.out⟩, ⟨by exact uI⟩, ⟨by exact uV⟩, ⟨by exact uW⟩⟩
 case rest =>
  clear HC6
  try clear hcz15_0
  try clear hcz15_1
  try clear hcz15_2
  try clear hfz15_0
  try clear hfz15_1
  try clear hfz15_2
  obtain ⟨kq, x28_5, x1001_5, x1002_5, rfl, HA, HJ5, BK101, BK114, HI0, HK, HB⟩ := hcut
  cases kq with
  | zero => exact absurd HA.out (by simp [spec_l1Cur_clue.j0])
  | succ kj5 =>
   have H := HA.out
   clear HA
   simp only [spec_l1Cur_clue.j0] at H
   by_cases c29 : x28_5 = true
   ·subst c29
    rw [if_pos rfl] at H
    obtain ⟨⟨t118, t119, t120⟩, A300, H⟩ := bH H
    dsimp only at H
    have A30 := am A300
    clear A300
    obtain ⟨⟨t121, t122, t123⟩, A310, H⟩ := bH H
    dsimp only at H
    have A31 := am A310
    clear A310
    obtain ⟨⟨t124, t125, t126⟩, A320, H⟩ := bH H
    dsimp only at H
    have A32 := am A320
    clear A320
    simp only [Option.some.injEq, Prod.mk.injEq] at H
    obtain ⟨rfl, rfl, rfl, rfl, rfl⟩ := H
    go_wp2_with (first | ((with_reducible refine gate_callee (f := 83) rfl ?_); refine uGo (some 30) Tryz.func83 #[.pointer (some ⟨g, 0, none⟩), .int .i64 10] ?_; (with_reducible refine (spec_l1Cur_pick.calls g s0_0 x1001_5 x1002_5 10 t118 t119 t120 w0 _ ?side1 ?side2 A30.out).mono ?_); (case side1 => exact uI); (case side2 => exact uW); rintro e w33 ⟨rfl, hi, hb, hk⟩; refine ⟨_, rfl, ?_⟩; replace BK101 := am (KeepBut.blk hk (uP BK101) NB101_0.out (by simp)); replace BK114 := am (KeepBut.blk hk (uP BK114) NB114_0.out (by simp)); replace HK := am (KeepBut.trans uV hk (.inl rfl)); replace HB := am (hb); replace HI0 := am (hi); (try clear hb); (try clear hk); (try clear hi); have hnb34 := NB114_101.out; have hnc34 := NB101_114.out; have hnb35 := NB114_0.out; have hnc35 := NB0_114.out; obtain ⟨hcz36_0, hcz36_1, hcz36_2, hfz36_0, hfz36_1, hfz36_2⟩ := uZ3 BK114) | ((with_reducible refine gate_callee (f := 83) rfl ?_); refine uGo (some 34) Tryz.func83 #[.pointer (some ⟨g, 0, none⟩), .int .i64 3] ?_; (with_reducible refine (spec_l1Cur_pick.calls g s0_0 t119 t120 3 t121 t122 t123 w0 _ ?side1 ?side2 A31.out).mono ?_); (case side1 => exact uI); (case side2 => exact uW); rintro e w37 ⟨rfl, hi, hb, hk⟩; refine ⟨_, rfl, ?_⟩; replace BK101 := am (KeepBut.blk hk (g' := gb101) (o := .cells #[.int .i64 0, .int .i64 0, .int .i64 0] 46 (0, 0)) (by refine blk_far ?_ NB101_114.out _; exact (uP BK101)) NB101_0.out (by simp)); replace BK114 := am (KeepBut.blk hk (g' := gb114) (o := .cells #[.int .i64 (wrap64 (t102 + (wrap64 (Int.tdiv t105 8)))), .int .i64 (wrap64 (1 + t118)), .int .i64 (wrap64 (t108 - (wrap64 (Int.tdiv t111 8))))] 46 (0, 0)) (by refine blk_put (cs := #[.int .i64 (wrap64 (t102 + (wrap64 (Int.tdiv t105 8)))), .int .i64 0, .int .i64 (wrap64 (t108 - (wrap64 (Int.tdiv t111 8))))]) ?_ 1 _ rfl; exact (uP BK114)) NB114_0.out (by simp)); replace HK := am (KeepBut.trans uV hk (.inl rfl)); replace HB := am (hb); replace HI0 := am (hi); (try clear hb); (try clear hk); (try clear hi)) | ((with_reducible refine gate_callee (f := 83) rfl ?_); refine uGo (some 36) Tryz.func83 #[.pointer (some ⟨g, 0, none⟩), .int .i64 9] ?_; (with_reducible refine (spec_l1Cur_pick.calls g s0_0 t122 t123 9 t124 t125 t126 w0 _ ?side1 ?side2 A32.out).mono ?_); (case side1 => exact uI); (case side2 => exact uW); rintro e w38 ⟨rfl, hi, hb, hk⟩; refine ⟨_, rfl, ?_⟩; replace BK101 := am (KeepBut.blk hk (uP BK101) NB101_0.out (by simp)); replace BK114 := am (KeepBut.blk hk (uP BK114) NB114_0.out (by simp)); replace HK := am (KeepBut.trans uV hk (.inl rfl)); replace HB := am (hb); replace HI0 := am (hi); (try clear hb); (try clear hk); (try clear hi); obtain ⟨hcz39_0, hcz39_1, hcz39_2, hfz39_0, hfz39_1, hfz39_2⟩ := uZ3 BK114; have hnb40 := NB101_0.out; have hnc40 := NB0_101.out; obtain ⟨hcz41_0, hcz41_1, hcz41_2, hfz41_0, hfz41_1, hfz41_2⟩ := uZ3 BK101))
    refine bodyPost_ret (results_cell_row rfl _ _ gb101 46 #[.int .i64 (wrap64 (t102 + (wrap64 (Int.tdiv t105 8)))), .int .i64 (wrap64 (1 + t118)), .int .i64 (wrap64 (t121 - (wrap64 (Int.tdiv t124 8))))] (0, 0) _ rfl (by refine blk_put (cs := #[.int .i64 (wrap64 (t102 + (wrap64 (Int.tdiv t105 8)))), .int .i64 (wrap64 (1 + t118)), .int .i64 0]) ?_ 2 _ rfl; refine blk_put (cs := #[.int .i64 (wrap64 (t102 + (wrap64 (Int.tdiv t105 8)))), .int .i64 0, .int .i64 0]) ?_ 1 _ rfl; refine blk_put (cs := #[.int .i64 0, .int .i64 0, .int .i64 0]) ?_ 0 _ rfl; refine blk_far ?_ NB101_114.out _; exact (uP BK101)) Tryz.underlying46 rfl (by kernel_rfl)) rfl ?_
    exact ⟨uA, by exact uI, by exact uW, by exact uV⟩
   ·replace c29 := Bool.eq_false_iff.mpr c29
    subst c29
    rw [if_neg (show ¬ (false = true) by decide)] at H
    simp only [Option.some.injEq, Prod.mk.injEq] at H
    obtain ⟨rfl, rfl, rfl, rfl, rfl⟩ := H
    have hnb42 := NB114_101.out
    have hnc42 := NB101_114.out
    have hnb43 := NB114_0.out
    have hnc43 := NB0_114.out
    obtain ⟨hcz44_0, hcz44_1, hcz44_2, hfz44_0, hfz44_1, hfz44_2⟩ := uZ3 BK114
    have hnb45 := NB101_0.out
    have hnc45 := NB0_101.out
    obtain ⟨hcz46_0, hcz46_1, hcz46_2, hfz46_0, hfz46_1, hfz46_2⟩ := uZ3 BK101
    go_wp2
    refine bodyPost_ret (results_cell_row rfl _ _ gb101 46 #[.int .i64 (wrap64 (t102 + (wrap64 (Int.tdiv t105 8)))), .int .i64 0, .int .i64 (wrap64 (t108 - (wrap64 (Int.tdiv t111 8))))] (0, 0) _ rfl (by refine blk_put (cs := #[.int .i64 (wrap64 (t102 + (wrap64 (Int.tdiv t105 8)))), .int .i64 0, .int .i64 0]) ?_ 2 _ rfl; refine blk_put (cs := #[.int .i64 (wrap64 (t102 + (wrap64 (Int.tdiv t105 8)))), .int .i64 0, .int .i64 0]) ?_ 1 _ rfl; refine blk_put (cs := #[.int .i64 0, .int .i64 0, .int .i64 0]) ?_ 0 _ rfl; exact (uP BK101)) Tryz.underlying46 rfl (by kernel_rfl)) rfl ?_
    exact ⟨uA, by exact uI, by exact uW, by exact uV⟩
end Go.Proofs.YtijcdpnnjiamjaaGreatDoor.G
end
