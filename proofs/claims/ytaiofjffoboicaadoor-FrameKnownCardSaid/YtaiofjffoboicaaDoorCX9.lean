/- Parts of a proof, printed by a program of mine out of my texts: more of FrAck, Shelf, FrEnc, FxKey, FxPre, FxData. -/
import Derived.Test.YtaiofjffoboicaaDoorCByt
import Derived.Test.YtaiofjffoboicaaDoorCFx
import Derived.Test.YtaiofjffoboicaaDoorCShelf
import Derived.Test.YtaiofjffoboicaaDoorCUsed
set_option linter.unusedSimpArgs false
set_option linter.unusedVariables false
namespace Go.Proofs.YtaiofjffoboicaaDoor
open Go.RowKit
def ackF (off : Int) : Fr := ⟨5, 2, 1, 4, 3, off, 0, 1, 7, 0, 0, 0, 0, 0, 0, 0, 0, 0, ⟨#[]⟩⟩
end Go.Proofs.YtaiofjffoboicaaDoor
namespace Go.Proofs.YtaiofjffoboicaaDoor
open Go.Shelf
def Tryd.lays156_ren : Go.Shelf.Ren := ⟨fun | 156 => 49 | 165 => 76 | 166 => 65 | 169 => 70 | 240 => 93 | 241 => 104 | 276 => 110 | 277 => 121 | n => n, fun | 31 => 88 | 9 => 9 | 3 => 3 | 4 => 4 | 0 => 0 | 20 => 20 | 72 => 105 | 76 => 110 | 70 => 103 | 37 => 41 | 75 => 107 | 127 => 150 | 164 => 167 | 5 => 5 | 80 => 115 | n => n, fun | n => n⟩
theorem Tryd.lays156 : Go.Proofs.Lays.n156 Tryd.prog Tryd.lays156_ren := {
  mixed := by kernel_rfl
  f156 := Tryd.func49.trans (congrArg some (by kernel_rfl))
  f165 := Tryd.func76.trans (congrArg some (by kernel_rfl))
  f166 := Tryd.func65.trans (congrArg some (by kernel_rfl))
  f169 := Tryd.func70.trans (congrArg some (by kernel_rfl))
  f240 := Tryd.func93.trans (congrArg some (by kernel_rfl))
  f241 := Tryd.func104.trans (congrArg some (by kernel_rfl))
  f276 := Tryd.func110.trans (congrArg some (by kernel_rfl))
  f277 := Tryd.func121.trans (congrArg some (by kernel_rfl))
  t0 := Tryd.underlying0
  a0 := Tryd.isAgg0
  z0 := Tryd.sizeOf0
  v0 := Tryd.zeroValue0
  t3 := Tryd.underlying3
  a3 := Tryd.isAgg3
  z3 := Tryd.sizeOf3
  v3 := Tryd.zeroValue3
  t4 := Tryd.underlying4
  a4 := Tryd.isAgg4
  z4 := Tryd.sizeOf4
  v4 := Tryd.zeroValue4
  t9 := Tryd.underlying9
  a9 := Tryd.isAgg9
  z9 := Tryd.sizeOf9
  v9 := Tryd.zeroValue9
  t20 := Tryd.underlying20
  a20 := Tryd.isAgg20
  z20 := Tryd.sizeOf20
  v20 := Tryd.zeroValue20
  t31 := Tryd.underlying88
  a31 := Tryd.isAgg88
  z31 := Tryd.sizeOf88
  v31 := Tryd.zeroValue88
  t37 := Tryd.underlying41
  a37 := Tryd.isAgg41
  z37 := Tryd.sizeOf41
  v37 := Tryd.zeroValue41
  t70 := Tryd.underlying103
  a70 := Tryd.isAgg103
  z70 := Tryd.sizeOf103
  v70 := Tryd.zeroValue103
  t72 := Tryd.underlying105
  a72 := Tryd.isAgg105
  z72 := Tryd.sizeOf105
  v72 := Tryd.zeroValue105
  t75 := Tryd.underlying107
  a75 := Tryd.isAgg107
  z75 := Tryd.sizeOf107
  v75 := Tryd.zeroValue107
  t76 := Tryd.underlying110
  a76 := Tryd.isAgg110
  z76 := Tryd.sizeOf110
  v76 := Tryd.zeroValue110
  t127 := Tryd.underlying150
  a127 := Tryd.isAgg150
  z127 := Tryd.sizeOf150
  v127 := Tryd.zeroValue150
  t164 := Tryd.underlying167
  a164 := Tryd.isAgg167
  z164 := Tryd.sizeOf167
  v164 := Tryd.zeroValue167 }
theorem Tryd.Builder_Extra_156 : Builder.Extra Tryd.prog Tryd.lays156_ren := {
  sizeBuilder := by kernel_rfl
  liesBuilder := by kernel_rfl
  t5 := Tryd.underlying5
  a5 := Tryd.isAgg5
  z5 := Tryd.sizeOf5
  v5 := Tryd.zeroValue5
  infoByte := by kernel_rfl
  cellsByte := by kernel_rfl
  sizeByte := by kernel_rfl
  neB5 := by decide }
open Go.RowKit in
theorem Tryd.strings_Join (bk o c : Nat) (xs : List ByteArray) (sep : ByteArray) (w : World) (hcells : ∀ (j : Nat) x, xs[j]? = some x → w.cell? ⟨bk, o + j, none⟩ = some (.string x)) (hbk : bk < w.heap.size) (hN : xs.length ≤ 140737488355328) (hcap : xs.length ≤ c) (hlen : (Lib.join (xs.map (·.data.toList)) sep.data.toList).length ≤ 140737488355328) :
    Calls Tryd.prog 49 #[.slice (some ⟨bk, o, none⟩) xs.length c, .string sep] w fun e w' => e = .returned (.string ⟨(Lib.join (xs.map (·.data.toList)) sep.data.toList).toArray⟩) ∧ Below w.heap.size w w' := Any.strings_Join Tryd.lays156 Tryd.Builder_Extra_156 bk o c xs sep w hcells hbk hN hcap hlen
def Tryd.lays283_ren : Go.Shelf.Ren := ⟨fun | 283 => 98 | n => n, fun | 3 => 3 | 9 => 9 | 4 => 4 | n => n, fun | n => n⟩
theorem Tryd.lays283 : Go.Proofs.Lays.n283 Tryd.prog Tryd.lays283_ren := {
  mixed := by kernel_rfl
  f283 := Tryd.func98.trans (congrArg some (by kernel_rfl))
  t3 := Tryd.underlying3
  a3 := Tryd.isAgg3
  z3 := Tryd.sizeOf3
  v3 := Tryd.zeroValue3
  t4 := Tryd.underlying4
  a4 := Tryd.isAgg4
  z4 := Tryd.sizeOf4
  v4 := Tryd.zeroValue4
  t9 := Tryd.underlying9
  a9 := Tryd.isAgg9
  z9 := Tryd.sizeOf9
  v9 := Tryd.zeroValue9 }
open Go.Lib in
theorem Tryd.internal_strconv_small (i : Nat) (h : i < 100) (w : World) :
    Calls Tryd.prog 98 #[.int .i64 i] w fun e w' => e = .returned (.string ⟨(Lib.decDigits i).toArray⟩) ∧ w' = w := Any.internal_strconv_small Tryd.lays283 i h w
def Tryd.laysM284_ren : Go.Shelf.Ren := ⟨fun | 284 => 99 | 129 => 115 | 317 => 114 | 318 => 116 | n => n, fun | 53 => 23 | 3 => 3 | 212 => 172 | 0 => 0 | 4 => 4 | 46 => 40 | 5 => 5 | 9 => 9 | n => n, fun | 17 => 3 | n => n⟩
theorem Tryd.laysM284 : Go.Proofs.LaysM.n284 Tryd.prog Tryd.laysM284_ren := {
  mixed := by kernel_rfl
  f129 := Tryd.func115.trans (congrArg some (by kernel_rfl))
  f284 := Tryd.func99.trans (congrArg some (by kernel_rfl))
  f317 := Tryd.func114.trans (congrArg some (by kernel_rfl))
  f318 := Tryd.func116.trans (congrArg some (by kernel_rfl))
  t0 := Tryd.underlying0
  a0 := Tryd.isAgg0
  z0 := Tryd.sizeOf0
  v0 := Tryd.zeroValue0
  t3 := Tryd.underlying3
  a3 := Tryd.isAgg3
  z3 := Tryd.sizeOf3
  v3 := Tryd.zeroValue3
  t4 := Tryd.underlying4
  a4 := Tryd.isAgg4
  z4 := Tryd.sizeOf4
  v4 := Tryd.zeroValue4
  t5 := Tryd.underlying5
  a5 := Tryd.isAgg5
  z5 := Tryd.sizeOf5
  v5 := Tryd.zeroValue5
  t9 := Tryd.underlying9
  a9 := Tryd.isAgg9
  z9 := Tryd.sizeOf9
  v9 := Tryd.zeroValue9
  t46 := Tryd.underlying40
  a46 := Tryd.isAgg40
  z46 := Tryd.sizeOf40
  v46 := Tryd.zeroValue40
  t53 := Tryd.underlying23
  a53 := Tryd.isAgg23
  z53 := Tryd.sizeOf23
  v53 := Tryd.zeroValue23
  t212 := Tryd.underlying172
  a212 := Tryd.isAgg172
  z212 := Tryd.sizeOf172
  v212 := Tryd.zeroValue172
  g17 := by kernel_rfl
  i0 := by kernel_rfl
  i3 := by kernel_rfl
  i4 := by kernel_rfl
  i5 := by kernel_rfl
  i9 := by kernel_rfl
  i46 := by kernel_rfl
  i53 := by kernel_rfl
  i212 := by kernel_rfl
  m17 := by kernel_rfl }
open Go.Lib in
theorem Tryd.internal_strconv_numDigits (u : Nat) (h1 : 1 ≤ u) (h2 : u < 18446744073709551616) (w : World) (htab : Lib.TabIs Tryd.prog w "internal/strconv.uint64pow10" .u64 Lib.pow10Tab) :
    Calls Tryd.prog 99 #[.int .u64 u] w fun e w' => e = .returned (.int .i64 (Lib.nDigits u)) ∧ w' = w := Any.internal_strconv_numDigits Tryd.laysM284 u h1 h2 w htab
def Tryd.lays285_ren : Go.Shelf.Ren := ⟨fun | 285 => 100 | n => n, fun | 37 => 41 | 53 => 23 | 3 => 3 | 4 => 4 | 51 => 143 | 9 => 9 | 5 => 5 | 0 => 0 | n => n, fun | n => n⟩
theorem Tryd.lays285 : Go.Proofs.Lays.n285 Tryd.prog Tryd.lays285_ren := {
  mixed := by kernel_rfl
  f285 := Tryd.func100.trans (congrArg some (by kernel_rfl))
  t0 := Tryd.underlying0
  a0 := Tryd.isAgg0
  z0 := Tryd.sizeOf0
  v0 := Tryd.zeroValue0
  t3 := Tryd.underlying3
  a3 := Tryd.isAgg3
  z3 := Tryd.sizeOf3
  v3 := Tryd.zeroValue3
  t4 := Tryd.underlying4
  a4 := Tryd.isAgg4
  z4 := Tryd.sizeOf4
  v4 := Tryd.zeroValue4
  t5 := Tryd.underlying5
  a5 := Tryd.isAgg5
  z5 := Tryd.sizeOf5
  v5 := Tryd.zeroValue5
  t9 := Tryd.underlying9
  a9 := Tryd.isAgg9
  z9 := Tryd.sizeOf9
  v9 := Tryd.zeroValue9
  t37 := Tryd.underlying41
  a37 := Tryd.isAgg41
  z37 := Tryd.sizeOf41
  v37 := Tryd.zeroValue41
  t51 := Tryd.underlying143
  a51 := Tryd.isAgg143
  z51 := Tryd.sizeOf143
  v51 := Tryd.zeroValue143
  t53 := Tryd.underlying23
  a53 := Tryd.isAgg23
  z53 := Tryd.sizeOf23
  v53 := Tryd.zeroValue23 }
open Go.RowKit Go.Sort Go.Lib in
theorem Tryd.internal_strconv_formatBase10 (blk off cap : Nat) (u : Nat) (d : Array UInt8) (w : World) (hH : Holds (fun (b : UInt8) => Value.int .u8 (b.toNat : Int)) w blk off d) (hu : u < 10 ^ d.size) (hu64 : u < 18446744073709551616) (hsz : d.size < 4611686018427387904) :
    Calls Tryd.prog 100 #[.slice (some ⟨blk, off, none⟩) d.size cap, .int .u64 u] w fun e w' =>
      e = .returned (.tuple #[]) ∧ ∃ (n v' : Nat) (dk : Array UInt8), w' = (putRow (fun (b : UInt8) => Value.int .u8 (b.toNat : Int)) w blk off dk).drewN n ∧ FmtInv d.size u 0 v' dk := Any.internal_strconv_formatBase10 Tryd.lays285 blk off cap u d w hH hu hu64 hsz
def Tryd.laysM171_ren : Go.Shelf.Ren := ⟨fun | 171 => 45 | 243 => 73 | 246 => 102 | 283 => 98 | 284 => 99 | 285 => 100 | 286 => 101 | 129 => 115 | 317 => 114 | 318 => 116 | 319 => 117 | 320 => 118 | 337 => 125 | 338 => 126 | n => n, fun | 3 => 3 | 9 => 9 | 2 => 2 | 4 => 4 | 171 => 151 | 0 => 0 | 53 => 23 | 37 => 41 | 5 => 5 | 173 => 154 | 212 => 172 | 51 => 143 | 20 => 20 | 213 => 173 | 46 => 40 | 232 => 192 | 233 => 193 | n => n, fun | 17 => 3 | 18 => 6 | 19 => 7 | n => n⟩
theorem Tryd.laysM171 : Go.Proofs.LaysM.n171 Tryd.prog Tryd.laysM171_ren := {
  mixed := by kernel_rfl
  f129 := Tryd.func115.trans (congrArg some (by kernel_rfl))
  f171 := Tryd.func45.trans (congrArg some (by kernel_rfl))
  f243 := Tryd.func73.trans (congrArg some (by kernel_rfl))
  f246 := Tryd.func102.trans (congrArg some (by kernel_rfl))
  f283 := Tryd.func98.trans (congrArg some (by kernel_rfl))
  f284 := Tryd.func99.trans (congrArg some (by kernel_rfl))
  f285 := Tryd.func100.trans (congrArg some (by kernel_rfl))
  f286 := Tryd.func101.trans (congrArg some (by kernel_rfl))
  f317 := Tryd.func114.trans (congrArg some (by kernel_rfl))
  f318 := Tryd.func116.trans (congrArg some (by kernel_rfl))
  f319 := Tryd.func117.trans (congrArg some (by kernel_rfl))
  f320 := Tryd.func118.trans (congrArg some (by kernel_rfl))
  f337 := Tryd.func125.trans (congrArg some (by kernel_rfl))
  f338 := Tryd.func126.trans (congrArg some (by kernel_rfl))
  t0 := Tryd.underlying0
  a0 := Tryd.isAgg0
  z0 := Tryd.sizeOf0
  v0 := Tryd.zeroValue0
  t2 := Tryd.underlying2
  a2 := Tryd.isAgg2
  z2 := Tryd.sizeOf2
  v2 := Tryd.zeroValue2
  t3 := Tryd.underlying3
  a3 := Tryd.isAgg3
  z3 := Tryd.sizeOf3
  v3 := Tryd.zeroValue3
  t4 := Tryd.underlying4
  a4 := Tryd.isAgg4
  z4 := Tryd.sizeOf4
  v4 := Tryd.zeroValue4
  t5 := Tryd.underlying5
  a5 := Tryd.isAgg5
  z5 := Tryd.sizeOf5
  v5 := Tryd.zeroValue5
  t9 := Tryd.underlying9
  a9 := Tryd.isAgg9
  z9 := Tryd.sizeOf9
  v9 := Tryd.zeroValue9
  t20 := Tryd.underlying20
  a20 := Tryd.isAgg20
  z20 := Tryd.sizeOf20
  v20 := Tryd.zeroValue20
  t37 := Tryd.underlying41
  a37 := Tryd.isAgg41
  z37 := Tryd.sizeOf41
  v37 := Tryd.zeroValue41
  t46 := Tryd.underlying40
  a46 := Tryd.isAgg40
  z46 := Tryd.sizeOf40
  v46 := Tryd.zeroValue40
  t51 := Tryd.underlying143
  a51 := Tryd.isAgg143
  z51 := Tryd.sizeOf143
  v51 := Tryd.zeroValue143
  t53 := Tryd.underlying23
  a53 := Tryd.isAgg23
  z53 := Tryd.sizeOf23
  v53 := Tryd.zeroValue23
  t171 := Tryd.underlying151
  a171 := Tryd.isAgg151
  z171 := Tryd.sizeOf151
  v171 := Tryd.zeroValue151
  t173 := Tryd.underlying154
  a173 := Tryd.isAgg154
  z173 := Tryd.sizeOf154
  v173 := Tryd.zeroValue154
  t212 := Tryd.underlying172
  a212 := Tryd.isAgg172
  z212 := Tryd.sizeOf172
  v212 := Tryd.zeroValue172
  t213 := Tryd.underlying173
  a213 := Tryd.isAgg173
  z213 := Tryd.sizeOf173
  t232 := Tryd.underlying192
  a232 := Tryd.isAgg192
  z232 := Tryd.sizeOf192
  v232 := Tryd.zeroValue192
  t233 := Tryd.underlying193
  a233 := Tryd.isAgg193
  z233 := Tryd.sizeOf193
  v233 := Tryd.zeroValue193
  g17 := by kernel_rfl
  g18 := by kernel_rfl
  g19 := by kernel_rfl
  i0 := by kernel_rfl
  i2 := by kernel_rfl
  i3 := by kernel_rfl
  i4 := by kernel_rfl
  i5 := by kernel_rfl
  i9 := by kernel_rfl
  i20 := by kernel_rfl
  i37 := by kernel_rfl
  i46 := by kernel_rfl
  i51 := by kernel_rfl
  i53 := by kernel_rfl
  i171 := by kernel_rfl
  i173 := by kernel_rfl
  i212 := by kernel_rfl
  i232 := by kernel_rfl
  i233 := by kernel_rfl
  m17 := by kernel_rfl
  m18 := by kernel_rfl
  m19 := by kernel_rfl }
open Go.RowKit Go.Sort Go.Lib in
theorem Tryd.strconv_Itoa (n : Int) (h0 : -9223372036854775808 ≤ n) (h1 : n ≤ 9223372036854775807) (w : World) (htab : Lib.TabIs Tryd.prog w "internal/strconv.uint64pow10" .u64 Lib.pow10Tab) :
    Calls Tryd.prog 45 #[.int .i64 n] w fun e w' => e = .returned (.string ⟨(Lib.itoa n).toArray⟩) ∧ ∃ k os, w' = grow (w.drewN k) os := Any.strconv_Itoa Tryd.laysM171 n h0 h1 w htab
def Tryd.lays157_ren : Go.Shelf.Ren := ⟨fun | 157 => 46 | 229 => 74 | 199 => 75 | 261 => 103 | 311 => 119 | 312 => 120 | n => n, fun | 9 => 9 | 31 => 88 | 3 => 3 | 5 => 5 | 4 => 4 | 119 => 121 | 0 => 0 | 40 => 123 | 152 => 157 | 21 => 21 | 154 => 159 | 51 => 143 | 141 => 161 | 196 => 178 | 193 => 175 | 198 => 180 | 49 => 70 | 194 => 176 | 201 => 183 | 226 => 189 | 46 => 40 | 227 => 190 | n => n, fun | 0 => 0 | 6 => 1 | n => n⟩
theorem Tryd.lays157 : Go.Proofs.Lays.n157 Tryd.prog Tryd.lays157_ren := {
  mixed := by kernel_rfl
  f157 := Tryd.func46.trans (congrArg some (by kernel_rfl))
  f199 := Tryd.func75.trans (congrArg some (by kernel_rfl))
  f229 := Tryd.func74.trans (congrArg some (by kernel_rfl))
  f261 := Tryd.func103.trans (congrArg some (by kernel_rfl))
  f311 := Tryd.func119.trans (congrArg some (by kernel_rfl))
  f312 := Tryd.func120.trans (congrArg some (by kernel_rfl))
  t0 := Tryd.underlying0
  a0 := Tryd.isAgg0
  z0 := Tryd.sizeOf0
  v0 := Tryd.zeroValue0
  t3 := Tryd.underlying3
  a3 := Tryd.isAgg3
  z3 := Tryd.sizeOf3
  v3 := Tryd.zeroValue3
  t4 := Tryd.underlying4
  a4 := Tryd.isAgg4
  z4 := Tryd.sizeOf4
  v4 := Tryd.zeroValue4
  t5 := Tryd.underlying5
  a5 := Tryd.isAgg5
  z5 := Tryd.sizeOf5
  v5 := Tryd.zeroValue5
  t9 := Tryd.underlying9
  a9 := Tryd.isAgg9
  z9 := Tryd.sizeOf9
  v9 := Tryd.zeroValue9
  t21 := Tryd.underlying21
  a21 := Tryd.isAgg21
  z21 := Tryd.sizeOf21
  v21 := Tryd.zeroValue21
  t31 := Tryd.underlying88
  a31 := Tryd.isAgg88
  z31 := Tryd.sizeOf88
  v31 := Tryd.zeroValue88
  t40 := Tryd.underlying123
  a40 := Tryd.isAgg123
  z40 := Tryd.sizeOf123
  v40 := Tryd.zeroValue123
  t46 := Tryd.underlying40
  a46 := Tryd.isAgg40
  z46 := Tryd.sizeOf40
  v46 := Tryd.zeroValue40
  t49 := Tryd.underlying70
  a49 := Tryd.isAgg70
  z49 := Tryd.sizeOf70
  v49 := Tryd.zeroValue70
  t51 := Tryd.underlying143
  a51 := Tryd.isAgg143
  z51 := Tryd.sizeOf143
  v51 := Tryd.zeroValue143
  t119 := Tryd.underlying121
  a119 := Tryd.isAgg121
  z119 := Tryd.sizeOf121
  t141 := Tryd.underlying161
  a141 := Tryd.isAgg161
  z141 := Tryd.sizeOf161
  v141 := Tryd.zeroValue161
  t152 := Tryd.underlying157
  a152 := Tryd.isAgg157
  z152 := Tryd.sizeOf157
  v152 := Tryd.zeroValue157
  t154 := Tryd.underlying159
  a154 := Tryd.isAgg159
  z154 := Tryd.sizeOf159
  v154 := Tryd.zeroValue159
  t193 := Tryd.underlying175
  a193 := Tryd.isAgg175
  z193 := Tryd.sizeOf175
  v193 := Tryd.zeroValue175
  t194 := Tryd.underlying176
  a194 := Tryd.isAgg176
  z194 := Tryd.sizeOf176
  v194 := Tryd.zeroValue176
  t196 := Tryd.underlying178
  a196 := Tryd.isAgg178
  z196 := Tryd.sizeOf178
  v196 := Tryd.zeroValue178
  t198 := Tryd.underlying180
  a198 := Tryd.isAgg180
  z198 := Tryd.sizeOf180
  v198 := Tryd.zeroValue180
  t201 := Tryd.underlying183
  a201 := Tryd.isAgg183
  z201 := Tryd.sizeOf183
  v201 := Tryd.zeroValue183
  t226 := Tryd.underlying189
  a226 := Tryd.isAgg189
  z226 := Tryd.sizeOf189
  v226 := Tryd.zeroValue189
  t227 := Tryd.underlying190
  a227 := Tryd.isAgg190
  z227 := Tryd.sizeOf190
  v227 := Tryd.zeroValue190
  g0 := by kernel_rfl
  g6 := by kernel_rfl }
open Go.RowKit Go.Lib in
theorem Tryd.strings_Fields (s : ByteArray) (w : World) (hs : s.size < 4294967281) (hascii : ∀ (j : Nat) b, s.data.toList[j]? = some b → b.toNat < 128) (htab : Lib.TabIs Tryd.prog w "strings.asciiSpace" .u8 Lib.asciiSpaceTab) :
    Calls Tryd.prog 46 #[.string s] w fun e w' =>
      e = .returned (.slice (some ⟨w.heap.size, 0, none⟩) (Lib.fields s.data.toList).length (Lib.fields s.data.toList).length) ∧ w' = w.alloc (.cells ((Lib.fields s.data.toList).map fun l => Value.string ⟨l.toArray⟩).toArray 9) := Any.strings_Fields Tryd.lays157 (by kernel_rfl) (by kernel_rfl) s w hs hascii htab
end Go.Proofs.YtaiofjffoboicaaDoor
namespace Go.Proofs.YtaiofjffoboicaaDoor
open Go.RowKit
def sizeV (f : Fr) : Value := .tuple #[.int .i64 ((encF f).1.length : Nat), .int .i64 (encF f).2]
set_option maxRecDepth 100000 in
set_option maxHeartbeats 1600000 in
theorem fsize_any (f : Fr) (hda : f.da.size ≤ maxLen) (hn : NN f) (w : World) (hH : HTab w) (hT : STab w) : Calls Tryd.prog 16 #[frv f] w fun e w' => e = .returned (sizeV f) ∧ Below w.heap.size w w' := by
  have ge := Lib.hid (fun w h1 h2 => fencode_any f hda hn w h1 h2)
  have HH := Lib.hid hH; have HT := Lib.hid hT; clear hH hT
  have hl := encF_len f
  unfold encV at ge
  unfold sizeV
  obtain ⟨⟨R, c⟩, hR⟩ : ∃ R, encF f = R := ⟨_, rfl⟩
  rw [hR] at ge hl ⊢
  simp only at ge hl ⊢
  clear hR
  have hs : (⟨R.toArray⟩ : ByteArray).size = R.length := bsize R
  unfold bstr at ge
  obtain ⟨s, hs'⟩ : ∃ s : ByteArray, (⟨R.toArray⟩ : ByteArray) = s := ⟨_, rfl⟩
  rw [hs'] at ge hs
  rw [← hs] at hl ⊢
  clear hs hs'
  go_enter Tryd.func16, Tryd.ntmps16
  go_upto_region 1 with fail
  refine wp_region_lit ?_
  refine wpList_load_blk 29 (.tmp 1) w.heap.size #[.int .i64 f.k, .int .i64 f.fr, .int .i64 f.to_, .int .u64 f.mi, .int .u64 f.yo, .int .u64 f.a, .int .u64 f.b, .int .i64 f.ino, .int .u64 f.isq, .int .i64 f.iof, .int .i64 f.bno, .int .u64 f.bsq, .int .i64 f.bof, .int .i64 f.bde, .int .i64 f.bpr, .int .i64 f.bbo, .int .i64 f.bli, .int .i64 f.bto, .string f.da] (by (apply blk_to; (focus (repeat (first | (with_reducible assumption) | (with_reducible apply blk_drew) | (with_reducible apply blk_set) | ((with_reducible apply blk_other'); (first | (focus (dsimp only; assumption)) | (focus (simp; done)) | (focus (dsimp only; omega)))) | ((with_reducible apply blk_alloc_new); (first | (with_reducible rfl) | (focus (simp; done)) | (focus (simp; omega)))) | (with_reducible apply blk_alloc) | ((with_reducible apply blk_below); (with_reducible assumption))))); rfl)) _ rfl rfl rfl Tryd.underlying29 rfl (by kernel_rfl) ?_
  conv => arg 5; simp [Act.put]
  go_wp2_with fail
  (with_reducible refine (ge.out _ (HH.out.on (by (repeat (first | (with_reducible assumption) | (with_reducible exact Below.refl _ _) | (with_reducible refine beld_drew ?_) | ((with_reducible refine bset' ?_ ?_); (first | (focus (dsimp only; assumption)) | (focus (simp; done)) | (focus (dsimp only; omega)))) | (with_reducible refine belt_alloc ?_) | ((with_reducible refine zeroed_below' ?_ ?_); (first | (focus (simp; done)) | (focus (dsimp only; omega)))) | (with_reducible refine bt ?_ (by assumption)))))) (HT.out.on (by (repeat (first | (with_reducible assumption) | (with_reducible exact Below.refl _ _) | (with_reducible refine beld_drew ?_) | ((with_reducible refine bset' ?_ ?_); (first | (focus (dsimp only; assumption)) | (focus (simp; done)) | (focus (dsimp only; omega)))) | (with_reducible refine belt_alloc ?_) | ((with_reducible refine zeroed_below' ?_ ?_); (first | (focus (simp; done)) | (focus (dsimp only; omega)))) | (with_reducible refine bt ?_ (by assumption))))))).mono ?_)
  rintro e w1 ⟨rfl, h1⟩
  have hw : Below w.heap.size w w1 := by (repeat (first | (with_reducible assumption) | (with_reducible exact Below.refl _ _) | (with_reducible refine beld_drew ?_) | ((with_reducible refine bset' ?_ ?_); (first | (focus (dsimp only; assumption)) | (focus (simp; done)) | (focus (dsimp only; omega)))) | (with_reducible refine belt_alloc ?_) | ((with_reducible refine zeroed_below' ?_ ?_); (first | (focus (simp; done)) | (focus (dsimp only; omega)))) | (with_reducible refine bt ?_ (by assumption))))
  clear h1 ge
  go_wp2
  go_ret2
  exact ⟨rfl, hw⟩
end Go.Proofs.YtaiofjffoboicaaDoor
namespace Go.Proofs.YtaiofjffoboicaaDoor
open Go.RowKit Go.Sort
open Go.Lib (decDigits nDigits)
def numB (u : Nat) : ByteArray := ⟨(decDigits u).toArray⟩
theorem numB_size (u : Nat) (h : u < 18446744073709551616) : 1 ≤ (numB u).size ∧ (numB u).size ≤ 20 := by
  have e : (numB u).size = nDigits u := by show (decDigits u).toArray.size = _; simp [Lib.decDigits_length]
  rw [e]
  by_cases h0 : u = 0
  · subst h0; rw [nDigits]; simp
  · have := Lib.numDigits_eq u (by omega) h
    constructor
    · rw [nDigits]; split <;> omega
    · split at this <;> omega
theorem numB_small (u : Nat) (h : u < 10) : numB u = ⟨#[UInt8.ofNat (48 + u)]⟩ := by
  unfold numB; rw [decDigits, dif_pos h]
theorem numB_step (u : Nat) (h : ¬ u < 10) : numB u = numB (u / 10) ++ ⟨#[48 + UInt8.ofNat (u % 10)]⟩ := by
  unfold numB
  rw [decDigits, dif_neg h]
  apply ByteArray.ext
  simp
theorem below_put (w : World) (o : Obj) (dk : Array UInt8) (k : Nat) : RowKit.Below w.heap.size w ((putRow (fun (b : UInt8) => Value.int .u8 (b.toNat : Int)) (w.alloc o) w.heap.size 0 dk).drewN k) := by
  rw [alloc_eq_grow]
  obtain ⟨os', _, e⟩ := putRow_grow_new (fun (b : UInt8) => Value.int .u8 (b.toNat : Int)) w #[o] w.heap.size 0 dk (Nat.le_refl _)
  rw [e]
  exact Lib.below_grow _ w (Nat.le_refl _) k os'
set_option maxRecDepth 100000 in
set_option maxHeartbeats 6400000 in
theorem formatUint_big (u : Nat) (hu0 : ¬ u < 100) (hu64 : u < 18446744073709551616) (w : World) (htab : Lib.TabIs Tryd.prog w tabNm .u64 Lib.pow10Tab) :
    Calls Tryd.prog 72 #[.int .u64 u, .int .i64 10] w fun e w' => e = .returned (.string (numB u)) ∧ RowKit.Below w.heap.size w w' := by
  have hu1 : 1 ≤ u := by omega
  have hnd20 : nDigits u ≤ 20 := by have := Lib.numDigits_eq u hu1 hu64; split at this <;> omega
  have hal : Tryd.prog.arrayLen 151 = 24 := by simp [Program.arrayLen, Tryd.underlying151]
  have hsl : ∀ W, (Instr.sliceAt 151 (.pointer (some ⟨w.heap.size, 0, none⟩)) none (some (.int .i64 (nDigits u : Int))) none).run Tryd.prog W = .ok (.slice (some ⟨w.heap.size, 0, none⟩) (nDigits u) 24) W := fun W => by
    rw [run_sliceAt_array_h W 151 ⟨w.heap.size, 0, none⟩ (by simp [Program.arrayLen, Program.elem, Tryd.underlying151]) .i64 (nDigits u : Int) (by omega) (by rw [hal]; omega)]
    go_simp
  have hH0 := Lib.holds_zero0 w 151 (nDigits u) (by omega)
  have hfmt := Tryd.internal_strconv_formatBase10 w.heap.size 0 24 u (Array.replicate (nDigits u) 0) (w.alloc (.cells Lib.zeros24 151)) hH0 (by rw [Array.size_replicate]; exact Lib.lt_pow_nDigits u) hu64 (by rw [Array.size_replicate]; omega)
  rw [Array.size_replicate] at hfmt
  have HH0 := Lib.hid hH0
  have Hb := Lib.hid (fun dk k => below_put w (.cells Lib.zeros24 151) dk k)
  have hlt : ¬ (u : Int) < 100 := by omega
  have hub : (u : Int) ≤ 18446744073709551615 := by omega
  clear hH0 hal
  go_enter Tryd.func72, Tryd.ntmps72
  go_wp2_with (first
    | (go_at_call 99; refine (Tryd.internal_strconv_numDigits u hu1 hu64 _ (Lib.tabIs_alloc htab _)).mono ?_; rintro e w' ⟨rfl, rfl⟩))
  go_at_call 100
  refine hfmt.mono ?_
  rintro e w' ⟨rfl, k, v', dk, rfl, hF⟩
  have hcv : (convert 41 9 (.slice (some ⟨w.heap.size, 0, none⟩) (nDigits u) 24)).run Tryd.prog ((putRow (fun (b : UInt8) => Value.int .u8 (b.toNat : Int)) (w.alloc (.cells Lib.zeros24 151)) w.heap.size 0 dk).drewN k) = .ok (.string (numB u)) ((putRow (fun (b : UInt8) => Value.int .u8 (b.toNat : Int)) (w.alloc (.cells Lib.zeros24 151)) w.heap.size 0 dk).drewN k) := by
    have h := run_convert_bytes_back (P := Tryd.prog) ((putRow (fun (b : UInt8) => Value.int .u8 (b.toNat : Int)) (w.alloc (.cells Lib.zeros24 151)) w.heap.size 0 dk).drewN k) 41 9 5 ⟨w.heap.size, 0, none⟩ 24 (decDigits u) Tryd.underlying41 Tryd.underlying5 Tryd.underlying9 (fun j hj => by
      rw [Lib.row_is_numeral hF j hj, Lib.add_plain, World.cell?_drewN]
      exact cell?_putRow (fun (b : UInt8) => Value.int .u8 (b.toNat : Int)) _ w.heap.size 0 _ dk HH0.out (by rw [hF.size, Array.size_replicate]) j (by rw [hF.size]; rw [Lib.decDigits_length] at hj; exact hj))
    rw [Lib.decDigits_length] at h
    exact h
  go_wp2
  go_ret
  exact ⟨rfl, Hb.out dk k⟩
theorem small_dec (u : Nat) (hu : u < 100) (w : World) : Calls Tryd.prog 98 #[.int .i64 (u : Int)] w fun e w' => e = .returned (.string (numB u)) ∧ w = w' :=
  (Tryd.internal_strconv_small u hu w).mono fun e w' ⟨he, hw⟩ => ⟨he, hw.symm⟩
set_option maxRecDepth 100000 in
set_option maxHeartbeats 800000 in
theorem formatUint_any (u : Nat) (hu64 : u < 18446744073709551616) (w : World) (htab : Lib.TabIs Tryd.prog w tabNm .u64 Lib.pow10Tab) :
    Calls Tryd.prog 44 #[.int .u64 u, .int .i64 10] w fun e w' => e = .returned (.string (numB u)) ∧ RowKit.Below w.heap.size w w' := by
  by_cases h : u < 100
  · have Hs := Lib.hid (small_dec u h)
    obtain ⟨s, hs⟩ : ∃ s, numB u = s := ⟨_, rfl⟩
    rw [hs] at Hs ⊢
    clear hs htab
    go_enter Tryd.func44, Tryd.ntmps44
    go_wp2_with (first | (go_at_call 98; (with_reducible refine (Hs.out _).mono ?_); rintro e wx ⟨rfl, rfl⟩) | go_in)
    go_ret
    exact ⟨rfl, Below.refl _ _⟩
  · have Hs := Lib.hid (formatUint_big u h hu64 w htab)
    obtain ⟨s, hs⟩ : ∃ s, numB u = s := ⟨_, rfl⟩
    rw [hs] at Hs ⊢
    clear hs htab
    go_enter Tryd.func44, Tryd.ntmps44
    go_wp2_with (go_at_call 72; (with_reducible refine Hs.out.mono ?_); rintro e wx ⟨rfl, hx⟩)
    go_ret
    exact ⟨rfl, hx⟩
theorem itoa_any (u : Nat) (hu : u < 9223372036854775808) (w : World) (htab : Lib.TabIs Tryd.prog w tabNm .u64 Lib.pow10Tab) :
    Calls Tryd.prog 45 #[.int .i64 (u : Int)] w fun e w' => e = .returned (.string (numB u)) ∧ RowKit.Below w.heap.size w w' :=
  (Tryd.strconv_Itoa (u : Int) (by omega) (by omega) w htab).mono fun e w' ⟨he, k, os, hw⟩ => ⟨by rw [he, Lib.itoa_nonneg]; rfl, by rw [hw]; exact Lib.below_grow _ w (Nat.le_refl _) k os⟩
theorem tab_of {w : World} (h : Lib.TabIs Tryd.prog w tabNm .u64 Lib.pow10Tab) : Tab w := Lib.tabBelow_of_tabIs h
def keyB (no sq of : Int) : ByteArray := numB no.toNat ++ ⟨#[46]⟩ ++ numB sq.toNat ++ ⟨#[46]⟩ ++ numB of.toNat
def keyC (no sq of : Int) : ByteArray × Int := if idC no sq of = 0 then (keyB no sq of, 0) else (⟨#[]⟩, idC no sq of)
set_option maxRecDepth 100000 in
set_option maxHeartbeats 1600000 in
theorem key_any (no sq of : Int) (hsq : 0 ≤ sq) (w : World) (htab : Tab w) :
    Calls Tryd.prog 47 #[idv no sq of] w fun e w' => e = .returned (.tuple #[.string (keyC no sq of).1, .int .i64 (keyC no sq of).2]) ∧ RowKit.Below w.heap.size w w' := by
  have Hc := fun w => checkID_any no sq of w
  rcases idC_cases no sq of with ⟨h0, h⟩ | ⟨h0, h⟩ <;> rw [h0] at Hc <;> replace Hc := Lib.hid Hc
  · obtain ⟨h1, h2, h3, h4, h5⟩ := h
    rw [show keyC no sq of = (keyB no sq of, 0) from if_pos h0]
    obtain ⟨n, rfl⟩ := Int.eq_ofNat_of_zero_le (show 0 ≤ no by omega)
    obtain ⟨s, rfl⟩ := Int.eq_ofNat_of_zero_le hsq
    obtain ⟨o, rfl⟩ := Int.eq_ofNat_of_zero_le h4
    have g1 := fun w ht => itoa_any n (by omega) w ht
    have g2 := fun w ht => formatUint_any s (by omega) w ht
    have g3 := fun w ht => itoa_any o (by omega) w ht
    have z1 := (numB_size n (by omega)).2
    have z2 := (numB_size s (by omega)).2
    have z3 := (numB_size o (by omega)).2
    have HT : Hid (∀ W, RowKit.Below w.heap.size w W → Lib.TabIs Tryd.prog W tabNm .u64 Lib.pow10Tab) := fun W hW => htab.at hW
    unfold keyB
    simp only [Int.toNat_natCast]
    obtain ⟨x, hx⟩ : ∃ x, numB n = x := ⟨_, rfl⟩
    obtain ⟨y, hy⟩ : ∃ x, numB s = x := ⟨_, rfl⟩
    obtain ⟨z, hz⟩ : ∃ x, numB o = x := ⟨_, rfl⟩
    rw [hx] at g1 z1; rw [hy] at g2 z2; rw [hz] at g3 z3
    rw [hx, hy, hz]
    replace g1 := Lib.hid g1; replace g2 := Lib.hid g2; replace g3 := Lib.hid g3
    clear hx hy hz htab h0 h1 h2 h3 h4 h5
    go_enter Tryd.func47, Tryd.ntmps47
    go_wp2_with (go_at_call 42; (with_reducible refine (Hc.out _).mono ?_); rintro e wb ⟨rfl, hb⟩; have kk3 : blk wb (w.heap.size) = some #[.int .i64 (n : Int), .int .u64 (s : Int), .int .i64 (o : Int)] := (by (apply blk_to; (focus (repeat (first | (with_reducible assumption) | (with_reducible apply blk_drew) | (with_reducible apply blk_set) | ((with_reducible apply blk_other'); (first | (focus (dsimp only; assumption)) | (focus (simp; done)) | (focus (dsimp only; omega)))) | ((with_reducible apply blk_alloc_new); (first | (with_reducible rfl) | (focus (simp; done)) | (focus (simp; omega)))) | (with_reducible apply blk_alloc) | ((with_reducible apply blk_below); (with_reducible assumption))))); rfl)); have kn3 := kn kk3)
    refine wp_region_in (by kernel_rfl) (by kernel_rfl) ?_
    intro W0_1 hE_1 hN_1
    have bW0_1 : Below w.heap.size w W0_1 := (by rw [hE_1.out]; (repeat (first | (with_reducible assumption) | (with_reducible exact Below.refl _ _) | (with_reducible refine beld_drew ?_) | ((with_reducible refine bset' ?_ ?_); (first | (focus (dsimp only; assumption)) | (focus (simp; done)) | (focus (dsimp only; omega)))) | (with_reducible refine belt_alloc ?_) | ((with_reducible refine zeroed_below' ?_ ?_); (first | (focus (simp; done)) | (focus (dsimp only; omega)))) | (with_reducible refine bt ?_ (by assumption)))))
    have kk2 : blk W0_1 (w.heap.size) = some #[.int .i64 (n : Int), .int .u64 (s : Int), .int .i64 (o : Int)] := (by rw [hE_1.out]; (apply blk_to; (focus (repeat (first | (with_reducible assumption) | (with_reducible apply blk_drew) | (with_reducible apply blk_set) | ((with_reducible apply blk_other'); (first | (focus (dsimp only; assumption)) | (focus (simp; done)) | (focus (dsimp only; omega)))) | ((with_reducible apply blk_alloc_new); (first | (with_reducible rfl) | (focus (simp; done)) | (focus (simp; omega)))) | (with_reducible apply blk_alloc) | ((with_reducible apply blk_below); (with_reducible assumption))))); rfl))
    have kn2 := calm_kn kk2
    clear hE_1
    repeat (go_big_quiet_step ((first | (go_at_call 45; (with_reducible refine Class.go _ (g1.out _ ?_)); exact HT.out _ (bt (by assumption) (Class.ok _))) | (go_at_call 44; (with_reducible refine Class.go _ (g2.out _ ?_)); exact HT.out _ (bt (by assumption) (Class.ok _))) | (go_at_call 45; (with_reducible refine Class.go _ (g3.out _ ?_)); exact HT.out _ (bt (by assumption) (Class.ok _))))))
    refine wpQuiet_nil ?_
    rintro _ ⟨x_1, rfl⟩
    have hx_1 : Calm W0_1 x_1.wd := x_1.ok
    have bwn : Below w.heap.size w x_1.wd := bt bW0_1 hx_1
    clear kn2; replace kk2 := blk_below hx_1 kk2; have kn2 := kn kk2
    clear hx_1 bW0_1 hN_1
    generalize x_1.wd = wn at *
    go_wp2
    go_ret2
    exact ⟨rfl, bwn⟩
  · rw [show keyC no sq of = (⟨#[]⟩, 2) by unfold keyC; rw [if_neg (by rw [h0]; decide), h0]]
    clear h h0 htab
    go_enter Tryd.func47, Tryd.ntmps47
    go_wp2_with (go_at_call 42; (with_reducible refine (Hc.out _).mono ?_); rintro e wb ⟨rfl, hb⟩; have kk4 : blk wb (w.heap.size) = some #[.int .i64 no, .int .u64 sq, .int .i64 of] := (by (apply blk_to; (focus (repeat (first | (with_reducible assumption) | (with_reducible apply blk_drew) | (with_reducible apply blk_set) | ((with_reducible apply blk_other'); (first | (focus (dsimp only; assumption)) | (focus (simp; done)) | (focus (dsimp only; omega)))) | ((with_reducible apply blk_alloc_new); (first | (with_reducible rfl) | (focus (simp; done)) | (focus (simp; omega)))) | (with_reducible apply blk_alloc) | ((with_reducible apply blk_below); (with_reducible assumption))))); rfl)); have kn4 := kn kk4)
    go_ret2
    exact ⟨rfl, bta hb⟩
end Go.Proofs.YtaiofjffoboicaaDoor
namespace Go.Proofs.YtaiofjffoboicaaDoor
open Go.RowKit
theorem infoStr : (Tryd.prog.info? 9).map (fun i => (i.zero, i.size, i.bytes)) = some (some (.string ⟨#[]⟩), 1, 16) := by kernel_rfl
theorem owns_below {w w' : World} {base : Nat} {e : TypeId} {size : Nat} {v : Value} {n : Nat} {xs : List Value} (h : w.ownsRow base e size v n xs) (hb : Below w.heap.size w w') : w'.ownsRow base e size v n xs := by
  obtain ⟨h1, h2⟩ := h
  refine ⟨h1, ?_⟩
  rcases h2 with h2 | ⟨g, cap, cur, h3, h4, h5, h6⟩
  · exact .inl h2
  · refine .inr ⟨g, cap, cur, h3, h4, ?_, h6⟩
    have hlt : g < w.heap.size := (Array.getElem?_eq_some_iff.1 h5).1
    rw [hb.block g hlt]
    exact h5
theorem owns_new (w : World) (cs : Array Value) (e : TypeId) (base : Nat) (hb : base ≤ w.heap.size) (hm : cs.size ≤ maxLen) : (w.alloc (.cells cs e)).ownsRow base e 1 (.slice (some ⟨w.heap.size, 0, none⟩) cs.size cs.size) cs.size cs.toList :=
  ⟨by simp, .inr ⟨w.heap.size, cs.size, cs, rfl, hb, heap_alloc_new _ _, Nat.le_refl _, hm, by simp, by rw [List.take_of_length_le (by simp)]⟩⟩
theorem stabA_of {w : World} (h : Lib.TabIs Tryd.prog w blanksNm .u8 Lib.asciiSpaceTab) : STabA w := Lib.tabBelow_of_tabIs h
theorem words_any (w : World) (h : STabA w) : Calls Tryd.prog 46 #[.string ⟨#[104, 101, 108, 108, 111, 32, 103, 114, 97, 110, 116, 32, 100, 97, 116, 97, 32, 114, 101, 112, 111, 114, 116, 32, 97, 99, 107, 32, 114, 101, 102, 117, 115, 101, 32, 114, 101, 99, 108, 97, 105, 109]⟩] w fun e w' => e = .returned (.slice (some ⟨w.heap.size, 0, none⟩) 7 7) ∧ w' = w.alloc (.cells #[.string ⟨#[104, 101, 108, 108, 111]⟩, .string ⟨#[103, 114, 97, 110, 116]⟩, .string ⟨#[100, 97, 116, 97]⟩, .string ⟨#[114, 101, 112, 111, 114, 116]⟩, .string ⟨#[97, 99, 107]⟩, .string ⟨#[114, 101, 102, 117, 115, 101]⟩, .string ⟨#[114, 101, 99, 108, 97, 105, 109]⟩] 9) := by
  have := Tryd.strings_Fields ⟨#[104, 101, 108, 108, 111, 32, 103, 114, 97, 110, 116, 32, 100, 97, 116, 97, 32, 114, 101, 112, 111, 114, 116, 32, 97, 99, 107, 32, 114, 101, 102, 117, 115, 101, 32, 114, 101, 99, 108, 97, 105, 109]⟩ w (by decide) (fun j b hj => of_decide_eq_true (List.all_eq_true.1 (by decide : ((⟨#[104, 101, 108, 108, 111, 32, 103, 114, 97, 110, 116, 32, 100, 97, 116, 97, 32, 114, 101, 112, 111, 114, 116, 32, 97, 99, 107, 32, 114, 101, 102, 117, 115, 101, 32, 114, 101, 99, 108, 97, 105, 109]⟩ : ByteArray).data.toList.all fun b => decide (b.toNat < 128)) = true) b (List.mem_of_getElem? hj))) (h.at (Below.refl _ _))
  exact this
def nameB (k : Int) : ByteArray := if k = 1 then ⟨#[104, 101, 108, 108, 111]⟩ else if k = 2 then ⟨#[103, 114, 97, 110, 116]⟩ else if k = 3 then ⟨#[100, 97, 116, 97]⟩ else if k = 4 then ⟨#[114, 101, 112, 111, 114, 116]⟩ else if k = 5 then ⟨#[97, 99, 107]⟩ else if k = 6 then ⟨#[114, 101, 102, 117, 115, 101]⟩ else if k = 7 then ⟨#[114, 101, 99, 108, 97, 105, 109]⟩ else ⟨#[]⟩
theorem name_size (k : Int) : (nameB k).size ≤ 10 := by
  unfold nameB
  repeat (split; decide)
  decide
theorem name_at (k : Int) (hk : 1 ≤ k ∧ k ≤ 7) : (#[.string ⟨#[104, 101, 108, 108, 111]⟩, .string ⟨#[103, 114, 97, 110, 116]⟩, .string ⟨#[100, 97, 116, 97]⟩, .string ⟨#[114, 101, 112, 111, 114, 116]⟩, .string ⟨#[97, 99, 107]⟩, .string ⟨#[114, 101, 102, 117, 115, 101]⟩, .string ⟨#[114, 101, 99, 108, 97, 105, 109]⟩] : Array Value)[(k - 1).toNat]? = some (.string (nameB k)) := by
  have h : k = 1 ∨ k = 2 ∨ k = 3 ∨ k = 4 ∨ k = 5 ∨ k = 6 ∨ k = 7 := by omega
  rcases h with rfl | rfl | rfl | rfl | rfl | rfl | rfl <;> rfl
theorem itoaI (n : Int) (h0 : 0 ≤ n) (h1 : n < 9223372036854775808) (w : World) (h : Tab w) : Calls Tryd.prog 45 #[.int .i64 n] w fun e w' => e = .returned (.string (numB n.toNat)) ∧ Below w.heap.size w w' := by
  have := itoa_any n.toNat (by omega) w (h.at (Below.refl _ _))
  rwa [Int.toNat_of_nonneg h0] at this
set_option maxRecDepth 100000 in
theorem digitsF (n : Int) (h0 : 0 ≤ n) (h1 : n < 18446744073709551616) (w : World) (h : Tab w) : Calls Tryd.prog 43 #[.int .u64 n] w fun e w' => e = .returned (.string (numB n.toNat)) ∧ Below w.heap.size w w' := by
  have g := formatUint_any n.toNat (by omega) w (h.at (Below.refl _ _))
  rw [Int.toNat_of_nonneg h0] at g
  replace g := Lib.hid g
  obtain ⟨x, hx⟩ : ∃ x, numB n.toNat = x := ⟨_, rfl⟩
  rw [hx] at g ⊢
  clear hx
  go_enter Tryd.func43, Tryd.ntmps43
  go_wp2_with (go_at_call 44; (with_reducible refine g.out.mono ?_); rintro e wx ⟨rfl, hx⟩)
  go_ret
  exact ⟨rfl, hx⟩
def idF (f : Fr) : Value := if f.k = 3 then idv f.bno f.bsq f.bof else idv f.ino f.isq f.iof
def keyF (f : Fr) : ByteArray := if f.k = 3 then keyB f.bno f.bsq f.bof else keyB f.ino f.isq f.iof
set_option maxRecDepth 100000 in
theorem about_any (f : Fr) (w : World) : Calls Tryd.prog 48 #[frv f] w fun e w' => e = .returned (idF f) ∧ Below w.heap.size w w' := by
  unfold idF
  by_cases h : f.k = 3
  · rw [if_pos h]
    have e1 : (f.k == 3) = true := by simp [h]
    clear h
    go_enter Tryd.func48, Tryd.ntmps48
    go_wp2
    refine ret_blk (b := w.heap.size + 1) (c := #[.int .i64 f.bno, .int .u64 f.bsq, .int .i64 f.bof]) (v := idv f.bno f.bsq f.bof) (by (apply blk_to; (focus (repeat (first | (with_reducible assumption) | (with_reducible apply blk_drew) | (with_reducible apply blk_set) | ((with_reducible apply blk_other'); (first | (focus (dsimp only; assumption)) | (focus (simp; done)) | (focus (dsimp only; omega)))) | ((with_reducible apply blk_alloc_new); (first | (with_reducible rfl) | (focus (simp; done)) | (focus (simp; omega)))) | (with_reducible apply blk_alloc) | ((with_reducible apply blk_below); (with_reducible assumption))))); rfl)) (fun W' hc => by simp [results, Tryd.results48, go_sem, hc]) rfl ⟨rfl, by (repeat (first | (with_reducible assumption) | (with_reducible exact Below.refl _ _) | (with_reducible refine beld_drew ?_) | ((with_reducible refine bset' ?_ ?_); (first | (focus (dsimp only; assumption)) | (focus (simp; done)) | (focus (dsimp only; omega)))) | (with_reducible refine belt_alloc ?_) | ((with_reducible refine zeroed_below' ?_ ?_); (first | (focus (simp; done)) | (focus (dsimp only; omega)))) | (with_reducible refine bt ?_ (by assumption))))⟩
  · rw [if_neg h]
    have e1 : (f.k == 3) = false := by simp [h]
    clear h
    go_enter Tryd.func48, Tryd.ntmps48
    go_wp2
    refine ret_blk (b := w.heap.size + 1) (c := #[.int .i64 f.ino, .int .u64 f.isq, .int .i64 f.iof]) (v := idv f.ino f.isq f.iof) (by (apply blk_to; (focus (repeat (first | (with_reducible assumption) | (with_reducible apply blk_drew) | (with_reducible apply blk_set) | ((with_reducible apply blk_other'); (first | (focus (dsimp only; assumption)) | (focus (simp; done)) | (focus (dsimp only; omega)))) | ((with_reducible apply blk_alloc_new); (first | (with_reducible rfl) | (focus (simp; done)) | (focus (simp; omega)))) | (with_reducible apply blk_alloc) | ((with_reducible apply blk_below); (with_reducible assumption))))); rfl)) (fun W' hc => by simp [results, Tryd.results48, go_sem, hc]) rfl ⟨rfl, by (repeat (first | (with_reducible assumption) | (with_reducible exact Below.refl _ _) | (with_reducible refine beld_drew ?_) | ((with_reducible refine bset' ?_ ?_); (first | (focus (dsimp only; assumption)) | (focus (simp; done)) | (focus (dsimp only; omega)))) | (with_reducible refine belt_alloc ?_) | ((with_reducible refine zeroed_below' ?_ ?_); (first | (focus (simp; done)) | (focus (dsimp only; omega)))) | (with_reducible refine bt ?_ (by assumption))))⟩
theorem keyF_ok (f : Fr) (hC : frC f = 0) (h : (hasD f.k || hasI f.k) = true) : if f.k = 3 then okI f.bno f.bsq f.bof else okI f.ino f.isq f.iof := by
  obtain ⟨_, _, hb, _⟩ := frC_ok hC
  unfold bcF at hb
  by_cases h3 : f.k = 3
  · rw [if_pos h3]
    rw [if_pos h3] at hb
    exact (buC_ok hb).1
  · rw [if_neg h3]
    have h5 : f.k = 5 ∨ f.k = 6 := by unfold hasD hasI at h; simp only [Bool.or_eq_true, decide_eq_true_eq] at h; omega
    rw [if_neg h3, if_pos h5] at hb
    rcases idC_cases f.ino f.isq f.iof with x | x
    · exact x.2
    · omega
theorem keyF_any (f : Fr) (hC : frC f = 0) (hn : NN f) (h : (hasD f.k || hasI f.k) = true) (w : World) (t : Tab w) : Calls Tryd.prog 47 #[idF f] w fun e w' => e = .returned (.tuple #[.string (keyF f), .int .i64 0]) ∧ Below w.heap.size w w' := by
  have ho := keyF_ok f hC h
  unfold idF keyF
  by_cases h3 : f.k = 3
  · rw [if_pos h3] at ho
    rw [if_pos h3, if_pos h3]
    have := key_any f.bno f.bsq f.bof hn.bsq.1 w t
    rwa [show keyC f.bno f.bsq f.bof = (keyB f.bno f.bsq f.bof, 0) from if_pos (by unfold idC; rw [if_pos ho])] at this
  · rw [if_neg h3] at ho
    rw [if_neg h3, if_neg h3]
    have := key_any f.ino f.isq f.iof hn.isq.1 w t
    rwa [show keyC f.ino f.isq f.iof = (keyB f.ino f.isq f.iof, 0) from if_pos (by unfold idC; rw [if_pos ho])] at this
theorem keyB_size (no sq of : Int) (h1 : no < 18446744073709551616) (h2 : sq < 18446744073709551616) (h3 : of < 18446744073709551616) : (keyB no sq of).size ≤ 62 := by
  have z1 := (numB_size no.toNat (by omega)).2
  have z2 := (numB_size sq.toNat (by omega)).2
  have z3 := (numB_size of.toNat (by omega)).2
  unfold keyB
  rw [ByteArray.size_append, ByteArray.size_append, ByteArray.size_append, ByteArray.size_append]
  have : (⟨#[46]⟩ : ByteArray).size = 1 := rfl
  omega
theorem keyF_size (f : Fr) (hC : frC f = 0) (hn : NN f) : (hasD f.k || hasI f.k) = true → (keyF f).size ≤ 62 := fun h => by
  have ho := keyF_ok f hC h
  have a1 := hn.bsq; have a2 := hn.isq
  unfold keyF
  by_cases h3 : f.k = 3
  · rw [if_pos h3] at ho ⊢
    unfold okI at ho
    exact keyB_size _ _ _ (by omega) (by omega) (by omega)
  · rw [if_neg h3] at ho ⊢
    unfold okI at ho
    exact keyB_size _ _ _ (by omega) (by omega) (by omega)
def optL (b : Bool) (x : ByteArray) : List ByteArray := cond b [x] []
def partsF (f : Fr) : List ByteArray := [numB f.fr.toNat ++ ⟨#[62]⟩ ++ numB f.to_.toNat, numB f.mi.toNat ++ ⟨#[47]⟩ ++ numB f.yo.toNat, nameB f.k] ++ optL (hasA f.k) (numB f.a.toNat) ++ optL (hasB f.k) (numB f.b.toNat) ++ optL (hasD f.k || hasI f.k) (keyF f)
def joinB (l : List ByteArray) : ByteArray := ⟨(Lib.join (l.map (·.data.toList)) [32]).toArray⟩
theorem own_form {w : World} {base : Nat} {e : TypeId} {v : Value} {L : List ByteArray} (h : w.ownsRow base e 1 v L.length (L.map Value.string)) (hL : L ≠ []) :
    ∃ g cap, v = .slice (some ⟨g, 0, none⟩) L.length cap ∧ L.length ≤ cap ∧ g < w.heap.size ∧ ∀ (j : Nat) x, L[j]? = some x → w.cell? ⟨g, 0 + j, none⟩ = some (.string x) := by
  have hl := List.length_pos_iff.2 hL
  rcases h.2 with ⟨_, h0⟩ | ⟨g, cap, cur, rfl, hb, hg, hn, hm, hs, ht⟩
  · omega
  · refine ⟨g, cap, rfl, hn, (Array.getElem?_eq_some_iff.1 hg).1, fun j x hj => ?_⟩
    have hjl : j < L.length := (List.getElem?_eq_some_iff.1 hj).1
    rw [Nat.zero_add, h.cellAt j (by omega), List.getElem?_map, hj]
    rfl
theorem lens_le (l : List (List UInt8)) (h : ∀ x ∈ l, x.length ≤ 100) : Lib.lens l ≤ 100 * l.length := by
  induction l with
  | nil => simp [Lib.lens]
  | cons x l ih =>
    have h1 := ih fun y hy => h y (List.mem_cons_of_mem _ hy)
    have h2 := h x List.mem_cons_self
    simp only [Lib.lens, List.map_cons, List.sum_cons, List.length_cons] at h1 ⊢
    omega
theorem joinB_len (L : List ByteArray) (h : ∀ x ∈ L, x.size ≤ 100) (hl : L.length ≤ 10) : (Lib.join (L.map (·.data.toList)) [32]).length ≤ 1100 := by
  match L with
  | [] => simp [Lib.join_nil]
  | x :: r =>
    have h1 := lens_le ((x :: r).map (·.data.toList)) (fun y hy => by
      obtain ⟨z, hz, rfl⟩ := List.mem_map.1 hy
      have := h z hz
      simpa using this)
    rw [List.map_cons] at h1 ⊢
    rw [Lib.join_length]
    simp only [List.length_cons, List.length_map, List.length_nil] at h1 hl ⊢
    omega
end Go.Proofs.YtaiofjffoboicaaDoor
namespace Go.Proofs.YtaiofjffoboicaaDoor
open Go.RowKit
set_option maxRecDepth 100000 in
set_option maxHeartbeats 800000 in
theorem data_any (w : World) : Calls Tryd.prog 21 #[] w fun e w' => e = .returned (.agg #[.int .i64 3, .int .i64 1, .int .i64 2, .int .u64 3, .int .u64 4, .int .u64 5, .int .u64 5, .int .i64 0, .int .u64 0, .int .i64 0, .int .i64 1, .int .u64 7, .int .i64 0, .int .i64 3, .int .i64 0, .int .i64 5, .int .i64 9, .int .i64 2, .string ⟨#[97, 98]⟩]) ∧ Below w.heap.size w w' := by
  go_enter Tryd.func21, Tryd.ntmps21
  go_upto_region 2 with fail
  refine wp_region_lit ?_
  refine wpList_load_blk 27 (.tmp 1) (w.heap.size + 1) #[.int .i64 1, .int .u64 7, .int .i64 0, .int .i64 3, .int .i64 0, .int .i64 5, .int .i64 9, .int .i64 2, .string ⟨#[97, 98]⟩] (by (apply blk_to; (focus (repeat (first | (with_reducible assumption) | (with_reducible apply blk_drew) | (with_reducible apply blk_set) | ((with_reducible apply blk_other'); (first | (focus (dsimp only; assumption)) | (focus (simp; done)) | (focus (dsimp only; omega)))) | ((with_reducible apply blk_alloc_new); (first | (with_reducible rfl) | (focus (simp; done)) | (focus (simp; omega)))) | (with_reducible apply blk_alloc) | ((with_reducible apply blk_below); (with_reducible assumption))))); kernel_rfl)) _ rfl rfl rfl Tryd.underlying27 rfl (by kernel_rfl) ?_
  conv => arg 5; simp [Act.put]
  refine wpList_build_is 29 _ #[.int .i64 3, .int .i64 1, .int .i64 2, .int .u64 3, .int .u64 4, .int .u64 5, .int .u64 5, .int .i64 0, .int .u64 0, .int .i64 0, .int .i64 1, .int .u64 7, .int .i64 0, .int .i64 3, .int .i64 0, .int .i64 5, .int .i64 9, .int .i64 2, .string ⟨#[97, 98]⟩] rfl rfl (by kernel_rfl) ?_
  conv => arg 5; simp [Act.put]
  refine wpList_store_blk 29 (.tmp 0) (.tmp 5) w.heap.size #[.int .i64 0, .int .i64 0, .int .i64 0, .int .u64 0, .int .u64 0, .int .u64 0, .int .u64 0, .int .i64 0, .int .u64 0, .int .i64 0, .int .i64 0, .int .u64 0, .int .i64 0, .int .i64 0, .int .i64 0, .int .i64 0, .int .i64 0, .int .i64 0, .string ⟨#[]⟩] #[.int .i64 3, .int .i64 1, .int .i64 2, .int .u64 3, .int .u64 4, .int .u64 5, .int .u64 5, .int .i64 0, .int .u64 0, .int .i64 0, .int .i64 1, .int .u64 7, .int .i64 0, .int .i64 3, .int .i64 0, .int .i64 5, .int .i64 9, .int .i64 2, .string ⟨#[97, 98]⟩] (by (apply blk_to; (focus (repeat (first | (with_reducible assumption) | (with_reducible apply blk_drew) | (with_reducible apply blk_set) | ((with_reducible apply blk_other'); (first | (focus (dsimp only; assumption)) | (focus (simp; done)) | (focus (dsimp only; omega)))) | ((with_reducible apply blk_alloc_new); (first | (with_reducible rfl) | (focus (simp; done)) | (focus (simp; omega)))) | (with_reducible apply blk_alloc) | ((with_reducible apply blk_below); (with_reducible assumption))))); rfl)) rfl rfl rfl rfl (by kernel_rfl) rfl (by kernel_rfl) ?_
  intro w5 kb5 o5 B5 s5
  conv => arg 5; simp [Act.put]
  go_wp2
  exact ret_row 0 29 _ kb5 rfl rfl Tryd.underlying29 rfl (by kernel_rfl) rfl ⟨rfl, B5 _ _ (Nat.le_refl _) (by (repeat (first | (with_reducible assumption) | (with_reducible exact Below.refl _ _) | (with_reducible refine beld_drew ?_) | ((with_reducible refine bset' ?_ ?_); (first | (focus (dsimp only; assumption)) | (focus (simp; done)) | (focus (dsimp only; omega)))) | (with_reducible refine belt_alloc ?_) | ((with_reducible refine zeroed_below' ?_ ?_); (first | (focus (simp; done)) | (focus (dsimp only; omega)))) | (with_reducible refine bt ?_ (by assumption)))))⟩
set_option maxRecDepth 100000 in
set_option maxHeartbeats 800000 in
theorem ack_any (a : Int) (w : World) : Calls Tryd.prog 22 #[.int .u64 a] w fun e w' => e = .returned (.agg #[.int .i64 5, .int .i64 2, .int .i64 1, .int .u64 4, .int .u64 3, .int .u64 a, .int .u64 0, .int .i64 1, .int .u64 7, .int .i64 0, .int .i64 0, .int .u64 0, .int .i64 0, .int .i64 0, .int .i64 0, .int .i64 0, .int .i64 0, .int .i64 0, .string ⟨#[]⟩]) ∧ Below w.heap.size w w' := by
  go_enter Tryd.func22, Tryd.ntmps22
  go_upto_region 1 with fail
  refine wp_region_tail0 2 ?_
  intro W0 hE hN
  have kz0 : blk W0 w.heap.size = some #[.int .i64 0, .int .i64 0, .int .i64 0, .int .u64 0, .int .u64 0, .int .u64 0, .int .u64 0, .int .i64 0, .int .u64 0, .int .i64 0, .int .i64 0, .int .u64 0, .int .i64 0, .int .i64 0, .int .i64 0, .int .i64 0, .int .i64 0, .int .i64 0, .string ⟨#[]⟩] := (by rw [hE.out]; (apply blk_to; (focus (repeat (first | (with_reducible assumption) | (with_reducible apply blk_drew) | (with_reducible apply blk_set) | ((with_reducible apply blk_other'); (first | (focus (dsimp only; assumption)) | (focus (simp; done)) | (focus (dsimp only; omega)))) | ((with_reducible apply blk_alloc_new); (first | (with_reducible rfl) | (focus (simp; done)) | (focus (simp; omega)))) | (with_reducible apply blk_alloc) | ((with_reducible apply blk_below); (with_reducible assumption))))); rfl))
  have hw0 : Below w.heap.size w W0 := (by rw [hE.out]; (repeat (first | (with_reducible assumption) | (with_reducible exact Below.refl _ _) | (with_reducible refine beld_drew ?_) | ((with_reducible refine bset' ?_ ?_); (first | (focus (dsimp only; assumption)) | (focus (simp; done)) | (focus (dsimp only; omega)))) | (with_reducible refine belt_alloc ?_) | ((with_reducible refine zeroed_below' ?_ ?_); (first | (focus (simp; done)) | (focus (dsimp only; omega)))) | (with_reducible refine bt ?_ (by assumption)))))
  clear hE
  simp only [List.take_succ_cons, List.take_zero, List.drop_succ_cons, List.drop_zero]
  repeat (go_big_quiet_step (fail))
  refine wpQuiet_nil ?_
  rintro _ ⟨x, rfl⟩
  have kz1 := blk_below x.ok kz0
  have hw1 : Below w.heap.size w x.wd := hw0.trans (x.ok.mono hw0.size)
  refine wpList_build_is 29 _ #[.int .i64 5, .int .i64 2, .int .i64 1, .int .u64 4, .int .u64 3, .int .u64 a, .int .u64 0, .int .i64 1, .int .u64 7, .int .i64 0, .int .i64 0, .int .u64 0, .int .i64 0, .int .i64 0, .int .i64 0, .int .i64 0, .int .i64 0, .int .i64 0, .string ⟨#[]⟩] rfl rfl (by kernel_rfl) ?_
  conv => arg 5; simp [Act.put]
  refine wpList_store_blk 29 (.tmp 2) (.tmp 5) w.heap.size #[.int .i64 0, .int .i64 0, .int .i64 0, .int .u64 0, .int .u64 0, .int .u64 0, .int .u64 0, .int .i64 0, .int .u64 0, .int .i64 0, .int .i64 0, .int .u64 0, .int .i64 0, .int .i64 0, .int .i64 0, .int .i64 0, .int .i64 0, .int .i64 0, .string ⟨#[]⟩] #[.int .i64 5, .int .i64 2, .int .i64 1, .int .u64 4, .int .u64 3, .int .u64 a, .int .u64 0, .int .i64 1, .int .u64 7, .int .i64 0, .int .i64 0, .int .u64 0, .int .i64 0, .int .i64 0, .int .i64 0, .int .i64 0, .int .i64 0, .int .i64 0, .string ⟨#[]⟩] kz1 rfl rfl rfl rfl (by kernel_rfl) rfl (by kernel_rfl) ?_
  intro w5 kb5 o5 B5 s5
  conv => arg 5; simp [Act.put]
  go_wp2
  exact ret_row 2 29 _ kb5 rfl rfl Tryd.underlying29 rfl (by kernel_rfl) rfl ⟨rfl, B5 _ _ (Nat.le_refl _) hw1⟩
def dataA (a : Int) : Fr := ⟨3, 1, 2, 3, 4, a, 5, 0, 0, 0, 1, 7, 0, 3, 0, 5, 9, 2, ⟨#[97, 98]⟩⟩
theorem dataA_ok (a : Int) (h : 5 ≤ a) (h2 : a ≤ 100) : frC (dataA a) = 0 := by
  refine frC_of (by unfold dataA; simp) ?_ ?_ ?_
  · unfold rngF dataA; simp only; omega
  · rfl
  · unfold clnF dataA; simp
theorem ackF_ok (a : Int) (h : 0 ≤ a) (h2 : a ≤ 100) : frC (ackF a) = 0 := by
  refine frC_of (by unfold ackF; simp) ?_ ?_ ?_
  · unfold rngF ackF; simp only; omega
  · rfl
  · unfold clnF ackF; simp
end Go.Proofs.YtaiofjffoboicaaDoor
