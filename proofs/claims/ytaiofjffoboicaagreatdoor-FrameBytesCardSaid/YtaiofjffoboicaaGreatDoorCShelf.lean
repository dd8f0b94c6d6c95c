/- Parts of a proof, printed by a program of mine out of my texts: Shelf. -/
import Derived.Shelf.Strings.Builder1
import Derived.Shelf.Strings.Builder2
import Derived.Shelf.Strings.OnBuilder
import Derived.Shelf.Strings.BuilderF
import Derived.Shelf.Strings.BuilderK
import Derived.Shelf.Strings.Builder2Cap
import Derived.Shelf.Strconv.Itoa0
import Derived.Shelf.Strconv.Itoa1
import Derived.Shelf.LaysM
import Derived.Shelf.Strconv.Itoa2
import Derived.Shelf.Strconv.Itoa3
import Derived.Shelf.Strings.Fields
import Derived.Shelf.Strings.SplitShaped
import Derived.Shelf.Unicode.Latin
import Derived.Shelf.Unicode.Is16White
import Derived.Shelf.Unicode.IsSpaceAny
import Derived.Shelf.Unicode.Is16WhiteD
import Derived.Shelf.Unicode.IsSpaceAnyD
import Derived.Shelf.Strings.FieldsAny
import Derived.Shelf.Strings.FieldsFuncAny
import Derived.Shelf.Unicode.Is16Any
import Derived.Shelf.Unicode.Is32Any
import Derived.Shelf.Unicode.ExclAny
import Derived.Shelf.Strings.FieldsFuncGrows
import Derived.Shelf.Strings.BuilderCap
import Derived.Test.YtaiofjffoboicaaGreatDoorProg
set_option linter.unusedSimpArgs false
set_option linter.unusedVariables false
namespace Go.Proofs
open Go.Shelf
def Tryz.lays169_ren : Go.Shelf.Ren:=⟨fun|169 => 48|n => n,fun|70 => 76|9 => 9|0 => 0|72 => 78|37 => 46|127 => 112|3 => 3|5 => 5|n => n,fun|n => n⟩
theorem Tryz.lays169 : Go.Proofs.Lays.n169 Tryz.prog Tryz.lays169_ren:={
  mixed:=by kernel_rfl
  f169:=Tryz.func48.trans (congrArg some (by kernel_rfl))
  t0:=Tryz.underlying0
  a0:=Tryz.isAgg0
  z0:=Tryz.sizeOf0
  v0:=Tryz.zeroValue0
  t3:=Tryz.underlying3
  a3:=Tryz.isAgg3
  z3:=Tryz.sizeOf3
  v3:=Tryz.zeroValue3
  t9:=Tryz.underlying9
  a9:=Tryz.isAgg9
  z9:=Tryz.sizeOf9
  v9:=Tryz.zeroValue9
  t37:=Tryz.underlying46
  a37:=Tryz.isAgg46
  z37:=Tryz.sizeOf46
  v37:=Tryz.zeroValue46
  t70:=Tryz.underlying76
  a70:=Tryz.isAgg76
  z70:=Tryz.sizeOf76
  v70:=Tryz.zeroValue76
  t72:=Tryz.underlying78
  a72:=Tryz.isAgg78
  z72:=Tryz.sizeOf78
  v72:=Tryz.zeroValue78
  t127:=Tryz.underlying112
  a127:=Tryz.isAgg112
  z127:=Tryz.sizeOf112
  v127:=Tryz.zeroValue112 }
theorem Tryz.Builder_Extra_169 : Builder.Extra Tryz.prog Tryz.lays169_ren:={
  sizeBuilder:=by kernel_rfl
  liesBuilder:=by kernel_rfl
  t5:=Tryz.underlying5
  a5:=Tryz.isAgg5
  z5:=Tryz.sizeOf5
  v5:=Tryz.zeroValue5
  infoByte:=by kernel_rfl
  cellsByte:=by kernel_rfl
  sizeByte:=by kernel_rfl
  neB5:=by decide }
def Tryz.lays156_ren : Go.Shelf.Ren:=⟨fun|156 => 25|165 => 57|166 => 43|169 => 48|240 => 64|241 => 80|276 => 90|277 => 104|n => n,fun|31 => 54|9 => 9|3 => 3|4 => 4|0 => 0|20 => 20|72 => 78|76 => 83|70 => 76|37 => 46|75 => 80|127 => 112|164 => 138|5 => 5|80 => 88|n => n,fun|n => n⟩
theorem Tryz.lays156 : Go.Proofs.Lays.n156 Tryz.prog Tryz.lays156_ren:={
  mixed:=by kernel_rfl
  f156:=Tryz.func25.trans (congrArg some (by kernel_rfl))
  f165:=Tryz.func57.trans (congrArg some (by kernel_rfl))
  f166:=Tryz.func43.trans (congrArg some (by kernel_rfl))
  f169:=Tryz.func48.trans (congrArg some (by kernel_rfl))
  f240:=Tryz.func64.trans (congrArg some (by kernel_rfl))
  f241:=Tryz.func80.trans (congrArg some (by kernel_rfl))
  f276:=Tryz.func90.trans (congrArg some (by kernel_rfl))
  f277:=Tryz.func104.trans (congrArg some (by kernel_rfl))
  t0:=Tryz.underlying0
  a0:=Tryz.isAgg0
  z0:=Tryz.sizeOf0
  v0:=Tryz.zeroValue0
  t3:=Tryz.underlying3
  a3:=Tryz.isAgg3
  z3:=Tryz.sizeOf3
  v3:=Tryz.zeroValue3
  t4:=Tryz.underlying4
  a4:=Tryz.isAgg4
  z4:=Tryz.sizeOf4
  v4:=Tryz.zeroValue4
  t9:=Tryz.underlying9
  a9:=Tryz.isAgg9
  z9:=Tryz.sizeOf9
  v9:=Tryz.zeroValue9
  t20:=Tryz.underlying20
  a20:=Tryz.isAgg20
  z20:=Tryz.sizeOf20
  v20:=Tryz.zeroValue20
  t31:=Tryz.underlying54
  a31:=Tryz.isAgg54
  z31:=Tryz.sizeOf54
  v31:=Tryz.zeroValue54
  t37:=Tryz.underlying46
  a37:=Tryz.isAgg46
  z37:=Tryz.sizeOf46
  v37:=Tryz.zeroValue46
  t70:=Tryz.underlying76
  a70:=Tryz.isAgg76
  z70:=Tryz.sizeOf76
  v70:=Tryz.zeroValue76
  t72:=Tryz.underlying78
  a72:=Tryz.isAgg78
  z72:=Tryz.sizeOf78
  v72:=Tryz.zeroValue78
  t75:=Tryz.underlying80
  a75:=Tryz.isAgg80
  z75:=Tryz.sizeOf80
  v75:=Tryz.zeroValue80
  t76:=Tryz.underlying83
  a76:=Tryz.isAgg83
  z76:=Tryz.sizeOf83
  v76:=Tryz.zeroValue83
  t127:=Tryz.underlying112
  a127:=Tryz.isAgg112
  z127:=Tryz.sizeOf112
  v127:=Tryz.zeroValue112
  t164:=Tryz.underlying138
  a164:=Tryz.isAgg138
  z164:=Tryz.sizeOf138
  v164:=Tryz.zeroValue138 }
theorem Tryz.Builder_Extra_156 : Builder.Extra Tryz.prog Tryz.lays156_ren:={
  sizeBuilder:=by kernel_rfl
  liesBuilder:=by kernel_rfl
  t5:=Tryz.underlying5
  a5:=Tryz.isAgg5
  z5:=Tryz.sizeOf5
  v5:=Tryz.zeroValue5
  infoByte:=by kernel_rfl
  cellsByte:=by kernel_rfl
  sizeByte:=by kernel_rfl
  neB5:=by decide }
open Go.RowKit in
theorem Tryz.strings_Join (bk o c : Nat) (xs : List ByteArray) (sep : ByteArray) (w : World) (hcells : ∀ (j : Nat) x,xs[j]? = some x → w.cell? ⟨bk,o + j,none⟩ = some (.string x)) (hbk : bk < w.heap.size) (hN : xs.length ≤ 140737488355328) (hcap : xs.length ≤ c) (hlen : (Lib.join (xs.map (·.data.toList)) sep.data.toList).length ≤ 140737488355328) :
    Calls Tryz.prog 25 #[.slice (some ⟨bk,o,none⟩) xs.length c,.string sep] w fun e w' => e = .returned (.string ⟨(Lib.join (xs.map (·.data.toList)) sep.data.toList).toArray⟩) ∧ Below w.heap.size w w':=Any.strings_Join Tryz.lays156 Tryz.Builder_Extra_156 bk o c xs sep w hcells hbk hN hcap hlen
open Go.RowKit in
theorem Tryz.Builder_String_any_k (B b : Nat) (l : List UInt8) (w : World) (h : Lib.IsBuilderF 78 5 B b (Lib.byteCells l) w) (hBw : B ≤ w.heap.size) :
    Calls Tryz.prog 48 #[.pointer (some ⟨b,0,none⟩)] w fun e w' => e = .returned (.string ⟨l.toArray⟩) ∧ (Lib.IsBuilderF 78 5 B b (Lib.byteCells l) w' ∧ Below B w w' ∧ Lib.OthersKept 5 (some b) w w'):=Any.Builder_String_any_k Tryz.lays169 Tryz.Builder_Extra_169 B b l w h hBw
def Tryz.lays283_ren : Go.Shelf.Ren:=⟨fun|283 => 74|n => n,fun|3 => 3|9 => 9|4 => 4|n => n,fun|n => n⟩
theorem Tryz.lays283 : Go.Proofs.Lays.n283 Tryz.prog Tryz.lays283_ren:={
  mixed:=by kernel_rfl
  f283:=Tryz.func74.trans (congrArg some (by kernel_rfl))
  t3:=Tryz.underlying3
  a3:=Tryz.isAgg3
  z3:=Tryz.sizeOf3
  v3:=Tryz.zeroValue3
  t4:=Tryz.underlying4
  a4:=Tryz.isAgg4
  z4:=Tryz.sizeOf4
  v4:=Tryz.zeroValue4
  t9:=Tryz.underlying9
  a9:=Tryz.isAgg9
  z9:=Tryz.sizeOf9
  v9:=Tryz.zeroValue9 }
open Go.Lib in
theorem Tryz.internal_strconv_small (i : Nat) (h : i < 100) (w : World) :
    Calls Tryz.prog 74 #[.int .i64 i] w fun e w' => e = .returned (.string ⟨(Lib.decDigits i).toArray⟩) ∧ w' = w:=Any.internal_strconv_small Tryz.lays283 i h w
def Tryz.laysM284_ren : Go.Shelf.Ren:=⟨fun|284 => 75|129 => 98|317 => 97|318 => 99|n => n,fun|53 => 22|3 => 3|212 => 146|0 => 0|4 => 4|46 => 45|5 => 5|9 => 9|n => n,fun|17 => 3|n => n⟩
theorem Tryz.laysM284 : Go.Proofs.LaysM.n284 Tryz.prog Tryz.laysM284_ren:={
  mixed:=by kernel_rfl
  f129:=Tryz.func98.trans (congrArg some (by kernel_rfl))
  f284:=Tryz.func75.trans (congrArg some (by kernel_rfl))
  f317:=Tryz.func97.trans (congrArg some (by kernel_rfl))
  f318:=Tryz.func99.trans (congrArg some (by kernel_rfl))
  t0:=Tryz.underlying0
  a0:=Tryz.isAgg0
  z0:=Tryz.sizeOf0
  v0:=Tryz.zeroValue0
  t3:=Tryz.underlying3
  a3:=Tryz.isAgg3
  z3:=Tryz.sizeOf3
  v3:=Tryz.zeroValue3
  t4:=Tryz.underlying4
  a4:=Tryz.isAgg4
  z4:=Tryz.sizeOf4
  v4:=Tryz.zeroValue4
  t5:=Tryz.underlying5
  a5:=Tryz.isAgg5
  z5:=Tryz.sizeOf5
  v5:=Tryz.zeroValue5
  t9:=Tryz.underlying9
  a9:=Tryz.isAgg9
  z9:=Tryz.sizeOf9
  v9:=Tryz.zeroValue9
  t46:=Tryz.underlying45
  a46:=Tryz.isAgg45
  z46:=Tryz.sizeOf45
  v46:=Tryz.zeroValue45
  t53:=Tryz.underlying22
  a53:=Tryz.isAgg22
  z53:=Tryz.sizeOf22
  v53:=Tryz.zeroValue22
  t212:=Tryz.underlying146
  a212:=Tryz.isAgg146
  z212:=Tryz.sizeOf146
  v212:=Tryz.zeroValue146
  g17:=by kernel_rfl
  i0:=by kernel_rfl
  i3:=by kernel_rfl
  i4:=by kernel_rfl
  i5:=by kernel_rfl
  i9:=by kernel_rfl
  i46:=by kernel_rfl
  i53:=by kernel_rfl
  i212:=by kernel_rfl
  m17:=by kernel_rfl }
open Go.Lib in
theorem Tryz.internal_strconv_numDigits (u : Nat) (h1 : 1 ≤ u) (h2 : u < 18446744073709551616) (w : World) (htab : Lib.TabIs Tryz.prog w "internal/strconv.uint64pow10" .u64 Lib.pow10Tab) :
    Calls Tryz.prog 75 #[.int .u64 u] w fun e w' => e = .returned (.int .i64 (Lib.nDigits u)) ∧ w' = w:=Any.internal_strconv_numDigits Tryz.laysM284 u h1 h2 w htab
def Tryz.lays285_ren : Go.Shelf.Ren:=⟨fun|285 => 76|n => n,fun|37 => 46|53 => 22|3 => 3|4 => 4|51 => 114|9 => 9|5 => 5|0 => 0|n => n,fun|n => n⟩
theorem Tryz.lays285 : Go.Proofs.Lays.n285 Tryz.prog Tryz.lays285_ren:={
  mixed:=by kernel_rfl
  f285:=Tryz.func76.trans (congrArg some (by kernel_rfl))
  t0:=Tryz.underlying0
  a0:=Tryz.isAgg0
  z0:=Tryz.sizeOf0
  v0:=Tryz.zeroValue0
  t3:=Tryz.underlying3
  a3:=Tryz.isAgg3
  z3:=Tryz.sizeOf3
  v3:=Tryz.zeroValue3
  t4:=Tryz.underlying4
  a4:=Tryz.isAgg4
  z4:=Tryz.sizeOf4
  v4:=Tryz.zeroValue4
  t5:=Tryz.underlying5
  a5:=Tryz.isAgg5
  z5:=Tryz.sizeOf5
  v5:=Tryz.zeroValue5
  t9:=Tryz.underlying9
  a9:=Tryz.isAgg9
  z9:=Tryz.sizeOf9
  v9:=Tryz.zeroValue9
  t37:=Tryz.underlying46
  a37:=Tryz.isAgg46
  z37:=Tryz.sizeOf46
  v37:=Tryz.zeroValue46
  t51:=Tryz.underlying114
  a51:=Tryz.isAgg114
  z51:=Tryz.sizeOf114
  v51:=Tryz.zeroValue114
  t53:=Tryz.underlying22
  a53:=Tryz.isAgg22
  z53:=Tryz.sizeOf22
  v53:=Tryz.zeroValue22 }
open Go.RowKit Go.Sort Go.Lib in
theorem Tryz.internal_strconv_formatBase10 (blk off cap : Nat) (u : Nat) (d : Array UInt8) (w : World) (hH : Holds (fun (b : UInt8) => Value.int .u8 (b.toNat : Int)) w blk off d) (hu : u < 10 ^ d.size) (hu64 : u < 18446744073709551616) (hsz : d.size < 4611686018427387904) :
    Calls Tryz.prog 76 #[.slice (some ⟨blk,off,none⟩) d.size cap,.int .u64 u] w fun e w' =>
      e = .returned (.tuple #[]) ∧ ∃ (n v' : Nat) (dk : Array UInt8),w' = (putRow (fun (b : UInt8) => Value.int .u8 (b.toNat : Int)) w blk off dk).drewN n ∧ FmtInv d.size u 0 v' dk:=Any.internal_strconv_formatBase10 Tryz.lays285 blk off cap u d w hH hu hu64 hsz
def Tryz.laysM171_ren : Go.Shelf.Ren:=⟨fun|171 => 21|243 => 54|246 => 78|283 => 74|284 => 75|285 => 76|286 => 77|129 => 98|317 => 97|318 => 99|319 => 100|320 => 101|337 => 110|338 => 111|n => n,fun|3 => 3|9 => 9|2 => 2|4 => 4|171 => 117|0 => 0|53 => 22|37 => 46|5 => 5|173 => 120|212 => 146|51 => 114|20 => 20|213 => 147|46 => 45|232 => 168|233 => 169|n => n,fun|17 => 3|18 => 6|19 => 7|n => n⟩
theorem Tryz.laysM171 : Go.Proofs.LaysM.n171 Tryz.prog Tryz.laysM171_ren:={
  mixed:=by kernel_rfl
  f129:=Tryz.func98.trans (congrArg some (by kernel_rfl))
  f171:=Tryz.func21.trans (congrArg some (by kernel_rfl))
  f243:=Tryz.func54.trans (congrArg some (by kernel_rfl))
  f246:=Tryz.func78.trans (congrArg some (by kernel_rfl))
  f283:=Tryz.func74.trans (congrArg some (by kernel_rfl))
  f284:=Tryz.func75.trans (congrArg some (by kernel_rfl))
  f285:=Tryz.func76.trans (congrArg some (by kernel_rfl))
  f286:=Tryz.func77.trans (congrArg some (by kernel_rfl))
  f317:=Tryz.func97.trans (congrArg some (by kernel_rfl))
  f318:=Tryz.func99.trans (congrArg some (by kernel_rfl))
  f319:=Tryz.func100.trans (congrArg some (by kernel_rfl))
  f320:=Tryz.func101.trans (congrArg some (by kernel_rfl))
  f337:=Tryz.func110.trans (congrArg some (by kernel_rfl))
  f338:=Tryz.func111.trans (congrArg some (by kernel_rfl))
  t0:=Tryz.underlying0
  a0:=Tryz.isAgg0
  z0:=Tryz.sizeOf0
  v0:=Tryz.zeroValue0
  t2:=Tryz.underlying2
  a2:=Tryz.isAgg2
  z2:=Tryz.sizeOf2
  v2:=Tryz.zeroValue2
  t3:=Tryz.underlying3
  a3:=Tryz.isAgg3
  z3:=Tryz.sizeOf3
  v3:=Tryz.zeroValue3
  t4:=Tryz.underlying4
  a4:=Tryz.isAgg4
  z4:=Tryz.sizeOf4
  v4:=Tryz.zeroValue4
  t5:=Tryz.underlying5
  a5:=Tryz.isAgg5
  z5:=Tryz.sizeOf5
  v5:=Tryz.zeroValue5
  t9:=Tryz.underlying9
  a9:=Tryz.isAgg9
  z9:=Tryz.sizeOf9
  v9:=Tryz.zeroValue9
  t20:=Tryz.underlying20
  a20:=Tryz.isAgg20
  z20:=Tryz.sizeOf20
  v20:=Tryz.zeroValue20
  t37:=Tryz.underlying46
  a37:=Tryz.isAgg46
  z37:=Tryz.sizeOf46
  v37:=Tryz.zeroValue46
  t46:=Tryz.underlying45
  a46:=Tryz.isAgg45
  z46:=Tryz.sizeOf45
  v46:=Tryz.zeroValue45
  t51:=Tryz.underlying114
  a51:=Tryz.isAgg114
  z51:=Tryz.sizeOf114
  v51:=Tryz.zeroValue114
  t53:=Tryz.underlying22
  a53:=Tryz.isAgg22
  z53:=Tryz.sizeOf22
  v53:=Tryz.zeroValue22
  t171:=Tryz.underlying117
  a171:=Tryz.isAgg117
  z171:=Tryz.sizeOf117
  v171:=Tryz.zeroValue117
  t173:=Tryz.underlying120
  a173:=Tryz.isAgg120
  z173:=Tryz.sizeOf120
  v173:=Tryz.zeroValue120
  t212:=Tryz.underlying146
  a212:=Tryz.isAgg146
  z212:=Tryz.sizeOf146
  v212:=Tryz.zeroValue146
  t213:=Tryz.underlying147
  a213:=Tryz.isAgg147
  z213:=Tryz.sizeOf147
  t232:=Tryz.underlying168
  a232:=Tryz.isAgg168
  z232:=Tryz.sizeOf168
  v232:=Tryz.zeroValue168
  t233:=Tryz.underlying169
  a233:=Tryz.isAgg169
  z233:=Tryz.sizeOf169
  v233:=Tryz.zeroValue169
  g17:=by kernel_rfl
  g18:=by kernel_rfl
  g19:=by kernel_rfl
  i0:=by kernel_rfl
  i2:=by kernel_rfl
  i3:=by kernel_rfl
  i4:=by kernel_rfl
  i5:=by kernel_rfl
  i9:=by kernel_rfl
  i20:=by kernel_rfl
  i37:=by kernel_rfl
  i46:=by kernel_rfl
  i51:=by kernel_rfl
  i53:=by kernel_rfl
  i171:=by kernel_rfl
  i173:=by kernel_rfl
  i212:=by kernel_rfl
  i232:=by kernel_rfl
  i233:=by kernel_rfl
  m17:=by kernel_rfl
  m18:=by kernel_rfl
  m19:=by kernel_rfl }
open Go.RowKit Go.Sort Go.Lib in
theorem Tryz.strconv_Itoa (n : Int) (h0 : -9223372036854775808 ≤ n) (h1 : n ≤ 9223372036854775807) (w : World) (htab : Lib.TabIs Tryz.prog w "internal/strconv.uint64pow10" .u64 Lib.pow10Tab) :
    Calls Tryz.prog 21 #[.int .i64 n] w fun e w' => e = .returned (.string ⟨(Lib.itoa n).toArray⟩) ∧ ∃ k os,w' = grow (w.drewN k) os:=Any.strconv_Itoa Tryz.laysM171 n h0 h1 w htab
def Tryz.lays157_ren : Go.Shelf.Ren:=⟨fun|157 => 22|229 => 55|199 => 56|261 => 79|311 => 102|312 => 103|n => n,fun|9 => 9|31 => 54|3 => 3|5 => 5|4 => 4|119 => 90|0 => 0|40 => 92|152 => 123|21 => 21|154 => 125|51 => 114|141 => 127|196 => 152|193 => 149|198 => 154|49 => 43|194 => 150|201 => 157|226 => 165|46 => 45|227 => 166|n => n,fun|0 => 0|6 => 1|n => n⟩
theorem Tryz.lays157 : Go.Proofs.Lays.n157 Tryz.prog Tryz.lays157_ren:={
  mixed:=by kernel_rfl
  f157:=Tryz.func22.trans (congrArg some (by kernel_rfl))
  f199:=Tryz.func56.trans (congrArg some (by kernel_rfl))
  f229:=Tryz.func55.trans (congrArg some (by kernel_rfl))
  f261:=Tryz.func79.trans (congrArg some (by kernel_rfl))
  f311:=Tryz.func102.trans (congrArg some (by kernel_rfl))
  f312:=Tryz.func103.trans (congrArg some (by kernel_rfl))
  t0:=Tryz.underlying0
  a0:=Tryz.isAgg0
  z0:=Tryz.sizeOf0
  v0:=Tryz.zeroValue0
  t3:=Tryz.underlying3
  a3:=Tryz.isAgg3
  z3:=Tryz.sizeOf3
  v3:=Tryz.zeroValue3
  t4:=Tryz.underlying4
  a4:=Tryz.isAgg4
  z4:=Tryz.sizeOf4
  v4:=Tryz.zeroValue4
  t5:=Tryz.underlying5
  a5:=Tryz.isAgg5
  z5:=Tryz.sizeOf5
  v5:=Tryz.zeroValue5
  t9:=Tryz.underlying9
  a9:=Tryz.isAgg9
  z9:=Tryz.sizeOf9
  v9:=Tryz.zeroValue9
  t21:=Tryz.underlying21
  a21:=Tryz.isAgg21
  z21:=Tryz.sizeOf21
  v21:=Tryz.zeroValue21
  t31:=Tryz.underlying54
  a31:=Tryz.isAgg54
  z31:=Tryz.sizeOf54
  v31:=Tryz.zeroValue54
  t40:=Tryz.underlying92
  a40:=Tryz.isAgg92
  z40:=Tryz.sizeOf92
  v40:=Tryz.zeroValue92
  t46:=Tryz.underlying45
  a46:=Tryz.isAgg45
  z46:=Tryz.sizeOf45
  v46:=Tryz.zeroValue45
  t49:=Tryz.underlying43
  a49:=Tryz.isAgg43
  z49:=Tryz.sizeOf43
  v49:=Tryz.zeroValue43
  t51:=Tryz.underlying114
  a51:=Tryz.isAgg114
  z51:=Tryz.sizeOf114
  v51:=Tryz.zeroValue114
  t119:=Tryz.underlying90
  a119:=Tryz.isAgg90
  z119:=Tryz.sizeOf90
  t141:=Tryz.underlying127
  a141:=Tryz.isAgg127
  z141:=Tryz.sizeOf127
  v141:=Tryz.zeroValue127
  t152:=Tryz.underlying123
  a152:=Tryz.isAgg123
  z152:=Tryz.sizeOf123
  v152:=Tryz.zeroValue123
  t154:=Tryz.underlying125
  a154:=Tryz.isAgg125
  z154:=Tryz.sizeOf125
  v154:=Tryz.zeroValue125
  t193:=Tryz.underlying149
  a193:=Tryz.isAgg149
  z193:=Tryz.sizeOf149
  v193:=Tryz.zeroValue149
  t194:=Tryz.underlying150
  a194:=Tryz.isAgg150
  z194:=Tryz.sizeOf150
  v194:=Tryz.zeroValue150
  t196:=Tryz.underlying152
  a196:=Tryz.isAgg152
  z196:=Tryz.sizeOf152
  v196:=Tryz.zeroValue152
  t198:=Tryz.underlying154
  a198:=Tryz.isAgg154
  z198:=Tryz.sizeOf154
  v198:=Tryz.zeroValue154
  t201:=Tryz.underlying157
  a201:=Tryz.isAgg157
  z201:=Tryz.sizeOf157
  v201:=Tryz.zeroValue157
  t226:=Tryz.underlying165
  a226:=Tryz.isAgg165
  z226:=Tryz.sizeOf165
  v226:=Tryz.zeroValue165
  t227:=Tryz.underlying166
  a227:=Tryz.isAgg166
  z227:=Tryz.sizeOf166
  v227:=Tryz.zeroValue166
  g0:=by kernel_rfl
  g6:=by kernel_rfl }
open Go.RowKit Go.Lib in
theorem Tryz.strings_Fields (s : ByteArray) (w : World) (hs : s.size < 4294967281) (hascii : ∀ (j : Nat) b, s.data.toList[j]? = some b → b.toNat < 128) (htab : Lib.TabIs Tryz.prog w "strings.asciiSpace" .u8 Lib.asciiSpaceTab) :
    Calls Tryz.prog 22 #[.string s] w fun e w' =>
      e = .returned (.slice (some ⟨w.heap.size,0,none⟩) (Lib.fields s.data.toList).length (Lib.fields s.data.toList).length) ∧ w' = w.alloc (.cells ((Lib.fields s.data.toList).map fun l => Value.string ⟨l.toArray⟩).toArray 9):=Any.strings_Fields Tryz.lays157 (by kernel_rfl) (by kernel_rfl) s w hs hascii htab
end Go.Proofs
