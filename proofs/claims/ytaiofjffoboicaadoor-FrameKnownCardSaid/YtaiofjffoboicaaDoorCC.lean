/- Parts of a proof, printed by a program of mine out of my texts: WiSum, WiSeal, WiMath, WiNums, WiFront. -/
import Derived.Lib.LaidTab
import Derived.Lib.AppendIntMem
import Derived.Laws.BitsAllLaws
import Derived.OwnWalk
import Derived.Laws.OwnMore
import Derived.Maps.AppendAt
import Derived.Test.YtaiofjffoboicaaDoorCA
import Derived.Test.YtaiofjffoboicaaDoorCB
set_option linter.unusedSimpArgs false
set_option linter.unusedVariables false
namespace Go.Proofs.YtaiofjffoboicaaDoor
open Go.RowKit
def down (x : Nat) : Nat:=if x % 2 = 1 then x / 2 ^^^ 2197175160 else x / 2
def downs : Nat → Nat → Nat
  | 0,x => x
  | n + 1,x => down (downs n x)
def byteN (r b : Nat) : Nat:=downs 8 (r ^^^ b)
def crcGo (l : List UInt8) (r : Nat) : Nat:=l.foldl (fun r b => byteN r b.toNat) r
def crcN (l : List UInt8) : Nat:=crcGo l 4294967295 ^^^ 4294967295
def sumTab : List Int:=[0,274646895,549293790,820201905,1098587580,1361435347,1640403810,1905808397,2197175160,2460548119,2722870694,2987750089,3280807620,3553878443,3811616794,4084100981]
def crcT (i : Nat) : Nat:=(sumTab.getD i 0).toNat
theorem down_xor (a b : Nat) : down (a ^^^ b) = down a ^^^ down b:=by
  unfold down
  have h:=@Nat.xor_mod_two_eq_one a b
  rw [Nat.xor_div_two]
  by_cases ha : a % 2 = 1 <;> by_cases hb : b % 2 = 1
  · rw [if_neg (by rw [h];simp [ha,hb]),if_pos ha,if_pos hb]
    rw [Nat.xor_assoc,Nat.xor_comm (b / 2),← Nat.xor_assoc 2197175160,Nat.xor_self,Nat.zero_xor]
  · rw [if_pos (by rw [h];simp [ha,hb]),if_pos ha,if_neg hb]
    rw [Nat.xor_assoc,Nat.xor_comm (b / 2),← Nat.xor_assoc]
  · rw [if_pos (by rw [h];simp [ha,hb]),if_neg ha,if_pos hb]
    rw [Nat.xor_assoc]
  · rw [if_neg (by rw [h];simp [ha,hb]),if_neg ha,if_neg hb]
theorem downs_xor (n a b : Nat) : downs n (a ^^^ b) = downs n a ^^^ downs n b:=by
  induction n with
  | zero => rfl
  | succ n ih => simp only [downs,ih,down_xor]
theorem downs_add (m n x : Nat) : downs (m + n) x = downs m (downs n x):=by
  induction m with
  | zero => simp [downs]
  | succ m ih => rw [show m + 1 + n = m + n + 1 by omega];simp only [downs,ih]
theorem down_even (m : Nat) : down (2 * m) = m:=by
  unfold down;rw [if_neg (by omega)];omega
theorem downs_four (q : Nat) : downs 4 (16 * q) = q:=by
  simp only [downs]
  rw [show 16 * q = 2 * (2 * (2 * (2 * q))) by omega,down_even,down_even,down_even,down_even]
theorem split16 (x : Nat) : 16 * (x / 16) ^^^ x % 16 = x:=by
  apply Nat.eq_of_testBit_eq
  intro i
  rw [Nat.testBit_xor,show 16 * (x / 16) = 2 ^ 4 * (x / 2 ^ 4) by rfl,show x % 16 = x % 2 ^ 4 by rfl,Nat.testBit_two_pow_mul,Nat.testBit_mod_two_pow,Nat.testBit_div_two_pow]
  by_cases h : i < 4
  · simp [h,show ¬ 4 ≤ i by omega]
  · simp [h,show 4 ≤ i by omega,show 4 + (i - 4) = i by omega]
theorem tab_down : ∀ i,i < 16 → downs 4 i = crcT i:=by decide
theorem downs4 (x : Nat) : downs 4 x = x / 16 ^^^ crcT (x % 16):=by
  conv => lhs;rw [← split16 x]
  rw [downs_xor,downs_four,tab_down _ (by omega)]
theorem byteN_tab (r b : Nat) : byteN r b = (let x:=r ^^^ b;let y:=x / 16 ^^^ crcT (x % 16);y / 16 ^^^ crcT (y % 16)):=by
  unfold byteN
  rw [show 8 = 4 + 4 by rfl,downs_add,downs4 (r ^^^ b),downs4]
theorem down_lt {x : Nat} (h : x < 4294967296) : down x < 4294967296:=by
  unfold down
  split
  · exact Nat.xor_lt_two_pow (n:=32) (by omega) (by omega)
  · omega
theorem downs_lt {x : Nat} (n : Nat) (h : x < 4294967296) : downs n x < 4294967296:=by
  induction n with
  | zero => exact h
  | succ n ih => exact down_lt ih
theorem byteN_lt {r b : Nat} (h : r < 4294967296) (hb : b < 256) : byteN r b < 4294967296 :=
  downs_lt 8 (Nat.xor_lt_two_pow (n:=32) (by omega) (by omega))
theorem crcGo_lt (l : List UInt8) : ∀ {r : Nat},r < 4294967296 → crcGo l r < 4294967296:=by
  induction l with
  | nil => exact fun h => h
  | cons c l ih => exact fun h => ih (byteN_lt h c.toNat_lt)
theorem crcN_lt (l : List UInt8) : crcN l < 4294967296:=Nat.xor_lt_two_pow (n:=32) (crcGo_lt l (by decide)) (by decide)
theorem crcGo_append (a b : List UInt8) (r : Nat) : crcGo (a ++ b) r = crcGo b (crcGo a r):=by simp [crcGo,List.foldl_append]
theorem crcGo_take (l : List UInt8) (r i : Nat) (h : i < l.length) : crcGo (l.take (i + 1)) r = byteN (crcGo (l.take i) r) (l[i].toNat):=by
  rw [List.take_succ_eq_append_getElem h,crcGo_append];rfl
abbrev sumNm : String := "packhorse/sum.table"
def STab (w : World) : Prop:=Lib.TabBelow Tryd.prog w.heap.size w sumNm .u32 sumTab
theorem STab.on {w w' : World} (h : STab w) (hb : RowKit.Below w.heap.size w w') : STab w':=Lib.tabBelow_of_tabIs (Lib.TabBelow.on h hb).here
theorem stab_of {w : World} (h : Lib.TabIs Tryd.prog w sumNm .u32 sumTab) : STab w:=Lib.tabBelow_of_tabIs h
theorem STab.cell {w : World} (h : STab w) (i : Nat) (hi : i < 16) : w.cell? ⟨5,i,none⟩ = some (.int .u32 (crcT i : Nat)):=by
  have h1:=Lib.TabIs.cell (Lib.TabBelow.here h) (g:=5) (by kernel_rfl) i hi
  rw [h1]
  have h2 : ∀ i,i < 16 → sumTab.getD i 0 = ((crcT i : Nat) : Int):=by decide
  rw [h2 i hi]
theorem crcT_lt : ∀ i,i < 16 → crcT i < 4294967296:=by decide
set_option maxRecDepth 100000 in
theorem byte32_any (r b : Nat) (hr : r < 4294967296) (hb : b < 256) (w : World) (hT : STab w) :
    Calls Tryd.prog 123 #[.int .u32 (r : Int),.int .u8 (b : Int)] w fun e w' => e = .returned (.int .u32 (byteN r b : Nat)) ∧ w = w':=by
  rw [byteN_tab]
  dsimp only
  have e1:=u32_xor_nat r b hr (by omega)
  have hx : r ^^^ b < 4294967296:=Nat.xor_lt_two_pow (n:=32) (by omega) (by omega)
  obtain ⟨x,hxx⟩ : ∃ x,r ^^^ b = x:=⟨_,rfl⟩
  rw [hxx] at e1 hx ⊢
  have e2:=u32_and_nat x 15 hx (by omega)
  rw [show x &&& 15 = x % 16 from Nat.and_two_pow_sub_one_eq_mod x 4] at e2
  have c1:=hT.cell (x % 16) (by omega)
  have t1:=crcT_lt (x % 16) (by omega)
  have i1 : x % 16 < 16:=by omega
  obtain ⟨i,hi⟩ : ∃ i,x % 16 = i:=⟨_,rfl⟩
  rw [hi] at e2 c1 t1 i1 ⊢
  have e3:=u32_xor_nat (x / 16) (crcT i) (by omega) t1
  have hy : x / 16 ^^^ crcT i < 4294967296:=Nat.xor_lt_two_pow (n:=32) (by omega) (by omega)
  obtain ⟨y,hyy⟩ : ∃ y,x / 16 ^^^ crcT i = y:=⟨_,rfl⟩
  rw [hyy] at e3 hy ⊢
  have e4:=u32_and_nat y 15 hy (by omega)
  rw [show y &&& 15 = y % 16 from Nat.and_two_pow_sub_one_eq_mod y 4] at e4
  have c2:=hT.cell (y % 16) (by omega)
  have t2:=crcT_lt (y % 16) (by omega)
  have i2 : y % 16 < 16:=by omega
  obtain ⟨j,hj⟩ : ∃ j,y % 16 = j:=⟨_,rfl⟩
  rw [hj] at e4 c2 t2 i2 ⊢
  have e5:=u32_xor_nat (y / 16) (crcT j) (by omega) t2
  have e0 : IntKind.u32.wrap (b : Int) = b:=by rw [IntKind.wrap_u32'];omega
  push_cast at e2 e3 e4 e5
  clear hxx hi hyy hj
  go_enter Tryd.func123,Tryd.ntmps123
  go_wp2
  go_ret
  exact ⟨rfl,rfl⟩
set_option maxRecDepth 100000 in
theorem crc32_any (s : ByteArray) (hs : s.size ≤ 1000000) (w : World) (hT : STab w) :
    Calls Tryd.prog 107 #[.string s] w fun e w' => e = .returned (.int .u32 (crcN s.data.toList : Nat)) ∧ w = w':=by
  obtain ⟨cr,hcr⟩ : ∃ r,crcN s.data.toList = r:=⟨_,rfl⟩
  rw [hcr]
  have Hcr:=Lib.hid hcr;clear hcr
  replace hT:=Lib.hid hT
  go_enter Tryd.func107,Tryd.ntmps107
  go_wp2
  go_loopw [3,7] (fun xx ii wr => ∃ i : Nat,ii = .int .i64 i ∧ i ≤ s.size ∧ xx = .int .u32 (crcGo (s.data.toList.take i) 4294967295 : Nat) ∧ w = wr) (fun _ ii _ => s.size - (intOf ii).toNat)
  case atStart => exact ⟨0,rfl,by omega,rfl,rfl⟩
  case round =>
    obtain ⟨i,rfl,hi,rfl,rfl⟩:=hrel
    have hd:=crcGo_lt (s.data.toList.take i) (r:=4294967295) (by decide)
    by_cases h : i < s.size
    · have hl : i < s.data.toList.length:=by simpa using h
      have hz:=crcGo_take s.data.toList 4294967295 i hl
      rw [show s.data.toList[i]'hl = s[i]'h from rfl] at hz
      obtain ⟨z,hz'⟩ : ∃ z,crcGo (s.data.toList.take (i + 1)) 4294967295 = z:=⟨_,rfl⟩
      obtain ⟨y,hy⟩ : ∃ y,crcGo (s.data.toList.take i) 4294967295 = y:=⟨_,rfl⟩
      rw [hy] at hd hz ⊢
      rw [hz'] at hz
      have g:=byte32_any y (s[i]'h).toNat hd (s[i]'h).toNat_lt w hT.out
      rw [← hz] at g
      replace g:=Lib.hid g
      have Hz:=Lib.hid hz';clear hz' hy hz hl
      go_wp2_with (go_at_call 123;(with_reducible refine g.out.mono ?_);rintro e wx ⟨rfl,rfl⟩)
      go_roundw
      case rel => exact ⟨i + 1,by go_num,by omega,by rw [Hz.out],by trivial⟩
      case measure => simp [intOf];omega
    · obtain rfl : i = s.size:=by omega
      rw [List.take_of_length_le (by simp)] at hd ⊢
      have e1:=u32_xor_nat 4294967295 (crcGo s.data.toList 4294967295) (by omega) hd
      rw [Nat.xor_comm] at e1
      rw [show crcGo s.data.toList 4294967295 ^^^ 4294967295 = cr from Hcr.out] at e1
      obtain ⟨y,hy⟩ : ∃ y,crcGo s.data.toList 4294967295 = y:=⟨_,rfl⟩
      rw [hy] at e1 hd ⊢
      replace e1 : bits .xor .u32 4294967295 (y : Int) = (cr : Int):=e1
      clear hy
      go_wp2
      go_ret
      exact ⟨ret_int e1,rfl⟩
end Go.Proofs.YtaiofjffoboicaaDoor
namespace Go.Proofs.YtaiofjffoboicaaDoor
open Go.RowKit
def four (x : Nat) : List UInt8:=[UInt8.ofNat (x / 16777216),UInt8.ofNat (x / 65536),UInt8.ofNat (x / 256),UInt8.ofNat x]
def sealL (l : List UInt8) : List UInt8:=l ++ four (crcN l)
theorem u8_of (n : Nat) : IntKind.u8.wrap (n : Int) = ((UInt8.ofNat n).toNat : Int):=by
  rw [IntKind.wrap_u8',UInt8.toNat_ofNat'];omega
theorem Tryd.infoU8 : (Tryd.prog.info? 5).map (fun i => (i.zero,i.size,i.bytes)) = some (some (.int .u8 0),1,1):=by kernel_rfl
set_option maxRecDepth 100000 in
theorem size32_any (x : Nat) (w : World) :
    Calls Tryd.prog 122 #[.int .u32 (x : Int)] w fun e w' => e = .returned (.int .i64 4) ∧ w = w':=by
  go_enter Tryd.func122,Tryd.ntmps122
  iterate 17 go_step
  rw [show bits BinOp.xor IntKind.u32 (if IntKind.u32.signed = true then -1 else IntKind.u32.max) 0 = 4294967295 by decide]
  go_wp2
  go_ret
  exact ⟨rfl,rfl⟩
set_option maxRecDepth 100000 in
set_option maxHeartbeats 1600000 in
theorem text_any (x : Nat) (hx : x < 4294967296) (w : World) :
    Calls Tryd.prog 112 #[.int .u32 (x : Int)] w fun e w' => e = .returned (bstr (four x)) ∧ Below w.heap.size w w':=by
  obtain ⟨i0,hi,hz0,hz1,hz2⟩:=info_parts Tryd.infoU8
  have Hi:=Lib.hid hi;clear hi
  have Hz0:=Lib.hid hz0;clear hz0
  have Hz1:=Lib.hid hz1;clear hz1
  have Hz2:=Lib.hid hz2;clear hz2
  have q0 : IntKind.u8.wrap ((x : Int) / 16777216) = ((UInt8.ofNat (x / 16777216)).toNat : Int):=u8_of (x / 16777216)
  have q1 : IntKind.u8.wrap ((x : Int) / 65536) = ((UInt8.ofNat (x / 65536)).toNat : Int):=u8_of (x / 65536)
  have q2 : IntKind.u8.wrap ((x : Int) / 256) = ((UInt8.ofNat (x / 256)).toNat : Int):=u8_of (x / 256)
  have q3 : IntKind.u8.wrap (x : Int) = ((UInt8.ofNat x).toNat : Int):=u8_of x
  obtain ⟨L,hL⟩ : ∃ L,four x = L:=⟨_,rfl⟩
  unfold four at hL
  rw [show four x = L from hL]
  obtain ⟨b0,h0⟩ : ∃ b,UInt8.ofNat (x / 16777216) = b:=⟨_,rfl⟩
  obtain ⟨b1,h1⟩ : ∃ b,UInt8.ofNat (x / 65536) = b:=⟨_,rfl⟩
  obtain ⟨b2,h2⟩ : ∃ b,UInt8.ofNat (x / 256) = b:=⟨_,rfl⟩
  obtain ⟨b3,h3⟩ : ∃ b,UInt8.ofNat x = b:=⟨_,rfl⟩
  rw [h0] at q0 hL;rw [h1] at q1 hL;rw [h2] at q2 hL;rw [h3] at q3 hL
  subst hL
  clear h0 h1 h2 h3
  have gs:=Lib.hid (size32_any x w)
  go_enter Tryd.func112,Tryd.ntmps112
  go_wp2_with (go_at_call 122;(with_reducible refine gs.out.mono ?_);rintro e wx ⟨rfl,rfl⟩)
  go_loopw [3,4] (fun v ii wr => ∃ j : Nat,ii = .int .i64 (3 - (j : Int)) ∧ j ≤ 4 ∧ wr.ownsRow w.heap.size 5 1 v j ((([b0,b1,b2,b3] : List UInt8).take j).map fun b => Value.int .u8 (b.toNat : Int)) ∧ Below w.heap.size w wr) (fun _ ii _ => (intOf ii + 1).toNat)
  case atStart => exact ⟨0,rfl,by omega,World.ownsRow_nil _ _ _ _,Below.refl _ _⟩
  case round =>
    obtain ⟨j,rfl,hj,hown,hb⟩:=hrel
    have Hown:=Lib.hid hown;clear hown
    have hbs:=hb.size
    match j,hj with
    | 0,_ =>
      go_wp2_with (at_builtin;refine wpList_append_own _ rfl _ _ 41 rfl w.heap.size 5 i0 (.int .u8 0) 1 1 Tryd.underlying41 Hi.out Hz0.out Hz1.out Hz2.out rfl (by decide) _ 0 _ rfl (Hown.out.alloc _) ⟨wr.heap.size,0,none⟩ 1 1 [.int .u8 (b0.toNat : Int)] rfl rfl (cell_one_new _ _ _) (by simp [Value.oneCell']) (by unfold maxLen;omega) (by omega) (by simp;omega) ?_;intro v' w2 hown2 hgrow2 _)
      go_roundw
      case rel => exact ⟨1,by go_num,by omega,hown2,(hb.alloc hb.size _).grown hgrow2 (by simp;omega) (fun k e => (Hown.out.lt k e).1)⟩
      case measure => simp [intOf]
    | 1,_ =>
      go_wp2_with (at_builtin;refine wpList_append_own _ rfl _ _ 41 rfl w.heap.size 5 i0 (.int .u8 0) 1 1 Tryd.underlying41 Hi.out Hz0.out Hz1.out Hz2.out rfl (by decide) _ 1 _ rfl (Hown.out.alloc _) ⟨wr.heap.size,0,none⟩ 1 1 [.int .u8 (b1.toNat : Int)] rfl rfl (cell_one_new _ _ _) (by simp [Value.oneCell']) (by unfold maxLen;omega) (by omega) (by simp;omega) ?_;intro v' w2 hown2 hgrow2 _)
      go_roundw
      case rel => exact ⟨2,by go_num,by omega,hown2,(hb.alloc hb.size _).grown hgrow2 (by simp;omega) (fun k e => (Hown.out.lt k e).1)⟩
      case measure => simp [intOf]
    | 2,_ =>
      go_wp2_with (at_builtin;refine wpList_append_own _ rfl _ _ 41 rfl w.heap.size 5 i0 (.int .u8 0) 1 1 Tryd.underlying41 Hi.out Hz0.out Hz1.out Hz2.out rfl (by decide) _ 2 _ rfl (Hown.out.alloc _) ⟨wr.heap.size,0,none⟩ 1 1 [.int .u8 (b2.toNat : Int)] rfl rfl (cell_one_new _ _ _) (by simp [Value.oneCell']) (by unfold maxLen;omega) (by omega) (by simp;omega) ?_;intro v' w2 hown2 hgrow2 _)
      go_roundw
      case rel => exact ⟨3,by go_num,by omega,hown2,(hb.alloc hb.size _).grown hgrow2 (by simp;omega) (fun k e => (Hown.out.lt k e).1)⟩
      case measure => simp [intOf]
    | 3,_ =>
      go_wp2_with (at_builtin;refine wpList_append_own _ rfl _ _ 41 rfl w.heap.size 5 i0 (.int .u8 0) 1 1 Tryd.underlying41 Hi.out Hz0.out Hz1.out Hz2.out rfl (by decide) _ 3 _ rfl (Hown.out.alloc _) ⟨wr.heap.size,0,none⟩ 1 1 [.int .u8 (b3.toNat : Int)] rfl rfl (cell_one_new _ _ _) (by simp [Value.oneCell']) (by unfold maxLen;omega) (by omega) (by simp;omega) ?_;intro v' w2 hown2 hgrow2 _)
      go_roundw
      case rel => exact ⟨4,by go_num,by omega,hown2,(hb.alloc hb.size _).grown hgrow2 (by simp;omega) (fun k e => (Hown.out.lt k e).1)⟩
      case measure => simp [intOf]
    | 4,_ =>
      obtain ⟨g,cap,rfl,hc⟩ : ∃ g cap,u3 = .slice (some ⟨g,0,none⟩) 4 cap ∧ (convert 41 9 (.slice (some ⟨g,0,none⟩) 4 cap)).run Tryd.prog wr = .ok (bstr [b0,b1,b2,b3]) wr:=by
        rcases Hown.out.2 with ⟨_,h⟩|⟨g,cap,cur,rfl,h⟩
        · exact absurd h (by decide)
        · refine ⟨g,cap,rfl,?_⟩
          refine run_convert_bytes_back wr _ _ 5 ⟨g,0,none⟩ cap [b0,b1,b2,b3] Tryd.underlying41 Tryd.underlying5 Tryd.underlying9 fun j hj => ?_
          rw [Addr.add_lit,Nat.zero_add,Hown.out.cellAt j (by simpa using hj)]
          match j,hj with
          | 0,_ => rfl
          | 1,_ => rfl
          | 2,_ => rfl
          | 3,_ => rfl
      go_wp2
      go_ret
      exact ⟨rfl,hb⟩
set_option maxRecDepth 100000 in
set_option maxHeartbeats 400000 in
theorem seal32_any (s : ByteArray) (hs : s.size ≤ 1000000) (w : World) (hT : STab w) :
    Calls Tryd.prog 95 #[.string s] w fun e w' => e = .returned (bstr (sealL s.data.toList)) ∧ Below w.heap.size w w':=by
  have g1:=crc32_any s hs w hT
  have g2:=fun w => text_any (crcN s.data.toList) (crcN_lt _) w
  have hl : (four (crcN s.data.toList)).length = 4:=rfl
  obtain ⟨c,hc⟩ : ∃ c,crcN s.data.toList = c:=⟨_,rfl⟩
  rw [hc] at g1 g2 hl
  obtain ⟨p,hp⟩ : ∃ p : ByteArray,p = ⟨(four c).toArray⟩:=⟨_,rfl⟩
  have cp : ∀ w,Calls Tryd.prog 112 #[.int .u32 (c : Int)] w fun e w' => e = .returned (.string p) ∧ Below w.heap.size w w':=fun w => by rw [hp];exact g2 w
  have hps : p.size = 4:=by rw [hp];exact hl
  have fin : Ending.returned (.string (s ++ p)) = .returned (bstr (sealL s.data.toList)):=ret_str (by rw [hp];simp [sealL,hc])
  have Fin:=Lib.hid fin;clear fin hp g2 hl hc
  replace g1:=Lib.hid g1;replace cp:=Lib.hid cp
  go_enter Tryd.func95,Tryd.ntmps95
  go_wp2_with (first|(go_at_call 107;(with_reducible refine g1.out.mono ?_);rintro e wx ⟨rfl,rfl⟩)|(go_at_call 112;(with_reducible refine (cp.out _).mono ?_);rintro e wb ⟨rfl,hb2⟩))
  go_ret
  exact ⟨Fin.out,hb2⟩
end Go.Proofs.YtaiofjffoboicaaDoor
namespace Go.Proofs.YtaiofjffoboicaaDoor
open Go.RowKit
def wholeB (of to : Int) (n : Nat) : Bool:=decide (of = 0 ∧ to = (n : Int))
def frontL (no sq of de pr bo li to : Nat) (wh : Bool) : List UInt8 :=
  UInt8.ofNat (176 + pr + if wh then 4 else 0) :: (putN no ++ putN sq ++ putN de ++ putN bo ++ putN li ++ if wh then [] else putN of ++ putN to)
def encL (no sq of de pr bo li to : Nat) (da : List UInt8) : List UInt8 :=
  sealL (frontL no sq of de pr bo li to (wholeB of to da.length) ++ putTextN da)
structure Rs where
  pos : Int
  err : Int
  fat : Int
def rdI (l : List UInt8) (m : Int) (r : Rs) : Int × Rs :=
  if r.err ≠ 0 then (0,r) else ((intN l r.pos m).1,⟨(intN l r.pos m).2.1,(intN l r.pos m).2.2,if (intN l r.pos m).2.2 ≠ 0 then (intN l r.pos m).2.1 else r.fat⟩)
def hdB (h : Nat) : Bool:=decide (176 ≤ h ∧ h ≤ 182 ∧ h ≠ 179)
def startR : List UInt8 → Int × Bool × Rs
  | [] => (0,false,⟨0,11,0⟩)
  | h :: _ => if hdB h.toNat then (((h.toNat - 176) % 4 : Nat),decide (180 ≤ h.toNat),⟨1,0,0⟩) else (0,false,⟨0,3,0⟩)
structure Fl where
  no : Int
  sq : Int
  of : Int
  de : Int
  bo : Int
  li : Int
  to : Int
  r : Rs
def fieldsR (l : List UInt8) (fu : Bool) (r0 : Rs) : Fl :=
  let x1:=rdI l 16 r0
  let x2:=rdI l 1099511627776 x1.2
  let x3:=rdI l 16 x2.2
  let x4:=rdI l 1099511627776 x3.2
  let x5:=rdI l 1048576 x4.2
  let x6:=if fu then (0,x5.2) else rdI l 20000 x5.2
  let x7:=if fu then (0,x6.2) else rdI l 20000 x6.2
  ⟨x1.1,x2.1,x6.1,x3.1,x4.1,x5.1,x7.1,x7.2⟩
structure Dr where
  no : Int
  sq : Int
  of : Int
  de : Int
  pr : Int
  bo : Int
  li : Int
  to : Int
  da : List UInt8
  err : Int
  fat : Int
def Dr.bad (e a : Int) : Dr:=⟨0,0,0,0,0,0,0,0,[],e,a⟩
def decT (l : List UInt8) (pr : Int) (fu : Bool) (f : Fl) (t : List UInt8 × Int × Int) : Dr :=
  if t.2.2 ≠ 0 then .bad t.2.2 t.2.1
  else if (l.length : Int) - t.2.1 < 4 then .bad 11 l.length
  else if (l.drop t.2.1.toNat).take 4 ≠ four (crcN (l.take t.2.1.toNat)) then .bad 10 t.2.1
  else if t.2.1 + 4 < l.length then .bad 4 (t.2.1 + 4)
  else if buC f.no f.sq f.of f.de pr f.bo f.li (if fu then (t.1.length : Int) else f.to) t.1.length ≠ 0 then .bad (buC f.no f.sq f.of f.de pr f.bo f.li (if fu then (t.1.length : Int) else f.to) t.1.length) 0
  else if fu = false ∧ wholeB f.of (if fu then (t.1.length : Int) else f.to) t.1.length = true then .bad 3 0
  else ⟨f.no,f.sq,f.of,f.de,pr,f.bo,f.li,if fu then (t.1.length : Int) else f.to,t.1,0,0⟩
def decF (l : List UInt8) (pr : Int) (fu : Bool) (f : Fl) : Dr :=
  if f.r.err ≠ 0 then .bad f.r.err f.r.fat else decT l pr fu f (getTextN l f.r.pos 1000)
def decL (l : List UInt8) : Dr:=decF l (startR l).1 (startR l).2.1 (fieldsR l (startR l).2.1 (startR l).2.2)
theorem intN_put (l : List UInt8) (q n : Nat) (m : Int) (rest : List UInt8) (h : l.drop q = putN n ++ rest) (hq : q ≤ l.length) (hn : (n : Int) ≤ m) (hn2 : n < 18446744073709551616) :
    intN l q m = ((n : Int),((q + (putN n).length : Nat) : Int),0):=by
  have hg : getN l q = (n,q + (putN n).length,0):=by
    unfold getN
    rw [if_neg (by omega),show ((q : Int)).toNat = q by omega,h,getGo_put n rest q hn2]
  unfold intN
  rw [hg]
  rw [if_neg (by simp),if_neg (by simp only;omega)]
theorem intN_only (l : List UInt8) (q m n p : Int) (h : intN l q m = (n,p,0)) :
    ∃ k j : Nat,n = (k : Int) ∧ q = (j : Int) ∧ p = ((j + (putN k).length : Nat) : Int) ∧ j + (putN k).length ≤ l.length ∧ n ≤ m ∧ l.drop j = putN k ++ l.drop (j + (putN k).length):=by
  have h0:=intN_ok l q m n p h
  unfold intN at h
  split at h
  · rename_i he
    simp only [Prod.mk.injEq] at h
    exact absurd (by omega) he
  · rename_i he
    split at h
    · simp at h
    · simp only [Prod.mk.injEq,and_true] at h
      obtain ⟨rfl,rfl⟩:=h
      unfold getN at he ⊢ h0
      by_cases hq : q < 0 ∨ q > l.length
      · rw [if_pos hq] at he;simp at he
      · rw [if_neg hq] at he ⊢ h0
        obtain ⟨⟨a,b,c⟩,hr⟩ : ∃ r,getGo (l.drop q.toNat) q.toNat true 0 = r:=⟨_,rfl⟩
        rw [hr] at he ⊢ h0
        have hc : c = 0:=by simpa using he
        subst hc
        obtain ⟨k,h1,h2,h3,h4⟩:=getGo_only _ _ _ _ hr
        have hk : k = (putN a).length:=by
          rw [← h4,List.length_take,List.length_drop]
          rw [List.length_drop] at h2
          omega
        rw [List.length_drop] at h2
        refine ⟨a,q.toNat,rfl,by omega,by simp only;omega,by omega,h0.2.1,?_⟩
        rw [← hk,← h4,← List.drop_drop,List.take_append_drop]
theorem rdI_put (l : List UInt8) (q n : Nat) (m : Int) (rest : List UInt8) (h : l.drop q = putN n ++ rest) (hq : q ≤ l.length) (hn : (n : Int) ≤ m) (hn2 : n < 18446744073709551616) :
    rdI l m ⟨q,0,0⟩ = ((n : Int),⟨((q + (putN n).length : Nat) : Int),0,0⟩) ∧ l.drop (q + (putN n).length) = rest ∧ q + (putN n).length ≤ l.length:=by
  refine ⟨?_,?_,?_⟩
  · unfold rdI
    rw [intN_put l q n m rest h hq hn hn2]
    simp
  · rw [← List.drop_drop,h,List.drop_left' rfl]
  · have:=congrArg List.length h
    simp only [List.length_drop,List.length_append] at this
    omega
theorem rdI_only (l : List UInt8) (m : Int) (r r' : Rs) (n : Int) (h : rdI l m r = (n,r')) (he : r'.err = 0) :
    r.err = 0 ∧ r'.fat = r.fat ∧ ∃ k j : Nat,n = (k : Int) ∧ r.pos = (j : Int) ∧ r'.pos = ((j + (putN k).length : Nat) : Int) ∧ j + (putN k).length ≤ l.length ∧ n ≤ m ∧ l.drop j = putN k ++ l.drop (j + (putN k).length):=by
  unfold rdI at h
  split at h
  · rename_i h0
    simp only [Prod.mk.injEq] at h
    obtain ⟨_,rfl⟩:=h
    exact absurd he h0
  · rename_i h0
    simp only [Prod.mk.injEq] at h
    obtain ⟨rfl,rfl⟩:=h
    simp only at he
    have h0' : r.err = 0:=by simpa using h0
    refine ⟨h0',by simp [he],intN_only l r.pos m _ _ ?_⟩
    rw [← he]
theorem rdI_fault (l : List UInt8) (m : Int) (r : Rs) (h : r.err ≠ 0) : rdI l m r = (0,r):=by unfold rdI;rw [if_pos h]
theorem textN_put (l : List UInt8) (q : Nat) (da rest : List UInt8) (h : l.drop q = putTextN da ++ rest) (hq : q ≤ l.length) (hd : da.length ≤ 1000) :
    getTextN l q 1000 = (da,((q + (putN da.length).length + da.length : Nat) : Int),0) ∧ l.drop (q + (putN da.length).length + da.length) = rest ∧ q + (putN da.length).length + da.length ≤ l.length:=by
  have h1 : l.drop q = putN da.length ++ (da ++ rest):=by rw [h];simp [putTextN]
  have h2:=intN_put l q da.length 1000 (da ++ rest) h1 hq (by omega) (by omega)
  have h3 : l.drop (q + (putN da.length).length) = da ++ rest:=by rw [← List.drop_drop,h1,List.drop_left' rfl]
  have h4:=congrArg List.length h1
  simp only [List.length_drop,List.length_append] at h4
  refine ⟨?_,?_,by omega⟩
  · unfold getTextN
    rw [h2]
    simp only [ne_eq,not_true_eq_false,if_false]
    rw [if_neg (by omega),show (((q + (putN da.length).length : Nat) : Int)).toNat = q + (putN da.length).length by omega,h3,show ((da.length : Int)).toNat = da.length by omega,List.take_left' rfl]
    push_cast
    rfl
  · rw [← List.drop_drop,h3,List.drop_left' rfl]
theorem four_len (x : Nat) : (four x).length = 4:=rfl
theorem encL_cons (no sq of de pr bo li to : Nat) (da rest : List UInt8) :
    encL no sq of de pr bo li to da ++ rest = UInt8.ofNat (176 + pr + if wholeB of to da.length then 4 else 0) :: (putN no ++ (putN sq ++ (putN de ++ (putN bo ++ (putN li ++ ((if wholeB of to da.length then [] else putN of ++ putN to) ++ (putTextN da ++ (four (crcN (frontL no sq of de pr bo li to (wholeB of to da.length) ++ putTextN da)) ++ rest)))))))):=by
  simp [encL,sealL,frontL]
theorem bodyL_eq (no sq of de pr bo li to : Nat) (da : List UInt8) : encL no sq of de pr bo li to da = (frontL no sq of de pr bo li to (wholeB of to da.length) ++ putTextN da) ++ four (crcN (frontL no sq of de pr bo li to (wholeB of to da.length) ++ putTextN da)):=rfl
theorem startR_enc (pr : Nat) (wh : Bool) (r : List UInt8) (hp : pr ≤ 2) : startR (UInt8.ofNat (176 + pr + if wh then 4 else 0) :: r) = ((pr : Int),wh,⟨1,0,0⟩):=by
  have h1 : (UInt8.ofNat (176 + pr + if wh then 4 else 0)).toNat = 176 + pr + if wh then 4 else 0:=by rw [UInt8.toNat_ofNat'];cases wh <;> simp <;> omega
  rw [startR,h1]
  cases wh
  · simp only [Bool.false_eq_true,if_false,Nat.add_zero]
    rw [if_pos (by unfold hdB;simp;omega),show (176 + pr - 176) % 4 = pr by omega,show decide (180 ≤ 176 + pr) = false by simp;omega]
  · simp only [if_true]
    rw [if_pos (by unfold hdB;simp;omega),show (176 + pr + 4 - 176) % 4 = pr by omega,show decide (180 ≤ 176 + pr + 4) = true by simp]
theorem fieldsR_put (l : List UInt8) (no sq of de bo li to : Nat) (wh : Bool) (rest : List UInt8) (hl : 1 ≤ l.length)
    (h : l.drop 1 = putN no ++ (putN sq ++ (putN de ++ (putN bo ++ (putN li ++ ((if wh then [] else putN of ++ putN to) ++ rest))))))
    (h1 : no ≤ 16) (h2 : sq ≤ 1099511627776) (h3 : de ≤ 16) (h4 : bo ≤ 1099511627776) (h5 : li ≤ 1048576) (h6 : of ≤ 20000) (h7 : to ≤ 20000) :
    ∃ q : Nat,fieldsR l wh ⟨1,0,0⟩ = ⟨no,sq,if wh then 0 else of,de,bo,li,if wh then 0 else to,⟨q,0,0⟩⟩ ∧ l.drop q = rest ∧ q ≤ l.length:=by
  obtain ⟨a1,b1,c1⟩:=rdI_put l 1 no 16 _ h hl (by omega) (by omega)
  obtain ⟨a2,b2,c2⟩:=rdI_put l _ sq 1099511627776 _ b1 c1 (by omega) (by omega)
  obtain ⟨a3,b3,c3⟩:=rdI_put l _ de 16 _ b2 c2 (by omega) (by omega)
  obtain ⟨a4,b4,c4⟩:=rdI_put l _ bo 1099511627776 _ b3 c3 (by omega) (by omega)
  obtain ⟨a5,b5,c5⟩:=rdI_put l _ li 1048576 _ b4 c4 (by omega) (by omega)
  rw [show ((1 : Nat) : Int) = 1 from rfl] at a1
  cases wh
  · simp only [Bool.false_eq_true,if_false,List.append_assoc] at b5 ⊢
    obtain ⟨a6,b6,c6⟩:=rdI_put l _ of 20000 _ b5 c5 (by omega) (by omega)
    obtain ⟨a7,b7,c7⟩:=rdI_put l _ to 20000 _ b6 c6 (by omega) (by omega)
    refine ⟨_,?_,b7,c7⟩
    unfold fieldsR
    simp only [a1,a2,a3,a4,a5,Bool.false_eq_true,if_false,a6,a7]
  · simp only [if_true,List.nil_append] at b5 ⊢
    refine ⟨_,?_,b5,c5⟩
    unfold fieldsR
    simp only [a1,a2,a3,a4,a5,if_true]
theorem buC_nat {no sq of de pr bo li to n : Nat} (h : buC no sq of de pr bo li to n = 0) : 1 ≤ no ∧ no ≤ 16 ∧ sq ≤ 1099511627776 ∧ of ≤ 19999 ∧ 1 ≤ de ∧ de ≤ 16 ∧ pr ≤ 2 ∧ bo ≤ 1099511627776 ∧ 1 ≤ li ∧ li ≤ 1048576 ∧ 1 ≤ to ∧ to ≤ 20000 ∧ 1 ≤ n ∧ n ≤ 1000 ∧ of + n ≤ to:=by
  obtain ⟨⟨a1,a2,a3,a4,a5⟩,⟨b1,b2,b3,b4,b5,b6,b7,b8,b9,b10⟩,c1,c2,c3⟩:=buC_ok h
  omega
theorem decL_enc (no sq of de pr bo li to : Nat) (da rest : List UInt8) (hv : buC no sq of de pr bo li to da.length = 0) :
    decL (encL no sq of de pr bo li to da ++ rest) = if rest = [] then ⟨no,sq,of,de,pr,bo,li,to,da,0,0⟩ else .bad 4 (encL no sq of de pr bo li to da).length:=by
  obtain ⟨v1,v2,v3,v4,v5,v6,v7,v8,v9,v10,v11,v12,v13,v14,v15⟩:=buC_nat hv
  have hc:=encL_cons no sq of de pr bo li to da rest
  obtain ⟨wh,hwh⟩ : ∃ wh,wholeB of to da.length = wh:=⟨_,rfl⟩
  have hb:=bodyL_eq no sq of de pr bo li to da
  rw [hwh] at hc hb
  obtain ⟨body,hbody⟩ : ∃ body,frontL no sq of de pr bo li to wh ++ putTextN da = body:=⟨_,rfl⟩
  rw [hbody] at hc hb
  obtain ⟨E,hE⟩ : ∃ E,encL no sq of de pr bo li to da = E:=⟨_,rfl⟩
  rw [hE] at hc hb ⊢
  obtain ⟨l,hl⟩ : ∃ l,E ++ rest = l:=⟨_,rfl⟩
  rw [hl] at hc ⊢
  have hst : startR l = ((pr : Int),wh,⟨1,0,0⟩):=by rw [hc];exact startR_enc pr wh _ v7
  obtain ⟨q,hf,hd,hq⟩:=fieldsR_put l no sq of de bo li to wh (putTextN da ++ (four (crcN body) ++ rest)) (by rw [hc];simp) (by rw [hc];simp) (by omega) (by omega) (by omega) (by omega) (by omega) (by omega) (by omega)
  obtain ⟨ht,hd2,hq2⟩:=textN_put l q da (four (crcN body) ++ rest) hd hq v14
  obtain ⟨nx,hnx⟩ : ∃ nx,q + (putN da.length).length + da.length = nx:=⟨_,rfl⟩
  rw [hnx] at ht hd2 hq2
  have hlen:=congrArg List.length hd2
  simp only [List.length_drop,List.length_append,four_len] at hlen
  have hElen : E.length = body.length + 4:=by rw [hb];simp [four_len]
  have hllen : l.length = E.length + rest.length:=by rw [← hl];simp
  have hnb : nx = body.length:=by omega
  have htk : l.take nx = body:=by rw [← hl,hb,List.append_assoc,hnb,List.take_left' rfl]
  unfold decL
  rw [hst]
  simp only
  rw [hf]
  unfold decF
  simp only [ne_eq,not_true_eq_false,if_false]
  rw [ht]
  unfold decT
  simp only [ne_eq,not_true_eq_false,if_false]
  have hof : (if wh = true then (0 : Int) else (of : Int)) = of:=by
    cases wh
    · rfl
    · have : of = 0 ∧ (to : Int) = da.length:=by simpa [wholeB] using hwh
      simp [this.1]
  have hto : (if wh = true then (da.length : Int) else if wh = true then (0 : Int) else (to : Int)) = to:=by
    cases wh
    · rfl
    · have : of = 0 ∧ (to : Int) = da.length:=by simpa [wholeB] using hwh
      simp [this.2]
  rw [hof,hto,hwh]
  rw [if_neg (by omega),show ((nx : Int)).toNat = nx by omega,htk,hd2,List.take_left' (four_len _)]
  rw [if_neg (by simp)]
  by_cases hr : rest = []
  · subst hr
    rw [if_neg (by simp at hllen;omega),if_neg (by rw [hv];simp),if_neg (by cases wh <;> simp),if_pos rfl]
  · have : rest.length ≠ 0:=by simpa using hr
    rw [if_pos (by omega),if_neg hr]
    congr 1
    omega
theorem fieldsR_ok (l : List UInt8) (fu : Bool) (r0 : Rs) (h : (fieldsR l fu r0).r.err = 0) :
    r0.err = 0 ∧ ∃ j no sq of de bo li to q : Nat,r0.pos = (j : Int) ∧ (fieldsR l fu r0).r.pos = (q : Int) ∧ q ≤ l.length ∧ (fieldsR l fu r0).no = (no : Int) ∧ (fieldsR l fu r0).sq = (sq : Int) ∧ (fieldsR l fu r0).of = (of : Int) ∧ (fieldsR l fu r0).de = (de : Int) ∧ (fieldsR l fu r0).bo = (bo : Int) ∧ (fieldsR l fu r0).li = (li : Int) ∧ (fieldsR l fu r0).to = (to : Int) ∧
      (fu = true → of = 0) ∧ l.drop j = (putN no ++ putN sq ++ putN de ++ putN bo ++ putN li ++ if fu then [] else putN of ++ putN to) ++ l.drop q:=by
  unfold fieldsR at h ⊢
  simp only at h ⊢
  obtain ⟨⟨n1,r1⟩,e1⟩ : ∃ x,rdI l 16 r0 = x:=⟨_,rfl⟩
  rw [e1] at h ⊢
  simp only at h ⊢
  obtain ⟨⟨n2,r2⟩,e2⟩ : ∃ x,rdI l 1099511627776 r1 = x:=⟨_,rfl⟩
  rw [e2] at h ⊢
  simp only at h ⊢
  obtain ⟨⟨n3,r3⟩,e3⟩ : ∃ x,rdI l 16 r2 = x:=⟨_,rfl⟩
  rw [e3] at h ⊢
  simp only at h ⊢
  obtain ⟨⟨n4,r4⟩,e4⟩ : ∃ x,rdI l 1099511627776 r3 = x:=⟨_,rfl⟩
  rw [e4] at h ⊢
  simp only at h ⊢
  obtain ⟨⟨n5,r5⟩,e5⟩ : ∃ x,rdI l 1048576 r4 = x:=⟨_,rfl⟩
  rw [e5] at h ⊢
  simp only at h ⊢
  cases fu
  · simp only [Bool.false_eq_true,if_false] at h ⊢
    obtain ⟨⟨n6,r6⟩,e6⟩ : ∃ x,rdI l 20000 r5 = x:=⟨_,rfl⟩
    rw [e6] at h ⊢
    simp only at h ⊢
    obtain ⟨⟨n7,r7⟩,e7⟩ : ∃ x,rdI l 20000 r6 = x:=⟨_,rfl⟩
    rw [e7] at h ⊢
    simp only at h ⊢
    obtain ⟨g6,_,k7,j7,rfl,p7,q7,l7,m7,d7⟩:=rdI_only _ _ _ _ _ e7 h
    obtain ⟨g5,_,k6,j6,rfl,p6,q6,l6,m6,d6⟩:=rdI_only _ _ _ _ _ e6 g6
    obtain ⟨g4,_,k5,j5,rfl,p5,q5,l5,m5,d5⟩:=rdI_only _ _ _ _ _ e5 g5
    obtain ⟨g3,_,k4,j4,rfl,p4,q4,l4,m4,d4⟩:=rdI_only _ _ _ _ _ e4 g4
    obtain ⟨g2,_,k3,j3,rfl,p3,q3,l3,m3,d3⟩:=rdI_only _ _ _ _ _ e3 g3
    obtain ⟨g1,_,k2,j2,rfl,p2,q2,l2,m2,d2⟩:=rdI_only _ _ _ _ _ e2 g2
    obtain ⟨g0,_,k1,j1,rfl,p1,q1,l1,m1,d1⟩:=rdI_only _ _ _ _ _ e1 g1
    obtain rfl : j2 = j1 + (putN k1).length:=by rw [q1] at p2;omega
    obtain rfl : j3 = j1 + (putN k1).length + (putN k2).length:=by rw [q2] at p3;omega
    obtain rfl : j4 = j1 + (putN k1).length + (putN k2).length + (putN k3).length:=by rw [q3] at p4;omega
    obtain rfl : j5 = j1 + (putN k1).length + (putN k2).length + (putN k3).length + (putN k4).length:=by rw [q4] at p5;omega
    obtain rfl : j6 = j1 + (putN k1).length + (putN k2).length + (putN k3).length + (putN k4).length + (putN k5).length:=by rw [q5] at p6;omega
    obtain rfl : j7 = j1 + (putN k1).length + (putN k2).length + (putN k3).length + (putN k4).length + (putN k5).length + (putN k6).length:=by rw [q6] at p7;omega
    refine ⟨g0,j1,k1,k2,k6,k3,k4,k5,k7,_,p1,q7,l7,rfl,rfl,rfl,rfl,rfl,rfl,rfl,by simp,?_⟩
    rw [d1,d2,d3,d4,d5,d6,d7]
    simp only [List.append_assoc]
  · simp only [if_true] at h ⊢
    obtain ⟨g4,_,k5,j5,rfl,p5,q5,l5,m5,d5⟩:=rdI_only _ _ _ _ _ e5 h
    obtain ⟨g3,_,k4,j4,rfl,p4,q4,l4,m4,d4⟩:=rdI_only _ _ _ _ _ e4 g4
    obtain ⟨g2,_,k3,j3,rfl,p3,q3,l3,m3,d3⟩:=rdI_only _ _ _ _ _ e3 g3
    obtain ⟨g1,_,k2,j2,rfl,p2,q2,l2,m2,d2⟩:=rdI_only _ _ _ _ _ e2 g2
    obtain ⟨g0,_,k1,j1,rfl,p1,q1,l1,m1,d1⟩:=rdI_only _ _ _ _ _ e1 g1
    obtain rfl : j2 = j1 + (putN k1).length:=by rw [q1] at p2;omega
    obtain rfl : j3 = j1 + (putN k1).length + (putN k2).length:=by rw [q2] at p3;omega
    obtain rfl : j4 = j1 + (putN k1).length + (putN k2).length + (putN k3).length:=by rw [q3] at p4;omega
    obtain rfl : j5 = j1 + (putN k1).length + (putN k2).length + (putN k3).length + (putN k4).length:=by rw [q4] at p5;omega
    refine ⟨g0,j1,k1,k2,0,k3,k4,k5,0,_,p1,q5,l5,rfl,rfl,rfl,rfl,rfl,rfl,rfl,by simp,?_⟩
    rw [d1,d2,d3,d4,d5]
    simp only [List.append_assoc,List.nil_append,List.append_nil]
theorem textN_only (l : List UInt8) (q : Nat) (d : List UInt8) (nx : Int) (h : getTextN l q 1000 = (d,nx,0)) :
    ∃ p : Nat,nx = (p : Int) ∧ p ≤ l.length ∧ l.drop q = putTextN d ++ l.drop p:=by
  unfold getTextN at h
  split at h
  · rename_i he
    simp only [Prod.mk.injEq] at h
    exact absurd h.2.2 he
  · rename_i he
    have he' : (intN l q 1000).2.2 = 0:=by simpa using he
    split at h
    · simp at h
    · rename_i hn
      simp only [Prod.mk.injEq,and_true] at h
      obtain ⟨k,j,e1,e2,e3,e4,e5,e6⟩:=intN_only l q 1000 (intN l q 1000).1 (intN l q 1000).2.1 (by rw [← he'])
      obtain rfl : q = j:=by omega
      rw [e1,e3] at h hn
      obtain ⟨rfl,rfl⟩:=h
      rw [show ((q + (putN k).length : Nat) : Int).toNat = q + (putN k).length by omega,show ((k : Int)).toNat = k by omega]
      have hdl : ((l.drop (q + (putN k).length)).take k).length = k:=by rw [List.length_take,List.length_drop];omega
      refine ⟨q + (putN k).length + k,by push_cast;rfl,by omega,?_⟩
      unfold putTextN
      rw [hdl,e6,List.append_assoc,← List.drop_drop (i:=k),List.take_append_drop]
theorem xor_cancel {a b c : Nat} (h : a ^^^ b = a ^^^ c) : b = c:=by
  have:=congrArg (fun z => a ^^^ z) h
  simpa [← Nat.xor_assoc] using this
theorem xor_cancel' {a b c : Nat} (h : b ^^^ a = c ^^^ a) : b = c:=by
  rw [Nat.xor_comm b,Nat.xor_comm c] at h;exact xor_cancel h
def frLen (no sq of de pr bo li to : Nat) (wh : Bool) : Nat:=(frontL no sq of de pr bo li to wh).length
def szN (F n : Nat) : Nat:=F + (putN n).length + n + 4
theorem encL_len (no sq of de pr bo li to : Nat) (da : List UInt8) : (encL no sq of de pr bo li to da).length = szN (frLen no sq of de pr bo li to (wholeB of to da.length)) da.length:=by
  unfold encL sealL szN frLen putTextN
  simp [four_len];omega
theorem frLen_le (no sq of de pr bo li to : Nat) (wh : Bool) : 6 ≤ frLen no sq of de pr bo li to wh ∧ frLen no sq of de pr bo li to wh ≤ 78:=by
  unfold frLen frontL
  have a1:=putN_length no
  have a2:=putN_length sq
  have a3:=putN_length of
  have a4:=putN_length de
  have a5:=putN_length bo
  have a6:=putN_length li
  have a7:=putN_length to
  cases wh <;> simp <;> omega
end Go.Proofs.YtaiofjffoboicaaDoor
namespace Go.Proofs.YtaiofjffoboicaaDoor
open Go.RowKit
def PtrRow (w : World) (b : Nat) (ns : List Nat) : Prop :=
  b < w.heap.size ∧ ∀ k (hk : k < ns.length),∃ g o,g < w.heap.size ∧ w.cell? ⟨b,k,none⟩ = some (.pointer (some ⟨g,o,none⟩)) ∧ w.cell? ⟨g,o,none⟩ = some (.int .i64 (ns[k] : Nat))
theorem PtrRow.below {w w' : World} {b : Nat} {ns : List Nat} (h : PtrRow w b ns) (hb : Below w.heap.size w w') : PtrRow w' b ns:=by
  refine ⟨Nat.lt_of_lt_of_le h.1 hb.size,fun k hk => ?_⟩
  obtain ⟨g,o,h1,h2,h3⟩:=h.2 k hk
  have e : ∀ x y,x < w.heap.size → w'.cell? ⟨x,y,none⟩ = w.cell? ⟨x,y,none⟩:=fun x y hx => by
    simp only [World.cell?,hb.block x hx]
  exact ⟨g,o,Nat.lt_of_lt_of_le h1 hb.size,by rw [e _ _ h.1];exact h2,by rw [e _ _ h1];exact h3⟩
def putAll (ns : List Nat) : List UInt8:=ns.flatMap putN
theorem putAll_len (ns : List Nat) : (putAll ns).length ≤ 11 * ns.length:=by
  induction ns with
  | nil => simp [putAll]
  | cons n ns ih => have:=(putN_length n).2;simp [putAll] at *;omega
theorem putAll_take (ns : List Nat) (k : Nat) (hk : k < ns.length) : putAll (ns.take (k + 1)) = putAll (ns.take k) ++ putN ns[k]:=by
  unfold putAll
  rw [List.take_succ_eq_append_getElem hk,List.flatMap_append]
  simp only [List.flatMap_cons,List.flatMap_nil,List.append_nil]
set_option maxRecDepth 100000 in
theorem numbers_any (b : Nat) (ns : List Nat) (hn : ns.length ≤ 100) (hbd : ∀ n ∈ ns,n < 9223372036854775808) (w : World) (hp : PtrRow w b ns) :
    Calls Tryd.prog 113 #[.slice (some ⟨b,0,none⟩) ns.length ns.length] w fun e w' => e = .returned (bstr (putAll ns)) ∧ Below w.heap.size w w':=by
  have HP:=Lib.hid hp;clear hp
  have HB:=Lib.hid hbd;clear hbd
  go_enter Tryd.func113,Tryd.ntmps113
  go_wp2
  go_loopw [3,8] (fun s ii wr => ∃ k : Nat,ii = .int .i64 k ∧ k ≤ ns.length ∧ s = bstr (putAll (ns.take k)) ∧ Below w.heap.size w wr) (fun _ ii _ => ns.length - (intOf ii).toNat)
  case atStart => exact ⟨0,rfl,by omega,rfl,Below.refl _ _⟩
  case round =>
    obtain ⟨k,rfl,hk,rfl,hb⟩:=hrel
    by_cases h : k < ns.length
    · obtain ⟨g,o,h1,h2,h3⟩:=(HP.out.below hb).2 k h
      have hx:=HB.out _ (List.getElem_mem h)
      have hl:=putAll_len (ns.take k)
      have hs:=putAll_take ns k h
      have hl2 : (putAll (ns.take k)).length ≤ 1100:=by rw [List.length_take] at hl;omega
      obtain ⟨x,hx'⟩ : ∃ x,ns[k] = x:=⟨_,rfl⟩
      rw [hx'] at h3 hx hs
      have hcv : IntKind.u64.wrap (x : Int) = (x : Int):=IntWalk.u64_in _ (by omega)
      obtain ⟨p,hp⟩ : ∃ p : ByteArray,p = ⟨(putN x).toArray⟩:=⟨_,rfl⟩
      obtain ⟨q,hq⟩ : ∃ q : ByteArray,q = ⟨(putAll (ns.take k)).toArray⟩:=⟨_,rfl⟩
      have cp : ∀ w,Calls Tryd.prog 66 #[.int .u64 x] w fun e w' => e = .returned (.string p) ∧ Below w.heap.size w w':=fun w => by rw [hp];exact numPut_any x (by omega) w
      have hps : p.size ≤ 11:=by rw [hp,bsize];exact (putN_length _).2
      have hqs : q.size ≤ 1100:=by rw [hq,bsize];exact hl2
      have fin : Value.string (q ++ p) = bstr (putAll (ns.take (k + 1))):=vstr (by rw [hp,hq,hs];simp)
      have Fin:=Lib.hid fin;clear fin hs hl hl2
      rw [show bstr (putAll (ns.take k)) = .string q by rw [hq];rfl]
      clear hp hq hx'
      have Cp:=Lib.hid cp;clear cp
      go_wp2_with (go_at_call 66;(with_reducible refine (Cp.out _).mono ?_);rintro e wb ⟨rfl,hb2⟩)
      go_roundw
      case rel => exact ⟨k + 1,by go_num,by omega,Fin.out,bt hb hb2⟩
      case measure => simp [intOf];omega
    · obtain rfl : k = ns.length:=by omega
      rw [List.take_of_length_le (by omega)]
      go_wp2
      go_ret
      exact ⟨rfl,hb⟩
end Go.Proofs.YtaiofjffoboicaaDoor
namespace Go.Proofs.YtaiofjffoboicaaDoor
open Go.RowKit
set_option maxRecDepth 100000 in
set_option maxHeartbeats 800000 in
theorem whole_any (no sq of de pr bo li to : Int) (da : ByteArray) (hda : da.size ≤ maxLen) (w : World) :
    Calls Tryd.prog 86 #[buv no sq of de pr bo li to da] w fun e w' => e = .returned (.bool (wholeB of to da.size)) ∧ Below w.heap.size w w':=by
  unfold maxLen at hda
  unfold wholeB
  by_cases h1 : of = 0
  · subst h1
    by_cases h2 : to = (da.size : Int)
    · rw [show decide ((0 : Int) = 0 ∧ to = (da.size : Int)) = true by simp [h2]]
      subst h2
      go_enter Tryd.func86,Tryd.ntmps86
      go_wp2
      go_ret
      exact ⟨rfl,by (repeat(first|(with_reducible first|assumption|exact Below.refl _ _|refine je ?_|refine jl ?_)|((with_reducible refine jp ?_ ?_);first|focus(dsimp only;assumption)|focus(simp;done)|focus(dsimp only;omega))|(with_reducible refine bt ?_ (by assumption))))⟩
    · rw [show decide ((0 : Int) = 0 ∧ to = (da.size : Int)) = false by simp [h2]]
      have e2 : (to == (da.size : Int)) = false:=by simp [h2]
      go_enter Tryd.func86,Tryd.ntmps86
      go_wp2
      go_ret
      exact ⟨rfl,by (repeat(first|(with_reducible first|assumption|exact Below.refl _ _|refine je ?_|refine jl ?_)|((with_reducible refine jp ?_ ?_);first|focus(dsimp only;assumption)|focus(simp;done)|focus(dsimp only;omega))|(with_reducible refine bt ?_ (by assumption))))⟩
  · rw [show decide (of = 0 ∧ to = (da.size : Int)) = false by simp [h1]]
    have e1 : (of == 0) = false:=by simp [h1]
    go_enter Tryd.func86,Tryd.ntmps86
    go_wp2
    go_ret
    exact ⟨rfl,by (repeat(first|(with_reducible first|assumption|exact Below.refl _ _|refine je ?_|refine jl ?_)|((with_reducible refine jp ?_ ?_);first|focus(dsimp only;assumption)|focus(simp;done)|focus(dsimp only;omega))|(with_reducible refine bt ?_ (by assumption))))⟩
theorem numPut_str (n : Nat) (hn : n < 9223372036854775808) : ∃ p : ByteArray,p.data.toList = putN n ∧ p.size ≤ 11 ∧ ∀ w,Calls Tryd.prog 66 #[.int .u64 (n : Int)] w fun e w' => e = .returned (.string p) ∧ Below w.heap.size w w' :=
  ⟨⟨(putN n).toArray⟩,rfl,by rw [bsize];exact (putN_length n).2,fun w => numPut_any n (by omega) w⟩
end Go.Proofs.YtaiofjffoboicaaDoor
