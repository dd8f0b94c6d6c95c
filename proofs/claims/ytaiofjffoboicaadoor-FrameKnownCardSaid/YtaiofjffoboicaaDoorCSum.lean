/- Parts of a proof, printed by a program of mine out of my texts: FrUses, FrSum. -/
import Derived.Test.YtaiofjffoboicaaDoorCA
import Derived.Test.YtaiofjffoboicaaDoorCB
import Derived.Test.YtaiofjffoboicaaDoorCLaw
set_option linter.unusedSimpArgs false
set_option linter.unusedVariables false
namespace Go.Proofs.YtaiofjffoboicaaDoor
open Go.RowKit
def kindB (k : Int) : Bool:=decide (1 ≤ k ∧ k ≤ 7)
def usesV (k : Int) : Value:=.tuple #[.agg #[.bool (kindB k && hasA k),.bool (hasB k),.bool (hasD k),.bool (hasI k)],.bool (kindB k)]
set_option maxRecDepth 100000 in
set_option maxHeartbeats 800000 in
theorem uses_no (k : Int) (h : ¬ (1 ≤ k ∧ k ≤ 7)) (w : World) : Calls Tryd.prog 25 #[.int .i64 k] w fun e w' => e = .returned (.tuple #[.agg #[.bool false,.bool false,.bool false,.bool false],.bool false]) ∧ Below w.heap.size w w':=by
  have e1 : (k == 1) = false:=by simp;omega
  have e2 : (k == 2) = false:=by simp;omega
  have e3 : (k == 3) = false:=by simp;omega
  have e4 : (k == 4) = false:=by simp;omega
  have e5 : (k == 5) = false:=by simp;omega
  have e6 : (k == 6) = false:=by simp;omega
  have e7 : (k == 7) = false:=by simp;omega
  clear h
  go_enter Tryd.func25,Tryd.ntmps25
  go_wp2
  refine ret_blk (b:=w.heap.size) (c:=#[.bool false,.bool false,.bool false,.bool false]) (v:=.tuple #[.agg #[.bool false,.bool false,.bool false,.bool false],.bool false]) (by (apply jt;(focus repeat(first|(with_reducible first|assumption|apply jd|apply js)|((with_reducible apply jo);first|focus(dsimp only;assumption)|focus(simp;done)|focus(dsimp only;omega))|((with_reducible apply jn);first|with_reducible rfl|focus(simp;done)|focus(simp;omega))|(with_reducible apply ja)|((with_reducible apply jb);with_reducible assumption)));rfl)) (fun W' e1 => by simp [results,Tryd.results25,go_sem,e1]) rfl ⟨rfl,by (repeat(first|(with_reducible first|assumption|exact Below.refl _ _|refine je ?_|refine jl ?_)|((with_reducible refine jp ?_ ?_);first|focus(dsimp only;assumption)|focus(simp;done)|focus(dsimp only;omega))|(with_reducible refine bt ?_ (by assumption))))⟩
set_option maxRecDepth 100000 in
set_option maxHeartbeats 1600000 in
theorem uses_any (k : Int) (w : World) : Calls Tryd.prog 25 #[.int .i64 k] w fun e w' => e = .returned (usesV k) ∧ Below w.heap.size w w':=by
  by_cases h : 1 ≤ k ∧ k ≤ 7
  · have h' : k = 1 ∨ k = 2 ∨ k = 3 ∨ k = 4 ∨ k = 5 ∨ k = 6 ∨ k = 7:=by omega
    clear h
    rcases h' with rfl|rfl|rfl|rfl|rfl|rfl|rfl
    · (go_enter Tryd.func25,Tryd.ntmps25;go_wp2)
      refine ret_blk (b:=w.heap.size) (c:=#[.bool false,.bool false,.bool false,.bool false]) (v:=usesV 1) (by (apply jt;(focus repeat(first|(with_reducible first|assumption|apply jd|apply js)|((with_reducible apply jo);first|focus(dsimp only;assumption)|focus(simp;done)|focus(dsimp only;omega))|((with_reducible apply jn);first|with_reducible rfl|focus(simp;done)|focus(simp;omega))|(with_reducible apply ja)|((with_reducible apply jb);with_reducible assumption)));rfl)) (fun W' e1 => by simp [results,Tryd.results25,go_sem,e1,usesV,kindB,hasA,hasB,hasD,hasI]) rfl ⟨rfl,by (repeat(first|(with_reducible first|assumption|exact Below.refl _ _|refine je ?_|refine jl ?_)|((with_reducible refine jp ?_ ?_);first|focus(dsimp only;assumption)|focus(simp;done)|focus(dsimp only;omega))|(with_reducible refine bt ?_ (by assumption))))⟩
    · (go_enter Tryd.func25,Tryd.ntmps25;go_wp2)
      refine ret_blk (b:=w.heap.size) (c:=#[.bool true,.bool false,.bool false,.bool false]) (v:=usesV 2) (by (apply jt;(focus repeat(first|(with_reducible first|assumption|apply jd|apply js)|((with_reducible apply jo);first|focus(dsimp only;assumption)|focus(simp;done)|focus(dsimp only;omega))|((with_reducible apply jn);first|with_reducible rfl|focus(simp;done)|focus(simp;omega))|(with_reducible apply ja)|((with_reducible apply jb);with_reducible assumption)));rfl)) (fun W' e1 => by simp [results,Tryd.results25,go_sem,e1,usesV,kindB,hasA,hasB,hasD,hasI]) rfl ⟨rfl,by (repeat(first|(with_reducible first|assumption|exact Below.refl _ _|refine je ?_|refine jl ?_)|((with_reducible refine jp ?_ ?_);first|focus(dsimp only;assumption)|focus(simp;done)|focus(dsimp only;omega))|(with_reducible refine bt ?_ (by assumption))))⟩
    · (go_enter Tryd.func25,Tryd.ntmps25;go_wp2)
      refine ret_blk (b:=w.heap.size) (c:=#[.bool true,.bool true,.bool true,.bool false]) (v:=usesV 3) (by (apply jt;(focus repeat(first|(with_reducible first|assumption|apply jd|apply js)|((with_reducible apply jo);first|focus(dsimp only;assumption)|focus(simp;done)|focus(dsimp only;omega))|((with_reducible apply jn);first|with_reducible rfl|focus(simp;done)|focus(simp;omega))|(with_reducible apply ja)|((with_reducible apply jb);with_reducible assumption)));rfl)) (fun W' e1 => by simp [results,Tryd.results25,go_sem,e1,usesV,kindB,hasA,hasB,hasD,hasI]) rfl ⟨rfl,by (repeat(first|(with_reducible first|assumption|exact Below.refl _ _|refine je ?_|refine jl ?_)|((with_reducible refine jp ?_ ?_);first|focus(dsimp only;assumption)|focus(simp;done)|focus(dsimp only;omega))|(with_reducible refine bt ?_ (by assumption))))⟩
    · (go_enter Tryd.func25,Tryd.ntmps25;go_wp2)
      refine ret_blk (b:=w.heap.size) (c:=#[.bool true,.bool true,.bool false,.bool false]) (v:=usesV 4) (by (apply jt;(focus repeat(first|(with_reducible first|assumption|apply jd|apply js)|((with_reducible apply jo);first|focus(dsimp only;assumption)|focus(simp;done)|focus(dsimp only;omega))|((with_reducible apply jn);first|with_reducible rfl|focus(simp;done)|focus(simp;omega))|(with_reducible apply ja)|((with_reducible apply jb);with_reducible assumption)));rfl)) (fun W' e1 => by simp [results,Tryd.results25,go_sem,e1,usesV,kindB,hasA,hasB,hasD,hasI]) rfl ⟨rfl,by (repeat(first|(with_reducible first|assumption|exact Below.refl _ _|refine je ?_|refine jl ?_)|((with_reducible refine jp ?_ ?_);first|focus(dsimp only;assumption)|focus(simp;done)|focus(dsimp only;omega))|(with_reducible refine bt ?_ (by assumption))))⟩
    · (go_enter Tryd.func25,Tryd.ntmps25;go_wp2)
      refine ret_blk (b:=w.heap.size) (c:=#[.bool true,.bool false,.bool false,.bool true]) (v:=usesV 5) (by (apply jt;(focus repeat(first|(with_reducible first|assumption|apply jd|apply js)|((with_reducible apply jo);first|focus(dsimp only;assumption)|focus(simp;done)|focus(dsimp only;omega))|((with_reducible apply jn);first|with_reducible rfl|focus(simp;done)|focus(simp;omega))|(with_reducible apply ja)|((with_reducible apply jb);with_reducible assumption)));rfl)) (fun W' e1 => by simp [results,Tryd.results25,go_sem,e1,usesV,kindB,hasA,hasB,hasD,hasI]) rfl ⟨rfl,by (repeat(first|(with_reducible first|assumption|exact Below.refl _ _|refine je ?_|refine jl ?_)|((with_reducible refine jp ?_ ?_);first|focus(dsimp only;assumption)|focus(simp;done)|focus(dsimp only;omega))|(with_reducible refine bt ?_ (by assumption))))⟩
    · (go_enter Tryd.func25,Tryd.ntmps25;go_wp2)
      refine ret_blk (b:=w.heap.size) (c:=#[.bool true,.bool true,.bool false,.bool true]) (v:=usesV 6) (by (apply jt;(focus repeat(first|(with_reducible first|assumption|apply jd|apply js)|((with_reducible apply jo);first|focus(dsimp only;assumption)|focus(simp;done)|focus(dsimp only;omega))|((with_reducible apply jn);first|with_reducible rfl|focus(simp;done)|focus(simp;omega))|(with_reducible apply ja)|((with_reducible apply jb);with_reducible assumption)));rfl)) (fun W' e1 => by simp [results,Tryd.results25,go_sem,e1,usesV,kindB,hasA,hasB,hasD,hasI]) rfl ⟨rfl,by (repeat(first|(with_reducible first|assumption|exact Below.refl _ _|refine je ?_|refine jl ?_)|((with_reducible refine jp ?_ ?_);first|focus(dsimp only;assumption)|focus(simp;done)|focus(dsimp only;omega))|(with_reducible refine bt ?_ (by assumption))))⟩
    · (go_enter Tryd.func25,Tryd.ntmps25;go_wp2)
      refine ret_blk (b:=w.heap.size) (c:=#[.bool true,.bool false,.bool false,.bool false]) (v:=usesV 7) (by (apply jt;(focus repeat(first|(with_reducible first|assumption|apply jd|apply js)|((with_reducible apply jo);first|focus(dsimp only;assumption)|focus(simp;done)|focus(dsimp only;omega))|((with_reducible apply jn);first|with_reducible rfl|focus(simp;done)|focus(simp;omega))|(with_reducible apply ja)|((with_reducible apply jb);with_reducible assumption)));rfl)) (fun W' e1 => by simp [results,Tryd.results25,go_sem,e1,usesV,kindB,hasA,hasB,hasD,hasI]) rfl ⟨rfl,by (repeat(first|(with_reducible first|assumption|exact Below.refl _ _|refine je ?_|refine jl ?_)|((with_reducible refine jp ?_ ?_);first|focus(dsimp only;assumption)|focus(simp;done)|focus(dsimp only;omega))|(with_reducible refine bt ?_ (by assumption))))⟩
  · have:=uses_no k h w
    rwa [show usesV k = .tuple #[.agg #[.bool false,.bool false,.bool false,.bool false],.bool false] by
      have h1 : kindB k = false:=by unfold kindB;simpa using h
      have h2 : hasB k = false:=by unfold hasB;simp;omega
      have h3 : hasD k = false:=by unfold hasD;simp;omega
      have h4 : hasI k = false:=by unfold hasI;simp;omega
      unfold usesV;rw [h1,h2,h3,h4];rfl]
def limV (f : Fr) : Value:=.tuple #[.int .u64 (if f.k = 6 then 1 else 0),.int .u64 (if f.k = 3 then f.a else if f.k = 6 then 3 else 1125899906842624)]
set_option maxRecDepth 100000 in
set_option maxHeartbeats 1600000 in
theorem limits_any (f : Fr) (w : World) : Calls Tryd.prog 40 #[frv f] w fun e w' => e = .returned (limV f) ∧ Below w.heap.size w w':=by
  unfold limV
  by_cases h3 : f.k = 3
  · have e1 : (f.k == 3) = true:=by simp [h3]
    rw [if_neg (by omega),if_pos h3]
    clear h3
    go_enter Tryd.func40,Tryd.ntmps40
    go_wp2
    go_region
    go_wp2
    go_ret2
    exact ⟨rfl,by (repeat(first|(with_reducible first|assumption|exact Below.refl _ _|refine je ?_|refine jl ?_)|((with_reducible refine jp ?_ ?_);first|focus(dsimp only;assumption)|focus(simp;done)|focus(dsimp only;omega))|(with_reducible refine bt ?_ (by assumption))))⟩
  · have e1 : (f.k == 3) = false:=by simp [h3]
    rw [if_neg h3]
    clear h3
    by_cases h6 : f.k = 6
    · have e2 : (f.k == 6) = true:=by simp [h6]
      rw [if_pos h6,if_pos h6]
      clear h6
      go_enter Tryd.func40,Tryd.ntmps40
      go_wp2
      go_ret2
      exact ⟨rfl,by (repeat(first|(with_reducible first|assumption|exact Below.refl _ _|refine je ?_|refine jl ?_)|((with_reducible refine jp ?_ ?_);first|focus(dsimp only;assumption)|focus(simp;done)|focus(dsimp only;omega))|(with_reducible refine bt ?_ (by assumption))))⟩
    · have e2 : (f.k == 6) = false:=by simp [h6]
      rw [if_neg h6,if_neg h6]
      clear h6
      go_enter Tryd.func40,Tryd.ntmps40
      go_wp2
      go_ret2
      exact ⟨rfl,by (repeat(first|(with_reducible first|assumption|exact Below.refl _ _|refine je ?_|refine jl ?_)|((with_reducible refine jp ?_ ?_);first|focus(dsimp only;assumption)|focus(simp;done)|focus(dsimp only;omega))|(with_reducible refine bt ?_ (by assumption))))⟩
end Go.Proofs.YtaiofjffoboicaaDoor
namespace Go.Proofs.YtaiofjffoboicaaDoor
open Go.RowKit
set_option maxRecDepth 100000 in
set_option maxHeartbeats 800000 in
theorem byte16_any (r b : Nat) (hr : r < 65536) (hb : b < 256) (w : World) :
    Calls Tryd.prog 79 #[.int .u16 (r : Int),.int .u8 (b : Int)] w fun e w' => e = .returned (.int .u16 (byteS r b : Nat)) ∧ w = w':=by
  unfold byteS
  have e1:=u16_xor_nat r (b * 256) hr (by omega)
  have hx : r ^^^ b * 256 < 65536:=Nat.xor_lt_two_pow (n:=16) (by omega) (by omega)
  obtain ⟨x,hxx⟩ : ∃ x,r ^^^ b * 256 = x:=⟨_,rfl⟩
  rw [hxx] at e1 hx ⊢
  push_cast at e1
  have e0 : IntKind.u16.wrap (b : Int) = b:=by rw [IntKind.wrap_u16];omega
  have e2 : IntKind.u16.wrap ((b : Int) * 256) = (b : Int) * 256:=by rw [IntKind.wrap_u16];omega
  clear hxx
  go_enter Tryd.func79,Tryd.ntmps79
  go_wp2
  go_loopw [0,11] (fun xx ii wr => ∃ i : Nat,ii = .int .i64 i ∧ i ≤ 8 ∧ xx = .int .u16 (ups i x : Nat) ∧ w = wr) (fun _ ii _ => 8 - (intOf ii).toNat)
  case atStart => exact ⟨0,rfl,by omega,rfl,rfl⟩
  case round =>
    obtain ⟨i,rfl,hi,rfl,rfl⟩:=hrel
    have hd:=ups_lt i hx
    by_cases h : i < 8
    · obtain ⟨z,hz⟩ : ∃ z,ups (i + 1) x = z:=⟨_,rfl⟩
      have hz2 : up (ups i x) = z:=hz
      obtain ⟨y,hy⟩ : ∃ y,ups i x = y:=⟨_,rfl⟩
      rw [hy] at hd hz2 ⊢
      have Hz:=Lib.hid hz;clear hz hy
      have a1 : bits .and .u16 (y : Int) 32768 = ((y &&& 32768 : Nat) : Int):=u16_and_nat y 32768 hd (by omega)
      have a2 : y &&& 32768 = y / 32768 % 2 * 32768:=nat_bit 15 y
      have a3 : IntKind.u16.wrap ((y : Int) * 2) = ((y * 2 % 65536 : Nat) : Int):=by rw [IntKind.wrap_u16];omega
      unfold up at hz2
      by_cases h2 : 32768 ≤ y
      · rw [if_pos (by omega)] at hz2
        have a4 : bits .and .u16 (y : Int) 32768 = 32768:=by rw [a1,a2];omega
        obtain ⟨v,hv⟩ : ∃ v,y * 2 % 65536 = v:=⟨_,rfl⟩
        have hv2 : v < 65536:=by omega
        rw [hv] at a3 hz2
        have a5 : bits .xor .u16 (v : Int) 4129 = ((v ^^^ 4129 : Nat) : Int):=u16_xor_nat v 4129 hv2 (by omega)
        rw [hz2] at a5
        clear a1 a2 hv hz2
        have h2':=Lib.hid h2;clear h2
        go_wp2
        go_roundw
        case rel => exact ⟨i + 1,by go_num,by omega,by rw [Hz.out],by trivial⟩
        case measure => simp [intOf];omega
      · rw [if_neg (by omega)] at hz2
        have a4 : bits .and .u16 (y : Int) 32768 = 0:=by rw [a1,a2];omega
        have a5 : IntKind.u16.wrap ((y : Int) * 2) = (z : Int):=by rw [a3];omega
        clear a1 a2 a3 hz2
        have h2':=Lib.hid h2;clear h2
        go_wp2
        go_roundw
        case rel => exact ⟨i + 1,by go_num,by omega,by rw [Hz.out],by trivial⟩
        case measure => simp [intOf];omega
    · obtain rfl : i = 8:=by omega
      go_wp2
      go_ret
      exact ⟨rfl,rfl⟩
set_option maxRecDepth 100000 in
theorem crc16_any (s : ByteArray) (hs : s.size ≤ 1000000) (w : World) :
    Calls Tryd.prog 51 #[.string s] w fun e w' => e = .returned (.int .u16 (crsN s.data.toList : Nat)) ∧ w = w':=by
  obtain ⟨cr,hcr⟩ : ∃ r,crsN s.data.toList = r:=⟨_,rfl⟩
  rw [hcr]
  have Hcr:=Lib.hid hcr;clear hcr
  go_enter Tryd.func51,Tryd.ntmps51
  go_wp2
  go_loopw [3,7] (fun xx ii wr => ∃ i : Nat,ii = .int .i64 i ∧ i ≤ s.size ∧ xx = .int .u16 (crsGo (s.data.toList.take i) 65535 : Nat) ∧ w = wr) (fun _ ii _ => s.size - (intOf ii).toNat)
  case atStart => exact ⟨0,rfl,by omega,rfl,rfl⟩
  case round =>
    obtain ⟨i,rfl,hi,rfl,rfl⟩:=hrel
    have hd:=crsGo_lt (s.data.toList.take i) (r:=65535) (by decide)
    by_cases h : i < s.size
    · have hl : i < s.data.toList.length:=by simpa using h
      have hz:=crsGo_take s.data.toList 65535 i hl
      rw [show s.data.toList[i]'hl = s[i]'h from rfl] at hz
      obtain ⟨z,hz'⟩ : ∃ z,crsGo (s.data.toList.take (i + 1)) 65535 = z:=⟨_,rfl⟩
      obtain ⟨y,hy⟩ : ∃ y,crsGo (s.data.toList.take i) 65535 = y:=⟨_,rfl⟩
      rw [hy] at hd hz ⊢
      rw [hz'] at hz
      have g:=byte16_any y (s[i]'h).toNat hd (s[i]'h).toNat_lt w
      rw [← hz] at g
      replace g:=Lib.hid g
      have Hz:=Lib.hid hz';clear hz' hy hz hl
      go_wp2_with (go_at_call 79;(with_reducible refine g.out.mono ?_);rintro e wx ⟨rfl,rfl⟩)
      go_roundw
      case rel => exact ⟨i + 1,by go_num,by omega,by rw [Hz.out],by trivial⟩
      case measure => simp [intOf];omega
    · obtain rfl : i = s.size:=by omega
      rw [List.take_of_length_le (by simp),show crsGo s.data.toList 65535 = cr from Hcr.out]
      go_wp2
      go_ret
      exact ⟨rfl,rfl⟩
set_option maxRecDepth 100000 in
theorem size16_any (x : Nat) (w : World) :
    Calls Tryd.prog 77 #[.int .u16 (x : Int)] w fun e w' => e = .returned (.int .i64 2) ∧ w = w':=by
  go_enter Tryd.func77,Tryd.ntmps77
  iterate 17 go_step
  rw [show bits BinOp.xor IntKind.u16 (if IntKind.u16.signed = true then -1 else IntKind.u16.max) 0 = 65535 by decide]
  go_wp2
  go_ret
  exact ⟨rfl,rfl⟩
set_option maxRecDepth 100000 in
set_option maxHeartbeats 1600000 in
theorem text16_any (x : Nat) (hx : x < 65536) (w : World) :
    Calls Tryd.prog 78 #[.int .u16 (x : Int)] w fun e w' => e = .returned (bstr (two x)) ∧ Below w.heap.size w w':=by
  obtain ⟨i0,hi,hz0,hz1,hz2⟩:=info_parts Tryd.infoU8
  have Hi:=Lib.hid hi;clear hi
  have Hz0:=Lib.hid hz0;clear hz0
  have Hz1:=Lib.hid hz1;clear hz1
  have Hz2:=Lib.hid hz2;clear hz2
  have q0 : IntKind.u8.wrap ((x : Int) / 256) = ((UInt8.ofNat (x / 256)).toNat : Int):=u8_of (x / 256)
  have q1 : IntKind.u8.wrap (x : Int) = ((UInt8.ofNat x).toNat : Int):=u8_of x
  obtain ⟨L,hL⟩ : ∃ L,two x = L:=⟨_,rfl⟩
  unfold two at hL
  rw [show two x = L from hL]
  obtain ⟨b0,h0⟩ : ∃ b,UInt8.ofNat (x / 256) = b:=⟨_,rfl⟩
  obtain ⟨b1,h1⟩ : ∃ b,UInt8.ofNat x = b:=⟨_,rfl⟩
  rw [h0] at q0 hL;rw [h1] at q1 hL
  subst hL
  clear h0 h1
  have gs:=Lib.hid (size16_any x w)
  go_enter Tryd.func78,Tryd.ntmps78
  go_wp2_with (go_at_call 77;(with_reducible refine gs.out.mono ?_);rintro e wx ⟨rfl,rfl⟩)
  go_loopw [3,4] (fun v ii wr => ∃ j : Nat,ii = .int .i64 (1 - (j : Int)) ∧ j ≤ 2 ∧ wr.ownsRow w.heap.size 5 1 v j ((([b0,b1] : List UInt8).take j).map fun b => Value.int .u8 (b.toNat : Int)) ∧ Below w.heap.size w wr) (fun _ ii _ => (intOf ii + 1).toNat)
  case atStart => exact ⟨0,rfl,by omega,World.ownsRow_nil _ _ _ _,Below.refl _ _⟩
  case round =>
    obtain ⟨j,rfl,hj,hown,hb⟩:=hrel
    have Hown:=Lib.hid hown;clear hown
    have hbs:=hb.size
    match j,hj with
    | 0,_ =>
      go_wp2_with (at_builtin;refine wpList_append_own _ rfl _ _ 41 rfl w.heap.size 5 i0 (.int .u8 0) 1 1 Tryd.underlying41 Hi.out Hz0.out Hz1.out Hz2.out rfl (by decide) _ 0 _ rfl (Hown.out.alloc _) ⟨wr.heap.size,0,none⟩ 1 1 [.int .u8 (b0.toNat : Int)] rfl rfl (cell_one_new _ _ _) (by simp [Value.oneCell']) (by unfold maxLen;omega) (by omega) (by simp;omega) ?_;intro v' w2 hown2 hgrow2 _)
      go_roundw
      case rel => exact ⟨1,by go_num,by omega,hown2,(hb.alloc hb.size _).grown hgrow2 (by simp;omega) (fun k e => (Hown.out.lt k e).1)⟩
      case measure => simp [intOf]
    | 1,_ =>
      go_wp2_with (at_builtin;refine wpList_append_own _ rfl _ _ 41 rfl w.heap.size 5 i0 (.int .u8 0) 1 1 Tryd.underlying41 Hi.out Hz0.out Hz1.out Hz2.out rfl (by decide) _ 1 _ rfl (Hown.out.alloc _) ⟨wr.heap.size,0,none⟩ 1 1 [.int .u8 (b1.toNat : Int)] rfl rfl (cell_one_new _ _ _) (by simp [Value.oneCell']) (by unfold maxLen;omega) (by omega) (by simp;omega) ?_;intro v' w2 hown2 hgrow2 _)
      go_roundw
      case rel => exact ⟨2,by go_num,by omega,hown2,(hb.alloc hb.size _).grown hgrow2 (by simp;omega) (fun k e => (Hown.out.lt k e).1)⟩
      case measure => simp [intOf]
    | 2,_ =>
      obtain ⟨g,cap,rfl,hc⟩ : ∃ g cap,u3 = .slice (some ⟨g,0,none⟩) 2 cap ∧ (convert 41 9 (.slice (some ⟨g,0,none⟩) 2 cap)).run Tryd.prog wr = .ok (bstr [b0,b1]) wr:=by
        rcases Hown.out.2 with ⟨_,h⟩|⟨g,cap,cur,rfl,h⟩
        · exact absurd h (by decide)
        · refine ⟨g,cap,rfl,?_⟩
          refine run_convert_bytes_back wr _ _ 5 ⟨g,0,none⟩ cap [b0,b1] Tryd.underlying41 Tryd.underlying5 Tryd.underlying9 fun j hj => ?_
          rw [Addr.add_lit,Nat.zero_add,Hown.out.cellAt j (by simpa using hj)]
          match j,hj with
          | 0,_ => rfl
          | 1,_ => rfl
      go_wp2
      go_ret
      exact ⟨rfl,hb⟩
set_option maxRecDepth 100000 in
set_option maxHeartbeats 400000 in
theorem seal16_any (s : ByteArray) (hs : s.size ≤ 1000000) (w : World) :
    Calls Tryd.prog 69 #[.string s] w fun e w' => e = .returned (bstr (sealS s.data.toList)) ∧ Below w.heap.size w w':=by
  have g1:=crc16_any s hs w
  have g2:=fun w => text16_any (crsN s.data.toList) (crsN_lt _) w
  have hl : (two (crsN s.data.toList)).length = 2:=rfl
  obtain ⟨c,hc⟩ : ∃ c,crsN s.data.toList = c:=⟨_,rfl⟩
  rw [hc] at g1 g2 hl
  obtain ⟨p,hp⟩ : ∃ p : ByteArray,p = ⟨(two c).toArray⟩:=⟨_,rfl⟩
  have cp : ∀ w,Calls Tryd.prog 78 #[.int .u16 (c : Int)] w fun e w' => e = .returned (.string p) ∧ Below w.heap.size w w':=fun w => by rw [hp];exact g2 w
  have hps : p.size = 2:=by rw [hp];exact hl
  have fin : Ending.returned (.string (s ++ p)) = .returned (bstr (sealS s.data.toList)):=ret_str (by rw [hp];simp [sealS,hc])
  have Fin:=Lib.hid fin;clear fin hp g2 hl hc
  replace g1:=Lib.hid g1;replace cp:=Lib.hid cp
  go_enter Tryd.func69,Tryd.ntmps69
  go_wp2_with (first|(go_at_call 51;(with_reducible refine g1.out.mono ?_);rintro e wx ⟨rfl,rfl⟩)|(go_at_call 78;(with_reducible refine (cp.out _).mono ?_);rintro e wb ⟨rfl,hb2⟩))
  go_ret
  exact ⟨Fin.out,hb2⟩
def sealedS (l : List UInt8) (n : Nat) : Bool:=decide (l.drop n = two (crsN (l.take n)))
set_option maxRecDepth 100000 in
set_option maxHeartbeats 800000 in
theorem openS_ok (s : ByteArray) (n : Nat) (hs : s.size = n + 2) (hn : n ≤ 1000000) (ho : sealedS s.data.toList n = true) (w : World) :
    Calls Tryd.prog 50 #[.string s,.func (.func 51) #[] #[]] w fun e w' => e = .returned (.tuple #[.string (s.extract 0 n),.int .i64 0]) ∧ Below w.heap.size w w':=by
  have e1 : (s.extract 0 n).size = n:=by simp;omega
  have e2 : (s.extract 0 n).data.toList = s.data.toList.take n:=by simp
  have g1:=fun w => crc16_any (s.extract 0 n) (by omega) w
  have g2:=fun w => text16_any (crsN (s.extract 0 n).data.toList) (crsN_lt _) w
  obtain ⟨t2,ht2⟩ : ∃ t,s.extract n s.size = t:=⟨_,rfl⟩
  have h1 : t2.data.toList = s.data.toList.drop n:=by
    have hl : s.data.toList.length = s.size:=by simp
    rw [← ht2,Lib.extract_data,List.take_of_length_le (by rw [List.length_drop];omega)]
  have e3 : bstr (two (crsN (s.extract 0 n).data.toList)) = .string t2:=by
    rw [e2]
    refine (vstr ?_).symm
    rw [h1]
    simpa [sealedS] using ho
  rw [e3] at g2
  obtain ⟨c,hc⟩ : ∃ c,crsN (s.extract 0 n).data.toList = c:=⟨_,rfl⟩
  rw [hc] at g1 g2
  have z2 : t2.size = 2:=by rw [← ht2];simp;omega
  have gz : ∀ w,Calls Tryd.prog 77 #[.int .u16 0] w fun e w' => e = .returned (.int .i64 2) ∧ w = w':=fun w => size16_any 0 w
  replace gz:=Lib.hid gz
  replace g1:=Lib.hid g1;replace g2:=Lib.hid g2
  have hss : (s.size : Int) = (n : Int) + 2:=by omega
  have HS:=Lib.hid hs
  clear hc e2 e3 ho hs h1
  go_enter Tryd.func50,Tryd.ntmps50
  go_wp2_with (go_at_call 77;(with_reducible refine (gz.out _).mono ?_);rintro e wx ⟨rfl,rfl⟩)
  refine wp_region_in (by kernel_rfl) (by kernel_rfl) ?_
  intro W0_1 hE_1 hN_1
  have bW0_1 : Below w.heap.size w W0_1:=(by rw [hE_1.out];(repeat(first|(with_reducible first|assumption|exact Below.refl _ _|refine je ?_|refine jl ?_)|((with_reducible refine jp ?_ ?_);first|focus(dsimp only;assumption)|focus(simp;done)|focus(dsimp only;omega))|(with_reducible refine bt ?_ (by assumption)))))
  clear hE_1
  repeat (go_big_quiet_step ((first|(go_at_call 51;(with_reducible refine Class.same _ (g1.out _)))|(go_at_call 78;(with_reducible refine Class.go _ (g2.out _))))))
  refine wpQuiet_nil ?_
  rintro _ ⟨x_1,rfl⟩
  have hx_1 : Calm W0_1 x_1.wd:=x_1.ok
  have bw2 : Below w.heap.size w x_1.wd:=bt bW0_1 hx_1
  clear hx_1 bW0_1 hN_1
  generalize x_1.wd = w2 at *
  have sw2:=bw2.size
  go_wp2
  go_ret2
  exact ⟨rfl,bw2⟩
theorem open16_ok (s : ByteArray) (n : Nat) (hs : s.size = n + 2) (hn : n ≤ 1000000) (ho : sealedS s.data.toList n = true) (w : World) :
    Calls Tryd.prog 24 #[.string s] w fun e w' => e = .returned (.tuple #[.string (s.extract 0 n),.int .i64 0]) ∧ Below w.heap.size w w':=by
  have g1:=Lib.hid (openS_ok s n hs hn ho w)
  go_enter Tryd.func24,Tryd.ntmps24
  go_wp2_with (go_at_call 50;(with_reducible refine g1.out.mono ?_);rintro e w1 ⟨rfl,h1⟩)
  go_ret2
  exact ⟨rfl,h1⟩
set_option maxRecDepth 100000 in
set_option maxHeartbeats 800000 in
theorem openS_bad (s : ByteArray) (n : Nat) (hs : s.size = n + 2) (hn : n ≤ 1000000) (ho : sealedS s.data.toList n = false) (w : World) :
    Calls Tryd.prog 50 #[.string s,.func (.func 51) #[] #[]] w fun e w' => e = .returned (.tuple #[.string ⟨#[]⟩,.int .i64 10]) ∧ Below w.heap.size w w':=by
  have e1 : (s.extract 0 n).size = n:=by simp;omega
  have e2 : (s.extract 0 n).data.toList = s.data.toList.take n:=by simp
  have g1:=fun w => crc16_any (s.extract 0 n) (by omega) w
  have g2:=fun w => text16_any (crsN (s.extract 0 n).data.toList) (crsN_lt _) w
  obtain ⟨t2,ht2⟩ : ∃ t,s.extract n s.size = t:=⟨_,rfl⟩
  have h1 : t2.data.toList = s.data.toList.drop n:=by
    have hl : s.data.toList.length = s.size:=by simp
    rw [← ht2,Lib.extract_data,List.take_of_length_le (by rw [List.length_drop];omega)]
  obtain ⟨t3,ht3⟩ : ∃ t : ByteArray,t.data.toList = two (crsN (s.extract 0 n).data.toList):=⟨⟨(two (crsN (s.extract 0 n).data.toList)).toArray⟩,rfl⟩
  have e3 : bstr (two (crsN (s.extract 0 n).data.toList)) = .string t3:=(vstr ht3).symm
  have hne : t3.data.toList ≠ t2.data.toList:=by
    rw [ht3,h1,e2]
    have : ¬ s.data.toList.drop n = two (crsN (s.data.toList.take n)):=by simpa [sealedS] using ho
    exact fun h => this h.symm
  have hne2 : t3.toList ≠ t2.toList:=by rw [ByteArray.toList_eq,ByteArray.toList_eq];exact hne
  have hne0 : t3 ≠ t2:=fun h => hne (by rw [h])
  have q1 : (t3.toList == t2.toList) = false:=by simp [hne2]
  have q2 : (t3.toList != t2.toList) = true:=by simp [hne2]
  clear hne hne2 ht3
  rw [e3] at g2
  obtain ⟨c,hc⟩ : ∃ c,crsN (s.extract 0 n).data.toList = c:=⟨_,rfl⟩
  rw [hc] at g1 g2
  have z2 : t2.size = 2:=by rw [← ht2];simp;omega
  have gz : ∀ w,Calls Tryd.prog 77 #[.int .u16 0] w fun e w' => e = .returned (.int .i64 2) ∧ w = w':=fun w => size16_any 0 w
  replace gz:=Lib.hid gz
  replace g1:=Lib.hid g1;replace g2:=Lib.hid g2
  have hss : (s.size : Int) = (n : Int) + 2:=by omega
  have HS:=Lib.hid hs
  clear hc e2 e3 ho hs h1
  go_enter Tryd.func50,Tryd.ntmps50
  go_wp2_with (go_at_call 77;(with_reducible refine (gz.out _).mono ?_);rintro e wx ⟨rfl,rfl⟩)
  refine wp_region_in (by kernel_rfl) (by kernel_rfl) ?_
  intro W0_2 hE_2 hN_2
  have bW0_2 : Below w.heap.size w W0_2:=(by rw [hE_2.out];(repeat(first|(with_reducible first|assumption|exact Below.refl _ _|refine je ?_|refine jl ?_)|((with_reducible refine jp ?_ ?_);first|focus(dsimp only;assumption)|focus(simp;done)|focus(dsimp only;omega))|(with_reducible refine bt ?_ (by assumption)))))
  clear hE_2
  repeat (go_big_quiet_step ((first|(go_at_call 51;(with_reducible refine Class.same _ (g1.out _)))|(go_at_call 78;(with_reducible refine Class.go _ (g2.out _))))))
  refine wpQuiet_nil ?_
  rintro _ ⟨x_2,rfl⟩
  have hx_2 : Calm W0_2 x_2.wd:=x_2.ok
  have bw2 : Below w.heap.size w x_2.wd:=bt bW0_2 hx_2
  clear hx_2 bW0_2 hN_2
  generalize x_2.wd = w2 at *
  have sw2:=bw2.size
  go_wp2
  go_ret2
  exact ⟨rfl,bw2⟩
theorem open16_bad (s : ByteArray) (n : Nat) (hs : s.size = n + 2) (hn : n ≤ 1000000) (ho : sealedS s.data.toList n = false) (w : World) :
    Calls Tryd.prog 24 #[.string s] w fun e w' => e = .returned (.tuple #[.string ⟨#[]⟩,.int .i64 10]) ∧ Below w.heap.size w w':=by
  have g1:=Lib.hid (openS_bad s n hs hn ho w)
  go_enter Tryd.func24,Tryd.ntmps24
  go_wp2_with (go_at_call 50;(with_reducible refine g1.out.mono ?_);rintro e w1 ⟨rfl,h1⟩)
  go_ret2
  exact ⟨rfl,h1⟩
end Go.Proofs.YtaiofjffoboicaaDoor
