/- Parts of a proof, printed by a program of mine out of my texts: FrREnc. -/
import Derived.Deep.Cut
import Derived.Great.Walk
import Derived.Test.YtaiofjffoboicaaGreatDoorCC
import Derived.Test.YtaiofjffoboicaaGreatDoorCFrChkAll
import Derived.Test.YtaiofjffoboicaaGreatDoorCFrRByt
import Derived.Test.YtaiofjffoboicaaGreatDoorCSum
set_option linter.unusedSimpArgs false
set_option linter.unusedVariables false
namespace Go.Proofs.YtaiofjffoboicaaGreatDoor
open Go.RowKit
theorem two_bytes {P : Program} {src dst e : TypeId} (hs : P.underlying src = some (.slice e)) (he : P.underlying e = some (.int .u8)) (hd : P.underlying dst = some .string) (b0 b1 : UInt8) (w : World) :
    (convert src dst (.slice (some ⟨w.heap.size,0,none⟩) 2 2)).run P (w.alloc (.cells #[.int .u8 (b0.toNat : Int),.int .u8 (b1.toNat : Int)] e)) = .ok (.string ⟨#[b0,b1]⟩) (w.alloc (.cells #[.int .u8 (b0.toNat : Int),.int .u8 (b1.toNat : Int)] e)):=by
  refine run_convert_bytes_back _ _ _ e ⟨w.heap.size,0,none⟩ 2 [b0,b1] hs he hd fun j hj => ?_
  have h:=heap_alloc_new w (.cells #[.int .u8 (b0.toNat : Int),.int .u8 (b1.toNat : Int)] e)
  simp only [World.cell?,Addr.add_lit,h]
  match j,hj with
  | 0,_ => rfl
  | 1,_ => rfl
def encVr (f : Fr) : Value:=.tuple #[bstr (encF f).1,.int .i64 (encF f).2]
set_option maxRecDepth 100000 in
set_option maxHeartbeats 1600000 in
theorem rencode_any (f : Fr) (hda : f.da.size ≤ maxLen) (hn : NN f) (w : World) : Calls Tryz.prog 8 #[frv f] w fun e w' => e = .returned (encVr f) ∧ Below w.heap.size w w':=by
  have gc:=Lib.hid (fun w => rcheck_any f hda w)
  by_cases hC : frC f = 0
  · have hlb:=(bodyF_len f hC).2
    have gb : ∀ w,Calls Tryz.prog 16 #[frv f] w fun e w' => e = .returned (.string ⟨(bodyF f).toArray⟩) ∧ Below w.heap.size w w':=fun w => by
      have:=rbytes_any f hC hn w
      unfold bstr at this
      exact this
    have gs:=fun w => refCrc16_any ⟨(bodyF f).toArray⟩ (by rw [bsize];omega) w
    have hE : encVr f = .tuple #[bstr (sealS (bodyF f)),.int .i64 0]:=by unfold encVr encF;rw [if_pos hC]
    rw [hE]
    obtain ⟨B,hB⟩ : ∃ B,bodyF f = B:=⟨_,rfl⟩
    rw [hB] at gb gs hlb ⊢
    obtain ⟨x,hx⟩ : ∃ x,crsN B = x:=⟨_,rfl⟩
    have hx16 : x < 65536:=by rw [← hx];exact crsN_lt _
    have gs : ∀ w,Calls Tryz.prog 17 #[.string ⟨B.toArray⟩] w fun e w' => e = .returned (.int .u16 (x : Int)) ∧ w = w':=fun w => by
      have:=gs w
      have e2 : crsN (⟨B.toArray⟩ : ByteArray).data.toList = x:=hx
      rw [e2] at this
      exact this
    have q1 : IntKind.u8.wrap ((x : Int) / 256) = ((UInt8.ofNat (x / 256)).toNat : Int):=u8_of (x / 256)
    have q0 : IntKind.u8.wrap (x : Int) = ((UInt8.ofNat x).toNat : Int):=u8_of x
    have fin : ∀ b0 b1,b0 = UInt8.ofNat (x / 256) → b1 = UInt8.ofNat x → bstr (sealS B) = .string (⟨B.toArray⟩ ++ ⟨#[b0,b1]⟩):=fun b0 b1 h0 h1 => by
      refine (vstr ?_).symm
      rw [h0,h1]
      simp [sealS,two,hx]
    obtain ⟨b0,h0⟩ : ∃ b,UInt8.ofNat (x / 256) = b:=⟨_,rfl⟩
    obtain ⟨b1,h1⟩ : ∃ b,UInt8.ofNat x = b:=⟨_,rfl⟩
    rw [h0] at q1;rw [h1] at q0
    have Fin:=Lib.hid (fin b0 b1 h0.symm h1.symm)
    obtain ⟨S,hS⟩ : ∃ S : ByteArray,⟨B.toArray⟩ = S:=⟨_,rfl⟩
    have hSz : S.size ≤ 1180:=by rw [← hS,bsize];omega
    rw [hS] at gb gs Fin
    rw [hC] at gc
    have hf:=fun w => two_bytes (P:=Tryz.prog) Tryz.underlying46 Tryz.underlying5 Tryz.underlying9 b0 b1 w
    replace gb:=Lib.hid gb;replace gs:=Lib.hid gs
    clear hE hB hx h0 h1 fin hS hC hn hlb
    go_enter Tryz.func8,Tryz.ntmps8
    go_upto_region 1 with fail
    refine wp_region_lit ?_
    refine wpList_load_blk 28 (.tmp 1) w.heap.size #[.int .i64 f.k,.int .i64 f.fr,.int .i64 f.to_,.int .u64 f.mi,.int .u64 f.yo,.int .u64 f.a,.int .u64 f.b,.int .i64 f.ino,.int .u64 f.isq,.int .i64 f.iof,.int .i64 f.bno,.int .u64 f.bsq,.int .i64 f.bof,.int .i64 f.bde,.int .i64 f.bpr,.int .i64 f.bbo,.int .i64 f.bli,.int .i64 f.bto,.string f.da] (by (apply jt;(focus repeat(first|(with_reducible first|assumption|apply jd|apply js)|((with_reducible apply jo);first|focus(dsimp only;assumption)|focus(simp;done)|focus(dsimp only;omega))|((with_reducible apply jn);first|with_reducible rfl|focus(simp;done)|focus(simp;omega))|(with_reducible apply ja)|((with_reducible apply jb);with_reducible assumption)));rfl)) _ rfl rfl rfl Tryz.underlying28 rfl (by kernel_rfl) ?_
    conv => arg 5;simp [Act.put]
    go_wp2_with fail
    (with_reducible refine (gc.out _).mono ?_)
    rintro e w1 ⟨rfl,h1⟩
    have kf : blk w1 w.heap.size = some #[.int .i64 f.k,.int .i64 f.fr,.int .i64 f.to_,.int .u64 f.mi,.int .u64 f.yo,.int .u64 f.a,.int .u64 f.b,.int .i64 f.ino,.int .u64 f.isq,.int .i64 f.iof,.int .i64 f.bno,.int .u64 f.bsq,.int .i64 f.bof,.int .i64 f.bde,.int .i64 f.bpr,.int .i64 f.bbo,.int .i64 f.bli,.int .i64 f.bto,.string f.da]:=(by (apply jt;(focus repeat(first|(with_reducible first|assumption|apply jd|apply js)|((with_reducible apply jo);first|focus(dsimp only;assumption)|focus(simp;done)|focus(dsimp only;omega))|((with_reducible apply jn);first|with_reducible rfl|focus(simp;done)|focus(simp;omega))|(with_reducible apply ja)|((with_reducible apply jb);with_reducible assumption)));rfl))
    have hw : Below w.heap.size w w1:=by (repeat(first|(with_reducible first|assumption|exact Below.refl _ _|refine je ?_|refine jl ?_)|((with_reducible refine jp ?_ ?_);first|focus(dsimp only;assumption)|focus(simp;done)|focus(dsimp only;omega))|(with_reducible refine bt ?_ (by assumption))))
    clear h1 gc
    go_upto_region 4 with fail
    refine wp_region_lit ?_
    refine wpList_load_blk 28 (.tmp 1) w.heap.size #[.int .i64 f.k,.int .i64 f.fr,.int .i64 f.to_,.int .u64 f.mi,.int .u64 f.yo,.int .u64 f.a,.int .u64 f.b,.int .i64 f.ino,.int .u64 f.isq,.int .i64 f.iof,.int .i64 f.bno,.int .u64 f.bsq,.int .i64 f.bof,.int .i64 f.bde,.int .i64 f.bpr,.int .i64 f.bbo,.int .i64 f.bli,.int .i64 f.bto,.string f.da] kf _ rfl rfl rfl Tryz.underlying28 rfl (by kernel_rfl) ?_
    conv => arg 5;simp [Act.put]
    go_wp2_with fail
    (with_reducible refine (gb.out _).mono ?_)
    rintro e w2 ⟨rfl,h2⟩
    have hw2 : Below w.heap.size w w2:=hw.trans (h2.mono hw.size)
    clear gb h2 hw kf
    go_wp2_with (go_at_call 17;(with_reducible refine (gs.out _).mono ?_);rintro e wx ⟨rfl,rfl⟩)
    go_ret2
    exact ⟨by rw [Fin.out];rfl,by (repeat(first|(with_reducible first|assumption|exact Below.refl _ _|refine je ?_|refine jl ?_)|((with_reducible refine jp ?_ ?_);first|focus(dsimp only;assumption)|focus(simp;done)|focus(dsimp only;omega))|(with_reducible refine bt ?_ (by assumption))))⟩
  · obtain ⟨c,hc⟩ : ∃ c,frC f = c:=⟨_,rfl⟩
    have hE : encVr f = .tuple #[bstr [],.int .i64 c]:=by unfold encVr encF;rw [if_neg hC,hc]
    rw [hE]
    rw [hc] at gc hC
    clear hE hc
    have hne : (c != 0) = true:=by simpa using hC
    go_enter Tryz.func8,Tryz.ntmps8
    go_upto_region 1 with fail
    refine wp_region_lit ?_
    refine wpList_load_blk 28 (.tmp 1) w.heap.size #[.int .i64 f.k,.int .i64 f.fr,.int .i64 f.to_,.int .u64 f.mi,.int .u64 f.yo,.int .u64 f.a,.int .u64 f.b,.int .i64 f.ino,.int .u64 f.isq,.int .i64 f.iof,.int .i64 f.bno,.int .u64 f.bsq,.int .i64 f.bof,.int .i64 f.bde,.int .i64 f.bpr,.int .i64 f.bbo,.int .i64 f.bli,.int .i64 f.bto,.string f.da] (by (apply jt;(focus repeat(first|(with_reducible first|assumption|apply jd|apply js)|((with_reducible apply jo);first|focus(dsimp only;assumption)|focus(simp;done)|focus(dsimp only;omega))|((with_reducible apply jn);first|with_reducible rfl|focus(simp;done)|focus(simp;omega))|(with_reducible apply ja)|((with_reducible apply jb);with_reducible assumption)));rfl)) _ rfl rfl rfl Tryz.underlying28 rfl (by kernel_rfl) ?_
    conv => arg 5;simp [Act.put]
    go_wp2_with fail
    (with_reducible refine (gc.out _).mono ?_)
    rintro e w1 ⟨rfl,h1⟩
    have hw : Below w.heap.size w w1:=by (repeat(first|(with_reducible first|assumption|exact Below.refl _ _|refine je ?_|refine jl ?_)|((with_reducible refine jp ?_ ?_);first|focus(dsimp only;assumption)|focus(simp;done)|focus(dsimp only;omega))|(with_reducible refine bt ?_ (by assumption))))
    clear h1 gc
    go_wp2
    go_ret2
    exact ⟨rfl,hw⟩
def sizeVr (f : Fr) : Value:=.tuple #[.int .i64 ((encF f).1.length : Nat),.int .i64 (encF f).2]
theorem encF_lenR (f : Fr) : (encF f).1.length ≤ 1182:=by
  unfold encF
  by_cases h : frC f = 0
  · rw [if_pos h]
    have:=(bodyF_len f h).2
    show (sealS (bodyF f)).length ≤ 1182
    simp [sealS,two]
    omega
  · rw [if_neg h];simp
set_option maxRecDepth 100000 in
set_option maxHeartbeats 1600000 in
theorem rsize_any (f : Fr) (hda : f.da.size ≤ maxLen) (hn : NN f) (w : World) : Calls Tryz.prog 6 #[frv f] w fun e w' => e = .returned (sizeVr f) ∧ Below w.heap.size w w':=by
  have ge:=Lib.hid (fun w => rencode_any f hda hn w)
  have hl:=encF_lenR f
  unfold encVr at ge
  unfold sizeVr
  obtain ⟨⟨R,c⟩,hR⟩ : ∃ R,encF f = R:=⟨_,rfl⟩
  rw [hR] at ge hl ⊢
  simp only at ge hl ⊢
  clear hR
  have hs : (⟨R.toArray⟩ : ByteArray).size = R.length:=bsize R
  unfold bstr at ge
  obtain ⟨s,hs'⟩ : ∃ s : ByteArray,(⟨R.toArray⟩ : ByteArray) = s:=⟨_,rfl⟩
  rw [hs'] at ge hs
  rw [← hs] at hl ⊢
  clear hs hs'
  go_enter Tryz.func6,Tryz.ntmps6
  go_upto_region 1 with fail
  refine wp_region_lit ?_
  refine wpList_load_blk 28 (.tmp 1) w.heap.size #[.int .i64 f.k,.int .i64 f.fr,.int .i64 f.to_,.int .u64 f.mi,.int .u64 f.yo,.int .u64 f.a,.int .u64 f.b,.int .i64 f.ino,.int .u64 f.isq,.int .i64 f.iof,.int .i64 f.bno,.int .u64 f.bsq,.int .i64 f.bof,.int .i64 f.bde,.int .i64 f.bpr,.int .i64 f.bbo,.int .i64 f.bli,.int .i64 f.bto,.string f.da] (by (apply jt;(focus repeat(first|(with_reducible first|assumption|apply jd|apply js)|((with_reducible apply jo);first|focus(dsimp only;assumption)|focus(simp;done)|focus(dsimp only;omega))|((with_reducible apply jn);first|with_reducible rfl|focus(simp;done)|focus(simp;omega))|(with_reducible apply ja)|((with_reducible apply jb);with_reducible assumption)));rfl)) _ rfl rfl rfl Tryz.underlying28 rfl (by kernel_rfl) ?_
  conv => arg 5;simp [Act.put]
  go_wp2_with fail
  (with_reducible refine (ge.out _).mono ?_)
  rintro e w1 ⟨rfl,h1⟩
  have hw : Below w.heap.size w w1:=by (repeat(first|(with_reducible first|assumption|exact Below.refl _ _|refine je ?_|refine jl ?_)|((with_reducible refine jp ?_ ?_);first|focus(dsimp only;assumption)|focus(simp;done)|focus(dsimp only;omega))|(with_reducible refine bt ?_ (by assumption))))
  clear h1 ge
  go_wp2
  go_ret2
  exact ⟨rfl,hw⟩
end Go.Proofs.YtaiofjffoboicaaGreatDoor
