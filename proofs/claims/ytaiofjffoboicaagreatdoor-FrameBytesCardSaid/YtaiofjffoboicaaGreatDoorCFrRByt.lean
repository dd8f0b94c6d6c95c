/- Parts of a proof, printed by a program of mine out of my texts: FrRByt. -/
import Derived.Deep.Cut
import Derived.Great.Walk
import Derived.Test.YtaiofjffoboicaaGreatDoorCD
import Derived.Test.YtaiofjffoboicaaGreatDoorCEq
import Derived.Test.YtaiofjffoboicaaGreatDoorCFrRefH
import Derived.Test.YtaiofjffoboicaaGreatDoorCFx
set_option linter.unusedSimpArgs false
set_option linter.unusedVariables false
namespace Go.Proofs.YtaiofjffoboicaaGreatDoor
open Go.RowKit
theorem rput_str (x : Int) (h0 : 0 ≤ x) (h : x < 9223372036854775808) : ∃ p : ByteArray,p.data.toList = putN x.toNat ∧ p.size ≤ 11 ∧ IntKind.u64.wrap x = x ∧ ∀ w,Calls Tryz.prog 49 #[.int .u64 x] w fun e w' => e = .returned (.string p) ∧ Below w.heap.size w w':=by
  obtain ⟨n,rfl⟩ : ∃ n : Nat,x = n:=⟨x.toNat,by omega⟩
  obtain ⟨p,h1,h2,h3⟩:=refPut_str n (by omega)
  exact ⟨p,by simpa using h1,h2,IntWalk.u64_in _ (by omega),h3⟩
theorem rputText_str (l : List UInt8) (h : l.length ≤ 1180) (h2 : (putTextN l).length ≤ 1180) : ∃ p q : ByteArray,p.data.toList = l ∧ q.data.toList = putTextN l ∧ q.size ≤ 1180 ∧ p = ⟨l.toArray⟩ ∧ ∀ w,Calls Tryz.prog 51 #[.string p] w fun e w' => e = .returned (.string q) ∧ Below w.heap.size w w' :=
  ⟨⟨l.toArray⟩,⟨(putTextN l).toArray⟩,rfl,rfl,by rw [bsize];exact h2,rfl,fun w => by
    have:=refPutText_any ⟨l.toArray⟩ w (by rw [bsize];omega)
    simpa [bstr] using this⟩
theorem rbnL_le (f : Fr) (hk : f.k = 3) (hC : frC f = 0) : (bnL f).length ≤ 1180 ∧ (putTextN (bnL f)).length ≤ 1180:=by
  have h:=(bodyF_len f hC).2
  unfold bodyF at h
  rw [if_pos hk] at h
  simp only [List.length_cons,List.length_append] at h
  have h2 : (bnL f).length ≤ (putTextN (bnL f)).length:=by simp [putTextN]
  omega
theorem rencode_fr (f : Fr) (hk : f.k = 3) (hC : frC f = 0) (hn : NN f) (w : World) :
    Calls Tryz.prog 50 #[buv f.bno f.bsq f.bof f.bde f.bpr f.bbo f.bli f.bto f.da] w fun e w' => e = .returned (.tuple #[bstr (bnL f),.int .i64 0]) ∧ Below w.heap.size w w':=by
  obtain ⟨_,_,hb,_⟩:=frC_ok hC
  have hv : bnF f = 0:=by unfold bcF at hb;rwa [if_pos hk] at hb
  obtain ⟨no,sq,of,de,pr,bo,li,tt,h1,h2,h3,h4,h5,h6,h7,h8⟩:=bnF_nat hv hn
  unfold bnF at hv
  unfold bnL
  rw [h1,h2,h3,h4,h5,h6,h7,h8] at hv ⊢
  simp only [Int.toNat_natCast]
  exact refEncode_ok no sq of de pr bo li tt f.da hv w
set_option maxRecDepth 100000 in
set_option maxHeartbeats 3200000 in
theorem rbytes_any (f : Fr) (hC : frC f = 0) (hn : NN f) (w : World) : Calls Tryz.prog 16 #[frv f] w fun e w' => e = .returned (bstr (bodyF f)) ∧ Below w.heap.size w w':=by
  obtain ⟨hk,⟨r1,r2,r3,r4,-,r6,r7,r8,r9,r10,r11,r12⟩,hbc,-⟩:=frC_ok hC
  have hH:=Lib.hid hC
  obtain ⟨p1,y1,z1,q1,c1⟩:=rput_str f.fr (by omega) (by omega)
  obtain ⟨p2,y2,z2,q2,c2⟩:=rput_str f.to_ (by omega) (by omega)
  obtain ⟨p3,y3,z3,q3,c3⟩:=rput_str f.mi (by omega) (by omega)
  obtain ⟨p4,y4,z4,q4,c4⟩:=rput_str f.yo (by have:=hn.yo;omega) (by omega)
  replace c1:=Lib.hid c1;replace c2:=Lib.hid c2;replace c3:=Lib.hid c3;replace c4:=Lib.hid c4
  have hoc:=Lib.hid (fun W b x h => byte_at (P:=Tryz.prog) Tryz.underlying46 Tryz.underlying5 Tryz.underlying9 b x W h)
  have gB:=Lib.hid (fun w => refHasB_any f.k w)
  have gI:=Lib.hid (fun w => refHasID_any f.k w)
  have q0 : IntKind.u8.wrap f.k = f.k:=IntWalk.u8_in _ (by omega)
  obtain ⟨hd,hhd⟩ : ∃ hd : ByteArray,(⟨#[UInt8.ofNat f.k.toNat]⟩ : ByteArray) = hd:=⟨_,rfl⟩
  have zh : hd.size ≤ 1:=by rw [← hhd];exact Nat.le_refl _
  have m1 : ¬ (9223372036854775807 < hd.size + p1.size):=by omega
  have m2 : ¬ (9223372036854775807 < hd.size + p1.size + p2.size):=by omega
  have m3 : ¬ (9223372036854775807 < hd.size + p1.size + p2.size + p3.size):=by omega
  have m4 : ¬ (9223372036854775807 < hd.size + p1.size + p2.size + p3.size + p4.size):=by omega
  have hoc : Hid (∀ (W : World) (b : Nat),W.cell? ⟨b,0,none⟩ = some (.int .u8 f.k) → (convert 46 9 (.slice (some ⟨b,0,none⟩) 1 1)).run Tryz.prog W = .ok (.string hd) W):=Lib.hid fun W b h => by rw [← hhd];exact hoc.out W b f.k h
  have Y:=Lib.hid (And.intro y1 (And.intro y2 (And.intro y3 (And.intro y4 hhd))))
  clear y1 y2 y3 y4 hhd
  have R9:=Lib.hid (And.intro hbc (And.intro r9 (And.intro r10 (And.intro r11 r12))))
  have HK:=Lib.hid hk
  have HN:=Lib.hid hn
  clear hk hC hn hbc r1 r2 r3 r4 r6 r7 r8 r9 r10 r11 r12
  obtain ⟨R,hR⟩ : ∃ R,bstr (bodyF f) = R:=⟨_,rfl⟩
  rw [hR]
  have HR:=Lib.hid hR
  clear hR
  go_enter Tryz.func16,Tryz.ntmps16
  go_upto_region 1 with fail
  go_cut [3] from 6 (fun s3 wq => s3 = .string ((((hd ++ p1) ++ p2) ++ p3) ++ p4) ∧ Below w.heap.size w wq ∧ blk wq w.heap.size = some #[.int .i64 f.k,.int .i64 f.fr,.int .i64 f.to_,.int .u64 f.mi,.int .u64 f.yo,.int .u64 f.a,.int .u64 f.b,.int .i64 f.ino,.int .u64 f.isq,.int .i64 f.iof,.int .i64 f.bno,.int .u64 f.bsq,.int .i64 f.bof,.int .i64 f.bde,.int .i64 f.bpr,.int .i64 f.bbo,.int .i64 f.bli,.int .i64 f.bto,.string f.da])
  case first =>
    obtain ⟨u0,eu0⟩ : ∃ x,x = w.alloc (.cells #[.int .i64 f.k,.int .i64 f.fr,.int .i64 f.to_,.int .u64 f.mi,.int .u64 f.yo,.int .u64 f.a,.int .u64 f.b,.int .i64 f.ino,.int .u64 f.isq,.int .i64 f.iof,.int .i64 f.bno,.int .u64 f.bsq,.int .i64 f.bof,.int .i64 f.bde,.int .i64 f.bpr,.int .i64 f.bbo,.int .i64 f.bli,.int .i64 f.bto,.string f.da] 28):=⟨_,rfl⟩
    have kfu0 : blk u0 w.heap.size = some #[.int .i64 f.k,.int .i64 f.fr,.int .i64 f.to_,.int .u64 f.mi,.int .u64 f.yo,.int .u64 f.a,.int .u64 f.b,.int .i64 f.ino,.int .u64 f.isq,.int .i64 f.iof,.int .i64 f.bno,.int .u64 f.bsq,.int .i64 f.bof,.int .i64 f.bde,.int .i64 f.bpr,.int .i64 f.bbo,.int .i64 f.bli,.int .i64 f.bto,.string f.da]:=(by rw [eu0];exact blk_alloc_new _ _ _ rfl)
    have Bu0 : Below w.heap.size w u0:=(by rw [eu0];exact (Below.refl _ _).alloc (Nat.le_refl _) _)
    rw [← eu0]
    clear eu0
    refine wp_region_held_drew (S:=fun W => ∀ o,W.cell? ⟨w.heap.size,o,none⟩ = (#[.int .i64 f.k,.int .i64 f.fr,.int .i64 f.to_,.int .u64 f.mi,.int .u64 f.yo,.int .u64 f.a,.int .u64 f.b,.int .i64 f.ino,.int .u64 f.isq,.int .i64 f.iof,.int .i64 f.bno,.int .u64 f.bsq,.int .i64 f.bof,.int .i64 f.bde,.int .i64 f.bpr,.int .i64 f.bbo,.int .i64 f.bli,.int .i64 f.bto,.string f.da] : Array Value)[o]?) (by kernel_rfl) (fun o => blk_cell (by (apply jt;(focus repeat(first|(with_reducible first|assumption|apply jd|apply js)|((with_reducible apply jo);first|focus(dsimp only;assumption)|focus(simp;done)|focus(dsimp only;omega))|((with_reducible apply jn);first|with_reducible rfl|focus(simp;done)|focus(simp;omega))|(with_reducible apply ja)|((with_reducible apply jb);with_reducible assumption)));rfl)) o) (fun hHeld => ?_)
    obtain ⟨v0,ev0⟩ : ∃ x,x = u0.drew:=⟨_,rfl⟩
    have Bv0 : Below w.heap.size w v0:=(by rw [ev0];exact Bu0.drew)
    have kfv0 : blk v0 w.heap.size = some #[.int .i64 f.k,.int .i64 f.fr,.int .i64 f.to_,.int .u64 f.mi,.int .u64 f.yo,.int .u64 f.a,.int .u64 f.b,.int .i64 f.ino,.int .u64 f.isq,.int .i64 f.iof,.int .i64 f.bno,.int .u64 f.bsq,.int .i64 f.bof,.int .i64 f.bde,.int .i64 f.bpr,.int .i64 f.bbo,.int .i64 f.bli,.int .i64 f.bto,.string f.da]:=(by rw [ev0];(apply jt;(focus repeat(first|(with_reducible first|assumption|apply jd|apply js)|((with_reducible apply jo);first|focus(dsimp only;assumption)|focus(simp;done)|focus(dsimp only;omega))|((with_reducible apply jn);first|with_reducible rfl|focus(simp;done)|focus(simp;omega))|(with_reducible apply ja)|((with_reducible apply jb);with_reducible assumption)));rfl))
    rw [← ev0] at hHeld ⊢
    clear ev0 kfu0 Bu0
    refine wpAnyH_take (i:=0) (oi:=_) (v:=?_) rfl (by kernel_rfl) (by kernel_rfl) (by kernel_rfl) (fun _ _ _ h => h) (Or.inl ⟨by rfl,?_⟩) (by assumption) ?_
    rotate_left
    · (intro W hSw;(try dsimp only at hSw);go_simp;(try with_reducible rfl))
    (try simp only [Act.put,List.setIfInBounds_toArray,List.set_cons_zero,List.set_cons_succ,List.getElem_toArray,List.getElem_cons_succ,List.getElem_cons_zero])
    refine wpAnyH_take (i:=1) (oi:=_) (v:=?_) rfl (by kernel_rfl) (by kernel_rfl) (by kernel_rfl) (fun _ _ _ h => h) (Or.inl ⟨by rfl,?_⟩) (by assumption) ?_
    rotate_left
    · (intro W hSw;(try dsimp only at hSw);go_simp;(try with_reducible rfl))
    (try simp only [Act.put,List.setIfInBounds_toArray,List.set_cons_zero,List.set_cons_succ,List.getElem_toArray,List.getElem_cons_succ,List.getElem_cons_zero])
    refine wpAnyH_take (i:=2) (oi:=_) (v:=?_) rfl (by kernel_rfl) (by kernel_rfl) (by kernel_rfl) (fun _ _ _ h => h) (Or.inl ⟨by rfl,?_⟩) (by assumption) ?_
    rotate_left
    · (intro W hSw;(try dsimp only at hSw);go_simp;(try with_reducible rfl))
    (try simp only [Act.put,List.setIfInBounds_toArray,List.set_cons_zero,List.set_cons_succ,List.getElem_toArray,List.getElem_cons_succ,List.getElem_cons_zero])
    refine wpAnyH_take (i:=5) (oi:=_) (v:=?_) rfl (by kernel_rfl) (by kernel_rfl) (by kernel_rfl) (fun _ _ _ h => h) (Or.inl ⟨by rfl,?_⟩) (by assumption) ?_
    rotate_left
    · (intro W hSw;(try dsimp only at hSw);go_simp;(try with_reducible rfl))
    (try simp only [Act.put,List.setIfInBounds_toArray,List.set_cons_zero,List.set_cons_succ,List.getElem_toArray,List.getElem_cons_succ,List.getElem_cons_zero])
    refine wpAnyH_take (i:=6) (oi:=_) (v:=?_) rfl (by kernel_rfl) (by kernel_rfl) (by kernel_rfl) (fun _ _ _ h => h) (Or.inl ⟨by rfl,?_⟩) (by assumption) ?_
    rotate_left
    · (intro W hSw;(try dsimp only at hSw);go_simp;(try with_reducible rfl))
    (try simp only [Act.put,List.setIfInBounds_toArray,List.set_cons_zero,List.set_cons_succ,List.getElem_toArray,List.getElem_cons_succ,List.getElem_cons_zero])
    refine wpAnyH_take (i:=7) (oi:=_) (v:=?_) rfl (by kernel_rfl) (by kernel_rfl) (by kernel_rfl) (fun _ _ _ h => h) (Or.inl ⟨by rfl,?_⟩) (by assumption) ?_
    rotate_left
    · (intro W hSw;(try dsimp only at hSw);go_simp;(try with_reducible rfl))
    (try simp only [Act.put,List.setIfInBounds_toArray,List.set_cons_zero,List.set_cons_succ,List.getElem_toArray,List.getElem_cons_succ,List.getElem_cons_zero])
    refine wpAnyH_take (i:=10) (oi:=_) (v:=?_) rfl (by kernel_rfl) (by kernel_rfl) (by kernel_rfl) (fun _ _ _ h => h) (Or.inl ⟨by rfl,?_⟩) (by assumption) ?_
    rotate_left
    · (intro W hSw;(try dsimp only at hSw);go_simp;(try with_reducible rfl))
    (try simp only [Act.put,List.setIfInBounds_toArray,List.set_cons_zero,List.set_cons_succ,List.getElem_toArray,List.getElem_cons_succ,List.getElem_cons_zero])
    refine wpAnyH_take (i:=11) (oi:=_) (v:=?_) rfl (by kernel_rfl) (by kernel_rfl) (by kernel_rfl) (fun _ _ _ h => h) (Or.inl ⟨by rfl,?_⟩) (by assumption) ?_
    rotate_left
    · (intro W hSw;(try dsimp only at hSw);go_simp;(try with_reducible rfl))
    (try simp only [Act.put,List.setIfInBounds_toArray,List.set_cons_zero,List.set_cons_succ,List.getElem_toArray,List.getElem_cons_succ,List.getElem_cons_zero])
    refine wpAnyH_take (i:=12) (oi:=_) (v:=?_) rfl (by kernel_rfl) (by kernel_rfl) (by kernel_rfl) (fun _ _ _ h => h) (Or.inl ⟨by rfl,?_⟩) (by assumption) ?_
    rotate_left
    · (intro W hSw;(try dsimp only at hSw);go_simp;(try with_reducible rfl))
    (try simp only [Act.put,List.setIfInBounds_toArray,List.set_cons_zero,List.set_cons_succ,List.getElem_toArray,List.getElem_cons_succ,List.getElem_cons_zero])
    refine wpAnyH_take (i:=15) (oi:=_) (v:=?_) rfl (by kernel_rfl) (by kernel_rfl) (by kernel_rfl) (fun _ _ _ h => h) (Or.inl ⟨by rfl,?_⟩) (by assumption) ?_
    rotate_left
    · (intro W hSw;(try dsimp only at hSw);go_simp;(try with_reducible rfl))
    (try simp only [Act.put,List.setIfInBounds_toArray,List.set_cons_zero,List.set_cons_succ,List.getElem_toArray,List.getElem_cons_succ,List.getElem_cons_zero])
    refine wpAnyH_take (i:=16) (oi:=_) (v:=?_) rfl (by kernel_rfl) (by kernel_rfl) (by kernel_rfl) (fun _ _ _ h => h) (Or.inl ⟨by rfl,?_⟩) (by assumption) ?_
    rotate_left
    · (intro W hSw;(try dsimp only at hSw);go_simp;(try with_reducible rfl))
    (try simp only [Act.put,List.setIfInBounds_toArray,List.set_cons_zero,List.set_cons_succ,List.getElem_toArray,List.getElem_cons_succ,List.getElem_cons_zero])
    refine wpAnyH_take (i:=19) (oi:=_) (v:=?_) rfl (by kernel_rfl) (by kernel_rfl) (by kernel_rfl) (fun _ _ _ h => h) (Or.inl ⟨by rfl,?_⟩) (by assumption) ?_
    rotate_left
    · (intro W hSw;(try dsimp only at hSw);go_simp;(try with_reducible rfl))
    (try simp only [Act.put,List.setIfInBounds_toArray,List.set_cons_zero,List.set_cons_succ,List.getElem_toArray,List.getElem_cons_succ,List.getElem_cons_zero])
    refine wpAnyH_take (i:=20) (oi:=_) (v:=?_) rfl (by kernel_rfl) (by kernel_rfl) (by kernel_rfl) (fun _ _ _ h => h) (Or.inl ⟨by rfl,?_⟩) (by assumption) ?_
    rotate_left
    · (intro W hSw;(try dsimp only at hSw);go_simp;(try with_reducible rfl))
    (try simp only [Act.put,List.setIfInBounds_toArray,List.set_cons_zero,List.set_cons_succ,List.getElem_toArray,List.getElem_cons_succ,List.getElem_cons_zero])
    refine wpAnyH_ready (rs:=[3,8]) (by kernel_rfl) (by simp) ?_
    refine AllReadyH.cons rfl (fun K hK => ?_) ?_
    · skip
      go_simp
      obtain ⟨v1,ev1⟩ : ∃ x,x = v0.alloc (.cells #[.int .u8 f.k] 5):=⟨_,rfl⟩
      obtain ⟨b1,eb1⟩ : ∃ b,b = v0.heap.size:=⟨_,rfl⟩
      have kfv1 : blk v1 w.heap.size = some #[.int .i64 f.k,.int .i64 f.fr,.int .i64 f.to_,.int .u64 f.mi,.int .u64 f.yo,.int .u64 f.a,.int .u64 f.b,.int .i64 f.ino,.int .u64 f.isq,.int .i64 f.iof,.int .i64 f.bno,.int .u64 f.bsq,.int .i64 f.bof,.int .i64 f.bde,.int .i64 f.bpr,.int .i64 f.bbo,.int .i64 f.bli,.int .i64 f.bto,.string f.da]:=(by rw [ev1];exact blk_alloc kfv0 _)
      have kbv1 : blk v1 b1 = some #[.int .u8 f.k]:=(by rw [ev1];exact blk_alloc_new _ _ _ eb1)
      have Bv1 : Below w.heap.size w v1:=(by rw [ev1];exact Bv0.alloc Bv0.size _)
      rw [← ev1,← eb1]
      refine hK.out _ _ (fun o => blk_cell kfv1 o) (fun hHeld => ?_)
      clear hK K ev1 eb1
      (try simp only [Act.put,List.setIfInBounds_toArray,List.set_cons_zero,List.set_cons_succ,List.getElem_toArray,List.getElem_cons_succ,List.getElem_cons_zero])
      refine wpAnyH_weaken (S2:=fun W => (∀ o,W.cell? ⟨w.heap.size,o,none⟩ = (#[.int .i64 f.k,.int .i64 f.fr,.int .i64 f.to_,.int .u64 f.mi,.int .u64 f.yo,.int .u64 f.a,.int .u64 f.b,.int .i64 f.ino,.int .u64 f.isq,.int .i64 f.iof,.int .i64 f.bno,.int .u64 f.bsq,.int .i64 f.bof,.int .i64 f.bde,.int .i64 f.bpr,.int .i64 f.bbo,.int .i64 f.bli,.int .i64 f.bto,.string f.da] : Array Value)[o]?) ∧ W.cell? ⟨b1,0,none⟩ = some (.int .u8 f.k)) (fun _ h => h.1) _ _ _ _ ?_
      have hHeld2:=And.intro hHeld (blk_cell kbv1 0)
      clear hHeld
      refine wpAnyH_take (i:=4) (oi:=_) (v:=?_) rfl (by kernel_rfl) (by kernel_rfl) (by kernel_rfl) (fun _ _ _ h => h) (Or.inl ⟨by rfl,?_⟩) (by assumption) ?_
      rotate_left
      · (intro W hSw;(try dsimp only at hSw);have hcv:=hoc.out W _ hSw.2;go_simp;(try with_reducible rfl))
      (try simp only [Act.put,List.setIfInBounds_toArray,List.set_cons_zero,List.set_cons_succ,List.getElem_toArray,List.getElem_cons_succ,List.getElem_cons_zero])
      refine wpAnyH_ready (rs:=[8]) (by kernel_rfl) (by simp) ?_
      refine AllReadyH.cons rfl (fun K hK => ?_) AllReadyH.nil
      go_simp
      go_at_call 49
      (with_reducible refine (c1.out _).mono ?_)
      rintro e v2 ⟨rfl,hv2⟩
      (try go_wp2_with fail)
      have kfv2:=blk_below hv2 kfv1
      have kbv2:=blk_below hv2 kbv1
      have Bv2 : Below w.heap.size w v2:=bt Bv1 hv2
      clear hv2
      refine hK.out _ _ ⟨fun o => blk_cell kfv2 o,blk_cell kbv2 0⟩ (fun hHeld2 => ?_)
      clear hK K
      (try simp only [Act.put,List.setIfInBounds_toArray,List.set_cons_zero,List.set_cons_succ,List.getElem_toArray,List.getElem_cons_succ,List.getElem_cons_zero])
      refine wpAnyH_take (i:=9) (oi:=_) (v:=?_) rfl (by kernel_rfl) (by kernel_rfl) (by kernel_rfl) (fun _ _ _ h => h) (Or.inl ⟨by rfl,?_⟩) (by assumption) ?_
      rotate_left
      · (intro W hSw;(try dsimp only at hSw);go_simp;(try with_reducible rfl))
      (try simp only [Act.put,List.setIfInBounds_toArray,List.set_cons_zero,List.set_cons_succ,List.getElem_toArray,List.getElem_cons_succ,List.getElem_cons_zero])
      refine wpAnyH_ready (rs:=[13]) (by kernel_rfl) (by simp) ?_
      refine AllReadyH.cons rfl (fun K hK => ?_) AllReadyH.nil
      go_simp
      go_at_call 49
      (with_reducible refine (c2.out _).mono ?_)
      rintro e v3 ⟨rfl,hv3⟩
      (try go_wp2_with fail)
      have kfv3:=blk_below hv3 kfv2
      have kbv3:=blk_below hv3 kbv2
      have Bv3 : Below w.heap.size w v3:=bt Bv2 hv3
      clear hv3
      refine hK.out _ _ ⟨fun o => blk_cell kfv3 o,blk_cell kbv3 0⟩ (fun hHeld2 => ?_)
      clear hK K
      (try simp only [Act.put,List.setIfInBounds_toArray,List.set_cons_zero,List.set_cons_succ,List.getElem_toArray,List.getElem_cons_succ,List.getElem_cons_zero])
      refine wpAnyH_take (i:=14) (oi:=_) (v:=?_) rfl (by kernel_rfl) (by kernel_rfl) (by kernel_rfl) (fun _ _ _ h => h) (Or.inl ⟨by rfl,?_⟩) (by assumption) ?_
      rotate_left
      · (intro W hSw;(try dsimp only at hSw);go_simp;(try with_reducible rfl))
      (try simp only [Act.put,List.setIfInBounds_toArray,List.set_cons_zero,List.set_cons_succ,List.getElem_toArray,List.getElem_cons_succ,List.getElem_cons_zero])
      refine wpAnyH_ready (rs:=[17]) (by kernel_rfl) (by simp) ?_
      refine AllReadyH.cons rfl (fun K hK => ?_) AllReadyH.nil
      go_simp
      go_at_call 49
      (with_reducible refine (c3.out _).mono ?_)
      rintro e v4 ⟨rfl,hv4⟩
      (try go_wp2_with fail)
      have kfv4:=blk_below hv4 kfv3
      have kbv4:=blk_below hv4 kbv3
      have Bv4 : Below w.heap.size w v4:=bt Bv3 hv4
      clear hv4
      refine hK.out _ _ ⟨fun o => blk_cell kfv4 o,blk_cell kbv4 0⟩ (fun hHeld2 => ?_)
      clear hK K
      (try simp only [Act.put,List.setIfInBounds_toArray,List.set_cons_zero,List.set_cons_succ,List.getElem_toArray,List.getElem_cons_succ,List.getElem_cons_zero])
      refine wpAnyH_take (i:=18) (oi:=_) (v:=?_) rfl (by kernel_rfl) (by kernel_rfl) (by kernel_rfl) (fun _ _ _ h => h) (Or.inl ⟨by rfl,?_⟩) (by assumption) ?_
      rotate_left
      · (intro W hSw;(try dsimp only at hSw);go_simp;(try with_reducible rfl))
      (try simp only [Act.put,List.setIfInBounds_toArray,List.set_cons_zero,List.set_cons_succ,List.getElem_toArray,List.getElem_cons_succ,List.getElem_cons_zero])
      refine wpAnyH_ready (rs:=[21]) (by kernel_rfl) (by simp) ?_
      refine AllReadyH.cons rfl (fun K hK => ?_) AllReadyH.nil
      go_simp
      go_at_call 49
      (with_reducible refine (c4.out _).mono ?_)
      rintro e v5 ⟨rfl,hv5⟩
      (try go_wp2_with fail)
      have kfv5:=blk_below hv5 kfv4
      have kbv5:=blk_below hv5 kbv4
      have Bv5 : Below w.heap.size w v5:=bt Bv4 hv5
      clear hv5
      refine hK.out _ _ ⟨fun o => blk_cell kfv5 o,blk_cell kbv5 0⟩ (fun hHeld2 => ?_)
      clear hK K
      (try simp only [Act.put,List.setIfInBounds_toArray,List.set_cons_zero,List.set_cons_succ,List.getElem_toArray,List.getElem_cons_succ,List.getElem_cons_zero])
      refine wpAnyH_take (i:=22) (oi:=_) (v:=?_) rfl (by kernel_rfl) (by kernel_rfl) (by kernel_rfl) (fun _ _ _ h => h) (Or.inl ⟨by rfl,?_⟩) (by assumption) ?_
      rotate_left
      · (intro W hSw;(try dsimp only at hSw);go_simp;(try with_reducible rfl))
      (try simp only [Act.put,List.setIfInBounds_toArray,List.set_cons_zero,List.set_cons_succ,List.getElem_toArray,List.getElem_cons_succ,List.getElem_cons_zero])
      refine wpAnyH_take (i:=23) (oi:=_) (v:=?_) rfl (by kernel_rfl) (by kernel_rfl) (by kernel_rfl) (fun _ _ _ h => h) (Or.inl ⟨by rfl,?_⟩) (by assumption) ?_
      rotate_left
      · (intro W hSw;(try dsimp only at hSw);go_simp;(try with_reducible rfl))
      (try simp only [Act.put,List.setIfInBounds_toArray,List.set_cons_zero,List.set_cons_succ,List.getElem_toArray,List.getElem_cons_succ,List.getElem_cons_zero])
      refine wpAnyH_done (by kernel_rfl) ?_ _
      go_wp2
      go_meet
      case rel => exact ⟨rfl,Bv5,kfv5⟩
    refine AllReadyH.cons rfl (fun K hK => ?_) AllReadyH.nil
    go_simp
    go_at_call 49
    (with_reducible refine (c1.out _).mono ?_)
    rintro e v6 ⟨rfl,hv6⟩
    (try go_wp2_with fail)
    have kfv6:=blk_below hv6 kfv0
    have Bv6 : Below w.heap.size w v6:=bt Bv0 hv6
    clear hv6
    refine hK.out _ _ (fun o => blk_cell kfv6 o) (fun hHeld => ?_)
    clear hK K
    (try simp only [Act.put,List.setIfInBounds_toArray,List.set_cons_zero,List.set_cons_succ,List.getElem_toArray,List.getElem_cons_succ,List.getElem_cons_zero])
    refine wpAnyH_ready (rs:=[3,13]) (by kernel_rfl) (by simp) ?_
    refine AllReadyH.cons rfl (fun K hK => ?_) ?_
    · skip
      go_simp
      obtain ⟨v7,ev7⟩ : ∃ x,x = v6.alloc (.cells #[.int .u8 f.k] 5):=⟨_,rfl⟩
      obtain ⟨b7,eb7⟩ : ∃ b,b = v6.heap.size:=⟨_,rfl⟩
      have kfv7 : blk v7 w.heap.size = some #[.int .i64 f.k,.int .i64 f.fr,.int .i64 f.to_,.int .u64 f.mi,.int .u64 f.yo,.int .u64 f.a,.int .u64 f.b,.int .i64 f.ino,.int .u64 f.isq,.int .i64 f.iof,.int .i64 f.bno,.int .u64 f.bsq,.int .i64 f.bof,.int .i64 f.bde,.int .i64 f.bpr,.int .i64 f.bbo,.int .i64 f.bli,.int .i64 f.bto,.string f.da]:=(by rw [ev7];exact blk_alloc kfv6 _)
      have kbv7 : blk v7 b7 = some #[.int .u8 f.k]:=(by rw [ev7];exact blk_alloc_new _ _ _ eb7)
      have Bv7 : Below w.heap.size w v7:=(by rw [ev7];exact Bv6.alloc Bv6.size _)
      rw [← ev7,← eb7]
      refine hK.out _ _ (fun o => blk_cell kfv7 o) (fun hHeld => ?_)
      clear hK K ev7 eb7
      (try simp only [Act.put,List.setIfInBounds_toArray,List.set_cons_zero,List.set_cons_succ,List.getElem_toArray,List.getElem_cons_succ,List.getElem_cons_zero])
      refine wpAnyH_weaken (S2:=fun W => (∀ o,W.cell? ⟨w.heap.size,o,none⟩ = (#[.int .i64 f.k,.int .i64 f.fr,.int .i64 f.to_,.int .u64 f.mi,.int .u64 f.yo,.int .u64 f.a,.int .u64 f.b,.int .i64 f.ino,.int .u64 f.isq,.int .i64 f.iof,.int .i64 f.bno,.int .u64 f.bsq,.int .i64 f.bof,.int .i64 f.bde,.int .i64 f.bpr,.int .i64 f.bbo,.int .i64 f.bli,.int .i64 f.bto,.string f.da] : Array Value)[o]?) ∧ W.cell? ⟨b7,0,none⟩ = some (.int .u8 f.k)) (fun _ h => h.1) _ _ _ _ ?_
      have hHeld2:=And.intro hHeld (blk_cell kbv7 0)
      clear hHeld
      refine wpAnyH_take (i:=4) (oi:=_) (v:=?_) rfl (by kernel_rfl) (by kernel_rfl) (by kernel_rfl) (fun _ _ _ h => h) (Or.inl ⟨by rfl,?_⟩) (by assumption) ?_
      rotate_left
      · (intro W hSw;(try dsimp only at hSw);have hcv:=hoc.out W _ hSw.2;go_simp;(try with_reducible rfl))
      (try simp only [Act.put,List.setIfInBounds_toArray,List.set_cons_zero,List.set_cons_succ,List.getElem_toArray,List.getElem_cons_succ,List.getElem_cons_zero])
      refine wpAnyH_take (i:=9) (oi:=_) (v:=?_) rfl (by kernel_rfl) (by kernel_rfl) (by kernel_rfl) (fun _ _ _ h => h) (Or.inl ⟨by rfl,?_⟩) (by assumption) ?_
      rotate_left
      · (intro W hSw;(try dsimp only at hSw);go_simp;(try with_reducible rfl))
      (try simp only [Act.put,List.setIfInBounds_toArray,List.set_cons_zero,List.set_cons_succ,List.getElem_toArray,List.getElem_cons_succ,List.getElem_cons_zero])
      refine wpAnyH_ready (rs:=[13]) (by kernel_rfl) (by simp) ?_
      refine AllReadyH.cons rfl (fun K hK => ?_) AllReadyH.nil
      go_simp
      go_at_call 49
      (with_reducible refine (c2.out _).mono ?_)
      rintro e v8 ⟨rfl,hv8⟩
      (try go_wp2_with fail)
      have kfv8:=blk_below hv8 kfv7
      have kbv8:=blk_below hv8 kbv7
      have Bv8 : Below w.heap.size w v8:=bt Bv7 hv8
      clear hv8
      refine hK.out _ _ ⟨fun o => blk_cell kfv8 o,blk_cell kbv8 0⟩ (fun hHeld2 => ?_)
      clear hK K
      (try simp only [Act.put,List.setIfInBounds_toArray,List.set_cons_zero,List.set_cons_succ,List.getElem_toArray,List.getElem_cons_succ,List.getElem_cons_zero])
      refine wpAnyH_take (i:=14) (oi:=_) (v:=?_) rfl (by kernel_rfl) (by kernel_rfl) (by kernel_rfl) (fun _ _ _ h => h) (Or.inl ⟨by rfl,?_⟩) (by assumption) ?_
      rotate_left
      · (intro W hSw;(try dsimp only at hSw);go_simp;(try with_reducible rfl))
      (try simp only [Act.put,List.setIfInBounds_toArray,List.set_cons_zero,List.set_cons_succ,List.getElem_toArray,List.getElem_cons_succ,List.getElem_cons_zero])
      refine wpAnyH_ready (rs:=[17]) (by kernel_rfl) (by simp) ?_
      refine AllReadyH.cons rfl (fun K hK => ?_) AllReadyH.nil
      go_simp
      go_at_call 49
      (with_reducible refine (c3.out _).mono ?_)
      rintro e v9 ⟨rfl,hv9⟩
      (try go_wp2_with fail)
      have kfv9:=blk_below hv9 kfv8
      have kbv9:=blk_below hv9 kbv8
      have Bv9 : Below w.heap.size w v9:=bt Bv8 hv9
      clear hv9
      refine hK.out _ _ ⟨fun o => blk_cell kfv9 o,blk_cell kbv9 0⟩ (fun hHeld2 => ?_)
      clear hK K
      (try simp only [Act.put,List.setIfInBounds_toArray,List.set_cons_zero,List.set_cons_succ,List.getElem_toArray,List.getElem_cons_succ,List.getElem_cons_zero])
      refine wpAnyH_take (i:=18) (oi:=_) (v:=?_) rfl (by kernel_rfl) (by kernel_rfl) (by kernel_rfl) (fun _ _ _ h => h) (Or.inl ⟨by rfl,?_⟩) (by assumption) ?_
      rotate_left
      · (intro W hSw;(try dsimp only at hSw);go_simp;(try with_reducible rfl))
      (try simp only [Act.put,List.setIfInBounds_toArray,List.set_cons_zero,List.set_cons_succ,List.getElem_toArray,List.getElem_cons_succ,List.getElem_cons_zero])
      refine wpAnyH_ready (rs:=[21]) (by kernel_rfl) (by simp) ?_
      refine AllReadyH.cons rfl (fun K hK => ?_) AllReadyH.nil
      go_simp
      go_at_call 49
      (with_reducible refine (c4.out _).mono ?_)
      rintro e v10 ⟨rfl,hv10⟩
      (try go_wp2_with fail)
      have kfv10:=blk_below hv10 kfv9
      have kbv10:=blk_below hv10 kbv9
      have Bv10 : Below w.heap.size w v10:=bt Bv9 hv10
      clear hv10
      refine hK.out _ _ ⟨fun o => blk_cell kfv10 o,blk_cell kbv10 0⟩ (fun hHeld2 => ?_)
      clear hK K
      (try simp only [Act.put,List.setIfInBounds_toArray,List.set_cons_zero,List.set_cons_succ,List.getElem_toArray,List.getElem_cons_succ,List.getElem_cons_zero])
      refine wpAnyH_take (i:=22) (oi:=_) (v:=?_) rfl (by kernel_rfl) (by kernel_rfl) (by kernel_rfl) (fun _ _ _ h => h) (Or.inl ⟨by rfl,?_⟩) (by assumption) ?_
      rotate_left
      · (intro W hSw;(try dsimp only at hSw);go_simp;(try with_reducible rfl))
      (try simp only [Act.put,List.setIfInBounds_toArray,List.set_cons_zero,List.set_cons_succ,List.getElem_toArray,List.getElem_cons_succ,List.getElem_cons_zero])
      refine wpAnyH_take (i:=23) (oi:=_) (v:=?_) rfl (by kernel_rfl) (by kernel_rfl) (by kernel_rfl) (fun _ _ _ h => h) (Or.inl ⟨by rfl,?_⟩) (by assumption) ?_
      rotate_left
      · (intro W hSw;(try dsimp only at hSw);go_simp;(try with_reducible rfl))
      (try simp only [Act.put,List.setIfInBounds_toArray,List.set_cons_zero,List.set_cons_succ,List.getElem_toArray,List.getElem_cons_succ,List.getElem_cons_zero])
      refine wpAnyH_done (by kernel_rfl) ?_ _
      go_wp2
      go_meet
      case rel => exact ⟨rfl,Bv10,kfv10⟩
    refine AllReadyH.cons rfl (fun K hK => ?_) AllReadyH.nil
    go_simp
    go_at_call 49
    (with_reducible refine (c2.out _).mono ?_)
    rintro e v11 ⟨rfl,hv11⟩
    (try go_wp2_with fail)
    have kfv11:=blk_below hv11 kfv6
    have Bv11 : Below w.heap.size w v11:=bt Bv6 hv11
    clear hv11
    refine hK.out _ _ (fun o => blk_cell kfv11 o) (fun hHeld => ?_)
    clear hK K
    (try simp only [Act.put,List.setIfInBounds_toArray,List.set_cons_zero,List.set_cons_succ,List.getElem_toArray,List.getElem_cons_succ,List.getElem_cons_zero])
    refine wpAnyH_ready (rs:=[3,17]) (by kernel_rfl) (by simp) ?_
    refine AllReadyH.cons rfl (fun K hK => ?_) ?_
    · skip
      go_simp
      obtain ⟨v12,ev12⟩ : ∃ x,x = v11.alloc (.cells #[.int .u8 f.k] 5):=⟨_,rfl⟩
      obtain ⟨b12,eb12⟩ : ∃ b,b = v11.heap.size:=⟨_,rfl⟩
      have kfv12 : blk v12 w.heap.size = some #[.int .i64 f.k,.int .i64 f.fr,.int .i64 f.to_,.int .u64 f.mi,.int .u64 f.yo,.int .u64 f.a,.int .u64 f.b,.int .i64 f.ino,.int .u64 f.isq,.int .i64 f.iof,.int .i64 f.bno,.int .u64 f.bsq,.int .i64 f.bof,.int .i64 f.bde,.int .i64 f.bpr,.int .i64 f.bbo,.int .i64 f.bli,.int .i64 f.bto,.string f.da]:=(by rw [ev12];exact blk_alloc kfv11 _)
      have kbv12 : blk v12 b12 = some #[.int .u8 f.k]:=(by rw [ev12];exact blk_alloc_new _ _ _ eb12)
      have Bv12 : Below w.heap.size w v12:=(by rw [ev12];exact Bv11.alloc Bv11.size _)
      rw [← ev12,← eb12]
      refine hK.out _ _ (fun o => blk_cell kfv12 o) (fun hHeld => ?_)
      clear hK K ev12 eb12
      (try simp only [Act.put,List.setIfInBounds_toArray,List.set_cons_zero,List.set_cons_succ,List.getElem_toArray,List.getElem_cons_succ,List.getElem_cons_zero])
      refine wpAnyH_weaken (S2:=fun W => (∀ o,W.cell? ⟨w.heap.size,o,none⟩ = (#[.int .i64 f.k,.int .i64 f.fr,.int .i64 f.to_,.int .u64 f.mi,.int .u64 f.yo,.int .u64 f.a,.int .u64 f.b,.int .i64 f.ino,.int .u64 f.isq,.int .i64 f.iof,.int .i64 f.bno,.int .u64 f.bsq,.int .i64 f.bof,.int .i64 f.bde,.int .i64 f.bpr,.int .i64 f.bbo,.int .i64 f.bli,.int .i64 f.bto,.string f.da] : Array Value)[o]?) ∧ W.cell? ⟨b12,0,none⟩ = some (.int .u8 f.k)) (fun _ h => h.1) _ _ _ _ ?_
      have hHeld2:=And.intro hHeld (blk_cell kbv12 0)
      clear hHeld
      refine wpAnyH_take (i:=4) (oi:=_) (v:=?_) rfl (by kernel_rfl) (by kernel_rfl) (by kernel_rfl) (fun _ _ _ h => h) (Or.inl ⟨by rfl,?_⟩) (by assumption) ?_
      rotate_left
      · (intro W hSw;(try dsimp only at hSw);have hcv:=hoc.out W _ hSw.2;go_simp;(try with_reducible rfl))
      (try simp only [Act.put,List.setIfInBounds_toArray,List.set_cons_zero,List.set_cons_succ,List.getElem_toArray,List.getElem_cons_succ,List.getElem_cons_zero])
      refine wpAnyH_take (i:=9) (oi:=_) (v:=?_) rfl (by kernel_rfl) (by kernel_rfl) (by kernel_rfl) (fun _ _ _ h => h) (Or.inl ⟨by rfl,?_⟩) (by assumption) ?_
      rotate_left
      · (intro W hSw;(try dsimp only at hSw);go_simp;(try with_reducible rfl))
      (try simp only [Act.put,List.setIfInBounds_toArray,List.set_cons_zero,List.set_cons_succ,List.getElem_toArray,List.getElem_cons_succ,List.getElem_cons_zero])
      refine wpAnyH_take (i:=14) (oi:=_) (v:=?_) rfl (by kernel_rfl) (by kernel_rfl) (by kernel_rfl) (fun _ _ _ h => h) (Or.inl ⟨by rfl,?_⟩) (by assumption) ?_
      rotate_left
      · (intro W hSw;(try dsimp only at hSw);go_simp;(try with_reducible rfl))
      (try simp only [Act.put,List.setIfInBounds_toArray,List.set_cons_zero,List.set_cons_succ,List.getElem_toArray,List.getElem_cons_succ,List.getElem_cons_zero])
      refine wpAnyH_ready (rs:=[17]) (by kernel_rfl) (by simp) ?_
      refine AllReadyH.cons rfl (fun K hK => ?_) AllReadyH.nil
      go_simp
      go_at_call 49
      (with_reducible refine (c3.out _).mono ?_)
      rintro e v13 ⟨rfl,hv13⟩
      (try go_wp2_with fail)
      have kfv13:=blk_below hv13 kfv12
      have kbv13:=blk_below hv13 kbv12
      have Bv13 : Below w.heap.size w v13:=bt Bv12 hv13
      clear hv13
      refine hK.out _ _ ⟨fun o => blk_cell kfv13 o,blk_cell kbv13 0⟩ (fun hHeld2 => ?_)
      clear hK K
      (try simp only [Act.put,List.setIfInBounds_toArray,List.set_cons_zero,List.set_cons_succ,List.getElem_toArray,List.getElem_cons_succ,List.getElem_cons_zero])
      refine wpAnyH_take (i:=18) (oi:=_) (v:=?_) rfl (by kernel_rfl) (by kernel_rfl) (by kernel_rfl) (fun _ _ _ h => h) (Or.inl ⟨by rfl,?_⟩) (by assumption) ?_
      rotate_left
      · (intro W hSw;(try dsimp only at hSw);go_simp;(try with_reducible rfl))
      (try simp only [Act.put,List.setIfInBounds_toArray,List.set_cons_zero,List.set_cons_succ,List.getElem_toArray,List.getElem_cons_succ,List.getElem_cons_zero])
      refine wpAnyH_ready (rs:=[21]) (by kernel_rfl) (by simp) ?_
      refine AllReadyH.cons rfl (fun K hK => ?_) AllReadyH.nil
      go_simp
      go_at_call 49
      (with_reducible refine (c4.out _).mono ?_)
      rintro e v14 ⟨rfl,hv14⟩
      (try go_wp2_with fail)
      have kfv14:=blk_below hv14 kfv13
      have kbv14:=blk_below hv14 kbv13
      have Bv14 : Below w.heap.size w v14:=bt Bv13 hv14
      clear hv14
      refine hK.out _ _ ⟨fun o => blk_cell kfv14 o,blk_cell kbv14 0⟩ (fun hHeld2 => ?_)
      clear hK K
      (try simp only [Act.put,List.setIfInBounds_toArray,List.set_cons_zero,List.set_cons_succ,List.getElem_toArray,List.getElem_cons_succ,List.getElem_cons_zero])
      refine wpAnyH_take (i:=22) (oi:=_) (v:=?_) rfl (by kernel_rfl) (by kernel_rfl) (by kernel_rfl) (fun _ _ _ h => h) (Or.inl ⟨by rfl,?_⟩) (by assumption) ?_
      rotate_left
      · (intro W hSw;(try dsimp only at hSw);go_simp;(try with_reducible rfl))
      (try simp only [Act.put,List.setIfInBounds_toArray,List.set_cons_zero,List.set_cons_succ,List.getElem_toArray,List.getElem_cons_succ,List.getElem_cons_zero])
      refine wpAnyH_take (i:=23) (oi:=_) (v:=?_) rfl (by kernel_rfl) (by kernel_rfl) (by kernel_rfl) (fun _ _ _ h => h) (Or.inl ⟨by rfl,?_⟩) (by assumption) ?_
      rotate_left
      · (intro W hSw;(try dsimp only at hSw);go_simp;(try with_reducible rfl))
      (try simp only [Act.put,List.setIfInBounds_toArray,List.set_cons_zero,List.set_cons_succ,List.getElem_toArray,List.getElem_cons_succ,List.getElem_cons_zero])
      refine wpAnyH_done (by kernel_rfl) ?_ _
      go_wp2
      go_meet
      case rel => exact ⟨rfl,Bv14,kfv14⟩
    refine AllReadyH.cons rfl (fun K hK => ?_) AllReadyH.nil
    go_simp
    go_at_call 49
    (with_reducible refine (c3.out _).mono ?_)
    rintro e v15 ⟨rfl,hv15⟩
    (try go_wp2_with fail)
    have kfv15:=blk_below hv15 kfv11
    have Bv15 : Below w.heap.size w v15:=bt Bv11 hv15
    clear hv15
    refine hK.out _ _ (fun o => blk_cell kfv15 o) (fun hHeld => ?_)
    clear hK K
    (try simp only [Act.put,List.setIfInBounds_toArray,List.set_cons_zero,List.set_cons_succ,List.getElem_toArray,List.getElem_cons_succ,List.getElem_cons_zero])
    refine wpAnyH_ready (rs:=[3,21]) (by kernel_rfl) (by simp) ?_
    refine AllReadyH.cons rfl (fun K hK => ?_) ?_
    · skip
      go_simp
      obtain ⟨v16,ev16⟩ : ∃ x,x = v15.alloc (.cells #[.int .u8 f.k] 5):=⟨_,rfl⟩
      obtain ⟨b16,eb16⟩ : ∃ b,b = v15.heap.size:=⟨_,rfl⟩
      have kfv16 : blk v16 w.heap.size = some #[.int .i64 f.k,.int .i64 f.fr,.int .i64 f.to_,.int .u64 f.mi,.int .u64 f.yo,.int .u64 f.a,.int .u64 f.b,.int .i64 f.ino,.int .u64 f.isq,.int .i64 f.iof,.int .i64 f.bno,.int .u64 f.bsq,.int .i64 f.bof,.int .i64 f.bde,.int .i64 f.bpr,.int .i64 f.bbo,.int .i64 f.bli,.int .i64 f.bto,.string f.da]:=(by rw [ev16];exact blk_alloc kfv15 _)
      have kbv16 : blk v16 b16 = some #[.int .u8 f.k]:=(by rw [ev16];exact blk_alloc_new _ _ _ eb16)
      have Bv16 : Below w.heap.size w v16:=(by rw [ev16];exact Bv15.alloc Bv15.size _)
      rw [← ev16,← eb16]
      refine hK.out _ _ (fun o => blk_cell kfv16 o) (fun hHeld => ?_)
      clear hK K ev16 eb16
      (try simp only [Act.put,List.setIfInBounds_toArray,List.set_cons_zero,List.set_cons_succ,List.getElem_toArray,List.getElem_cons_succ,List.getElem_cons_zero])
      refine wpAnyH_weaken (S2:=fun W => (∀ o,W.cell? ⟨w.heap.size,o,none⟩ = (#[.int .i64 f.k,.int .i64 f.fr,.int .i64 f.to_,.int .u64 f.mi,.int .u64 f.yo,.int .u64 f.a,.int .u64 f.b,.int .i64 f.ino,.int .u64 f.isq,.int .i64 f.iof,.int .i64 f.bno,.int .u64 f.bsq,.int .i64 f.bof,.int .i64 f.bde,.int .i64 f.bpr,.int .i64 f.bbo,.int .i64 f.bli,.int .i64 f.bto,.string f.da] : Array Value)[o]?) ∧ W.cell? ⟨b16,0,none⟩ = some (.int .u8 f.k)) (fun _ h => h.1) _ _ _ _ ?_
      have hHeld2:=And.intro hHeld (blk_cell kbv16 0)
      clear hHeld
      refine wpAnyH_take (i:=4) (oi:=_) (v:=?_) rfl (by kernel_rfl) (by kernel_rfl) (by kernel_rfl) (fun _ _ _ h => h) (Or.inl ⟨by rfl,?_⟩) (by assumption) ?_
      rotate_left
      · (intro W hSw;(try dsimp only at hSw);have hcv:=hoc.out W _ hSw.2;go_simp;(try with_reducible rfl))
      (try simp only [Act.put,List.setIfInBounds_toArray,List.set_cons_zero,List.set_cons_succ,List.getElem_toArray,List.getElem_cons_succ,List.getElem_cons_zero])
      refine wpAnyH_take (i:=9) (oi:=_) (v:=?_) rfl (by kernel_rfl) (by kernel_rfl) (by kernel_rfl) (fun _ _ _ h => h) (Or.inl ⟨by rfl,?_⟩) (by assumption) ?_
      rotate_left
      · (intro W hSw;(try dsimp only at hSw);go_simp;(try with_reducible rfl))
      (try simp only [Act.put,List.setIfInBounds_toArray,List.set_cons_zero,List.set_cons_succ,List.getElem_toArray,List.getElem_cons_succ,List.getElem_cons_zero])
      refine wpAnyH_take (i:=14) (oi:=_) (v:=?_) rfl (by kernel_rfl) (by kernel_rfl) (by kernel_rfl) (fun _ _ _ h => h) (Or.inl ⟨by rfl,?_⟩) (by assumption) ?_
      rotate_left
      · (intro W hSw;(try dsimp only at hSw);go_simp;(try with_reducible rfl))
      (try simp only [Act.put,List.setIfInBounds_toArray,List.set_cons_zero,List.set_cons_succ,List.getElem_toArray,List.getElem_cons_succ,List.getElem_cons_zero])
      refine wpAnyH_take (i:=18) (oi:=_) (v:=?_) rfl (by kernel_rfl) (by kernel_rfl) (by kernel_rfl) (fun _ _ _ h => h) (Or.inl ⟨by rfl,?_⟩) (by assumption) ?_
      rotate_left
      · (intro W hSw;(try dsimp only at hSw);go_simp;(try with_reducible rfl))
      (try simp only [Act.put,List.setIfInBounds_toArray,List.set_cons_zero,List.set_cons_succ,List.getElem_toArray,List.getElem_cons_succ,List.getElem_cons_zero])
      refine wpAnyH_ready (rs:=[21]) (by kernel_rfl) (by simp) ?_
      refine AllReadyH.cons rfl (fun K hK => ?_) AllReadyH.nil
      go_simp
      go_at_call 49
      (with_reducible refine (c4.out _).mono ?_)
      rintro e v17 ⟨rfl,hv17⟩
      (try go_wp2_with fail)
      have kfv17:=blk_below hv17 kfv16
      have kbv17:=blk_below hv17 kbv16
      have Bv17 : Below w.heap.size w v17:=bt Bv16 hv17
      clear hv17
      refine hK.out _ _ ⟨fun o => blk_cell kfv17 o,blk_cell kbv17 0⟩ (fun hHeld2 => ?_)
      clear hK K
      (try simp only [Act.put,List.setIfInBounds_toArray,List.set_cons_zero,List.set_cons_succ,List.getElem_toArray,List.getElem_cons_succ,List.getElem_cons_zero])
      refine wpAnyH_take (i:=22) (oi:=_) (v:=?_) rfl (by kernel_rfl) (by kernel_rfl) (by kernel_rfl) (fun _ _ _ h => h) (Or.inl ⟨by rfl,?_⟩) (by assumption) ?_
      rotate_left
      · (intro W hSw;(try dsimp only at hSw);go_simp;(try with_reducible rfl))
      (try simp only [Act.put,List.setIfInBounds_toArray,List.set_cons_zero,List.set_cons_succ,List.getElem_toArray,List.getElem_cons_succ,List.getElem_cons_zero])
      refine wpAnyH_take (i:=23) (oi:=_) (v:=?_) rfl (by kernel_rfl) (by kernel_rfl) (by kernel_rfl) (fun _ _ _ h => h) (Or.inl ⟨by rfl,?_⟩) (by assumption) ?_
      rotate_left
      · (intro W hSw;(try dsimp only at hSw);go_simp;(try with_reducible rfl))
      (try simp only [Act.put,List.setIfInBounds_toArray,List.set_cons_zero,List.set_cons_succ,List.getElem_toArray,List.getElem_cons_succ,List.getElem_cons_zero])
      refine wpAnyH_done (by kernel_rfl) ?_ _
      go_wp2
      go_meet
      case rel => exact ⟨rfl,Bv17,kfv17⟩
    refine AllReadyH.cons rfl (fun K hK => ?_) AllReadyH.nil
    go_simp
    go_at_call 49
    (with_reducible refine (c4.out _).mono ?_)
    rintro e v18 ⟨rfl,hv18⟩
    (try go_wp2_with fail)
    have kfv18:=blk_below hv18 kfv15
    have Bv18 : Below w.heap.size w v18:=bt Bv15 hv18
    clear hv18
    refine hK.out _ _ (fun o => blk_cell kfv18 o) (fun hHeld => ?_)
    clear hK K
    (try simp only [Act.put,List.setIfInBounds_toArray,List.set_cons_zero,List.set_cons_succ,List.getElem_toArray,List.getElem_cons_succ,List.getElem_cons_zero])
    refine wpAnyH_ready (rs:=[3]) (by kernel_rfl) (by simp) ?_
    refine AllReadyH.cons rfl (fun K hK => ?_) AllReadyH.nil
    go_simp
    obtain ⟨v19,ev19⟩ : ∃ x,x = v18.alloc (.cells #[.int .u8 f.k] 5):=⟨_,rfl⟩
    obtain ⟨b19,eb19⟩ : ∃ b,b = v18.heap.size:=⟨_,rfl⟩
    have kfv19 : blk v19 w.heap.size = some #[.int .i64 f.k,.int .i64 f.fr,.int .i64 f.to_,.int .u64 f.mi,.int .u64 f.yo,.int .u64 f.a,.int .u64 f.b,.int .i64 f.ino,.int .u64 f.isq,.int .i64 f.iof,.int .i64 f.bno,.int .u64 f.bsq,.int .i64 f.bof,.int .i64 f.bde,.int .i64 f.bpr,.int .i64 f.bbo,.int .i64 f.bli,.int .i64 f.bto,.string f.da]:=(by rw [ev19];exact blk_alloc kfv18 _)
    have kbv19 : blk v19 b19 = some #[.int .u8 f.k]:=(by rw [ev19];exact blk_alloc_new _ _ _ eb19)
    have Bv19 : Below w.heap.size w v19:=(by rw [ev19];exact Bv18.alloc Bv18.size _)
    rw [← ev19,← eb19]
    refine hK.out _ _ (fun o => blk_cell kfv19 o) (fun hHeld => ?_)
    clear hK K ev19 eb19
    (try simp only [Act.put,List.setIfInBounds_toArray,List.set_cons_zero,List.set_cons_succ,List.getElem_toArray,List.getElem_cons_succ,List.getElem_cons_zero])
    refine wpAnyH_weaken (S2:=fun W => (∀ o,W.cell? ⟨w.heap.size,o,none⟩ = (#[.int .i64 f.k,.int .i64 f.fr,.int .i64 f.to_,.int .u64 f.mi,.int .u64 f.yo,.int .u64 f.a,.int .u64 f.b,.int .i64 f.ino,.int .u64 f.isq,.int .i64 f.iof,.int .i64 f.bno,.int .u64 f.bsq,.int .i64 f.bof,.int .i64 f.bde,.int .i64 f.bpr,.int .i64 f.bbo,.int .i64 f.bli,.int .i64 f.bto,.string f.da] : Array Value)[o]?) ∧ W.cell? ⟨b19,0,none⟩ = some (.int .u8 f.k)) (fun _ h => h.1) _ _ _ _ ?_
    have hHeld2:=And.intro hHeld (blk_cell kbv19 0)
    clear hHeld
    refine wpAnyH_take (i:=4) (oi:=_) (v:=?_) rfl (by kernel_rfl) (by kernel_rfl) (by kernel_rfl) (fun _ _ _ h => h) (Or.inl ⟨by rfl,?_⟩) (by assumption) ?_
    rotate_left
    · (intro W hSw;(try dsimp only at hSw);have hcv:=hoc.out W _ hSw.2;go_simp;(try with_reducible rfl))
    (try simp only [Act.put,List.setIfInBounds_toArray,List.set_cons_zero,List.set_cons_succ,List.getElem_toArray,List.getElem_cons_succ,List.getElem_cons_zero])
    refine wpAnyH_take (i:=9) (oi:=_) (v:=?_) rfl (by kernel_rfl) (by kernel_rfl) (by kernel_rfl) (fun _ _ _ h => h) (Or.inl ⟨by rfl,?_⟩) (by assumption) ?_
    rotate_left
    · (intro W hSw;(try dsimp only at hSw);go_simp;(try with_reducible rfl))
    (try simp only [Act.put,List.setIfInBounds_toArray,List.set_cons_zero,List.set_cons_succ,List.getElem_toArray,List.getElem_cons_succ,List.getElem_cons_zero])
    refine wpAnyH_take (i:=14) (oi:=_) (v:=?_) rfl (by kernel_rfl) (by kernel_rfl) (by kernel_rfl) (fun _ _ _ h => h) (Or.inl ⟨by rfl,?_⟩) (by assumption) ?_
    rotate_left
    · (intro W hSw;(try dsimp only at hSw);go_simp;(try with_reducible rfl))
    (try simp only [Act.put,List.setIfInBounds_toArray,List.set_cons_zero,List.set_cons_succ,List.getElem_toArray,List.getElem_cons_succ,List.getElem_cons_zero])
    refine wpAnyH_take (i:=18) (oi:=_) (v:=?_) rfl (by kernel_rfl) (by kernel_rfl) (by kernel_rfl) (fun _ _ _ h => h) (Or.inl ⟨by rfl,?_⟩) (by assumption) ?_
    rotate_left
    · (intro W hSw;(try dsimp only at hSw);go_simp;(try with_reducible rfl))
    (try simp only [Act.put,List.setIfInBounds_toArray,List.set_cons_zero,List.set_cons_succ,List.getElem_toArray,List.getElem_cons_succ,List.getElem_cons_zero])
    refine wpAnyH_take (i:=22) (oi:=_) (v:=?_) rfl (by kernel_rfl) (by kernel_rfl) (by kernel_rfl) (fun _ _ _ h => h) (Or.inl ⟨by rfl,?_⟩) (by assumption) ?_
    rotate_left
    · (intro W hSw;(try dsimp only at hSw);go_simp;(try with_reducible rfl))
    (try simp only [Act.put,List.setIfInBounds_toArray,List.set_cons_zero,List.set_cons_succ,List.getElem_toArray,List.getElem_cons_succ,List.getElem_cons_zero])
    refine wpAnyH_take (i:=23) (oi:=_) (v:=?_) rfl (by kernel_rfl) (by kernel_rfl) (by kernel_rfl) (fun _ _ _ h => h) (Or.inl ⟨by rfl,?_⟩) (by assumption) ?_
    rotate_left
    · (intro W hSw;(try dsimp only at hSw);go_simp;(try with_reducible rfl))
    (try simp only [Act.put,List.setIfInBounds_toArray,List.set_cons_zero,List.set_cons_succ,List.getElem_toArray,List.getElem_cons_succ,List.getElem_cons_zero])
    refine wpAnyH_done (by kernel_rfl) ?_ _
    go_wp2
    go_meet
    case rel => exact ⟨rfl,Bv19,kfv19⟩
  case rest =>
  obtain ⟨rfl,bw1,kf⟩:=hcut
  rename World => w1
  have nf:=kn kf
  have sw1:=bw1.size
  obtain ⟨PRE,hPRE⟩ : ∃ P,(((hd ++ p1) ++ p2) ++ p3) ++ p4 = P:=⟨_,rfl⟩
  have zP : PRE.size ≤ 45:=by rw [← hPRE];simp only [ByteArray.size_append];omega
  have hpre : PRE.data.toList = UInt8.ofNat f.k.toNat :: (putN f.fr.toNat ++ putN f.to_.toNat ++ putN f.mi.toNat ++ putN f.yo.toNat):=by
    obtain ⟨y1,y2,y3,y4,hhd⟩:=Y.out
    rw [← hPRE,← hhd]
    simp [y1,y2,y3,y4]
  rw [hPRE]
  have hpre:=Lib.hid hpre
  clear hPRE c1 c2 c3 c4 Y m1 m2 m3 m4 z1 z2 z3 z4 zh hoc q1 q2 q3 q4
  have h' : f.k = 1 ∨ f.k = 2 ∨ f.k = 3 ∨ f.k = 4 ∨ f.k = 5 ∨ f.k = 6 ∨ f.k = 7:=by have:=HK.out;omega
  obtain ⟨hbc,r9,r10,r11,r12⟩:=R9.out
  have hn:=HN.out
  clear R9 HK
  rcases h' with hk|hk|hk|hk|hk|hk|hk
  · have gB:=Lib.hid (fun w => refHasB_any 1 w)
    have gI:=Lib.hid (fun w => refHasID_any 1 w)
    rw [show hasB 1 = false by decide] at gB
    rw [show hasI 1 = false by decide] at gI
    have hC:=hH.out
    have kf : blk w1 w.heap.size = some #[.int .i64 1,.int .i64 f.fr,.int .i64 f.to_,.int .u64 f.mi,.int .u64 f.yo,.int .u64 f.a,.int .u64 f.b,.int .i64 f.ino,.int .u64 f.isq,.int .i64 f.iof,.int .i64 f.bno,.int .u64 f.bsq,.int .i64 f.bof,.int .i64 f.bde,.int .i64 f.bpr,.int .i64 f.bbo,.int .i64 f.bli,.int .i64 f.bto,.string f.da]:=(by rw [kf,hk])
    replace nf:=kn kf
    have fin : bstr (bodyF f) = .string PRE:=by
      refine (vstr ?_).symm
      simp [bodyF,hk,hpre.out]
    rw [HR.out] at fin
    have Fin:=Lib.hid fin
    have Hk:=Lib.hid hk
    clear fin HR hk hC hH hbc r9 r10 r11 r12 hn HN q0 hpre  
    go_wp2_with fail
    (with_reducible refine (gB.out _).mono ?_)
    rintro e wx ⟨rfl,rfl⟩
    go_wp2_with fail
    (with_reducible refine (gI.out _).mono ?_)
    rintro e wx ⟨rfl,rfl⟩
    go_wp2
    go_ret
    exact ⟨(congrArg Ending.returned Fin.out).symm,by (repeat(first|(with_reducible first|assumption|exact Below.refl _ _|refine je ?_|refine jl ?_)|((with_reducible refine jp ?_ ?_);first|focus(dsimp only;assumption)|focus(simp;done)|focus(dsimp only;omega))|(with_reducible refine bt ?_ (by assumption))))⟩
  · have gB:=Lib.hid (fun w => refHasB_any 2 w)
    have gI:=Lib.hid (fun w => refHasID_any 2 w)
    rw [show hasB 2 = false by decide] at gB
    rw [show hasI 2 = false by decide] at gI
    have hC:=hH.out
    have kf : blk w1 w.heap.size = some #[.int .i64 2,.int .i64 f.fr,.int .i64 f.to_,.int .u64 f.mi,.int .u64 f.yo,.int .u64 f.a,.int .u64 f.b,.int .i64 f.ino,.int .u64 f.isq,.int .i64 f.iof,.int .i64 f.bno,.int .u64 f.bsq,.int .i64 f.bof,.int .i64 f.bde,.int .i64 f.bpr,.int .i64 f.bbo,.int .i64 f.bli,.int .i64 f.bto,.string f.da]:=(by rw [kf,hk])
    replace nf:=kn kf
    obtain ⟨p5,y5,z5,q5,c5⟩:=rput_str f.a (by have:=hn.a;omega) (by omega)
    replace c5:=Lib.hid c5
    have fin : bstr (bodyF f) = .string (PRE ++ p5):=by
      refine (vstr ?_).symm
      simp [bodyF,hk,hpre.out,y5]
    rw [HR.out] at fin
    have Fin:=Lib.hid fin
    have Hk:=Lib.hid hk
    clear fin HR hk hC hH hbc r9 r10 r11 r12 hn HN q0 hpre  y5 
    go_wp2_with fail
    (with_reducible refine (c5.out _).mono ?_)
    rintro e w2 ⟨rfl,hw2⟩
    have kk1 : blk w2 (w.heap.size) = some #[.int .i64 2,.int .i64 f.fr,.int .i64 f.to_,.int .u64 f.mi,.int .u64 f.yo,.int .u64 f.a,.int .u64 f.b,.int .i64 f.ino,.int .u64 f.isq,.int .i64 f.iof,.int .i64 f.bno,.int .u64 f.bsq,.int .i64 f.bof,.int .i64 f.bde,.int .i64 f.bpr,.int .i64 f.bbo,.int .i64 f.bli,.int .i64 f.bto,.string f.da]:=(by (apply jt;(focus repeat(first|(with_reducible first|assumption|apply jd|apply js)|((with_reducible apply jo);first|focus(dsimp only;assumption)|focus(simp;done)|focus(dsimp only;omega))|((with_reducible apply jn);first|with_reducible rfl|focus(simp;done)|focus(simp;omega))|(with_reducible apply ja)|((with_reducible apply jb);with_reducible assumption)));rfl))
    have kn1:=kn kk1
    have bw2 : Below w.heap.size w w2:=(by (repeat(first|(with_reducible first|assumption|exact Below.refl _ _|refine je ?_|refine jl ?_)|((with_reducible refine jp ?_ ?_);first|focus(dsimp only;assumption)|focus(simp;done)|focus(dsimp only;omega))|(with_reducible refine bt ?_ (by assumption)))))
    have sw2:=bw2.size
    clear hw2
    go_wp2_with fail
    (with_reducible refine (gB.out _).mono ?_)
    rintro e wx ⟨rfl,rfl⟩
    go_wp2_with fail
    (with_reducible refine (gI.out _).mono ?_)
    rintro e wx ⟨rfl,rfl⟩
    go_wp2
    go_ret
    exact ⟨(congrArg Ending.returned Fin.out).symm,by (repeat(first|(with_reducible first|assumption|exact Below.refl _ _|refine je ?_|refine jl ?_)|((with_reducible refine jp ?_ ?_);first|focus(dsimp only;assumption)|focus(simp;done)|focus(dsimp only;omega))|(with_reducible refine bt ?_ (by assumption))))⟩
  · have gB:=Lib.hid (fun w => refHasB_any 3 w)
    have gI:=Lib.hid (fun w => refHasID_any 3 w)
    rw [show hasB 3 = true by decide] at gB
    rw [show hasI 3 = false by decide] at gI
    have hC:=hH.out
    have kf : blk w1 w.heap.size = some #[.int .i64 3,.int .i64 f.fr,.int .i64 f.to_,.int .u64 f.mi,.int .u64 f.yo,.int .u64 f.a,.int .u64 f.b,.int .i64 f.ino,.int .u64 f.isq,.int .i64 f.iof,.int .i64 f.bno,.int .u64 f.bsq,.int .i64 f.bof,.int .i64 f.bde,.int .i64 f.bpr,.int .i64 f.bbo,.int .i64 f.bli,.int .i64 f.bto,.string f.da]:=(by rw [kf,hk])
    replace nf:=kn kf
    obtain ⟨p5,y5,z5,q5,c5⟩:=rput_str f.a (by have:=hn.a;omega) (by omega)
    replace c5:=Lib.hid c5
    obtain ⟨p6,y6,z6,q6,c6⟩:=rput_str f.b (by have:=hn.b;omega) (by omega)
    replace c6:=Lib.hid c6
    obtain ⟨hb1,hb2⟩:=rbnL_le f hk hC
    obtain ⟨t7,p7,x7,y7,z7,e7,c7⟩:=rputText_str (bnL f) hb1 hb2
    have ge : ∀ w,Calls Tryz.prog 50 #[.agg #[.int .i64 f.bno,.int .u64 f.bsq,.int .i64 f.bof,.int .i64 f.bde,.int .i64 f.bpr,.int .i64 f.bbo,.int .i64 f.bli,.int .i64 f.bto,.string f.da]] w fun e w' => e = .returned (.tuple #[.string t7,.int .i64 0]) ∧ Below w.heap.size w w':=fun w => by
      have:=rencode_fr f hk hC hn w
      unfold bstr at this
      rw [← e7] at this
      exact this
    replace ge:=Lib.hid ge;replace c7:=Lib.hid c7
    clear e7 hb1 hb2 x7
    have fin : bstr (bodyF f) = .string (((PRE ++ p5) ++ p6) ++ p7):=by
      refine (vstr ?_).symm
      simp [bodyF,hk,hpre.out,y5,y6,y7]
    rw [HR.out] at fin
    have Fin:=Lib.hid fin
    have Hk:=Lib.hid hk
    clear fin HR hk hC hH hbc r9 r10 r11 r12 hn HN q0 hpre  y5 y6 y7 
    go_wp2_with fail
    (with_reducible refine (c5.out _).mono ?_)
    rintro e w2 ⟨rfl,hw2⟩
    have kk2 : blk w2 (w.heap.size) = some #[.int .i64 3,.int .i64 f.fr,.int .i64 f.to_,.int .u64 f.mi,.int .u64 f.yo,.int .u64 f.a,.int .u64 f.b,.int .i64 f.ino,.int .u64 f.isq,.int .i64 f.iof,.int .i64 f.bno,.int .u64 f.bsq,.int .i64 f.bof,.int .i64 f.bde,.int .i64 f.bpr,.int .i64 f.bbo,.int .i64 f.bli,.int .i64 f.bto,.string f.da]:=(by (apply jt;(focus repeat(first|(with_reducible first|assumption|apply jd|apply js)|((with_reducible apply jo);first|focus(dsimp only;assumption)|focus(simp;done)|focus(dsimp only;omega))|((with_reducible apply jn);first|with_reducible rfl|focus(simp;done)|focus(simp;omega))|(with_reducible apply ja)|((with_reducible apply jb);with_reducible assumption)));rfl))
    have kn2:=kn kk2
    have bw2 : Below w.heap.size w w2:=(by (repeat(first|(with_reducible first|assumption|exact Below.refl _ _|refine je ?_|refine jl ?_)|((with_reducible refine jp ?_ ?_);first|focus(dsimp only;assumption)|focus(simp;done)|focus(dsimp only;omega))|(with_reducible refine bt ?_ (by assumption)))))
    have sw2:=bw2.size
    clear hw2
    go_wp2_with fail
    (with_reducible refine (gB.out _).mono ?_)
    rintro e wx ⟨rfl,rfl⟩
    go_wp2_with fail
    (with_reducible refine (c6.out _).mono ?_)
    rintro e w3 ⟨rfl,hw3⟩
    have kk3 : blk w3 (w.heap.size) = some #[.int .i64 3,.int .i64 f.fr,.int .i64 f.to_,.int .u64 f.mi,.int .u64 f.yo,.int .u64 f.a,.int .u64 f.b,.int .i64 f.ino,.int .u64 f.isq,.int .i64 f.iof,.int .i64 f.bno,.int .u64 f.bsq,.int .i64 f.bof,.int .i64 f.bde,.int .i64 f.bpr,.int .i64 f.bbo,.int .i64 f.bli,.int .i64 f.bto,.string f.da]:=(by (apply jt;(focus repeat(first|(with_reducible first|assumption|apply jd|apply js)|((with_reducible apply jo);first|focus(dsimp only;assumption)|focus(simp;done)|focus(dsimp only;omega))|((with_reducible apply jn);first|with_reducible rfl|focus(simp;done)|focus(simp;omega))|(with_reducible apply ja)|((with_reducible apply jb);with_reducible assumption)));rfl))
    clear kk2 kn2
    have kn3:=kn kk3
    have bw3 : Below w.heap.size w w3:=(by (repeat(first|(with_reducible first|assumption|exact Below.refl _ _|refine je ?_|refine jl ?_)|((with_reducible refine jp ?_ ?_);first|focus(dsimp only;assumption)|focus(simp;done)|focus(dsimp only;omega))|(with_reducible refine bt ?_ (by assumption)))))
    have sw3:=bw3.size
    clear hw3 bw2
    go_wp2_with fail
    (with_reducible refine (ge.out _).mono ?_)
    rintro e w4 ⟨rfl,hw4⟩
    have kk4 : blk w4 (w.heap.size) = some #[.int .i64 3,.int .i64 f.fr,.int .i64 f.to_,.int .u64 f.mi,.int .u64 f.yo,.int .u64 f.a,.int .u64 f.b,.int .i64 f.ino,.int .u64 f.isq,.int .i64 f.iof,.int .i64 f.bno,.int .u64 f.bsq,.int .i64 f.bof,.int .i64 f.bde,.int .i64 f.bpr,.int .i64 f.bbo,.int .i64 f.bli,.int .i64 f.bto,.string f.da]:=(by (apply jt;(focus repeat(first|(with_reducible first|assumption|apply jd|apply js)|((with_reducible apply jo);first|focus(dsimp only;assumption)|focus(simp;done)|focus(dsimp only;omega))|((with_reducible apply jn);first|with_reducible rfl|focus(simp;done)|focus(simp;omega))|(with_reducible apply ja)|((with_reducible apply jb);with_reducible assumption)));rfl))
    clear kk3 kn3
    have kn4:=kn kk4
    have bw4 : Below w.heap.size w w4:=(by (repeat(first|(with_reducible first|assumption|exact Below.refl _ _|refine je ?_|refine jl ?_)|((with_reducible refine jp ?_ ?_);first|focus(dsimp only;assumption)|focus(simp;done)|focus(dsimp only;omega))|(with_reducible refine bt ?_ (by assumption)))))
    have sw4:=bw4.size
    clear hw4 bw3
    go_wp2_with fail
    (with_reducible refine (c7.out _).mono ?_)
    rintro e w5 ⟨rfl,hw5⟩
    have kk5 : blk w5 (w.heap.size) = some #[.int .i64 3,.int .i64 f.fr,.int .i64 f.to_,.int .u64 f.mi,.int .u64 f.yo,.int .u64 f.a,.int .u64 f.b,.int .i64 f.ino,.int .u64 f.isq,.int .i64 f.iof,.int .i64 f.bno,.int .u64 f.bsq,.int .i64 f.bof,.int .i64 f.bde,.int .i64 f.bpr,.int .i64 f.bbo,.int .i64 f.bli,.int .i64 f.bto,.string f.da]:=(by (apply jt;(focus repeat(first|(with_reducible first|assumption|apply jd|apply js)|((with_reducible apply jo);first|focus(dsimp only;assumption)|focus(simp;done)|focus(dsimp only;omega))|((with_reducible apply jn);first|with_reducible rfl|focus(simp;done)|focus(simp;omega))|(with_reducible apply ja)|((with_reducible apply jb);with_reducible assumption)));rfl))
    clear kk4 kn4
    have kn5:=kn kk5
    have bw5 : Below w.heap.size w w5:=(by (repeat(first|(with_reducible first|assumption|exact Below.refl _ _|refine je ?_|refine jl ?_)|((with_reducible refine jp ?_ ?_);first|focus(dsimp only;assumption)|focus(simp;done)|focus(dsimp only;omega))|(with_reducible refine bt ?_ (by assumption)))))
    have sw5:=bw5.size
    clear hw5 bw4
    go_wp2_with fail
    (with_reducible refine (gI.out _).mono ?_)
    rintro e wx ⟨rfl,rfl⟩
    go_wp2
    go_ret
    exact ⟨(congrArg Ending.returned Fin.out).symm,by (repeat(first|(with_reducible first|assumption|exact Below.refl _ _|refine je ?_|refine jl ?_)|((with_reducible refine jp ?_ ?_);first|focus(dsimp only;assumption)|focus(simp;done)|focus(dsimp only;omega))|(with_reducible refine bt ?_ (by assumption))))⟩
  · have gB:=Lib.hid (fun w => refHasB_any 4 w)
    have gI:=Lib.hid (fun w => refHasID_any 4 w)
    rw [show hasB 4 = true by decide] at gB
    rw [show hasI 4 = false by decide] at gI
    have hC:=hH.out
    have kf : blk w1 w.heap.size = some #[.int .i64 4,.int .i64 f.fr,.int .i64 f.to_,.int .u64 f.mi,.int .u64 f.yo,.int .u64 f.a,.int .u64 f.b,.int .i64 f.ino,.int .u64 f.isq,.int .i64 f.iof,.int .i64 f.bno,.int .u64 f.bsq,.int .i64 f.bof,.int .i64 f.bde,.int .i64 f.bpr,.int .i64 f.bbo,.int .i64 f.bli,.int .i64 f.bto,.string f.da]:=(by rw [kf,hk])
    replace nf:=kn kf
    obtain ⟨p5,y5,z5,q5,c5⟩:=rput_str f.a (by have:=hn.a;omega) (by omega)
    replace c5:=Lib.hid c5
    obtain ⟨p6,y6,z6,q6,c6⟩:=rput_str f.b (by have:=hn.b;omega) (by omega)
    replace c6:=Lib.hid c6
    have fin : bstr (bodyF f) = .string ((PRE ++ p5) ++ p6):=by
      refine (vstr ?_).symm
      simp [bodyF,hk,hpre.out,y5,y6]
    rw [HR.out] at fin
    have Fin:=Lib.hid fin
    have Hk:=Lib.hid hk
    clear fin HR hk hC hH hbc r9 r10 r11 r12 hn HN q0 hpre  y5 y6 
    go_wp2_with fail
    (with_reducible refine (c5.out _).mono ?_)
    rintro e w2 ⟨rfl,hw2⟩
    have kk6 : blk w2 (w.heap.size) = some #[.int .i64 4,.int .i64 f.fr,.int .i64 f.to_,.int .u64 f.mi,.int .u64 f.yo,.int .u64 f.a,.int .u64 f.b,.int .i64 f.ino,.int .u64 f.isq,.int .i64 f.iof,.int .i64 f.bno,.int .u64 f.bsq,.int .i64 f.bof,.int .i64 f.bde,.int .i64 f.bpr,.int .i64 f.bbo,.int .i64 f.bli,.int .i64 f.bto,.string f.da]:=(by (apply jt;(focus repeat(first|(with_reducible first|assumption|apply jd|apply js)|((with_reducible apply jo);first|focus(dsimp only;assumption)|focus(simp;done)|focus(dsimp only;omega))|((with_reducible apply jn);first|with_reducible rfl|focus(simp;done)|focus(simp;omega))|(with_reducible apply ja)|((with_reducible apply jb);with_reducible assumption)));rfl))
    have kn6:=kn kk6
    have bw2 : Below w.heap.size w w2:=(by (repeat(first|(with_reducible first|assumption|exact Below.refl _ _|refine je ?_|refine jl ?_)|((with_reducible refine jp ?_ ?_);first|focus(dsimp only;assumption)|focus(simp;done)|focus(dsimp only;omega))|(with_reducible refine bt ?_ (by assumption)))))
    have sw2:=bw2.size
    clear hw2
    go_wp2_with fail
    (with_reducible refine (gB.out _).mono ?_)
    rintro e wx ⟨rfl,rfl⟩
    go_wp2_with fail
    (with_reducible refine (c6.out _).mono ?_)
    rintro e w3 ⟨rfl,hw3⟩
    have kk7 : blk w3 (w.heap.size) = some #[.int .i64 4,.int .i64 f.fr,.int .i64 f.to_,.int .u64 f.mi,.int .u64 f.yo,.int .u64 f.a,.int .u64 f.b,.int .i64 f.ino,.int .u64 f.isq,.int .i64 f.iof,.int .i64 f.bno,.int .u64 f.bsq,.int .i64 f.bof,.int .i64 f.bde,.int .i64 f.bpr,.int .i64 f.bbo,.int .i64 f.bli,.int .i64 f.bto,.string f.da]:=(by (apply jt;(focus repeat(first|(with_reducible first|assumption|apply jd|apply js)|((with_reducible apply jo);first|focus(dsimp only;assumption)|focus(simp;done)|focus(dsimp only;omega))|((with_reducible apply jn);first|with_reducible rfl|focus(simp;done)|focus(simp;omega))|(with_reducible apply ja)|((with_reducible apply jb);with_reducible assumption)));rfl))
    clear kk6 kn6
    have kn7:=kn kk7
    have bw3 : Below w.heap.size w w3:=(by (repeat(first|(with_reducible first|assumption|exact Below.refl _ _|refine je ?_|refine jl ?_)|((with_reducible refine jp ?_ ?_);first|focus(dsimp only;assumption)|focus(simp;done)|focus(dsimp only;omega))|(with_reducible refine bt ?_ (by assumption)))))
    have sw3:=bw3.size
    clear hw3 bw2
    go_wp2_with fail
    (with_reducible refine (gI.out _).mono ?_)
    rintro e wx ⟨rfl,rfl⟩
    go_wp2
    go_ret
    exact ⟨(congrArg Ending.returned Fin.out).symm,by (repeat(first|(with_reducible first|assumption|exact Below.refl _ _|refine je ?_|refine jl ?_)|((with_reducible refine jp ?_ ?_);first|focus(dsimp only;assumption)|focus(simp;done)|focus(dsimp only;omega))|(with_reducible refine bt ?_ (by assumption))))⟩
  · have gB:=Lib.hid (fun w => refHasB_any 5 w)
    have gI:=Lib.hid (fun w => refHasID_any 5 w)
    rw [show hasB 5 = false by decide] at gB
    rw [show hasI 5 = true by decide] at gI
    have hC:=hH.out
    have kf : blk w1 w.heap.size = some #[.int .i64 5,.int .i64 f.fr,.int .i64 f.to_,.int .u64 f.mi,.int .u64 f.yo,.int .u64 f.a,.int .u64 f.b,.int .i64 f.ino,.int .u64 f.isq,.int .i64 f.iof,.int .i64 f.bno,.int .u64 f.bsq,.int .i64 f.bof,.int .i64 f.bde,.int .i64 f.bpr,.int .i64 f.bbo,.int .i64 f.bli,.int .i64 f.bto,.string f.da]:=(by rw [kf,hk])
    replace nf:=kn kf
    obtain ⟨p5,y5,z5,q5,c5⟩:=rput_str f.a (by have:=hn.a;omega) (by omega)
    replace c5:=Lib.hid c5
    have hid0:=hbc
    unfold bcF at hid0
    rw [if_neg (by omega),if_pos (by omega)] at hid0
    obtain ⟨i1,i2,i3,i4,i5⟩ : okI f.ino f.isq f.iof:=(by rcases idC_cases f.ino f.isq f.iof with h|h;exact h.2;exact absurd (h.1.symm.trans hid0) (by decide))
    obtain ⟨p8,y8,z8,q8,c8⟩:=rput_str f.ino (by omega) (by omega)
    obtain ⟨p9,y9,z9,q9,c9⟩:=rput_str f.isq (by have:=hn.isq;omega) (by omega)
    obtain ⟨p10,y10,z10,q10,c10⟩:=rput_str f.iof (by omega) (by omega)
    replace c8:=Lib.hid c8;replace c9:=Lib.hid c9;replace c10:=Lib.hid c10
    clear hid0
    have fin : bstr (bodyF f) = .string ((((PRE ++ p5) ++ p8) ++ p9) ++ p10):=by
      refine (vstr ?_).symm
      simp [bodyF,hk,hpre.out,y5,y8,y9,y10]
    rw [HR.out] at fin
    have Fin:=Lib.hid fin
    have Hk:=Lib.hid hk
    clear fin HR hk hC hH hbc r9 r10 r11 r12 hn HN q0 hpre  y5 y8 y9 y10 i1 i2 i3 i4 i5
    go_wp2_with fail
    (with_reducible refine (c5.out _).mono ?_)
    rintro e w2 ⟨rfl,hw2⟩
    have kk8 : blk w2 (w.heap.size) = some #[.int .i64 5,.int .i64 f.fr,.int .i64 f.to_,.int .u64 f.mi,.int .u64 f.yo,.int .u64 f.a,.int .u64 f.b,.int .i64 f.ino,.int .u64 f.isq,.int .i64 f.iof,.int .i64 f.bno,.int .u64 f.bsq,.int .i64 f.bof,.int .i64 f.bde,.int .i64 f.bpr,.int .i64 f.bbo,.int .i64 f.bli,.int .i64 f.bto,.string f.da]:=(by (apply jt;(focus repeat(first|(with_reducible first|assumption|apply jd|apply js)|((with_reducible apply jo);first|focus(dsimp only;assumption)|focus(simp;done)|focus(dsimp only;omega))|((with_reducible apply jn);first|with_reducible rfl|focus(simp;done)|focus(simp;omega))|(with_reducible apply ja)|((with_reducible apply jb);with_reducible assumption)));rfl))
    have kn8:=kn kk8
    have bw2 : Below w.heap.size w w2:=(by (repeat(first|(with_reducible first|assumption|exact Below.refl _ _|refine je ?_|refine jl ?_)|((with_reducible refine jp ?_ ?_);first|focus(dsimp only;assumption)|focus(simp;done)|focus(dsimp only;omega))|(with_reducible refine bt ?_ (by assumption)))))
    have sw2:=bw2.size
    clear hw2
    go_wp2_with fail
    (with_reducible refine (gB.out _).mono ?_)
    rintro e wx ⟨rfl,rfl⟩
    go_wp2_with fail
    (with_reducible refine (gI.out _).mono ?_)
    rintro e wx ⟨rfl,rfl⟩
    go_wp2_with fail
    refine wp_region_in (by kernel_rfl) (by kernel_rfl) ?_
    intro W0_9 hE_9 hN_9
    have bW0_9 : Below w.heap.size w W0_9:=(by rw [hE_9.out];(repeat(first|(with_reducible first|assumption|exact Below.refl _ _|refine je ?_|refine jl ?_)|((with_reducible refine jp ?_ ?_);first|focus(dsimp only;assumption)|focus(simp;done)|focus(dsimp only;omega))|(with_reducible refine bt ?_ (by assumption)))))
    have kk10 : blk W0_9 (w.heap.size) = some #[.int .i64 5,.int .i64 f.fr,.int .i64 f.to_,.int .u64 f.mi,.int .u64 f.yo,.int .u64 f.a,.int .u64 f.b,.int .i64 f.ino,.int .u64 f.isq,.int .i64 f.iof,.int .i64 f.bno,.int .u64 f.bsq,.int .i64 f.bof,.int .i64 f.bde,.int .i64 f.bpr,.int .i64 f.bbo,.int .i64 f.bli,.int .i64 f.bto,.string f.da]:=(by rw [hE_9.out];(apply jt;(focus repeat(first|(with_reducible first|assumption|apply jd|apply js)|((with_reducible apply jo);first|focus(dsimp only;assumption)|focus(simp;done)|focus(dsimp only;omega))|((with_reducible apply jn);first|with_reducible rfl|focus(simp;done)|focus(simp;omega))|(with_reducible apply ja)|((with_reducible apply jb);with_reducible assumption)));rfl))
    clear kk8 kn8
    have kn10:=calm_kn kk10
    clear hE_9
    repeat (go_big_quiet_step ((first|(go_at_call 49;(with_reducible refine Class.go _ (c8.out _)))|(go_at_call 49;(with_reducible refine Class.go _ (c9.out _)))|(go_at_call 49;(with_reducible refine Class.go _ (c10.out _))))))
    refine wpQuiet_nil ?_
    rintro _ ⟨x_9,rfl⟩
    have hx_9 : Calm W0_9 x_9.wd:=x_9.ok
    have bw3 : Below w.heap.size w x_9.wd:=bt bW0_9 hx_9
    clear kn10;replace kk10:=blk_below hx_9 kk10;have kn10:=kn kk10
    clear hx_9 bW0_9 hN_9 bw2
    generalize x_9.wd = w3 at *
    have sw3:=bw3.size
    go_wp2
    go_ret
    exact ⟨(congrArg Ending.returned Fin.out).symm,by (repeat(first|(with_reducible first|assumption|exact Below.refl _ _|refine je ?_|refine jl ?_)|((with_reducible refine jp ?_ ?_);first|focus(dsimp only;assumption)|focus(simp;done)|focus(dsimp only;omega))|(with_reducible refine bt ?_ (by assumption))))⟩
  · have gB:=Lib.hid (fun w => refHasB_any 6 w)
    have gI:=Lib.hid (fun w => refHasID_any 6 w)
    rw [show hasB 6 = true by decide] at gB
    rw [show hasI 6 = true by decide] at gI
    have hC:=hH.out
    have kf : blk w1 w.heap.size = some #[.int .i64 6,.int .i64 f.fr,.int .i64 f.to_,.int .u64 f.mi,.int .u64 f.yo,.int .u64 f.a,.int .u64 f.b,.int .i64 f.ino,.int .u64 f.isq,.int .i64 f.iof,.int .i64 f.bno,.int .u64 f.bsq,.int .i64 f.bof,.int .i64 f.bde,.int .i64 f.bpr,.int .i64 f.bbo,.int .i64 f.bli,.int .i64 f.bto,.string f.da]:=(by rw [kf,hk])
    replace nf:=kn kf
    obtain ⟨p5,y5,z5,q5,c5⟩:=rput_str f.a (by have:=hn.a;omega) (by omega)
    replace c5:=Lib.hid c5
    obtain ⟨p6,y6,z6,q6,c6⟩:=rput_str f.b (by have:=hn.b;omega) (by omega)
    replace c6:=Lib.hid c6
    have hid0:=hbc
    unfold bcF at hid0
    rw [if_neg (by omega),if_pos (by omega)] at hid0
    obtain ⟨i1,i2,i3,i4,i5⟩ : okI f.ino f.isq f.iof:=(by rcases idC_cases f.ino f.isq f.iof with h|h;exact h.2;exact absurd (h.1.symm.trans hid0) (by decide))
    obtain ⟨p8,y8,z8,q8,c8⟩:=rput_str f.ino (by omega) (by omega)
    obtain ⟨p9,y9,z9,q9,c9⟩:=rput_str f.isq (by have:=hn.isq;omega) (by omega)
    obtain ⟨p10,y10,z10,q10,c10⟩:=rput_str f.iof (by omega) (by omega)
    replace c8:=Lib.hid c8;replace c9:=Lib.hid c9;replace c10:=Lib.hid c10
    clear hid0
    have fin : bstr (bodyF f) = .string (((((PRE ++ p5) ++ p6) ++ p8) ++ p9) ++ p10):=by
      refine (vstr ?_).symm
      simp [bodyF,hk,hpre.out,y5,y6,y8,y9,y10]
    rw [HR.out] at fin
    have Fin:=Lib.hid fin
    have Hk:=Lib.hid hk
    clear fin HR hk hC hH hbc r9 r10 r11 r12 hn HN q0 hpre  y5 y6 y8 y9 y10 i1 i2 i3 i4 i5
    go_wp2_with fail
    (with_reducible refine (c5.out _).mono ?_)
    rintro e w2 ⟨rfl,hw2⟩
    have kk11 : blk w2 (w.heap.size) = some #[.int .i64 6,.int .i64 f.fr,.int .i64 f.to_,.int .u64 f.mi,.int .u64 f.yo,.int .u64 f.a,.int .u64 f.b,.int .i64 f.ino,.int .u64 f.isq,.int .i64 f.iof,.int .i64 f.bno,.int .u64 f.bsq,.int .i64 f.bof,.int .i64 f.bde,.int .i64 f.bpr,.int .i64 f.bbo,.int .i64 f.bli,.int .i64 f.bto,.string f.da]:=(by (apply jt;(focus repeat(first|(with_reducible first|assumption|apply jd|apply js)|((with_reducible apply jo);first|focus(dsimp only;assumption)|focus(simp;done)|focus(dsimp only;omega))|((with_reducible apply jn);first|with_reducible rfl|focus(simp;done)|focus(simp;omega))|(with_reducible apply ja)|((with_reducible apply jb);with_reducible assumption)));rfl))
    have kn11:=kn kk11
    have bw2 : Below w.heap.size w w2:=(by (repeat(first|(with_reducible first|assumption|exact Below.refl _ _|refine je ?_|refine jl ?_)|((with_reducible refine jp ?_ ?_);first|focus(dsimp only;assumption)|focus(simp;done)|focus(dsimp only;omega))|(with_reducible refine bt ?_ (by assumption)))))
    have sw2:=bw2.size
    clear hw2
    go_wp2_with fail
    (with_reducible refine (gB.out _).mono ?_)
    rintro e wx ⟨rfl,rfl⟩
    go_wp2_with fail
    (with_reducible refine (c6.out _).mono ?_)
    rintro e w3 ⟨rfl,hw3⟩
    have kk12 : blk w3 (w.heap.size) = some #[.int .i64 6,.int .i64 f.fr,.int .i64 f.to_,.int .u64 f.mi,.int .u64 f.yo,.int .u64 f.a,.int .u64 f.b,.int .i64 f.ino,.int .u64 f.isq,.int .i64 f.iof,.int .i64 f.bno,.int .u64 f.bsq,.int .i64 f.bof,.int .i64 f.bde,.int .i64 f.bpr,.int .i64 f.bbo,.int .i64 f.bli,.int .i64 f.bto,.string f.da]:=(by (apply jt;(focus repeat(first|(with_reducible first|assumption|apply jd|apply js)|((with_reducible apply jo);first|focus(dsimp only;assumption)|focus(simp;done)|focus(dsimp only;omega))|((with_reducible apply jn);first|with_reducible rfl|focus(simp;done)|focus(simp;omega))|(with_reducible apply ja)|((with_reducible apply jb);with_reducible assumption)));rfl))
    clear kk11 kn11
    have kn12:=kn kk12
    have bw3 : Below w.heap.size w w3:=(by (repeat(first|(with_reducible first|assumption|exact Below.refl _ _|refine je ?_|refine jl ?_)|((with_reducible refine jp ?_ ?_);first|focus(dsimp only;assumption)|focus(simp;done)|focus(dsimp only;omega))|(with_reducible refine bt ?_ (by assumption)))))
    have sw3:=bw3.size
    clear hw3 bw2
    go_wp2_with fail
    (with_reducible refine (gI.out _).mono ?_)
    rintro e wx ⟨rfl,rfl⟩
    go_wp2_with fail
    refine wp_region_in (by kernel_rfl) (by kernel_rfl) ?_
    intro W0_13 hE_13 hN_13
    have bW0_13 : Below w.heap.size w W0_13:=(by rw [hE_13.out];(repeat(first|(with_reducible first|assumption|exact Below.refl _ _|refine je ?_|refine jl ?_)|((with_reducible refine jp ?_ ?_);first|focus(dsimp only;assumption)|focus(simp;done)|focus(dsimp only;omega))|(with_reducible refine bt ?_ (by assumption)))))
    have kk14 : blk W0_13 (w.heap.size) = some #[.int .i64 6,.int .i64 f.fr,.int .i64 f.to_,.int .u64 f.mi,.int .u64 f.yo,.int .u64 f.a,.int .u64 f.b,.int .i64 f.ino,.int .u64 f.isq,.int .i64 f.iof,.int .i64 f.bno,.int .u64 f.bsq,.int .i64 f.bof,.int .i64 f.bde,.int .i64 f.bpr,.int .i64 f.bbo,.int .i64 f.bli,.int .i64 f.bto,.string f.da]:=(by rw [hE_13.out];(apply jt;(focus repeat(first|(with_reducible first|assumption|apply jd|apply js)|((with_reducible apply jo);first|focus(dsimp only;assumption)|focus(simp;done)|focus(dsimp only;omega))|((with_reducible apply jn);first|with_reducible rfl|focus(simp;done)|focus(simp;omega))|(with_reducible apply ja)|((with_reducible apply jb);with_reducible assumption)));rfl))
    clear kk12 kn12
    have kn14:=calm_kn kk14
    clear hE_13
    repeat (go_big_quiet_step ((first|(go_at_call 49;(with_reducible refine Class.go _ (c8.out _)))|(go_at_call 49;(with_reducible refine Class.go _ (c9.out _)))|(go_at_call 49;(with_reducible refine Class.go _ (c10.out _))))))
    refine wpQuiet_nil ?_
    rintro _ ⟨x_13,rfl⟩
    have hx_13 : Calm W0_13 x_13.wd:=x_13.ok
    have bw4 : Below w.heap.size w x_13.wd:=bt bW0_13 hx_13
    clear kn14;replace kk14:=blk_below hx_13 kk14;have kn14:=kn kk14
    clear hx_13 bW0_13 hN_13 bw3
    generalize x_13.wd = w4 at *
    have sw4:=bw4.size
    go_wp2
    go_ret
    exact ⟨(congrArg Ending.returned Fin.out).symm,by (repeat(first|(with_reducible first|assumption|exact Below.refl _ _|refine je ?_|refine jl ?_)|((with_reducible refine jp ?_ ?_);first|focus(dsimp only;assumption)|focus(simp;done)|focus(dsimp only;omega))|(with_reducible refine bt ?_ (by assumption))))⟩
  · have gB:=Lib.hid (fun w => refHasB_any 7 w)
    have gI:=Lib.hid (fun w => refHasID_any 7 w)
    rw [show hasB 7 = false by decide] at gB
    rw [show hasI 7 = false by decide] at gI
    have hC:=hH.out
    have kf : blk w1 w.heap.size = some #[.int .i64 7,.int .i64 f.fr,.int .i64 f.to_,.int .u64 f.mi,.int .u64 f.yo,.int .u64 f.a,.int .u64 f.b,.int .i64 f.ino,.int .u64 f.isq,.int .i64 f.iof,.int .i64 f.bno,.int .u64 f.bsq,.int .i64 f.bof,.int .i64 f.bde,.int .i64 f.bpr,.int .i64 f.bbo,.int .i64 f.bli,.int .i64 f.bto,.string f.da]:=(by rw [kf,hk])
    replace nf:=kn kf
    obtain ⟨p5,y5,z5,q5,c5⟩:=rput_str f.a (by have:=hn.a;omega) (by omega)
    replace c5:=Lib.hid c5
    have fin : bstr (bodyF f) = .string (PRE ++ p5):=by
      refine (vstr ?_).symm
      simp [bodyF,hk,hpre.out,y5]
    rw [HR.out] at fin
    have Fin:=Lib.hid fin
    have Hk:=Lib.hid hk
    clear fin HR hk hC hH hbc r9 r10 r11 r12 hn HN q0 hpre  y5 
    go_wp2_with fail
    (with_reducible refine (c5.out _).mono ?_)
    rintro e w2 ⟨rfl,hw2⟩
    have kk15 : blk w2 (w.heap.size) = some #[.int .i64 7,.int .i64 f.fr,.int .i64 f.to_,.int .u64 f.mi,.int .u64 f.yo,.int .u64 f.a,.int .u64 f.b,.int .i64 f.ino,.int .u64 f.isq,.int .i64 f.iof,.int .i64 f.bno,.int .u64 f.bsq,.int .i64 f.bof,.int .i64 f.bde,.int .i64 f.bpr,.int .i64 f.bbo,.int .i64 f.bli,.int .i64 f.bto,.string f.da]:=(by (apply jt;(focus repeat(first|(with_reducible first|assumption|apply jd|apply js)|((with_reducible apply jo);first|focus(dsimp only;assumption)|focus(simp;done)|focus(dsimp only;omega))|((with_reducible apply jn);first|with_reducible rfl|focus(simp;done)|focus(simp;omega))|(with_reducible apply ja)|((with_reducible apply jb);with_reducible assumption)));rfl))
    have kn15:=kn kk15
    have bw2 : Below w.heap.size w w2:=(by (repeat(first|(with_reducible first|assumption|exact Below.refl _ _|refine je ?_|refine jl ?_)|((with_reducible refine jp ?_ ?_);first|focus(dsimp only;assumption)|focus(simp;done)|focus(dsimp only;omega))|(with_reducible refine bt ?_ (by assumption)))))
    have sw2:=bw2.size
    clear hw2
    go_wp2_with fail
    (with_reducible refine (gB.out _).mono ?_)
    rintro e wx ⟨rfl,rfl⟩
    go_wp2_with fail
    (with_reducible refine (gI.out _).mono ?_)
    rintro e wx ⟨rfl,rfl⟩
    go_wp2
    go_ret
    exact ⟨(congrArg Ending.returned Fin.out).symm,by (repeat(first|(with_reducible first|assumption|exact Below.refl _ _|refine je ?_|refine jl ?_)|((with_reducible refine jp ?_ ?_);first|focus(dsimp only;assumption)|focus(simp;done)|focus(dsimp only;omega))|(with_reducible refine bt ?_ (by assumption))))⟩
end Go.Proofs.YtaiofjffoboicaaGreatDoor
