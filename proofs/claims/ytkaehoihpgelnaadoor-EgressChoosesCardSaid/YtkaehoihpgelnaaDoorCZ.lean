/- Parts of a proof, printed by a program of mine out of my texts: EgRCho, EgRCh2. -/
import Derived.Test.YtkaehoihpgelnaaDoorCF
import Derived.Test.YtkaehoihpgelnaaDoorCG
import Derived.Test.YtkaehoihpgelnaaDoorCT
import Derived.Test.YtkaehoihpgelnaaDoorCX
set_option linter.unusedSimpArgs false
set_option linter.unusedVariables false
set_option maxRecDepth 100000
namespace Go.Proofs.YtkaehoihpgelnaaDoor
open Go.RowKit
def RetRH (S : Nat → Prop) (x : Wy) (w : World) (e : Ending) (w' : World) : Prop:=Below w.heap.size w w' ∧
  (((chooseS x).2.2 ≠ 0 ∧ ∃ aw cw ad cd ap cp,e = .returned (.tuple #[.int .i64 (-1),.agg #[.slice aw 3 cw,.int .i64 x.dr.q,.slice ad 3 cd,.int .i64 x.dr.t,.slice ap 3 cp]])) ∨
   ((chooseS x).2.2 = 0 ∧ ∃ c,e = .returned (.tuple #[.int .i64 (chooseS x).1,.agg c]) ∧ ExitS S w' c (chooseS x).2.1.dr (chooseS x).2.1.ps))
theorem calm_of {T W0 W : World} (h : W0 = T.drew ∨ W0 = T) (hc : Calm W0 W) : Below T.heap.size T W:=by
  rcases h with rfl|rfl
  · exact (Below.refl _ _).drew.trans hc
  · exact hc
theorem build_runW {P : Program} {o : Oper} {a : Act} (t : TypeId) (parts : Array (Nat × Operand)) (cells : Array Value) (ho : o.op = .build t parts)
    (hc : P.built t (parts.map fun (i,x) => (i,a.eval x)).toList = some cells) (W : World) : (execOp a.eval o).run P W = .ok (.value (.agg cells)) W:=by
  unfold execOp
  simp only [ho,Sem.run_bind,run_build W t _ cells hc,Result.andThen_ok]
  rfl
theorem load_cellI {P : Program} {o : Oper} {a : Act} (x : Operand) (p : Addr) (v : Int) (ho : o.op = .load 3 x) (hx : a.eval x = .pointer (some p)) (W : World) (hc : W.cell? p = some (.int .i64 v)) (hP : P = Tryd.prog:=by rfl) : (execOp a.eval o).run P W = .ok (.value (.int .i64 v)) W:=by
  subst hP
  unfold execOp
  simp only [ho,hx]
  go_simp
set_option maxHeartbeats 6400000 in
theorem rcho_bad (aw : Option Addr) (cw : Nat) (ad : Option Addr) (cd : Nat) (ap : Option Addr) (cp : Nat) (al : Option Addr) (cl : Nat) (w0 w1 w2 d0 d1 d2 q t : Int) (ps : List Int) (l : List Bn) (tk : List Bool) (tb : Nat) (us bu by' : Int) (x : Wy) (hx : x = refW ⟨[w0,w1,w2],[d0,d1,d2],q,t⟩ ps l tk us bu by')
  (hlen : l.length ≤ 20) (hls : lstE l = 0) (hsq : ∀ y ∈ l,0 ≤ y.sq) (htk : tk.length = l.length) (hg : GdAll x) (w : World) (hw : SRow ic 1 w aw cw [w0,w1,w2]) (hdr : SRow ic 1 w ad cd [d0,d1,d2]) (hp : SRow ic 1 w ap cp ps) (hrow : SRow bn 9 w al cl l) (ht : blk w tb = some (cellB tk)) (hne : linD x.dr (headsS x) ≠ 0) :
  Calls Tryd.prog 58 #[.agg #[.slice aw 3 cw,.int .i64 q,.slice ad 3 cd,.int .i64 t,.slice ap 3 cp],.slice al l.length cl,.slice (some ⟨tb,0,none⟩) l.length l.length,.int .u64 us,.int .i64 bu,.int .i64 by'] w fun e w' => Below w.heap.size w w' ∧ e = .returned (.tuple #[.int .i64 (-1),.agg #[.slice aw 3 cw,.int .i64 q,.slice ad 3 cd,.int .i64 t,.slice ap 3 cp]]):=by
 have hb:=fun y hy => bcode_facts (lstE_codes hls y hy)
 have hxl : x.l = l:=by rw [hx];rfl
 have hxz : x.sz = sizesE l:=by rw [hx];rfl
 have hxd : x.dr = ⟨[w0,w1,w2],[d0,d1,d2],q,t⟩:=by rw [hx];rfl
 have hxp : x.ps = ps:=by rw [hx];rfl
 have hxu : x.us = us:=by rw [hx];rfl
 have hxb : x.bu = bu:=by rw [hx];rfl
 have hxy : x.by' = by':=by rw [hx];rfl
 have hxq : ∀ p : Int,0 ≤ p → p ≤ 2 → quA x p = queT l tk p l.length:=fun p h0 h2 => by rw [hx];exact refW_qu h0 h2
 have hp3 : ps.length = 3:=by rw [← hxp];exact hg.gd.ps3
 have hokD : okD ⟨[w0,w1,w2],[d0,d1,d2],q,t⟩:=by rw [← hxd];exact hg.gd.dr
 obtain ⟨bp,op,rfl,lbp,_⟩:=hp.2.2.2 (by omega)
 have GQ:=Lib.hid (fun W (hB : Below w.heap.size w W) => rqueues_any al cl l (by omega) (fun y hy => (hb y hy).1) (fun y hy => (hb y hy).2.1) tk tb l.length htk W (hrow.below hB) (blk_below hB ht))
 have GC : Hid (∀ W ob,Below w.heap.size w W → QAt W ob (queT l tk 0 l.length) (queT l tk 1 l.length) (queT l tk 2 l.length) → Calls Tryd.prog 57 #[.agg #[.slice aw 3 cw,.int .i64 q,.slice ad 3 cd,.int .i64 t,.slice (some ⟨bp,op,none⟩) 3 cp],.slice al l.length cl,.slice (some ⟨ob,0,none⟩) 3 3,.int .u64 us,.int .i64 bu,.int .i64 by'] W fun e w' => RetRC x W e w'):=Lib.hid (fun W ob hB hq => by
  have h9:=rcand_any x hg.gd (by rw [hxz,hxl]) (fun y hy => (hb y (by rw [← hxl];exact hy)).2.2.1) (fun y hy => hsq y (by rw [← hxl];exact hy)) hg.us hg.bu aw cw ad cd (some ⟨bp,op,none⟩) cp al cl ob W (by rw [hxp];exact hp.below hB) (by rw [hxl];exact hrow.below hB) (by rw [hxq 0 (by omega) (by omega),hxq 1 (by omega) (by omega),hxq 2 (by omega) (by omega)];exact hq)
  rw [hxd,hxl,hxu,hxb,hxy] at h9
  exact h9)
 unfold RetRC at GC
 obtain ⟨ca0,hc0⟩ : ∃ c,candA x 0 = c:=⟨_,rfl⟩
 obtain ⟨ca1,hc1⟩ : ∃ c,candA x 1 = c:=⟨_,rfl⟩
 obtain ⟨ca2,hc2⟩ : ∃ c,candA x 2 = c:=⟨_,rfl⟩
 rw [hc0,hc1,hc2] at GC
 have HC:=Lib.hid (And.intro hc0 (And.intro hc1 hc2))
 have GM : Hid (∀ k m : Nat,k < 3 → (m : Int) = candA x k → m < l.length):=Lib.hid (fun k m hk e => by
  rcases cand_pos hg.gd (p:=(k : Int)) (by omega) (by omega) with h1|⟨h1,_⟩
  ·omega
  ·obtain ⟨n,hn,hl,_⟩:=hg.gd.mem k (by omega) (by omega) _ h1
   rw [hxl] at hl;omega)
 have GN1 : Hid (∀ k : Nat,k < 3 → candA x k < 0 → candA x k = -1):=Lib.hid (fun k hk e => by
  rcases cand_pos hg.gd (p:=(k : Int)) (by omega) (by omega) with h1|⟨_,_,h1,_⟩
  ·exact h1
  ·omega)
 have HSZ : Hid (∀ m (h : m < l.length),1 ≤ szB l[m] ∧ szB l[m] ≤ 1200):=Lib.hid (fun m h => (hb _ (List.getElem_mem h)).2.2.2)
 have HDA:=Lib.hid (fun y hy => (hb y hy).2.2.1);have HSQ:=Lib.hid hsq;have HXZ:=Lib.hid hxz;have HL:=Lib.hid hrow;have BPL:=Lib.hid lbp
 have hcp:=hp.1
 rw [hp3] at hcp
 have hlc:=hrow.1
 have hlm:=hrow.2.1
 unfold maxLen at hlm
 have NX : Hid (∀ W hb,Below w.heap.size w W → blk W hb = some (rowC ic (hF x 3) ++ []).toArray → Calls Tryd.prog 76 #[.agg #[.slice aw 3 cw,.int .i64 q,.slice ad 3 cd,.int .i64 t],.slice (some ⟨hb,0,none⟩) 3 3] W fun e w' => e = .returned (.tuple #[.int .i64 0,.agg #[.slice none 0 0,.int .i64 0,.slice none 0 0,.int .i64 0],.int .i64 (linD x.dr (headsS x))]) ∧ Below W.heap.size W w'):=Lib.hid (fun W hb hB hf => by
  refine (rnext_any aw cw ad cd w0 w1 w2 d0 d1 d2 q t (headA x 0) (headA x 1) (headA x 2) hb W (hw.below hB) (hdr.below hB) hf hokD).mono ?_
  rintro e w' ⟨h1,⟨_,h2⟩|⟨h2,_⟩⟩
  ·rw [hxd];exact ⟨h2,h1⟩
  ·rw [hxd] at hne;exact absurd h2 hne)
 obtain ⟨err,he⟩ : ∃ e,linD x.dr (headsS x) = e:=⟨_,rfl⟩
 rw [he] at NX hne
 have t1 : (err != 0) = true:=by simpa using hne
 obtain ⟨nl,hnl⟩ : ∃ n,n = l.length:=⟨_,rfl⟩
 rw [← hnl] at GC GQ hlc ⊢
 have HNL:=Lib.hid hnl
 clear hnl he hne hxl hxz hxd hxp hxu hxb hxy hxq hokD hp3 hb hx hls hsq htk hg hw hdr hp hrow ht lbp hc0 hc1 hc2
 go_enter Tryd.func58,Tryd.ntmps58
 obtain ⟨V0,e0⟩ : ∃ v,v = (w.alloc (.cells #[.slice aw 3 cw,.int .i64 q,.slice ad 3 cd,.int .i64 t,.slice (some ⟨bp,op,none⟩) 3 cp] 28)).alloc (.cells #[.slice none 0 0,.int .i64 0,.slice none 0 0,.int .i64 0,.slice none 0 0] 28):=⟨_,rfl⟩
 have k0 : blk V0 w.heap.size = some #[.slice aw 3 cw,.int .i64 q,.slice ad 3 cd,.int .i64 t,.slice (some ⟨bp,op,none⟩) 3 cp]:=(by rw [e0];exact blk_alloc (blk_alloc_new _ _ _ rfl) _)
 have z0 : blk V0 (w.heap.size + 1) = some #[.slice none 0 0,.int .i64 0,.slice none 0 0,.int .i64 0,.slice none 0 0]:=(by rw [e0];exact blk_alloc_new _ _ _ (by simp))
 have b0 : Below w.heap.size w V0:=(by rw [e0];exact ((Below.refl _ _).alloc (Nat.le_refl _) _).alloc (by simp) _)
 go_upto_region 1 with fail
 rw [← e0]
 clear e0
 go_upto_region 2 with (go_at_call 48;(with_reducible refine (GQ.out _ b0).mono ?_);rintro e u1 ⟨ob,rfl,lob,hq,h1⟩)
 have b1:=bt b0 h1
 have k1:=blk_below h1 k0
 have z1:=blk_below h1 z0
 have HQ1:=Lib.hid hq.q
 clear hq h1 k0 z0 b0 lob
 have n1:=kn k1
 go_upto_region 3 with (go_at_call 57;(with_reducible refine (GC.out _ _ b1 HQ1.out).mono ?_);rintro e u2 ⟨fb,rfl,lfb,kf,h2⟩)
 have b2:=bt b1 h2
 have k2:=blk_below h2 k1
 have z2:=blk_below h2 z1
 have HQ:=Lib.hid (HQ1.out.below h2)
 have NFB:=Lib.hid (show w.heap.size + 1 < fb from Nat.lt_of_lt_of_le (blk_lt z1) lfb)
 clear HQ1 h2 k1 z1 b1 n1 lfb
 go_upto_region 4 with fail
 obtain ⟨hb,ehb⟩ : ∃ v,v = u2.heap.size:=⟨_,rfl⟩
 obtain ⟨V,eV⟩ : ∃ v,v = u2.alloc (.cells #[.int .i64 0,.int .i64 0,.int .i64 0] 3):=⟨_,rfl⟩
 have mV : Below u2.heap.size u2 V:=(by rw [eV];exact (Below.refl _ _).alloc (Nat.le_refl _) _)
 have hV : blk V hb = some (rowC ic (hF x 0) ++ []).toArray:=(by rw [eV];exact blk_alloc_new _ _ _ ehb)
 have HV:=Lib.hid (And.intro mV hV)
 have LHB:=Lib.hid (Nat.le_of_eq ehb.symm)
 have gz:=blk_lt z2
 have gf:=blk_lt kf
 rw [← eV,← ehb]
 clear eV mV hV ehb
 go_wp2
 have HK2:=Lib.hid (And.intro k2 (And.intro z2 kf))
 have B2:=Lib.hid b2
 clear k2 z2 kf b2
 go_loopw [17] (fun p wr => ∃ k : Nat,p = .int .i64 k ∧ k ≤ 3 ∧ Hid (Below u2.heap.size u2 wr ∧ blk wr hb = some (rowC ic (hF x k) ++ []).toArray)) (fun p _ => 3 - (intOf p).toNat)
 case atStart => exact ⟨0,rfl,by omega,HV⟩
 case round =>
  clear HV
  obtain ⟨k,rfl,hk,HK⟩:=hrel
  by_cases hk3 : k < 3
  ·have hkz : (k : Int) < 3:=by omega
   have dk : decide ((k : Int) < 3) = true:=decide_eq_true hkz
   obtain ⟨ck,hck⟩ : ∃ c,c = candA x k:=⟨_,rfl⟩
   have cfk : wr.cell? ⟨fb,k,none⟩ = some (.int .i64 ck):=(by rw [blk_cell (blk_below HK.out.1 HK2.out.2.2) k,hck];match k,hk3 with|0,_ => rw [← HC.out.1];rfl|1,_ => rw [← HC.out.2.1];rfl|2,_ => rw [← HC.out.2.2];rfl)
   have HCK:=Lib.hid hck
   clear hck
   by_cases hc0 : 0 ≤ ck
   ·have d0 : decide (0 ≤ ck) = true:=decide_eq_true hc0
    obtain ⟨m,rfl⟩ : ∃ m : Nat,ck = m:=⟨ck.toNat,by omega⟩
    have hml : m < l.length:=GM.out k m hk3 HCK.out
    have hmz : (m : Int) < (nl : Int):=by have:=HNL.out;omega
    obtain ⟨y,hy⟩ : ∃ y,y = l[m]:=⟨_,rfl⟩
    have gs:=fun W => rsize_any y (HDA.out y (by rw [hy];exact List.getElem_mem _)) (HSQ.out y (by rw [hy];exact List.getElem_mem _)) (by have:=HSZ.out m hml;rw [← hy] at this;omega) W
    obtain ⟨s,hs⟩ : ∃ s,szB y = s:=⟨_,rfl⟩
    rw [hs] at gs
    have GS:=Lib.hid gs
    have s1 : 1 ≤ s ∧ s ≤ 1200:=by have:=HSZ.out m hml;rw [← hy,hs] at this;exact this
    have w1 : IntKind.i64.wrap s = s:=IntWalk.i64_in _ (by omega)
    have HH : Hid (headA x k = s):=Lib.hid (by unfold headA;rw [← HCK.out,if_neg (by omega),HXZ.out,sizesE_at l m hml,← hy,hs])
    obtain ⟨bl,ol,hal,lbl,hcs⟩:=HL.out.2.2.2 (by omega)
    subst hal
    have hr:=hcs m hml
    rw [← hy] at hr
    have HRY:=Lib.hid hr
    have LBL:=Lib.hid lbl
    clear hcs hr gs hs hy hml lbl
    go_upto_region 8 with fail
    refine wp_region_tail0 8 ?_
    intro W0 hE hN
    have mW : Below u2.heap.size u2 W0:=(by rw [hE.out];exact HK.out.1)
    have hW : blk W0 hb = some (rowC ic (hF x k) ++ []).toArray:=(by rw [hE.out];exact HK.out.2)
    have n1:=calm_cellR (b:=fb) (o:=k) (W0:=W0) (Nat.lt_of_lt_of_le gf mW.size) (by rw [hE.out];exact cfk)
    have hrW:=range_below LBL.out HRY.out (bt B2.out mW)
    have lbW : bl < W0.heap.size:=Nat.lt_of_lt_of_le LBL.out (bt B2.out mW).size
    clear hE HK cfk
    simp only [List.take_succ_cons,List.take_zero,List.drop_succ_cons,List.drop_zero]
    repeat (go_big_quiet_step (fail))
    refine wpQuiet_nil ?_
    rintro _ ⟨x',rfl⟩
    have hr1:=range_below lbW hrW x'.ok
    have m3:=bt mW x'.ok
    have h3:=blk_below x'.ok hW
    obtain ⟨u,hu⟩ : ∃ u,u = x'.wd:=⟨_,rfl⟩
    rw [← hu] at hr1 m3 h3 ⊢
    clear hu x' hN hrW mW lbW n1 hW
    refine wpList_load_mid rfl 38 (.tmp 49) rfl bl (ol + m * 9) rfl [.int .i64 y.no,.int .u64 y.sq,.int .i64 y.of,.int .i64 y.de,.int .i64 y.pr,.int .i64 y.bo,.int .i64 y.li,.int .i64 y.to,.string y.da] _ hr1 Tryd.underlying38 rfl (by kernel_rfl) ?_
    conv => arg 5;simp [Act.put]
    clear hr1
    go_wp2_with fail
    (with_reducible refine (GS.out _).mono ?_)
    rintro e u4 ⟨rfl,h2⟩
    have m4:=bt m3 h2
    have h4:=blk_below h2 h3
    clear h2 h3 m3 GS
    have fz4:=blk_frozen h4 k
    have NEW : Hid (Below u2.heap.size u2 (u4.setCell ⟨hb,k,none⟩ (.int .i64 s)) ∧ blk (u4.setCell ⟨hb,k,none⟩ (.int .i64 s)) hb = some (rowC ic (hF x (k + 1)) ++ []).toArray):=Lib.hid ⟨m4.setCell LHB.out _,by
     obtain ⟨z9,hz9⟩ : ∃ z,(hF x k)[k]? = some z:=⟨_,List.getElem?_eq_getElem (by simp [hF];omega)⟩
     have h9:=blk_setI (y:=s) hz9 h4
     rw [← HH.out,hF_some hk3] at h9
     rw [HH.out] at h9
     exact h9⟩
    have ch4 : ∃ z,u4.cell? ⟨hb,k,none⟩ = some (.int .i64 z):=(by obtain ⟨z9,hz9⟩ : ∃ z,(hF x k)[k]? = some z:=⟨_,List.getElem?_eq_getElem (by simp [hF];omega)⟩;exact ⟨z9,blk_cellI hz9 h4⟩)
    obtain ⟨z9,ch4⟩:=ch4
    clear m4 h4
    go_wp2
    go_roundw
    case rel => exact ⟨k + 1,by go_num,by omega,NEW⟩
    case measure => simp [intOf];omega
   ·have d0 : decide (0 ≤ ck) = false:=decide_eq_false hc0
    have NEW : Hid (Below u2.heap.size u2 wr ∧ blk wr hb = some (rowC ic (hF x (k + 1)) ++ []).toArray):=Lib.hid ⟨HK.out.1,by
     rw [hF_none hk3 (GN1.out k hk3 (by rw [← HCK.out];omega))]
     exact HK.out.2⟩
    clear HK HCK
    go_wp2
    go_roundw
    case rel => exact ⟨k + 1,by go_num,by omega,NEW⟩
    case measure => simp [intOf];omega
  ·obtain rfl : k = 3:=by omega
   have dk : decide (((3 : Nat) : Int) < 3) = false:=rfl
   have m5:=HK.out.1
   have h5:=HK.out.2
   have k5:=blk_below m5 HK2.out.1
   have n5:=kn k5
   have GN:=Lib.hid (NX.out wr hb (bt B2.out m5) h5)
   clear HK
   go_upto_region 10 with (go_at_call 76;(with_reducible refine (GN.out).mono ?_);rintro e u6 ⟨rfl,h6⟩)
   have m6:=bt m5 h6
   clear h6 m5 h5 k5 n5
   obtain ⟨V6,eV⟩ : ∃ v,v = u6.alloc (.cells #[.slice none 0 0,.int .i64 0,.slice none 0 0,.int .i64 0] 26):=⟨_,rfl⟩
   have m7 : Below u2.heap.size u2 V6:=(by rw [eV];exact m6.alloc m6.size _)
   rw [← eV]
   clear eV m6
   have k7:=blk_below m7 HK2.out.1
   have z7:=blk_below m7 HK2.out.2.1
   have b7:=bt B2.out m7
   clear m7
   go_upto_region 11 with fail
   refine wp_region_held_drew (S:=fun W => ∀ o,W.cell? ⟨w.heap.size,o,none⟩ = (#[.slice aw 3 cw,.int .i64 q,.slice ad 3 cd,.int .i64 t,.slice (some ⟨bp,op,none⟩) 3 cp] : Array Value)[o]?) (by kernel_rfl) (fun o => blk_cell (blk_drew k7) o) (fun hHeld => ?_)
   obtain ⟨d0,ed⟩ : ∃ v,v = V6.drew:=⟨_,rfl⟩
   have kd0 : blk d0 w.heap.size = some #[.slice aw 3 cw,.int .i64 q,.slice ad 3 cd,.int .i64 t,.slice (some ⟨bp,op,none⟩) 3 cp]:=(by rw [ed];exact blk_drew k7)
   have zd0 : blk d0 (w.heap.size + 1) = some #[.slice none 0 0,.int .i64 0,.slice none 0 0,.int .i64 0,.slice none 0 0]:=(by rw [ed];exact blk_drew z7)
   have bd0 : Below w.heap.size w d0:=(by rw [ed];exact b7.drew)
   rw [← ed] at hHeld ⊢
   clear ed k7 z7 b7
   refine jK (v:=?_) 0 ?_ ?_
   rotate_left;focus(intro W h;(try dsimp only at h);go_simp;(try with_reducible rfl));(try simp only[Act.put,jA,jB,jC,jD,jE,jF])
   refine jK (v:=?_) 1 ?_ ?_
   rotate_left;focus(intro W h;(try dsimp only at h);go_simp;(try with_reducible rfl));(try simp only[Act.put,jA,jB,jC,jD,jE,jF])
   refine jR 2 (fun K hK => ?_)
   refine wp_store_midB 28 (.tmp 13) (.tmp 64) (w.heap.size + 1) 0 #[.slice none 0 0,.int .i64 0,.slice none 0 0,.int .i64 0,.slice none 0 0] #[.slice aw 3 cw,.int .i64 q,.slice ad 3 cd,.int .i64 t,.slice (some ⟨bp,op,none⟩) 3 cp] #[.slice aw 3 cw,.int .i64 q,.slice ad 3 cd,.int .i64 t,.slice (some ⟨bp,op,none⟩) 3 cp] zd0 rfl rfl rfl (by simp) (by kernel_rfl) (by kernel_rfl) (by kernel_rfl) ?_
   intro T kT sT BT zT
   have bT:=BT _ _ (Nat.le_succ w.heap.size) bd0
   have kkT:=blk_same kd0 (show w.heap.size ≠ w.heap.size + 1 by omega) sT
   clear BT zT
   refine hK.out _ _ (fun o => blk_cell kkT o) (fun _ => ?_)
   clear hK K
   (try simp only[Act.put,jA,jB,jC,jD,jE,jF])
   refine wpAnyH_done (by kernel_rfl) ?_ _
   go_wp2
   refine ret_blk (b:=w.heap.size + 1) (c:=#[.slice aw 3 cw,.int .i64 q,.slice ad 3 cd,.int .i64 t,.slice (some ⟨bp,op,none⟩) 3 cp]) (v:=.tuple #[.int .i64 (-1),.agg #[.slice aw 3 cw,.int .i64 q,.slice ad 3 cd,.int .i64 t,.slice (some ⟨bp,op,none⟩) 3 cp]]) kT (fun W' hc => by simp [results,Tryd.results58,go_sem,hc]) rfl ?_
   exact ⟨bT,rfl⟩
set_option maxHeartbeats 12800000 in
theorem rcho_go (aw : Option Addr) (cw : Nat) (ad : Option Addr) (cd : Nat) (ap : Option Addr) (cp : Nat) (al : Option Addr) (cl : Nat) (w0 w1 w2 d0 d1 d2 q t : Int) (ps : List Int) (l : List Bn) (tk : List Bool) (tb : Nat) (us bu by' : Int) (x : Wy) (hx : x = refW ⟨[w0,w1,w2],[d0,d1,d2],q,t⟩ ps l tk us bu by')
  (hlen : l.length ≤ 20) (hls : lstE l = 0) (hsq : ∀ y ∈ l,0 ≤ y.sq) (htk : tk.length = l.length) (hg : GdAll x) (w : World) (hw : SRow ic 1 w aw cw [w0,w1,w2]) (hdr : SRow ic 1 w ad cd [d0,d1,d2]) (hp : SRow ic 1 w ap cp ps) (hrow : SRow bn 9 w al cl l) (ht : blk w tb = some (cellB tk)) (S : Nat → Prop) (hS : ∀ b,S b → b < w.heap.size) (hz : linD x.dr (headsS x) = 0) :
  Calls Tryd.prog 58 #[.agg #[.slice aw 3 cw,.int .i64 q,.slice ad 3 cd,.int .i64 t,.slice ap 3 cp],.slice al l.length cl,.slice (some ⟨tb,0,none⟩) l.length l.length,.int .u64 us,.int .i64 bu,.int .i64 by'] w fun e w' => RetRH S x w e w':=by
 have hb:=fun y hy => bcode_facts (lstE_codes hls y hy)
 have hxl : x.l = l:=by rw [hx];rfl
 have hxz : x.sz = sizesE l:=by rw [hx];rfl
 have hxd : x.dr = ⟨[w0,w1,w2],[d0,d1,d2],q,t⟩:=by rw [hx];rfl
 have hxp : x.ps = ps:=by rw [hx];rfl
 have hxu : x.us = us:=by rw [hx];rfl
 have hxb : x.bu = bu:=by rw [hx];rfl
 have hxy : x.by' = by':=by rw [hx];rfl
 have hxq : ∀ p : Int,0 ≤ p → p ≤ 2 → quA x p = queT l tk p l.length:=fun p h0 h2 => by rw [hx];exact refW_qu h0 h2
 have hp3 : ps.length = 3:=by rw [← hxp];exact hg.gd.ps3
 have hokD : okD ⟨[w0,w1,w2],[d0,d1,d2],q,t⟩:=by rw [← hxd];exact hg.gd.dr
 obtain ⟨bp,op,rfl,lbp,_⟩:=hp.2.2.2 (by omega)
 have GQ:=Lib.hid (fun W (hB : Below w.heap.size w W) => rqueues_any al cl l (by omega) (fun y hy => (hb y hy).1) (fun y hy => (hb y hy).2.1) tk tb l.length htk W (hrow.below hB) (blk_below hB ht))
 have GC : Hid (∀ W ob,Below w.heap.size w W → QAt W ob (queT l tk 0 l.length) (queT l tk 1 l.length) (queT l tk 2 l.length) → Calls Tryd.prog 57 #[.agg #[.slice aw 3 cw,.int .i64 q,.slice ad 3 cd,.int .i64 t,.slice (some ⟨bp,op,none⟩) 3 cp],.slice al l.length cl,.slice (some ⟨ob,0,none⟩) 3 3,.int .u64 us,.int .i64 bu,.int .i64 by'] W fun e w' => RetRC x W e w'):=Lib.hid (fun W ob hB hq => by
  have h9:=rcand_any x hg.gd (by rw [hxz,hxl]) (fun y hy => (hb y (by rw [← hxl];exact hy)).2.2.1) (fun y hy => hsq y (by rw [← hxl];exact hy)) hg.us hg.bu aw cw ad cd (some ⟨bp,op,none⟩) cp al cl ob W (by rw [hxp];exact hp.below hB) (by rw [hxl];exact hrow.below hB) (by rw [hxq 0 (by omega) (by omega),hxq 1 (by omega) (by omega),hxq 2 (by omega) (by omega)];exact hq)
  rw [hxd,hxl,hxu,hxb,hxy] at h9
  exact h9)
 unfold RetRC at GC
 obtain ⟨ca0,hc0⟩ : ∃ c,candA x 0 = c:=⟨_,rfl⟩
 obtain ⟨ca1,hc1⟩ : ∃ c,candA x 1 = c:=⟨_,rfl⟩
 obtain ⟨ca2,hc2⟩ : ∃ c,candA x 2 = c:=⟨_,rfl⟩
 rw [hc0,hc1,hc2] at GC
 have HC:=Lib.hid (And.intro hc0 (And.intro hc1 hc2))
 have GM : Hid (∀ k m : Nat,k < 3 → (m : Int) = candA x k → m < l.length):=Lib.hid (fun k m hk e => by
  rcases cand_pos hg.gd (p:=(k : Int)) (by omega) (by omega) with h1|⟨h1,_⟩
  ·omega
  ·obtain ⟨n,hn,hl,_⟩:=hg.gd.mem k (by omega) (by omega) _ h1
   rw [hxl] at hl;omega)
 have GN1 : Hid (∀ k : Nat,k < 3 → candA x k < 0 → candA x k = -1):=Lib.hid (fun k hk e => by
  rcases cand_pos hg.gd (p:=(k : Int)) (by omega) (by omega) with h1|⟨_,_,h1,_⟩
  ·exact h1
  ·omega)
 have HSZ : Hid (∀ m (h : m < l.length),1 ≤ szB l[m] ∧ szB l[m] ≤ 1200):=Lib.hid (fun m h => (hb _ (List.getElem_mem h)).2.2.2)
 have HDA:=Lib.hid (fun y hy => (hb y hy).2.2.1);have HSQ:=Lib.hid hsq;have HXZ:=Lib.hid hxz;have HL:=Lib.hid hrow;have BPL:=Lib.hid lbp
 have hcp:=hp.1
 rw [hp3] at hcp
 have hlc:=hrow.1
 have hlm:=hrow.2.1
 unfold maxLen at hlm
 have h22 : (chooseS x).2.2 = 0:=by rw [choose_err];exact hz
 obtain ⟨p,p0,p2,hpp,hi,hm,_,hpos,hcs,hok⟩:=choose_some hg.gd h22
 obtain ⟨pn,rfl⟩ : ∃ n : Nat,p = n:=⟨p.toNat,by omega⟩
 have hpn : pn < 3:=by omega
 obtain ⟨m,em⟩ : ∃ n : Nat,candA x pn = n:=⟨(candA x pn).toNat,by omega⟩
 have hq0 : 0 < (quA x pn).length:=List.length_pos_of_mem hm
 have GQR : Hid (∀ W ob,QAt W ob (queT l tk 0 l.length) (queT l tk 1 l.length) (queT l tk 2 l.length) → ∃ bq oq cqq,(ob < W.heap.size ∧ W.cell? ⟨ob,pn,none⟩ = some (.slice (some ⟨bq,oq,none⟩) (quA x pn).length cqq)) ∧ (bq < W.heap.size ∧ W.cell? ⟨bq,oq,none⟩ = some (.int .i64 (at3 (quA x pn) 0))) ∧ (quA x pn).length ≤ cqq):=Lib.hid (fun W ob hQA => by
  rw [← hxq 0 (by omega) (by omega),← hxq 1 (by omega) (by omega),← hxq 2 (by omega) (by omega)] at hQA
  obtain ⟨cs,hQ,lob,hrg⟩:=qrow_of hQA
  obtain ⟨aq,cqq,hcp,Rpq⟩:=hQ.get hpn
  have eq3 : q3 (quA x 0) (quA x 1) (quA x 2) pn = quA x pn:=by
   match pn,hpn with
   | 0,_ => rfl
   | 1,_ => rfl
   | 2,_ => rfl
  rw [eq3] at hcp Rpq
  obtain ⟨bq,oq,rfl,lbq,_⟩:=Rpq.2.2.2 hq0
  refine ⟨bq,oq,cqq,⟨lob,by have:=hrg pn _ hcp;rw [Nat.zero_add] at this;exact this⟩,⟨lbq,?_⟩,Rpq.1⟩
  have h9:=(srow_cellE Rpq (j:=0) hq0).2
  have e9 : at3 (quA x pn) 0 = (quA x pn)[0]:=by
   have e8 : at3 (quA x pn) ((0 : Nat) : Int) = (quA x pn)[0]:=by unfold at3;rw [Int.toNat_natCast,List.getD_eq_getElem?_getD,List.getElem?_eq_getElem hq0];rfl
   exact e8
  rw [e9];exact h9)
 have PB : Hid (∀ pv,at3 ps pn = pv → ¬ at3 (quA x pn) 0 = (m : Int) → 0 ≤ pv ∧ pv ≤ 100):=Lib.hid (fun pv e _ => by
  have hl : pn < ps.length:=by omega
  have e9 : at3 ps pn = ps[pn]:=by unfold at3;rw [Int.toNat_natCast,List.getD_eq_getElem?_getD,List.getElem?_eq_getElem hl];rfl
  rw [← e,e9]
  have h8:=hg.ps
  rw [hxp] at h8
  exact h8 _ (List.getElem_mem _))
 have CM : Hid ((#[.int .i64 ca0,.int .i64 ca1,.int .i64 ca2] : Array Value)[pn]? = some (.int .i64 (m : Int))):=Lib.hid (by
  rw [← em]
  match pn,hpn with
  | 0,_ => rw [← hc0];rfl
  | 1,_ => rw [← hc1];rfl
  | 2,_ => rw [← hc2];rfl)
 have CP:=Lib.hid (fun (j : Nat) (u : Value) (hj : (rowC ic ps)[j]? = some u) => row_cellsE hp hj)
 have HPL:=Lib.hid hp3
 obtain ⟨wl,hwl⟩ : ∃ l,l = [w0,w1,w2]:=⟨_,rfl⟩
 obtain ⟨dl,hdl⟩ : ∃ l,l = (nextD x.dr (headsS x)).2.d:=⟨_,rfl⟩
 obtain ⟨t9,ht9⟩ : ∃ l,l = (nextD x.dr (headsS x)).2.t:=⟨_,rfl⟩
 have LW : Hid (wl.length = 3 ∧ dl.length = 3):=Lib.hid ⟨by rw [hwl];rfl,by rw [hdl];exact hok.2.1⟩
 have NX : Hid (∀ W hb,Below w.heap.size w W → blk W hb = some (rowC ic (hF x 3) ++ []).toArray → Calls Tryd.prog 76 #[.agg #[.slice aw 3 cw,.int .i64 q,.slice ad 3 cd,.int .i64 t],.slice (some ⟨hb,0,none⟩) 3 3] W fun e w' => ∃ a1 c1 a2 c2,e = .returned (.tuple #[.int .i64 pn,.agg #[.slice a1 3 c1,.int .i64 q,.slice a2 3 c2,.int .i64 t9],.int .i64 0]) ∧ Below W.heap.size W w' ∧ SRow ic 1 w' a1 c1 wl ∧ SRow ic 1 w' a2 c2 dl ∧ upR W.heap.size a1 ∧ upR W.heap.size a2):=Lib.hid (fun W hb hB hf => by
  refine (rnext_any aw cw ad cd w0 w1 w2 d0 d1 d2 q t (headA x 0) (headA x 1) (headA x 2) hb W (hw.below hB) (hdr.below hB) hf hokD).mono ?_
  rintro e w' ⟨h1,⟨h2,_⟩|⟨_,a1,c1,a2,c2,h2,h3,h4,h5,h6⟩⟩
  ·rw [hxd] at hz;exact absurd hz h2
  ·rw [hwl,hdl,ht9,hpp,hxd]
   exact ⟨a1,c1,a2,c2,h2,h1,h3,h4,h5,h6⟩)
 have FIN : Hid (∀ T a1 c1 a2 c2 g5 c5 sp v,v = (if at3 (quA x pn) 0 = (m : Int) then 0 else at3 ps pn + 1) → Below w.heap.size w T → SRow ic 1 T a1 c1 wl → SRow ic 1 T a2 c2 dl → blk T g5 = some (rowC ic (ps.set pn v) ++ sp).toArray → 3 ≤ c5 → c5 ≤ maxLen → upR w.heap.size a1 → upR w.heap.size a2 → w.heap.size ≤ g5 → RetRH S x w (.returned (.tuple #[.int .i64 m,.agg #[.slice a1 3 c1,.int .i64 q,.slice a2 3 c2,.int .i64 t9,.slice (some ⟨g5,0,none⟩) 3 c5]])) T):=Lib.hid (fun T a1 c1 a2 c2 g5 c5 sp v hv bT r1 r2 kp h5 h5m u1 u2 h5g => by
  refine ⟨bT,.inr ⟨h22,_,by rw [hi,em],?_⟩⟩
  rw [hcs,em,hxp,← hv]
  have hpl : (ps.set pn v).length = 3:=by rw [List.length_set];exact hp3
  rw [Int.toNat_natCast]
  refine ⟨a1,c1,a2,c2,some ⟨g5,0,none⟩,c5,?_,?_,?_,?_,u1.neS hS _,u2.neS hS _,(upR_at h5g).neS hS _⟩
  ·have e9 : (nextD x.dr (headsS x)).2.q = q:=by rw [(nextD_wq x.dr (headsS x)).2,hxd]
   simp [e9,ht9]
  ·show SRow ic 1 T a1 c1 (nextD x.dr (headsS x)).2.w
   rw [(nextD_wq _ _).1,hxd,← hwl];exact r1
  ·show SRow ic 1 T a2 c2 (nextD x.dr (headsS x)).2.d
   rw [← hdl];exact r2
  ·exact ⟨by rw [hpl];exact h5,h5m,(fun h => by cases h),fun _ => ⟨g5,0,rfl,blk_lt kp,fun i hi => by rw [Nat.zero_add];exact range_row ic_len kp (List.getElem?_eq_getElem hi)⟩⟩)
 obtain ⟨hd,hhd⟩ : ∃ v,v = at3 (quA x pn) 0:=⟨_,rfl⟩
 obtain ⟨lq,hlq2⟩ : ∃ v,v = (quA x pn).length:=⟨_,rfl⟩
 rw [← hhd] at GQR PB FIN
 rw [← hlq2] at GQR hq0
 have hlq0 : (0 : Int) < (lq : Int):=by omega
 have hpi : (pn : Int) < 3:=by omega
 have t1 : ((0 : Int) != 0) = false:=rfl
 obtain ⟨nl,hnl⟩ : ∃ n,n = l.length:=⟨_,rfl⟩
 rw [← hnl] at GC GQ GQR hlc ⊢
 have HNL:=Lib.hid hnl
 obtain ⟨i0,hi0,hz0,hz1,hz2⟩:=info_parts infoI64
 have Hi:=Lib.hid hi0;have Hz0:=Lib.hid hz0;have Hz1:=Lib.hid hz1;have Hz2:=Lib.hid hz2
 clear hi0 hz0 hz1 hz2 hnl hz h22 p0 p2 hpp hi hm hpos hcs hok em hwl hdl ht9 hhd hlq2 hxl hxz hxd hxp hxu hxb hxy hxq hokD hp3 hb hx hls hsq htk hg hw hdr hp hrow ht lbp hc0 hc1 hc2 hS
 go_enter Tryd.func58,Tryd.ntmps58
 obtain ⟨V0,e0⟩ : ∃ v,v = (w.alloc (.cells #[.slice aw 3 cw,.int .i64 q,.slice ad 3 cd,.int .i64 t,.slice (some ⟨bp,op,none⟩) 3 cp] 28)).alloc (.cells #[.slice none 0 0,.int .i64 0,.slice none 0 0,.int .i64 0,.slice none 0 0] 28):=⟨_,rfl⟩
 have k0 : blk V0 w.heap.size = some #[.slice aw 3 cw,.int .i64 q,.slice ad 3 cd,.int .i64 t,.slice (some ⟨bp,op,none⟩) 3 cp]:=(by rw [e0];exact blk_alloc (blk_alloc_new _ _ _ rfl) _)
 have z0 : blk V0 (w.heap.size + 1) = some #[.slice none 0 0,.int .i64 0,.slice none 0 0,.int .i64 0,.slice none 0 0]:=(by rw [e0];exact blk_alloc_new _ _ _ (by simp))
 have b0 : Below w.heap.size w V0:=(by rw [e0];exact ((Below.refl _ _).alloc (Nat.le_refl _) _).alloc (by simp) _)
 go_upto_region 1 with fail
 rw [← e0]
 clear e0
 go_upto_region 2 with (go_at_call 48;(with_reducible refine (GQ.out _ b0).mono ?_);rintro e u1 ⟨ob,rfl,lob,hq,h1⟩)
 have b1:=bt b0 h1
 have k1:=blk_below h1 k0
 have z1:=blk_below h1 z0
 have HQ1:=Lib.hid hq.q
 clear hq h1 k0 z0 b0 lob
 have n1:=kn k1
 go_upto_region 3 with (go_at_call 57;(with_reducible refine (GC.out _ _ b1 HQ1.out).mono ?_);rintro e u2 ⟨fb,rfl,lfb,kf,h2⟩)
 have b2:=bt b1 h2
 have k2:=blk_below h2 k1
 have z2:=blk_below h2 z1
 have HQ:=Lib.hid (HQ1.out.below h2)
 have NFB:=Lib.hid (show w.heap.size + 1 < fb from Nat.lt_of_lt_of_le (blk_lt z1) lfb)
 clear HQ1 h2 k1 z1 b1 n1 lfb
 go_upto_region 4 with fail
 obtain ⟨hb,ehb⟩ : ∃ v,v = u2.heap.size:=⟨_,rfl⟩
 obtain ⟨V,eV⟩ : ∃ v,v = u2.alloc (.cells #[.int .i64 0,.int .i64 0,.int .i64 0] 3):=⟨_,rfl⟩
 have mV : Below u2.heap.size u2 V:=(by rw [eV];exact (Below.refl _ _).alloc (Nat.le_refl _) _)
 have hV : blk V hb = some (rowC ic (hF x 0) ++ []).toArray:=(by rw [eV];exact blk_alloc_new _ _ _ ehb)
 have HV:=Lib.hid (And.intro mV hV)
 have LHB:=Lib.hid (Nat.le_of_eq ehb.symm)
 have gz:=blk_lt z2
 have gf:=blk_lt kf
 rw [← eV,← ehb]
 clear eV mV hV ehb
 go_wp2
 have HK2:=Lib.hid (And.intro k2 (And.intro z2 kf))
 have B2:=Lib.hid b2
 clear k2 z2 kf b2
 go_loopw [17] (fun p wr => ∃ k : Nat,p = .int .i64 k ∧ k ≤ 3 ∧ Hid (Below u2.heap.size u2 wr ∧ blk wr hb = some (rowC ic (hF x k) ++ []).toArray)) (fun p _ => 3 - (intOf p).toNat)
 case atStart => exact ⟨0,rfl,by omega,HV⟩
 case round =>
  clear HV
  obtain ⟨k,rfl,hk,HK⟩:=hrel
  by_cases hk3 : k < 3
  ·have hkz : (k : Int) < 3:=by omega
   have dk : decide ((k : Int) < 3) = true:=decide_eq_true hkz
   obtain ⟨ck,hck⟩ : ∃ c,c = candA x k:=⟨_,rfl⟩
   have cfk : wr.cell? ⟨fb,k,none⟩ = some (.int .i64 ck):=(by rw [blk_cell (blk_below HK.out.1 HK2.out.2.2) k,hck];match k,hk3 with|0,_ => rw [← HC.out.1];rfl|1,_ => rw [← HC.out.2.1];rfl|2,_ => rw [← HC.out.2.2];rfl)
   have HCK:=Lib.hid hck
   clear hck
   by_cases hc0 : 0 ≤ ck
   ·have d0 : decide (0 ≤ ck) = true:=decide_eq_true hc0
    obtain ⟨m,rfl⟩ : ∃ m : Nat,ck = m:=⟨ck.toNat,by omega⟩
    have hml : m < l.length:=GM.out k m hk3 HCK.out
    have hmz : (m : Int) < (nl : Int):=by have:=HNL.out;omega
    obtain ⟨y,hy⟩ : ∃ y,y = l[m]:=⟨_,rfl⟩
    have gs:=fun W => rsize_any y (HDA.out y (by rw [hy];exact List.getElem_mem _)) (HSQ.out y (by rw [hy];exact List.getElem_mem _)) (by have:=HSZ.out m hml;rw [← hy] at this;omega) W
    obtain ⟨s,hs⟩ : ∃ s,szB y = s:=⟨_,rfl⟩
    rw [hs] at gs
    have GS:=Lib.hid gs
    have s1 : 1 ≤ s ∧ s ≤ 1200:=by have:=HSZ.out m hml;rw [← hy,hs] at this;exact this
    have w1 : IntKind.i64.wrap s = s:=IntWalk.i64_in _ (by omega)
    have HH : Hid (headA x k = s):=Lib.hid (by unfold headA;rw [← HCK.out,if_neg (by omega),HXZ.out,sizesE_at l m hml,← hy,hs])
    obtain ⟨bl,ol,hal,lbl,hcs⟩:=HL.out.2.2.2 (by omega)
    subst hal
    have hr:=hcs m hml
    rw [← hy] at hr
    have HRY:=Lib.hid hr
    have LBL:=Lib.hid lbl
    clear hcs hr gs hs hy hml lbl
    go_upto_region 8 with fail
    refine wp_region_tail0 8 ?_
    intro W0 hE hN
    have mW : Below u2.heap.size u2 W0:=(by rw [hE.out];exact HK.out.1)
    have hW : blk W0 hb = some (rowC ic (hF x k) ++ []).toArray:=(by rw [hE.out];exact HK.out.2)
    have n1:=calm_cellR (b:=fb) (o:=k) (W0:=W0) (Nat.lt_of_lt_of_le gf mW.size) (by rw [hE.out];exact cfk)
    have hrW:=range_below LBL.out HRY.out (bt B2.out mW)
    have lbW : bl < W0.heap.size:=Nat.lt_of_lt_of_le LBL.out (bt B2.out mW).size
    clear hE HK cfk
    simp only [List.take_succ_cons,List.take_zero,List.drop_succ_cons,List.drop_zero]
    repeat (go_big_quiet_step (fail))
    refine wpQuiet_nil ?_
    rintro _ ⟨x',rfl⟩
    have hr1:=range_below lbW hrW x'.ok
    have m3:=bt mW x'.ok
    have h3:=blk_below x'.ok hW
    obtain ⟨u,hu⟩ : ∃ u,u = x'.wd:=⟨_,rfl⟩
    rw [← hu] at hr1 m3 h3 ⊢
    clear hu x' hN hrW mW lbW n1 hW
    refine wpList_load_mid rfl 38 (.tmp 49) rfl bl (ol + m * 9) rfl [.int .i64 y.no,.int .u64 y.sq,.int .i64 y.of,.int .i64 y.de,.int .i64 y.pr,.int .i64 y.bo,.int .i64 y.li,.int .i64 y.to,.string y.da] _ hr1 Tryd.underlying38 rfl (by kernel_rfl) ?_
    conv => arg 5;simp [Act.put]
    clear hr1
    go_wp2_with fail
    (with_reducible refine (GS.out _).mono ?_)
    rintro e u4 ⟨rfl,h2⟩
    have m4:=bt m3 h2
    have h4:=blk_below h2 h3
    clear h2 h3 m3 GS
    have fz4:=blk_frozen h4 k
    have NEW : Hid (Below u2.heap.size u2 (u4.setCell ⟨hb,k,none⟩ (.int .i64 s)) ∧ blk (u4.setCell ⟨hb,k,none⟩ (.int .i64 s)) hb = some (rowC ic (hF x (k + 1)) ++ []).toArray):=Lib.hid ⟨m4.setCell LHB.out _,by
     obtain ⟨z9,hz9⟩ : ∃ z,(hF x k)[k]? = some z:=⟨_,List.getElem?_eq_getElem (by simp [hF];omega)⟩
     have h9:=blk_setI (y:=s) hz9 h4
     rw [← HH.out,hF_some hk3] at h9
     rw [HH.out] at h9
     exact h9⟩
    have ch4 : ∃ z,u4.cell? ⟨hb,k,none⟩ = some (.int .i64 z):=(by obtain ⟨z9,hz9⟩ : ∃ z,(hF x k)[k]? = some z:=⟨_,List.getElem?_eq_getElem (by simp [hF];omega)⟩;exact ⟨z9,blk_cellI hz9 h4⟩)
    obtain ⟨z9,ch4⟩:=ch4
    clear m4 h4
    go_wp2
    go_roundw
    case rel => exact ⟨k + 1,by go_num,by omega,NEW⟩
    case measure => simp [intOf];omega
   ·have d0 : decide (0 ≤ ck) = false:=decide_eq_false hc0
    have NEW : Hid (Below u2.heap.size u2 wr ∧ blk wr hb = some (rowC ic (hF x (k + 1)) ++ []).toArray):=Lib.hid ⟨HK.out.1,by
     rw [hF_none hk3 (GN1.out k hk3 (by rw [← HCK.out];omega))]
     exact HK.out.2⟩
    clear HK HCK
    go_wp2
    go_roundw
    case rel => exact ⟨k + 1,by go_num,by omega,NEW⟩
    case measure => simp [intOf];omega
  ·obtain rfl : k = 3:=by omega
   have dk : decide (((3 : Nat) : Int) < 3) = false:=rfl
   have m5:=HK.out.1
   have h5:=HK.out.2
   have k5:=blk_below m5 HK2.out.1
   have n5:=kn k5
   have GN:=Lib.hid (NX.out wr hb (bt B2.out m5) h5)
   clear HK
   obtain ⟨bq,oq,cqq,hcq,hch,hlqc⟩:=GQR.out u2 ob HQ.out
   have CQ:=Lib.hid hcq
   have CH:=Lib.hid hch
   clear hcq hch
   go_upto_region 10 with (go_at_call 76;(with_reducible refine (GN.out).mono ?_);rintro e u6 ⟨a1,c1,a2,c2,rfl,h6,r16,r26,U16,U26⟩)
   have m6:=bt m5 h6
   have U1:=U16.mono (show u2.heap.size ≤ wr.heap.size from m5.size)
   have U2:=U26.mono (show u2.heap.size ≤ wr.heap.size from m5.size)
   clear h6 m5 h5 k5 n5 U16 U26
   obtain ⟨gb,egb⟩ : ∃ v,v = u6.heap.size:=⟨_,rfl⟩
   obtain ⟨V6,eV⟩ : ∃ v,v = u6.alloc (.cells #[.slice a1 3 c1,.int .i64 q,.slice a2 3 c2,.int .i64 t9] 26):=⟨_,rfl⟩
   have d6 : Below u6.heap.size u6 V6:=(by rw [eV];exact (Below.refl _ _).alloc (Nat.le_refl _) _)
   have m7:=bt m6 d6
   have g7 : blk V6 gb = some #[.slice a1 3 c1,.int .i64 q,.slice a2 3 c2,.int .i64 t9]:=(by rw [eV];exact blk_alloc_new _ _ _ egb)
   have r17:=r16.below d6
   have r27:=r26.below d6
   have lgb : u2.heap.size ≤ gb:=(by rw [egb];exact m6.size)
   rw [← eV,← egb]
   clear eV m6 d6 r16 r26 egb
   have k7:=blk_below m7 HK2.out.1
   have n7:=kn g7
   go_upto_region 12 with fail
   clear n7
   refine wp_region_held_drew (S:=fun W => (∀ o,W.cell? ⟨w.heap.size,o,none⟩ = (#[.slice aw 3 cw,.int .i64 q,.slice ad 3 cd,.int .i64 t,.slice (some ⟨bp,op,none⟩) 3 cp] : Array Value)[o]?) ∧ (∀ o,W.cell? ⟨gb,o,none⟩ = (#[.slice a1 3 c1,.int .i64 q,.slice a2 3 c2,.int .i64 t9] : Array Value)[o]?)) (by kernel_rfl) ⟨fun o => blk_cell (blk_drew k7) o,fun o => blk_cell (blk_drew g7) o⟩ (fun hHeld => ?_)
   obtain ⟨d0,ed⟩ : ∃ v,v = V6.drew:=⟨_,rfl⟩
   have kd0 : blk d0 w.heap.size = some #[.slice aw 3 cw,.int .i64 q,.slice ad 3 cd,.int .i64 t,.slice (some ⟨bp,op,none⟩) 3 cp]:=(by rw [ed];exact blk_drew k7)
   have gd0 : blk d0 gb = some #[.slice a1 3 c1,.int .i64 q,.slice a2 3 c2,.int .i64 t9]:=(by rw [ed];exact blk_drew g7)
   have md0 : Below u2.heap.size u2 d0:=(by rw [ed];exact m7.drew)
   have r1d0 : SRow ic 1 d0 a1 c1 wl:=(by rw [ed];exact r17)
   have r2d0 : SRow ic 1 d0 a2 c2 dl:=(by rw [ed];exact r27)
   rw [← ed] at hHeld ⊢
   clear ed k7 g7 m7 r17 r27
   refine jK (v:=?_) 0 ?_ ?_
   rotate_left;focus(intro W h;(try dsimp only at h);go_simp;(try with_reducible rfl));(try simp only[Act.put,jA,jB,jC,jD,jE,jF])
   refine jK (v:=?_) 2 ?_ ?_
   rotate_left;focus(intro W h;(try dsimp only at h);go_simp;(try with_reducible rfl));(try simp only[Act.put,jA,jB,jC,jD,jE,jF])
   refine jK (v:=?_) 3 ?_ ?_
   rotate_left;focus(intro W h;(try dsimp only at h);go_simp;(try with_reducible rfl));(try simp only[Act.put,jA,jB,jC,jD,jE,jF])
   refine wpAnyH_ready (rs:=[1,6]) (by kernel_rfl) (by simp) ?_
   refine AllReadyH.cons rfl (fun K hK => ?_) ?_
   ·skip
    go_simp
    obtain ⟨E,eE⟩ : ∃ v,v = d0.alloc (.cells #[] 3):=⟨_,rfl⟩
    obtain ⟨s,es⟩ : ∃ v,v = d0.heap.size:=⟨_,rfl⟩
    have dE : Below d0.heap.size d0 E:=(by rw [eE];exact (Below.refl _ _).alloc (Nat.le_refl _) _)
    have mE:=bt md0 dE
    have kE:=blk_below dE kd0
    have gE:=blk_below dE gd0
    have r1E:=r1d0.below dE
    have r2E:=r2d0.below dE
    have oE:=Lib.hid (show E.ownsRow s 3 1 (.slice (some ⟨s,0,none⟩) 0 0) 0 [] from by rw [eE,es];exact own_emptyE _ _)
    have ls : u2.heap.size ≤ s:=(by rw [es];exact md0.size)
    have lgs : gb < s:=(by rw [es];exact blk_lt gd0)
    have N1 : neA s a1 wl:=r1d0.neNew (Nat.le_of_eq es.symm)
    have N2 : neA s a2 dl:=r2d0.neNew (Nat.le_of_eq es.symm)
    have LB1 : ∀ b off,a1 = some ⟨b,off,none⟩ → b < s:=(fun b off e => by rw [es];exact r1d0.lt (by rw [LW.out.1];decide) e)
    have LB2 : ∀ b off,a2 = some ⟨b,off,none⟩ → b < s:=(fun b off e => by rw [es];exact r2d0.lt (by rw [LW.out.2];decide) e)
    rw [← eE,← es]
    clear eE es dE N1 N2
    refine hK.out _ _ ⟨fun o => blk_cell kE o,fun o => blk_cell gE o⟩ (fun _ => ?_)
    clear hK K
    (try simp only[Act.put,jA,jB,jC,jD,jE,jF])
    refine wpAnyH_ready (rs:=[4,6]) (by kernel_rfl) (by simp) ?_
    refine AllReadyH.cons rfl (fun K hK => ?_) ?_
    ·skip
     refine wp_append_fresh (.tmp 66) (.tmp 68) 22 rfl s 3 i0 (.int .i64 0) 1 8 Tryd.underlying22 Hi.out Hz0.out Hz1.out Hz2.out rfl (by decide) (.slice (some ⟨s,0,none⟩) 0 0) 0 [] rfl oE.out ⟨bp,op,none⟩ 3 cp (rowC ic ps) rfl (by rw [rowC_length ic_len,HPL.out]) (fun jj u hj => (by rw [Addr.add_mid];exact ((bt B2.out mE).cell (p:=⟨bp,op + jj,none⟩) BPL.out).trans (CP.out jj u hj))) (ic_onesE _) (by decide) (by unfold maxLen;omega) (by omega) (by have:=(oE.out.lt s rfl).2;omega) ?_
     intro v' P ho hg hf
     have ho2 : P.ownsRow s 3 1 v' ps.length (rowC ic ps):=(by rw [HPL.out];exact ho)
     obtain ⟨a3,c3,hv3,hz1,hz2⟩:=srow_of_owns ic_len ho2
     rw [HPL.out] at hv3
     subst hv3
     rcases hz2 with ⟨hz3,hz4⟩|⟨g3,cur3,hz3,hg3b,hg3,cs3,ct3⟩
     ·rw [hz4] at HPL;exact absurd HPL.out (by decide)
     subst hz3
     obtain ⟨sp,hsp⟩ : ∃ sp,sp = cur3.toList.drop (ps.length * 1):=⟨_,rfl⟩
     have pP : blk P g3 = some (rowC ic ps ++ sp).toArray:=(by rw [hg3,hsp,← ct3];simp)
     have lg3 : s ≤ g3:=hg3b
     have lc3 : 3 ≤ c3 ∧ c3 ≤ maxLen:=(by have h1:=hz1.1;have h2:=hz1.2.1;rw [HPL.out] at h1;exact ⟨h1,h2⟩)
     have hk3 : ∀ k,(Value.slice (some ⟨s,0,none⟩) 0 0).ownBlock = some k → u2.heap.size ≤ k:=(fun k e => by have h9 : s = k:=Option.some.inj e;omega)
     have mP : Below u2.heap.size u2 P:=mE.grown hg mE.size hk3
     have kP : blk P w.heap.size = some #[.slice aw 3 cw,.int .i64 q,.slice ad 3 cd,.int .i64 t,.slice (some ⟨bp,op,none⟩) 3 cp]:=(blk_kept (hg.block _ (blk_lt kE) (fun e => by have h9 : s = w.heap.size:=Option.some.inj e.symm;omega))).trans kE
     have gP : blk P gb = some #[.slice a1 3 c1,.int .i64 q,.slice a2 3 c2,.int .i64 t9]:=(blk_kept (hg.block _ (blk_lt gE) (fun e => by have h9 : s = gb:=Option.some.inj e.symm;omega))).trans gE
     have r1P : SRow ic 1 P a1 c1 wl:=srow_keptS r1E (KeptS.of_grown (S:=fun b => b = s) hg (fun k e => (Option.some.inj e).symm)) (fun h0 b off e hb => by have:=LB1 b off e;omega)
     have r2P : SRow ic 1 P a2 c2 dl:=srow_keptS r2E (KeptS.of_grown (S:=fun b => b = s) hg (fun k e => (Option.some.inj e).symm)) (fun h0 b off e hb => by have:=LB2 b off e;omega)
     have Q1 : neA g3 a1 wl:=(fun h0 b off e => by have:=LB1 b off e;omega)
     have Q2 : neA g3 a2 dl:=(fun h0 b off e => by have:=LB2 b off e;omega)
     clear ho ho2 hg hf hz1 hg3 hg3b cs3 ct3 hsp hk3
     refine hK.out _ _ ⟨fun o => blk_cell kP o,fun o => blk_cell gP o⟩ (fun _ => ?_)
     clear hK K
     (try simp only[Act.put,jA,jB,jC,jD,jE,jF])
     refine jK (v:=.agg #[.slice a1 3 c1,.int .i64 q,.slice a2 3 c2,.int .i64 t9,.slice (some ⟨g3,0,none⟩) 3 c3]) 5 ?_ ?_
     focus (intro W hSw;exact build_runW 28 _ _ rfl (by kernel_rfl) W)
     (try simp only[Act.put,jA,jB,jC,jD,jE,jF])
     refine jR 6 (fun K hK => ?_)
     go_simp
     obtain ⟨A,eA⟩ : ∃ v,v = P.alloc (.cells #[.slice none 0 0,.int .i64 0,.slice none 0 0,.int .i64 0,.slice none 0 0] 28):=⟨_,rfl⟩
     obtain ⟨xb,exb⟩ : ∃ v,v = P.heap.size:=⟨_,rfl⟩
     have dA : Below P.heap.size P A:=(by rw [eA];exact (Below.refl _ _).alloc (Nat.le_refl _) _)
     have mA:=bt mP dA
     have kA:=blk_below dA kP
     have gA:=blk_below dA gP
     have xA : blk A xb = some #[.slice none 0 0,.int .i64 0,.slice none 0 0,.int .i64 0,.slice none 0 0]:=(by rw [eA];exact blk_alloc_new _ _ _ exb)
     have lx : u2.heap.size ≤ xb:=(by rw [exb];exact mP.size)
     have lgx : gb < xb:=(by rw [exb];exact blk_lt gP)
     have r1A:=r1P.below dA
     have r2A:=r2P.below dA
     have X1 : neA xb a1 wl:=r1P.neNew (Nat.le_of_eq exb.symm)
     have X2 : neA xb a2 dl:=r2P.neNew (Nat.le_of_eq exb.symm)
     have pA:=blk_below dA pP
     have lpx : g3 ≠ xb:=(by have:=blk_lt pP;omega)
     rw [← eA,← exb]
     clear eA exb dA
     refine hK.out _ _ ⟨fun o => blk_cell kA o,fun o => blk_cell gA o⟩ (fun _ => ?_)
     clear hK K
     (try simp only[Act.put,jA,jB,jC,jD,jE,jF])
     refine jR 7 (fun K hK => ?_)
     refine wp_store_midB 28 (.tmp 21) (.tmp 70) xb 0 #[.slice none 0 0,.int .i64 0,.slice none 0 0,.int .i64 0,.slice none 0 0] #[.slice a1 3 c1,.int .i64 q,.slice a2 3 c2,.int .i64 t9,.slice (some ⟨g3,0,none⟩) 3 c3] #[.slice a1 3 c1,.int .i64 q,.slice a2 3 c2,.int .i64 t9,.slice (some ⟨g3,0,none⟩) 3 c3] xA rfl rfl rfl (by simp) (by kernel_rfl) (by kernel_rfl) (by kernel_rfl) ?_
     intro T xT sT BT zT
     have mT:=BT _ _ lx mA
     have pT:=blk_same pA lpx sT
     have kT:=blk_same kA (show w.heap.size ≠ xb by omega) sT
     have gT:=blk_same gA (show gb ≠ xb by omega) sT
     have r1T:=r1A.sameB sT X1
     have r2T:=r2A.sameB sT X2
     clear BT zT sT
     refine hK.out _ _ ⟨fun o => blk_cell kT o,fun o => blk_cell gT o⟩ (fun _ => ?_)
     clear hK K
     (try simp only[Act.put,jA,jB,jC,jD,jE,jF])
     refine wpAnyH_done (by kernel_rfl) ?_ _
     have n9:=kn xT
     obtain ⟨T9,eT⟩ : ∃ v,v = T:=⟨_,rfl⟩
     rw [← eT] at xT mT pT r1T r2T n9 ⊢
     clear eT kT gT
     have x9:=xT
     have m9:=mT
     have p9:=pT
     have r19:=r1T
     have r29:=r2T
     clear xT mT pT r1T r2T
     have cfp : T9.cell? ⟨fb,pn,none⟩ = some (.int .i64 (m : Int)):=(by rw [blk_cell (blk_below m9 HK2.out.2.2) pn];exact CM.out)
     have cop : T9.cell? ⟨ob,pn,none⟩ = some (.slice (some ⟨bq,oq,none⟩) lq cqq):=(m9.cell (p:=⟨ob,pn,none⟩) CQ.out.1).trans CQ.out.2
     have chp : T9.cell? ⟨bq,oq,none⟩ = some (.int .i64 hd):=(m9.cell (p:=⟨bq,oq,none⟩) CH.out.1).trans CH.out.2
     go_upto_region 13 with fail
     refine wp_region_in (by kernel_rfl) (by kernel_rfl) ?_
     intro W0 hE hN
     have q1:=calm_cellR (b:=fb) (o:=pn) (W0:=W0) (by rw [hE.out];exact Nat.lt_of_lt_of_le gf m9.size) (by rw [hE.out];exact cfp)
     have q2:=calm_cellR (b:=ob) (o:=pn) (W0:=W0) (by rw [hE.out];exact Nat.lt_of_lt_of_le CQ.out.1 m9.size) (by rw [hE.out];exact cop)
     have q3:=calm_cellR (b:=bq) (o:=oq) (W0:=W0) (by rw [hE.out];exact Nat.lt_of_lt_of_le CH.out.1 m9.size) (by rw [hE.out];exact chp)
     have E9:=Lib.hid (show W0 = T9.drew ∨ W0 = T9 from by first|exact .inl hE.out|exact .inr hE.out)
     clear hE
     repeat (go_big_quiet_step (fail))
     refine wpQuiet_nil ?_
     rintro _ ⟨x',rfl⟩
     have d9 : Below T9.heap.size T9 x'.wd:=calm_of (by rcases E9.out with e|e;exact .inl e;exact .inr e) x'.ok
     have x8:=blk_below d9 x9
     have m8:=bt m9 d9
     have p8:=blk_below d9 p9
     have r18:=r19.below d9
     have r28:=r29.below d9
     clear x9 m9 p9 r19 r29 n9 cfp cop chp q1 q2 q3 d9 E9 hN
     obtain ⟨T8,e8⟩ : ∃ v,v = x'.wd:=⟨_,rfl⟩
     rw [← e8] at x8 m8 p8 r18 r28 ⊢
     clear e8 x' T9
     obtain ⟨T9,eT⟩ : ∃ v,v = T8:=⟨_,rfl⟩
     rw [← eT] at x8 m8 p8 r18 r28 ⊢
     clear eT
     have x9:=x8
     have m9:=m8
     have p9:=p8
     have r19:=r18
     have r29:=r28
     clear x8 m8 p8 r18 r28
     have n9:=kn x9
     obtain ⟨pv,hpv⟩ : ∃ v,ps[pn]? = some v:=⟨_,List.getElem?_eq_getElem (by rw [HPL.out];exact hpn)⟩
     have cfp:=blk_cellI hpv p9
     have cop:=blk_frozen p9 pn
     have chp : True:=trivial
     have PV:=Lib.hid hpv
     clear hpv
     by_cases hh : (m : Int) = hd
     ·have t1 : ((m : Int) == hd) = true:=by simpa using hh
      have HQV:=Lib.hid (show (0 : Int) = if hd = (m : Int) then 0 else at3 ps pn + 1 by rw [if_pos hh.symm])
      clear hh
      go_upto_region 16 with fail
      obtain ⟨Y,eY⟩ : ∃ v,v = T9.setCell ⟨g3,pn,none⟩ (.int .i64 0):=⟨_,rfl⟩
      have hY : SameB g3 T9 Y:=(by rw [eY];exact (SameB.refl _ _).set _ _)
      have xY:=blk_same x9 (show xb ≠ g3 by omega) hY
      have pY : blk Y g3 = some (rowC ic (ps.set pn 0) ++ sp).toArray:=(by rw [eY];exact blk_setI PV.out p9)
      have mY : Below u2.heap.size u2 Y:=(by rw [eY];exact m9.setCell (show u2.heap.size ≤ g3 by omega) _)
      have y1:=r19.sameB hY Q1
      have y2:=r29.sameB hY Q2
      rw [← eY]
      clear eY hY x9 p9 m9 r19 r29 n9 cfp cop chp
      have fY:=blk_below mY HK2.out.2.2
      have zY:=blk_below mY HK2.out.2.1
      have bY:=bt B2.out mY
      refine wp_region_held_drew (S:=fun W => (∀ o,W.cell? ⟨fb,o,none⟩ = (#[.int .i64 ca0,.int .i64 ca1,.int .i64 ca2] : Array Value)[o]?) ∧ (∀ o,W.cell? ⟨xb,o,none⟩ = (#[.slice a1 3 c1,.int .i64 q,.slice a2 3 c2,.int .i64 t9,.slice (some ⟨g3,0,none⟩) 3 c3] : Array Value)[o]?)) (by kernel_rfl) ⟨fun o => blk_cell (blk_drew fY) o,fun o => blk_cell (blk_drew xY) o⟩ (fun hHeld => ?_)
      obtain ⟨d0,ed⟩ : ∃ v,v = Y.drew:=⟨_,rfl⟩
      have fd0 : blk d0 fb = some #[.int .i64 ca0,.int .i64 ca1,.int .i64 ca2]:=(by rw [ed];exact blk_drew fY)
      have xd0 : blk d0 xb = some #[.slice a1 3 c1,.int .i64 q,.slice a2 3 c2,.int .i64 t9,.slice (some ⟨g3,0,none⟩) 3 c3]:=(by rw [ed];exact blk_drew xY)
      have zd0 : blk d0 (w.heap.size + 1) = some #[.slice none 0 0,.int .i64 0,.slice none 0 0,.int .i64 0,.slice none 0 0]:=(by rw [ed];exact blk_drew zY)
      have pd0 : blk d0 g3 = some (rowC ic (ps.set pn 0) ++ sp).toArray:=(by rw [ed];exact blk_drew pY)
      have bd0 : Below w.heap.size w d0:=(by rw [ed];exact bY.drew)
      have rd1 : SRow ic 1 d0 a1 c1 wl:=(by rw [ed];exact y1)
      have rd2 : SRow ic 1 d0 a2 c2 dl:=(by rw [ed];exact y2)
      rw [← ed] at hHeld ⊢
      clear ed fY xY zY pY bY mY y1 y2
      refine jK (v:=?_) 0 ?_ ?_
      rotate_left;focus(intro W h;(try dsimp only at h);go_simp;(try with_reducible rfl));(try simp only[Act.put,jA,jB,jC,jD,jE,jF])
      refine jK (v:=?_) 1 ?_ ?_
      rotate_left;focus(intro W h;(try dsimp only at h);go_simp;(try with_reducible rfl));(try simp only[Act.put,jA,jB,jC,jD,jE,jF])
      refine jK (v:=?_) 2 ?_ ?_
      rotate_left;focus(intro W h;(try dsimp only at h);go_simp;(try with_reducible rfl));(try simp only[Act.put,jA,jB,jC,jD,jE,jF])
      refine jK (v:=.int .i64 (m : Int)) 3 ?_ ?_
      focus (intro W hSw;exact load_cellI (.tmp 95) _ _ rfl rfl W ((hSw.1 pn).trans CM.out))
      (try simp only[Act.put,jA,jB,jC,jD,jE,jF])
      refine jK (v:=?_) 4 ?_ ?_
      rotate_left;focus(intro W h;(try dsimp only at h);go_simp;(try with_reducible rfl));(try simp only[Act.put,jA,jB,jC,jD,jE,jF])
      refine jK (v:=?_) 5 ?_ ?_
      rotate_left;focus(intro W h;(try dsimp only at h);go_simp;(try with_reducible rfl));(try simp only[Act.put,jA,jB,jC,jD,jE,jF])
      refine jR 6 (fun K hK => ?_)
      refine wp_store_midB 28 (.tmp 13) (.tmp 97) (w.heap.size + 1) 0 #[.slice none 0 0,.int .i64 0,.slice none 0 0,.int .i64 0,.slice none 0 0] #[.slice a1 3 c1,.int .i64 q,.slice a2 3 c2,.int .i64 t9,.slice (some ⟨g3,0,none⟩) 3 c3] #[.slice a1 3 c1,.int .i64 q,.slice a2 3 c2,.int .i64 t9,.slice (some ⟨g3,0,none⟩) 3 c3] zd0 rfl rfl rfl (by simp) (by kernel_rfl) (by kernel_rfl) (by kernel_rfl) ?_
      intro F kF sF BF zF
      have bF:=BF _ _ (Nat.le_succ w.heap.size) bd0
      have kkF:=blk_same fd0 (Nat.ne_of_gt NFB.out) sF
      have xxF:=blk_same xd0 (Nat.ne_of_gt (Nat.lt_of_lt_of_le gz lx)) sF
      clear BF zF
      refine hK.out _ _ ⟨fun o => blk_cell kkF o,fun o => blk_cell xxF o⟩ (fun _ => ?_)
      clear hK K
      (try simp only[Act.put,jA,jB,jC,jD,jE,jF])
      refine wpAnyH_done (by kernel_rfl) ?_ _
      go_wp2
      refine ret_blk (b:=w.heap.size + 1) (c:=#[.slice a1 3 c1,.int .i64 q,.slice a2 3 c2,.int .i64 t9,.slice (some ⟨g3,0,none⟩) 3 c3]) (v:=.tuple #[.int .i64 (m : Int),.agg #[.slice a1 3 c1,.int .i64 q,.slice a2 3 c2,.int .i64 t9,.slice (some ⟨g3,0,none⟩) 3 c3]]) kF (fun W' hc => by simp [results,Tryd.results58,go_sem,hc]) rfl ?_
      exact FIN.out F a1 c1 a2 c2 g3 c3 sp 0 HQV.out bF (rd1.sameB sF (fun h0 b off e => Nat.ne_of_gt (Nat.lt_of_lt_of_le gz (U1 b off e)))) (rd2.sameB sF (fun h0 b off e => Nat.ne_of_gt (Nat.lt_of_lt_of_le gz (U2 b off e)))) (blk_same pd0 (Nat.ne_of_gt (Nat.lt_of_lt_of_le gz (Nat.le_trans ls lg3))) sF) lc3.1 lc3.2 (U1.mono B2.out.size) (U2.mono B2.out.size) (Nat.le_trans B2.out.size (Nat.le_trans ls lg3))
     ·have t1 : ((m : Int) == hd) = false:=by simpa using hh
      have epv : at3 ps pn = pv:=by unfold at3;rw [Int.toNat_natCast,List.getD_eq_getElem?_getD,PV.out];rfl
      have HQV:=Lib.hid (show pv + 1 = if hd = (m : Int) then 0 else at3 ps pn + 1 by rw [if_neg (fun e => hh e.symm),epv])
      have hpv1:=PB.out pv epv (fun e => hh e.symm)
      have vw : IntKind.i64.wrap (pv + 1) = pv + 1:=IntWalk.i64_in _ (by omega)
      clear hh epv
      go_upto_region 16 with fail
      obtain ⟨Y,eY⟩ : ∃ v,v = T9.setCell ⟨g3,pn,none⟩ (.int .i64 (pv + 1)):=⟨_,rfl⟩
      have hY : SameB g3 T9 Y:=(by rw [eY];exact (SameB.refl _ _).set _ _)
      have xY:=blk_same x9 (show xb ≠ g3 by omega) hY
      have pY : blk Y g3 = some (rowC ic (ps.set pn (pv + 1)) ++ sp).toArray:=(by rw [eY];exact blk_setI PV.out p9)
      have mY : Below u2.heap.size u2 Y:=(by rw [eY];exact m9.setCell (show u2.heap.size ≤ g3 by omega) _)
      have y1:=r19.sameB hY Q1
      have y2:=r29.sameB hY Q2
      rw [← eY]
      clear eY hY x9 p9 m9 r19 r29 n9 cfp cop chp
      have fY:=blk_below mY HK2.out.2.2
      have zY:=blk_below mY HK2.out.2.1
      have bY:=bt B2.out mY
      refine wp_region_held_drew (S:=fun W => (∀ o,W.cell? ⟨fb,o,none⟩ = (#[.int .i64 ca0,.int .i64 ca1,.int .i64 ca2] : Array Value)[o]?) ∧ (∀ o,W.cell? ⟨xb,o,none⟩ = (#[.slice a1 3 c1,.int .i64 q,.slice a2 3 c2,.int .i64 t9,.slice (some ⟨g3,0,none⟩) 3 c3] : Array Value)[o]?)) (by kernel_rfl) ⟨fun o => blk_cell (blk_drew fY) o,fun o => blk_cell (blk_drew xY) o⟩ (fun hHeld => ?_)
      obtain ⟨d0,ed⟩ : ∃ v,v = Y.drew:=⟨_,rfl⟩
      have fd0 : blk d0 fb = some #[.int .i64 ca0,.int .i64 ca1,.int .i64 ca2]:=(by rw [ed];exact blk_drew fY)
      have xd0 : blk d0 xb = some #[.slice a1 3 c1,.int .i64 q,.slice a2 3 c2,.int .i64 t9,.slice (some ⟨g3,0,none⟩) 3 c3]:=(by rw [ed];exact blk_drew xY)
      have zd0 : blk d0 (w.heap.size + 1) = some #[.slice none 0 0,.int .i64 0,.slice none 0 0,.int .i64 0,.slice none 0 0]:=(by rw [ed];exact blk_drew zY)
      have pd0 : blk d0 g3 = some (rowC ic (ps.set pn (pv + 1)) ++ sp).toArray:=(by rw [ed];exact blk_drew pY)
      have bd0 : Below w.heap.size w d0:=(by rw [ed];exact bY.drew)
      have rd1 : SRow ic 1 d0 a1 c1 wl:=(by rw [ed];exact y1)
      have rd2 : SRow ic 1 d0 a2 c2 dl:=(by rw [ed];exact y2)
      rw [← ed] at hHeld ⊢
      clear ed fY xY zY pY bY mY y1 y2
      refine jK (v:=?_) 0 ?_ ?_
      rotate_left;focus(intro W h;(try dsimp only at h);go_simp;(try with_reducible rfl));(try simp only[Act.put,jA,jB,jC,jD,jE,jF])
      refine jK (v:=?_) 1 ?_ ?_
      rotate_left;focus(intro W h;(try dsimp only at h);go_simp;(try with_reducible rfl));(try simp only[Act.put,jA,jB,jC,jD,jE,jF])
      refine jK (v:=?_) 2 ?_ ?_
      rotate_left;focus(intro W h;(try dsimp only at h);go_simp;(try with_reducible rfl));(try simp only[Act.put,jA,jB,jC,jD,jE,jF])
      refine jK (v:=.int .i64 (m : Int)) 3 ?_ ?_
      focus (intro W hSw;exact load_cellI (.tmp 95) _ _ rfl rfl W ((hSw.1 pn).trans CM.out))
      (try simp only[Act.put,jA,jB,jC,jD,jE,jF])
      refine jK (v:=?_) 4 ?_ ?_
      rotate_left;focus(intro W h;(try dsimp only at h);go_simp;(try with_reducible rfl));(try simp only[Act.put,jA,jB,jC,jD,jE,jF])
      refine jK (v:=?_) 5 ?_ ?_
      rotate_left;focus(intro W h;(try dsimp only at h);go_simp;(try with_reducible rfl));(try simp only[Act.put,jA,jB,jC,jD,jE,jF])
      refine jR 6 (fun K hK => ?_)
      refine wp_store_midB 28 (.tmp 13) (.tmp 97) (w.heap.size + 1) 0 #[.slice none 0 0,.int .i64 0,.slice none 0 0,.int .i64 0,.slice none 0 0] #[.slice a1 3 c1,.int .i64 q,.slice a2 3 c2,.int .i64 t9,.slice (some ⟨g3,0,none⟩) 3 c3] #[.slice a1 3 c1,.int .i64 q,.slice a2 3 c2,.int .i64 t9,.slice (some ⟨g3,0,none⟩) 3 c3] zd0 rfl rfl rfl (by simp) (by kernel_rfl) (by kernel_rfl) (by kernel_rfl) ?_
      intro F kF sF BF zF
      have bF:=BF _ _ (Nat.le_succ w.heap.size) bd0
      have kkF:=blk_same fd0 (Nat.ne_of_gt NFB.out) sF
      have xxF:=blk_same xd0 (Nat.ne_of_gt (Nat.lt_of_lt_of_le gz lx)) sF
      clear BF zF
      refine hK.out _ _ ⟨fun o => blk_cell kkF o,fun o => blk_cell xxF o⟩ (fun _ => ?_)
      clear hK K
      (try simp only[Act.put,jA,jB,jC,jD,jE,jF])
      refine wpAnyH_done (by kernel_rfl) ?_ _
      go_wp2
      refine ret_blk (b:=w.heap.size + 1) (c:=#[.slice a1 3 c1,.int .i64 q,.slice a2 3 c2,.int .i64 t9,.slice (some ⟨g3,0,none⟩) 3 c3]) (v:=.tuple #[.int .i64 (m : Int),.agg #[.slice a1 3 c1,.int .i64 q,.slice a2 3 c2,.int .i64 t9,.slice (some ⟨g3,0,none⟩) 3 c3]]) kF (fun W' hc => by simp [results,Tryd.results58,go_sem,hc]) rfl ?_
      exact FIN.out F a1 c1 a2 c2 g3 c3 sp (pv + 1) HQV.out bF (rd1.sameB sF (fun h0 b off e => Nat.ne_of_gt (Nat.lt_of_lt_of_le gz (U1 b off e)))) (rd2.sameB sF (fun h0 b off e => Nat.ne_of_gt (Nat.lt_of_lt_of_le gz (U2 b off e)))) (blk_same pd0 (Nat.ne_of_gt (Nat.lt_of_lt_of_le gz (Nat.le_trans ls lg3))) sF) lc3.1 lc3.2 (U1.mono B2.out.size) (U2.mono B2.out.size) (Nat.le_trans B2.out.size (Nat.le_trans ls lg3))
    refine AllReadyH.cons rfl (fun K hK => ?_) AllReadyH.nil
    go_simp
    obtain ⟨A,eA⟩ : ∃ v,v = E.alloc (.cells #[.slice none 0 0,.int .i64 0,.slice none 0 0,.int .i64 0,.slice none 0 0] 28):=⟨_,rfl⟩
    obtain ⟨xb,exb⟩ : ∃ v,v = E.heap.size:=⟨_,rfl⟩
    have dA : Below E.heap.size E A:=(by rw [eA];exact (Below.refl _ _).alloc (Nat.le_refl _) _)
    have mA:=bt mE dA
    have kA:=blk_below dA kE
    have gA:=blk_below dA gE
    have xA : blk A xb = some #[.slice none 0 0,.int .i64 0,.slice none 0 0,.int .i64 0,.slice none 0 0]:=(by rw [eA];exact blk_alloc_new _ _ _ exb)
    have lx : u2.heap.size ≤ xb:=(by rw [exb];exact mE.size)
    have lgx : gb < xb:=(by rw [exb];exact blk_lt gE)
    have r1A:=r1E.below dA
    have r2A:=r2E.below dA
    have X1 : neA xb a1 wl:=r1E.neNew (Nat.le_of_eq exb.symm)
    have X2 : neA xb a2 dl:=r2E.neNew (Nat.le_of_eq exb.symm)
    have oA:=Lib.hid (owns_belowS oE.out dA)
    have lsx : s < xb:=(by rw [exb];exact (oE.out.lt s rfl).2)
    rw [← eA,← exb]
    clear eA exb dA
    refine hK.out _ _ ⟨fun o => blk_cell kA o,fun o => blk_cell gA o⟩ (fun _ => ?_)
    clear hK K
    (try simp only[Act.put,jA,jB,jC,jD,jE,jF])
    refine jR 4 (fun K hK => ?_)
    refine wp_append_fresh (.tmp 66) (.tmp 68) 22 rfl s 3 i0 (.int .i64 0) 1 8 Tryd.underlying22 Hi.out Hz0.out Hz1.out Hz2.out rfl (by decide) (.slice (some ⟨s,0,none⟩) 0 0) 0 [] rfl oA.out ⟨bp,op,none⟩ 3 cp (rowC ic ps) rfl (by rw [rowC_length ic_len,HPL.out]) (fun jj u hj => (by rw [Addr.add_mid];exact ((bt B2.out mA).cell (p:=⟨bp,op + jj,none⟩) BPL.out).trans (CP.out jj u hj))) (ic_onesE _) (by decide) (by unfold maxLen;omega) (by omega) (by have:=(oA.out.lt s rfl).2;omega) ?_
    intro v' P ho hg hf
    have ho2 : P.ownsRow s 3 1 v' ps.length (rowC ic ps):=(by rw [HPL.out];exact ho)
    obtain ⟨a3,c3,hv3,hz1,hz2⟩:=srow_of_owns ic_len ho2
    rw [HPL.out] at hv3
    subst hv3
    rcases hz2 with ⟨hz3,hz4⟩|⟨g3,cur3,hz3,hg3b,hg3,cs3,ct3⟩
    ·rw [hz4] at HPL;exact absurd HPL.out (by decide)
    subst hz3
    obtain ⟨sp,hsp⟩ : ∃ sp,sp = cur3.toList.drop (ps.length * 1):=⟨_,rfl⟩
    have pP : blk P g3 = some (rowC ic ps ++ sp).toArray:=(by rw [hg3,hsp,← ct3];simp)
    have lg3 : s ≤ g3:=hg3b
    have lc3 : 3 ≤ c3 ∧ c3 ≤ maxLen:=(by have h1:=hz1.1;have h2:=hz1.2.1;rw [HPL.out] at h1;exact ⟨h1,h2⟩)
    have hk3 : ∀ k,(Value.slice (some ⟨s,0,none⟩) 0 0).ownBlock = some k → u2.heap.size ≤ k:=(fun k e => by have h9 : s = k:=Option.some.inj e;omega)
    have mP : Below u2.heap.size u2 P:=mA.grown hg mA.size hk3
    have kP : blk P w.heap.size = some #[.slice aw 3 cw,.int .i64 q,.slice ad 3 cd,.int .i64 t,.slice (some ⟨bp,op,none⟩) 3 cp]:=(blk_kept (hg.block _ (blk_lt kA) (fun e => by have h9 : s = w.heap.size:=Option.some.inj e.symm;omega))).trans kA
    have gP : blk P gb = some #[.slice a1 3 c1,.int .i64 q,.slice a2 3 c2,.int .i64 t9]:=(blk_kept (hg.block _ (blk_lt gA) (fun e => by have h9 : s = gb:=Option.some.inj e.symm;omega))).trans gA
    have r1P : SRow ic 1 P a1 c1 wl:=srow_keptS r1A (KeptS.of_grown (S:=fun b => b = s) hg (fun k e => (Option.some.inj e).symm)) (fun h0 b off e hb => by have:=LB1 b off e;omega)
    have r2P : SRow ic 1 P a2 c2 dl:=srow_keptS r2A (KeptS.of_grown (S:=fun b => b = s) hg (fun k e => (Option.some.inj e).symm)) (fun h0 b off e hb => by have:=LB2 b off e;omega)
    have Q1 : neA g3 a1 wl:=(fun h0 b off e => by have:=LB1 b off e;omega)
    have Q2 : neA g3 a2 dl:=(fun h0 b off e => by have:=LB2 b off e;omega)
    have xP : blk P xb = some #[.slice none 0 0,.int .i64 0,.slice none 0 0,.int .i64 0,.slice none 0 0]:=(blk_kept (hg.block _ (blk_lt xA) (fun e => by have h9 : s = xb:=Option.some.inj e.symm;omega))).trans xA
    have lpx : g3 ≠ xb:=(by rcases hf with h|h;(have h9 : g3 = s:=Option.some.inj h;omega);(have h9 : g3 = A.heap.size:=Option.some.inj h;have:=blk_lt xA;omega))
    clear ho ho2 hg hf hz1 hg3 hg3b cs3 ct3 hsp hk3
    refine hK.out _ _ ⟨fun o => blk_cell kP o,fun o => blk_cell gP o⟩ (fun _ => ?_)
    clear hK K
    (try simp only[Act.put,jA,jB,jC,jD,jE,jF])
    refine jK (v:=.agg #[.slice a1 3 c1,.int .i64 q,.slice a2 3 c2,.int .i64 t9,.slice (some ⟨g3,0,none⟩) 3 c3]) 5 ?_ ?_
    focus (intro W hSw;exact build_runW 28 _ _ rfl (by kernel_rfl) W)
    (try simp only[Act.put,jA,jB,jC,jD,jE,jF])
    refine jR 7 (fun K hK => ?_)
    refine wp_store_midB 28 (.tmp 21) (.tmp 70) xb 0 #[.slice none 0 0,.int .i64 0,.slice none 0 0,.int .i64 0,.slice none 0 0] #[.slice a1 3 c1,.int .i64 q,.slice a2 3 c2,.int .i64 t9,.slice (some ⟨g3,0,none⟩) 3 c3] #[.slice a1 3 c1,.int .i64 q,.slice a2 3 c2,.int .i64 t9,.slice (some ⟨g3,0,none⟩) 3 c3] xP rfl rfl rfl (by simp) (by kernel_rfl) (by kernel_rfl) (by kernel_rfl) ?_
    intro T xT sT BT zT
    have mT:=BT _ _ lx mP
    have pT:=blk_same pP lpx sT
    have kT:=blk_same kP (show w.heap.size ≠ xb by omega) sT
    have gT:=blk_same gP (show gb ≠ xb by omega) sT
    have r1T:=r1P.sameB sT X1
    have r2T:=r2P.sameB sT X2
    clear BT zT sT
    refine hK.out _ _ ⟨fun o => blk_cell kT o,fun o => blk_cell gT o⟩ (fun _ => ?_)
    clear hK K
    (try simp only[Act.put,jA,jB,jC,jD,jE,jF])
    refine wpAnyH_done (by kernel_rfl) ?_ _
    have n9:=kn xT
    obtain ⟨T9,eT⟩ : ∃ v,v = T:=⟨_,rfl⟩
    rw [← eT] at xT mT pT r1T r2T n9 ⊢
    clear eT kT gT
    have x9:=xT
    have m9:=mT
    have p9:=pT
    have r19:=r1T
    have r29:=r2T
    clear xT mT pT r1T r2T
    have cfp : T9.cell? ⟨fb,pn,none⟩ = some (.int .i64 (m : Int)):=(by rw [blk_cell (blk_below m9 HK2.out.2.2) pn];exact CM.out)
    have cop : T9.cell? ⟨ob,pn,none⟩ = some (.slice (some ⟨bq,oq,none⟩) lq cqq):=(m9.cell (p:=⟨ob,pn,none⟩) CQ.out.1).trans CQ.out.2
    have chp : T9.cell? ⟨bq,oq,none⟩ = some (.int .i64 hd):=(m9.cell (p:=⟨bq,oq,none⟩) CH.out.1).trans CH.out.2
    go_upto_region 13 with fail
    refine wp_region_in (by kernel_rfl) (by kernel_rfl) ?_
    intro W0 hE hN
    have q1:=calm_cellR (b:=fb) (o:=pn) (W0:=W0) (by rw [hE.out];exact Nat.lt_of_lt_of_le gf m9.size) (by rw [hE.out];exact cfp)
    have q2:=calm_cellR (b:=ob) (o:=pn) (W0:=W0) (by rw [hE.out];exact Nat.lt_of_lt_of_le CQ.out.1 m9.size) (by rw [hE.out];exact cop)
    have q3:=calm_cellR (b:=bq) (o:=oq) (W0:=W0) (by rw [hE.out];exact Nat.lt_of_lt_of_le CH.out.1 m9.size) (by rw [hE.out];exact chp)
    have E9:=Lib.hid (show W0 = T9.drew ∨ W0 = T9 from by first|exact .inl hE.out|exact .inr hE.out)
    clear hE
    repeat (go_big_quiet_step (fail))
    refine wpQuiet_nil ?_
    rintro _ ⟨x',rfl⟩
    have d9 : Below T9.heap.size T9 x'.wd:=calm_of (by rcases E9.out with e|e;exact .inl e;exact .inr e) x'.ok
    have x8:=blk_below d9 x9
    have m8:=bt m9 d9
    have p8:=blk_below d9 p9
    have r18:=r19.below d9
    have r28:=r29.below d9
    clear x9 m9 p9 r19 r29 n9 cfp cop chp q1 q2 q3 d9 E9 hN
    obtain ⟨T8,e8⟩ : ∃ v,v = x'.wd:=⟨_,rfl⟩
    rw [← e8] at x8 m8 p8 r18 r28 ⊢
    clear e8 x' T9
    obtain ⟨T9,eT⟩ : ∃ v,v = T8:=⟨_,rfl⟩
    rw [← eT] at x8 m8 p8 r18 r28 ⊢
    clear eT
    have x9:=x8
    have m9:=m8
    have p9:=p8
    have r19:=r18
    have r29:=r28
    clear x8 m8 p8 r18 r28
    have n9:=kn x9
    obtain ⟨pv,hpv⟩ : ∃ v,ps[pn]? = some v:=⟨_,List.getElem?_eq_getElem (by rw [HPL.out];exact hpn)⟩
    have cfp:=blk_cellI hpv p9
    have cop:=blk_frozen p9 pn
    have chp : True:=trivial
    have PV:=Lib.hid hpv
    clear hpv
    by_cases hh : (m : Int) = hd
    ·have t1 : ((m : Int) == hd) = true:=by simpa using hh
     have HQV:=Lib.hid (show (0 : Int) = if hd = (m : Int) then 0 else at3 ps pn + 1 by rw [if_pos hh.symm])
     clear hh
     go_upto_region 16 with fail
     obtain ⟨Y,eY⟩ : ∃ v,v = T9.setCell ⟨g3,pn,none⟩ (.int .i64 0):=⟨_,rfl⟩
     have hY : SameB g3 T9 Y:=(by rw [eY];exact (SameB.refl _ _).set _ _)
     have xY:=blk_same x9 (show xb ≠ g3 by omega) hY
     have pY : blk Y g3 = some (rowC ic (ps.set pn 0) ++ sp).toArray:=(by rw [eY];exact blk_setI PV.out p9)
     have mY : Below u2.heap.size u2 Y:=(by rw [eY];exact m9.setCell (show u2.heap.size ≤ g3 by omega) _)
     have y1:=r19.sameB hY Q1
     have y2:=r29.sameB hY Q2
     rw [← eY]
     clear eY hY x9 p9 m9 r19 r29 n9 cfp cop chp
     have fY:=blk_below mY HK2.out.2.2
     have zY:=blk_below mY HK2.out.2.1
     have bY:=bt B2.out mY
     refine wp_region_held_drew (S:=fun W => (∀ o,W.cell? ⟨fb,o,none⟩ = (#[.int .i64 ca0,.int .i64 ca1,.int .i64 ca2] : Array Value)[o]?) ∧ (∀ o,W.cell? ⟨xb,o,none⟩ = (#[.slice a1 3 c1,.int .i64 q,.slice a2 3 c2,.int .i64 t9,.slice (some ⟨g3,0,none⟩) 3 c3] : Array Value)[o]?)) (by kernel_rfl) ⟨fun o => blk_cell (blk_drew fY) o,fun o => blk_cell (blk_drew xY) o⟩ (fun hHeld => ?_)
     obtain ⟨d0,ed⟩ : ∃ v,v = Y.drew:=⟨_,rfl⟩
     have fd0 : blk d0 fb = some #[.int .i64 ca0,.int .i64 ca1,.int .i64 ca2]:=(by rw [ed];exact blk_drew fY)
     have xd0 : blk d0 xb = some #[.slice a1 3 c1,.int .i64 q,.slice a2 3 c2,.int .i64 t9,.slice (some ⟨g3,0,none⟩) 3 c3]:=(by rw [ed];exact blk_drew xY)
     have zd0 : blk d0 (w.heap.size + 1) = some #[.slice none 0 0,.int .i64 0,.slice none 0 0,.int .i64 0,.slice none 0 0]:=(by rw [ed];exact blk_drew zY)
     have pd0 : blk d0 g3 = some (rowC ic (ps.set pn 0) ++ sp).toArray:=(by rw [ed];exact blk_drew pY)
     have bd0 : Below w.heap.size w d0:=(by rw [ed];exact bY.drew)
     have rd1 : SRow ic 1 d0 a1 c1 wl:=(by rw [ed];exact y1)
     have rd2 : SRow ic 1 d0 a2 c2 dl:=(by rw [ed];exact y2)
     rw [← ed] at hHeld ⊢
     clear ed fY xY zY pY bY mY y1 y2
     refine jK (v:=?_) 0 ?_ ?_
     rotate_left;focus(intro W h;(try dsimp only at h);go_simp;(try with_reducible rfl));(try simp only[Act.put,jA,jB,jC,jD,jE,jF])
     refine jK (v:=?_) 1 ?_ ?_
     rotate_left;focus(intro W h;(try dsimp only at h);go_simp;(try with_reducible rfl));(try simp only[Act.put,jA,jB,jC,jD,jE,jF])
     refine jK (v:=?_) 2 ?_ ?_
     rotate_left;focus(intro W h;(try dsimp only at h);go_simp;(try with_reducible rfl));(try simp only[Act.put,jA,jB,jC,jD,jE,jF])
     refine jK (v:=.int .i64 (m : Int)) 3 ?_ ?_
     focus (intro W hSw;exact load_cellI (.tmp 95) _ _ rfl rfl W ((hSw.1 pn).trans CM.out))
     (try simp only[Act.put,jA,jB,jC,jD,jE,jF])
     refine jK (v:=?_) 4 ?_ ?_
     rotate_left;focus(intro W h;(try dsimp only at h);go_simp;(try with_reducible rfl));(try simp only[Act.put,jA,jB,jC,jD,jE,jF])
     refine jK (v:=?_) 5 ?_ ?_
     rotate_left;focus(intro W h;(try dsimp only at h);go_simp;(try with_reducible rfl));(try simp only[Act.put,jA,jB,jC,jD,jE,jF])
     refine jR 6 (fun K hK => ?_)
     refine wp_store_midB 28 (.tmp 13) (.tmp 97) (w.heap.size + 1) 0 #[.slice none 0 0,.int .i64 0,.slice none 0 0,.int .i64 0,.slice none 0 0] #[.slice a1 3 c1,.int .i64 q,.slice a2 3 c2,.int .i64 t9,.slice (some ⟨g3,0,none⟩) 3 c3] #[.slice a1 3 c1,.int .i64 q,.slice a2 3 c2,.int .i64 t9,.slice (some ⟨g3,0,none⟩) 3 c3] zd0 rfl rfl rfl (by simp) (by kernel_rfl) (by kernel_rfl) (by kernel_rfl) ?_
     intro F kF sF BF zF
     have bF:=BF _ _ (Nat.le_succ w.heap.size) bd0
     have kkF:=blk_same fd0 (Nat.ne_of_gt NFB.out) sF
     have xxF:=blk_same xd0 (Nat.ne_of_gt (Nat.lt_of_lt_of_le gz lx)) sF
     clear BF zF
     refine hK.out _ _ ⟨fun o => blk_cell kkF o,fun o => blk_cell xxF o⟩ (fun _ => ?_)
     clear hK K
     (try simp only[Act.put,jA,jB,jC,jD,jE,jF])
     refine wpAnyH_done (by kernel_rfl) ?_ _
     go_wp2
     refine ret_blk (b:=w.heap.size + 1) (c:=#[.slice a1 3 c1,.int .i64 q,.slice a2 3 c2,.int .i64 t9,.slice (some ⟨g3,0,none⟩) 3 c3]) (v:=.tuple #[.int .i64 (m : Int),.agg #[.slice a1 3 c1,.int .i64 q,.slice a2 3 c2,.int .i64 t9,.slice (some ⟨g3,0,none⟩) 3 c3]]) kF (fun W' hc => by simp [results,Tryd.results58,go_sem,hc]) rfl ?_
     exact FIN.out F a1 c1 a2 c2 g3 c3 sp 0 HQV.out bF (rd1.sameB sF (fun h0 b off e => Nat.ne_of_gt (Nat.lt_of_lt_of_le gz (U1 b off e)))) (rd2.sameB sF (fun h0 b off e => Nat.ne_of_gt (Nat.lt_of_lt_of_le gz (U2 b off e)))) (blk_same pd0 (Nat.ne_of_gt (Nat.lt_of_lt_of_le gz (Nat.le_trans ls lg3))) sF) lc3.1 lc3.2 (U1.mono B2.out.size) (U2.mono B2.out.size) (Nat.le_trans B2.out.size (Nat.le_trans ls lg3))
    ·have t1 : ((m : Int) == hd) = false:=by simpa using hh
     have epv : at3 ps pn = pv:=by unfold at3;rw [Int.toNat_natCast,List.getD_eq_getElem?_getD,PV.out];rfl
     have HQV:=Lib.hid (show pv + 1 = if hd = (m : Int) then 0 else at3 ps pn + 1 by rw [if_neg (fun e => hh e.symm),epv])
     have hpv1:=PB.out pv epv (fun e => hh e.symm)
     have vw : IntKind.i64.wrap (pv + 1) = pv + 1:=IntWalk.i64_in _ (by omega)
     clear hh epv
     go_upto_region 16 with fail
     obtain ⟨Y,eY⟩ : ∃ v,v = T9.setCell ⟨g3,pn,none⟩ (.int .i64 (pv + 1)):=⟨_,rfl⟩
     have hY : SameB g3 T9 Y:=(by rw [eY];exact (SameB.refl _ _).set _ _)
     have xY:=blk_same x9 (show xb ≠ g3 by omega) hY
     have pY : blk Y g3 = some (rowC ic (ps.set pn (pv + 1)) ++ sp).toArray:=(by rw [eY];exact blk_setI PV.out p9)
     have mY : Below u2.heap.size u2 Y:=(by rw [eY];exact m9.setCell (show u2.heap.size ≤ g3 by omega) _)
     have y1:=r19.sameB hY Q1
     have y2:=r29.sameB hY Q2
     rw [← eY]
     clear eY hY x9 p9 m9 r19 r29 n9 cfp cop chp
     have fY:=blk_below mY HK2.out.2.2
     have zY:=blk_below mY HK2.out.2.1
     have bY:=bt B2.out mY
     refine wp_region_held_drew (S:=fun W => (∀ o,W.cell? ⟨fb,o,none⟩ = (#[.int .i64 ca0,.int .i64 ca1,.int .i64 ca2] : Array Value)[o]?) ∧ (∀ o,W.cell? ⟨xb,o,none⟩ = (#[.slice a1 3 c1,.int .i64 q,.slice a2 3 c2,.int .i64 t9,.slice (some ⟨g3,0,none⟩) 3 c3] : Array Value)[o]?)) (by kernel_rfl) ⟨fun o => blk_cell (blk_drew fY) o,fun o => blk_cell (blk_drew xY) o⟩ (fun hHeld => ?_)
     obtain ⟨d0,ed⟩ : ∃ v,v = Y.drew:=⟨_,rfl⟩
     have fd0 : blk d0 fb = some #[.int .i64 ca0,.int .i64 ca1,.int .i64 ca2]:=(by rw [ed];exact blk_drew fY)
     have xd0 : blk d0 xb = some #[.slice a1 3 c1,.int .i64 q,.slice a2 3 c2,.int .i64 t9,.slice (some ⟨g3,0,none⟩) 3 c3]:=(by rw [ed];exact blk_drew xY)
     have zd0 : blk d0 (w.heap.size + 1) = some #[.slice none 0 0,.int .i64 0,.slice none 0 0,.int .i64 0,.slice none 0 0]:=(by rw [ed];exact blk_drew zY)
     have pd0 : blk d0 g3 = some (rowC ic (ps.set pn (pv + 1)) ++ sp).toArray:=(by rw [ed];exact blk_drew pY)
     have bd0 : Below w.heap.size w d0:=(by rw [ed];exact bY.drew)
     have rd1 : SRow ic 1 d0 a1 c1 wl:=(by rw [ed];exact y1)
     have rd2 : SRow ic 1 d0 a2 c2 dl:=(by rw [ed];exact y2)
     rw [← ed] at hHeld ⊢
     clear ed fY xY zY pY bY mY y1 y2
     refine jK (v:=?_) 0 ?_ ?_
     rotate_left;focus(intro W h;(try dsimp only at h);go_simp;(try with_reducible rfl));(try simp only[Act.put,jA,jB,jC,jD,jE,jF])
     refine jK (v:=?_) 1 ?_ ?_
     rotate_left;focus(intro W h;(try dsimp only at h);go_simp;(try with_reducible rfl));(try simp only[Act.put,jA,jB,jC,jD,jE,jF])
     refine jK (v:=?_) 2 ?_ ?_
     rotate_left;focus(intro W h;(try dsimp only at h);go_simp;(try with_reducible rfl));(try simp only[Act.put,jA,jB,jC,jD,jE,jF])
     refine jK (v:=.int .i64 (m : Int)) 3 ?_ ?_
     focus (intro W hSw;exact load_cellI (.tmp 95) _ _ rfl rfl W ((hSw.1 pn).trans CM.out))
     (try simp only[Act.put,jA,jB,jC,jD,jE,jF])
     refine jK (v:=?_) 4 ?_ ?_
     rotate_left;focus(intro W h;(try dsimp only at h);go_simp;(try with_reducible rfl));(try simp only[Act.put,jA,jB,jC,jD,jE,jF])
     refine jK (v:=?_) 5 ?_ ?_
     rotate_left;focus(intro W h;(try dsimp only at h);go_simp;(try with_reducible rfl));(try simp only[Act.put,jA,jB,jC,jD,jE,jF])
     refine jR 6 (fun K hK => ?_)
     refine wp_store_midB 28 (.tmp 13) (.tmp 97) (w.heap.size + 1) 0 #[.slice none 0 0,.int .i64 0,.slice none 0 0,.int .i64 0,.slice none 0 0] #[.slice a1 3 c1,.int .i64 q,.slice a2 3 c2,.int .i64 t9,.slice (some ⟨g3,0,none⟩) 3 c3] #[.slice a1 3 c1,.int .i64 q,.slice a2 3 c2,.int .i64 t9,.slice (some ⟨g3,0,none⟩) 3 c3] zd0 rfl rfl rfl (by simp) (by kernel_rfl) (by kernel_rfl) (by kernel_rfl) ?_
     intro F kF sF BF zF
     have bF:=BF _ _ (Nat.le_succ w.heap.size) bd0
     have kkF:=blk_same fd0 (Nat.ne_of_gt NFB.out) sF
     have xxF:=blk_same xd0 (Nat.ne_of_gt (Nat.lt_of_lt_of_le gz lx)) sF
     clear BF zF
     refine hK.out _ _ ⟨fun o => blk_cell kkF o,fun o => blk_cell xxF o⟩ (fun _ => ?_)
     clear hK K
     (try simp only[Act.put,jA,jB,jC,jD,jE,jF])
     refine wpAnyH_done (by kernel_rfl) ?_ _
     go_wp2
     refine ret_blk (b:=w.heap.size + 1) (c:=#[.slice a1 3 c1,.int .i64 q,.slice a2 3 c2,.int .i64 t9,.slice (some ⟨g3,0,none⟩) 3 c3]) (v:=.tuple #[.int .i64 (m : Int),.agg #[.slice a1 3 c1,.int .i64 q,.slice a2 3 c2,.int .i64 t9,.slice (some ⟨g3,0,none⟩) 3 c3]]) kF (fun W' hc => by simp [results,Tryd.results58,go_sem,hc]) rfl ?_
     exact FIN.out F a1 c1 a2 c2 g3 c3 sp (pv + 1) HQV.out bF (rd1.sameB sF (fun h0 b off e => Nat.ne_of_gt (Nat.lt_of_lt_of_le gz (U1 b off e)))) (rd2.sameB sF (fun h0 b off e => Nat.ne_of_gt (Nat.lt_of_lt_of_le gz (U2 b off e)))) (blk_same pd0 (Nat.ne_of_gt (Nat.lt_of_lt_of_le gz (Nat.le_trans ls lg3))) sF) lc3.1 lc3.2 (U1.mono B2.out.size) (U2.mono B2.out.size) (Nat.le_trans B2.out.size (Nat.le_trans ls lg3))
   refine AllReadyH.cons rfl (fun K hK => ?_) AllReadyH.nil
   go_simp
   obtain ⟨A,eA⟩ : ∃ v,v = d0.alloc (.cells #[.slice none 0 0,.int .i64 0,.slice none 0 0,.int .i64 0,.slice none 0 0] 28):=⟨_,rfl⟩
   obtain ⟨xb,exb⟩ : ∃ v,v = d0.heap.size:=⟨_,rfl⟩
   have dA : Below d0.heap.size d0 A:=(by rw [eA];exact (Below.refl _ _).alloc (Nat.le_refl _) _)
   have mA:=bt md0 dA
   have kA:=blk_below dA kd0
   have gA:=blk_below dA gd0
   have xA : blk A xb = some #[.slice none 0 0,.int .i64 0,.slice none 0 0,.int .i64 0,.slice none 0 0]:=(by rw [eA];exact blk_alloc_new _ _ _ exb)
   have lx : u2.heap.size ≤ xb:=(by rw [exb];exact md0.size)
   have lgx : gb < xb:=(by rw [exb];exact blk_lt gd0)
   have r1A:=r1d0.below dA
   have r2A:=r2d0.below dA
   have X1 : neA xb a1 wl:=r1d0.neNew (Nat.le_of_eq exb.symm)
   have X2 : neA xb a2 dl:=r2d0.neNew (Nat.le_of_eq exb.symm)
   rw [← eA,← exb]
   clear eA exb dA
   refine hK.out _ _ ⟨fun o => blk_cell kA o,fun o => blk_cell gA o⟩ (fun _ => ?_)
   clear hK K
   (try simp only[Act.put,jA,jB,jC,jD,jE,jF])
   refine jR 1 (fun K hK => ?_)
   go_simp
   obtain ⟨E,eE⟩ : ∃ v,v = A.alloc (.cells #[] 3):=⟨_,rfl⟩
   obtain ⟨s,es⟩ : ∃ v,v = A.heap.size:=⟨_,rfl⟩
   have dE : Below A.heap.size A E:=(by rw [eE];exact (Below.refl _ _).alloc (Nat.le_refl _) _)
   have mE:=bt mA dE
   have kE:=blk_below dE kA
   have gE:=blk_below dE gA
   have r1E:=r1A.below dE
   have r2E:=r2A.below dE
   have oE:=Lib.hid (show E.ownsRow s 3 1 (.slice (some ⟨s,0,none⟩) 0 0) 0 [] from by rw [eE,es];exact own_emptyE _ _)
   have ls : u2.heap.size ≤ s:=(by rw [es];exact mA.size)
   have lgs : gb < s:=(by rw [es];exact blk_lt gA)
   have N1 : neA s a1 wl:=r1A.neNew (Nat.le_of_eq es.symm)
   have N2 : neA s a2 dl:=r2A.neNew (Nat.le_of_eq es.symm)
   have LB1 : ∀ b off,a1 = some ⟨b,off,none⟩ → b < s:=(fun b off e => by rw [es];exact r1A.lt (by rw [LW.out.1];decide) e)
   have LB2 : ∀ b off,a2 = some ⟨b,off,none⟩ → b < s:=(fun b off e => by rw [es];exact r2A.lt (by rw [LW.out.2];decide) e)
   have xE:=blk_below dE xA
   have lxs : xb < s:=(by rw [es];exact blk_lt xA)
   rw [← eE,← es]
   clear eE es dE N1 N2
   refine hK.out _ _ ⟨fun o => blk_cell kE o,fun o => blk_cell gE o⟩ (fun _ => ?_)
   clear hK K
   (try simp only[Act.put,jA,jB,jC,jD,jE,jF])
   refine jR 4 (fun K hK => ?_)
   refine wp_append_fresh (.tmp 66) (.tmp 68) 22 rfl s 3 i0 (.int .i64 0) 1 8 Tryd.underlying22 Hi.out Hz0.out Hz1.out Hz2.out rfl (by decide) (.slice (some ⟨s,0,none⟩) 0 0) 0 [] rfl oE.out ⟨bp,op,none⟩ 3 cp (rowC ic ps) rfl (by rw [rowC_length ic_len,HPL.out]) (fun jj u hj => (by rw [Addr.add_mid];exact ((bt B2.out mE).cell (p:=⟨bp,op + jj,none⟩) BPL.out).trans (CP.out jj u hj))) (ic_onesE _) (by decide) (by unfold maxLen;omega) (by omega) (by have:=(oE.out.lt s rfl).2;omega) ?_
   intro v' P ho hg hf
   have ho2 : P.ownsRow s 3 1 v' ps.length (rowC ic ps):=(by rw [HPL.out];exact ho)
   obtain ⟨a3,c3,hv3,hz1,hz2⟩:=srow_of_owns ic_len ho2
   rw [HPL.out] at hv3
   subst hv3
   rcases hz2 with ⟨hz3,hz4⟩|⟨g3,cur3,hz3,hg3b,hg3,cs3,ct3⟩
   ·rw [hz4] at HPL;exact absurd HPL.out (by decide)
   subst hz3
   obtain ⟨sp,hsp⟩ : ∃ sp,sp = cur3.toList.drop (ps.length * 1):=⟨_,rfl⟩
   have pP : blk P g3 = some (rowC ic ps ++ sp).toArray:=(by rw [hg3,hsp,← ct3];simp)
   have lg3 : s ≤ g3:=hg3b
   have lc3 : 3 ≤ c3 ∧ c3 ≤ maxLen:=(by have h1:=hz1.1;have h2:=hz1.2.1;rw [HPL.out] at h1;exact ⟨h1,h2⟩)
   have hk3 : ∀ k,(Value.slice (some ⟨s,0,none⟩) 0 0).ownBlock = some k → u2.heap.size ≤ k:=(fun k e => by have h9 : s = k:=Option.some.inj e;omega)
   have mP : Below u2.heap.size u2 P:=mE.grown hg mE.size hk3
   have kP : blk P w.heap.size = some #[.slice aw 3 cw,.int .i64 q,.slice ad 3 cd,.int .i64 t,.slice (some ⟨bp,op,none⟩) 3 cp]:=(blk_kept (hg.block _ (blk_lt kE) (fun e => by have h9 : s = w.heap.size:=Option.some.inj e.symm;omega))).trans kE
   have gP : blk P gb = some #[.slice a1 3 c1,.int .i64 q,.slice a2 3 c2,.int .i64 t9]:=(blk_kept (hg.block _ (blk_lt gE) (fun e => by have h9 : s = gb:=Option.some.inj e.symm;omega))).trans gE
   have r1P : SRow ic 1 P a1 c1 wl:=srow_keptS r1E (KeptS.of_grown (S:=fun b => b = s) hg (fun k e => (Option.some.inj e).symm)) (fun h0 b off e hb => by have:=LB1 b off e;omega)
   have r2P : SRow ic 1 P a2 c2 dl:=srow_keptS r2E (KeptS.of_grown (S:=fun b => b = s) hg (fun k e => (Option.some.inj e).symm)) (fun h0 b off e hb => by have:=LB2 b off e;omega)
   have Q1 : neA g3 a1 wl:=(fun h0 b off e => by have:=LB1 b off e;omega)
   have Q2 : neA g3 a2 dl:=(fun h0 b off e => by have:=LB2 b off e;omega)
   have xP : blk P xb = some #[.slice none 0 0,.int .i64 0,.slice none 0 0,.int .i64 0,.slice none 0 0]:=(blk_kept (hg.block _ (blk_lt xE) (fun e => by have h9 : s = xb:=Option.some.inj e.symm;omega))).trans xE
   have lpx : g3 ≠ xb:=(by rcases hf with h|h;(have h9 : g3 = s:=Option.some.inj h;omega);(have h9 : g3 = E.heap.size:=Option.some.inj h;have:=blk_lt xE;omega))
   clear ho ho2 hg hf hz1 hg3 hg3b cs3 ct3 hsp hk3
   refine hK.out _ _ ⟨fun o => blk_cell kP o,fun o => blk_cell gP o⟩ (fun _ => ?_)
   clear hK K
   (try simp only[Act.put,jA,jB,jC,jD,jE,jF])
   refine jK (v:=.agg #[.slice a1 3 c1,.int .i64 q,.slice a2 3 c2,.int .i64 t9,.slice (some ⟨g3,0,none⟩) 3 c3]) 5 ?_ ?_
   focus (intro W hSw;exact build_runW 28 _ _ rfl (by kernel_rfl) W)
   (try simp only[Act.put,jA,jB,jC,jD,jE,jF])
   refine jR 7 (fun K hK => ?_)
   refine wp_store_midB 28 (.tmp 21) (.tmp 70) xb 0 #[.slice none 0 0,.int .i64 0,.slice none 0 0,.int .i64 0,.slice none 0 0] #[.slice a1 3 c1,.int .i64 q,.slice a2 3 c2,.int .i64 t9,.slice (some ⟨g3,0,none⟩) 3 c3] #[.slice a1 3 c1,.int .i64 q,.slice a2 3 c2,.int .i64 t9,.slice (some ⟨g3,0,none⟩) 3 c3] xP rfl rfl rfl (by simp) (by kernel_rfl) (by kernel_rfl) (by kernel_rfl) ?_
   intro T xT sT BT zT
   have mT:=BT _ _ lx mP
   have pT:=blk_same pP lpx sT
   have kT:=blk_same kP (show w.heap.size ≠ xb by omega) sT
   have gT:=blk_same gP (show gb ≠ xb by omega) sT
   have r1T:=r1P.sameB sT X1
   have r2T:=r2P.sameB sT X2
   clear BT zT sT
   refine hK.out _ _ ⟨fun o => blk_cell kT o,fun o => blk_cell gT o⟩ (fun _ => ?_)
   clear hK K
   (try simp only[Act.put,jA,jB,jC,jD,jE,jF])
   refine wpAnyH_done (by kernel_rfl) ?_ _
   have n9:=kn xT
   obtain ⟨T9,eT⟩ : ∃ v,v = T:=⟨_,rfl⟩
   rw [← eT] at xT mT pT r1T r2T n9 ⊢
   clear eT kT gT
   have x9:=xT
   have m9:=mT
   have p9:=pT
   have r19:=r1T
   have r29:=r2T
   clear xT mT pT r1T r2T
   have cfp : T9.cell? ⟨fb,pn,none⟩ = some (.int .i64 (m : Int)):=(by rw [blk_cell (blk_below m9 HK2.out.2.2) pn];exact CM.out)
   have cop : T9.cell? ⟨ob,pn,none⟩ = some (.slice (some ⟨bq,oq,none⟩) lq cqq):=(m9.cell (p:=⟨ob,pn,none⟩) CQ.out.1).trans CQ.out.2
   have chp : T9.cell? ⟨bq,oq,none⟩ = some (.int .i64 hd):=(m9.cell (p:=⟨bq,oq,none⟩) CH.out.1).trans CH.out.2
   go_upto_region 13 with fail
   refine wp_region_in (by kernel_rfl) (by kernel_rfl) ?_
   intro W0 hE hN
   have q1:=calm_cellR (b:=fb) (o:=pn) (W0:=W0) (by rw [hE.out];exact Nat.lt_of_lt_of_le gf m9.size) (by rw [hE.out];exact cfp)
   have q2:=calm_cellR (b:=ob) (o:=pn) (W0:=W0) (by rw [hE.out];exact Nat.lt_of_lt_of_le CQ.out.1 m9.size) (by rw [hE.out];exact cop)
   have q3:=calm_cellR (b:=bq) (o:=oq) (W0:=W0) (by rw [hE.out];exact Nat.lt_of_lt_of_le CH.out.1 m9.size) (by rw [hE.out];exact chp)
   have E9:=Lib.hid (show W0 = T9.drew ∨ W0 = T9 from by first|exact .inl hE.out|exact .inr hE.out)
   clear hE
   repeat (go_big_quiet_step (fail))
   refine wpQuiet_nil ?_
   rintro _ ⟨x',rfl⟩
   have d9 : Below T9.heap.size T9 x'.wd:=calm_of (by rcases E9.out with e|e;exact .inl e;exact .inr e) x'.ok
   have x8:=blk_below d9 x9
   have m8:=bt m9 d9
   have p8:=blk_below d9 p9
   have r18:=r19.below d9
   have r28:=r29.below d9
   clear x9 m9 p9 r19 r29 n9 cfp cop chp q1 q2 q3 d9 E9 hN
   obtain ⟨T8,e8⟩ : ∃ v,v = x'.wd:=⟨_,rfl⟩
   rw [← e8] at x8 m8 p8 r18 r28 ⊢
   clear e8 x' T9
   obtain ⟨T9,eT⟩ : ∃ v,v = T8:=⟨_,rfl⟩
   rw [← eT] at x8 m8 p8 r18 r28 ⊢
   clear eT
   have x9:=x8
   have m9:=m8
   have p9:=p8
   have r19:=r18
   have r29:=r28
   clear x8 m8 p8 r18 r28
   have n9:=kn x9
   obtain ⟨pv,hpv⟩ : ∃ v,ps[pn]? = some v:=⟨_,List.getElem?_eq_getElem (by rw [HPL.out];exact hpn)⟩
   have cfp:=blk_cellI hpv p9
   have cop:=blk_frozen p9 pn
   have chp : True:=trivial
   have PV:=Lib.hid hpv
   clear hpv
   by_cases hh : (m : Int) = hd
   ·have t1 : ((m : Int) == hd) = true:=by simpa using hh
    have HQV:=Lib.hid (show (0 : Int) = if hd = (m : Int) then 0 else at3 ps pn + 1 by rw [if_pos hh.symm])
    clear hh
    go_upto_region 16 with fail
    obtain ⟨Y,eY⟩ : ∃ v,v = T9.setCell ⟨g3,pn,none⟩ (.int .i64 0):=⟨_,rfl⟩
    have hY : SameB g3 T9 Y:=(by rw [eY];exact (SameB.refl _ _).set _ _)
    have xY:=blk_same x9 (show xb ≠ g3 by omega) hY
    have pY : blk Y g3 = some (rowC ic (ps.set pn 0) ++ sp).toArray:=(by rw [eY];exact blk_setI PV.out p9)
    have mY : Below u2.heap.size u2 Y:=(by rw [eY];exact m9.setCell (show u2.heap.size ≤ g3 by omega) _)
    have y1:=r19.sameB hY Q1
    have y2:=r29.sameB hY Q2
    rw [← eY]
    clear eY hY x9 p9 m9 r19 r29 n9 cfp cop chp
    have fY:=blk_below mY HK2.out.2.2
    have zY:=blk_below mY HK2.out.2.1
    have bY:=bt B2.out mY
    refine wp_region_held_drew (S:=fun W => (∀ o,W.cell? ⟨fb,o,none⟩ = (#[.int .i64 ca0,.int .i64 ca1,.int .i64 ca2] : Array Value)[o]?) ∧ (∀ o,W.cell? ⟨xb,o,none⟩ = (#[.slice a1 3 c1,.int .i64 q,.slice a2 3 c2,.int .i64 t9,.slice (some ⟨g3,0,none⟩) 3 c3] : Array Value)[o]?)) (by kernel_rfl) ⟨fun o => blk_cell (blk_drew fY) o,fun o => blk_cell (blk_drew xY) o⟩ (fun hHeld => ?_)
    obtain ⟨d0,ed⟩ : ∃ v,v = Y.drew:=⟨_,rfl⟩
    have fd0 : blk d0 fb = some #[.int .i64 ca0,.int .i64 ca1,.int .i64 ca2]:=(by rw [ed];exact blk_drew fY)
    have xd0 : blk d0 xb = some #[.slice a1 3 c1,.int .i64 q,.slice a2 3 c2,.int .i64 t9,.slice (some ⟨g3,0,none⟩) 3 c3]:=(by rw [ed];exact blk_drew xY)
    have zd0 : blk d0 (w.heap.size + 1) = some #[.slice none 0 0,.int .i64 0,.slice none 0 0,.int .i64 0,.slice none 0 0]:=(by rw [ed];exact blk_drew zY)
    have pd0 : blk d0 g3 = some (rowC ic (ps.set pn 0) ++ sp).toArray:=(by rw [ed];exact blk_drew pY)
    have bd0 : Below w.heap.size w d0:=(by rw [ed];exact bY.drew)
    have rd1 : SRow ic 1 d0 a1 c1 wl:=(by rw [ed];exact y1)
    have rd2 : SRow ic 1 d0 a2 c2 dl:=(by rw [ed];exact y2)
    rw [← ed] at hHeld ⊢
    clear ed fY xY zY pY bY mY y1 y2
    refine jK (v:=?_) 0 ?_ ?_
    rotate_left;focus(intro W h;(try dsimp only at h);go_simp;(try with_reducible rfl));(try simp only[Act.put,jA,jB,jC,jD,jE,jF])
    refine jK (v:=?_) 1 ?_ ?_
    rotate_left;focus(intro W h;(try dsimp only at h);go_simp;(try with_reducible rfl));(try simp only[Act.put,jA,jB,jC,jD,jE,jF])
    refine jK (v:=?_) 2 ?_ ?_
    rotate_left;focus(intro W h;(try dsimp only at h);go_simp;(try with_reducible rfl));(try simp only[Act.put,jA,jB,jC,jD,jE,jF])
    refine jK (v:=.int .i64 (m : Int)) 3 ?_ ?_
    focus (intro W hSw;exact load_cellI (.tmp 95) _ _ rfl rfl W ((hSw.1 pn).trans CM.out))
    (try simp only[Act.put,jA,jB,jC,jD,jE,jF])
    refine jK (v:=?_) 4 ?_ ?_
    rotate_left;focus(intro W h;(try dsimp only at h);go_simp;(try with_reducible rfl));(try simp only[Act.put,jA,jB,jC,jD,jE,jF])
    refine jK (v:=?_) 5 ?_ ?_
    rotate_left;focus(intro W h;(try dsimp only at h);go_simp;(try with_reducible rfl));(try simp only[Act.put,jA,jB,jC,jD,jE,jF])
    refine jR 6 (fun K hK => ?_)
    refine wp_store_midB 28 (.tmp 13) (.tmp 97) (w.heap.size + 1) 0 #[.slice none 0 0,.int .i64 0,.slice none 0 0,.int .i64 0,.slice none 0 0] #[.slice a1 3 c1,.int .i64 q,.slice a2 3 c2,.int .i64 t9,.slice (some ⟨g3,0,none⟩) 3 c3] #[.slice a1 3 c1,.int .i64 q,.slice a2 3 c2,.int .i64 t9,.slice (some ⟨g3,0,none⟩) 3 c3] zd0 rfl rfl rfl (by simp) (by kernel_rfl) (by kernel_rfl) (by kernel_rfl) ?_
    intro F kF sF BF zF
    have bF:=BF _ _ (Nat.le_succ w.heap.size) bd0
    have kkF:=blk_same fd0 (Nat.ne_of_gt NFB.out) sF
    have xxF:=blk_same xd0 (Nat.ne_of_gt (Nat.lt_of_lt_of_le gz lx)) sF
    clear BF zF
    refine hK.out _ _ ⟨fun o => blk_cell kkF o,fun o => blk_cell xxF o⟩ (fun _ => ?_)
    clear hK K
    (try simp only[Act.put,jA,jB,jC,jD,jE,jF])
    refine wpAnyH_done (by kernel_rfl) ?_ _
    go_wp2
    refine ret_blk (b:=w.heap.size + 1) (c:=#[.slice a1 3 c1,.int .i64 q,.slice a2 3 c2,.int .i64 t9,.slice (some ⟨g3,0,none⟩) 3 c3]) (v:=.tuple #[.int .i64 (m : Int),.agg #[.slice a1 3 c1,.int .i64 q,.slice a2 3 c2,.int .i64 t9,.slice (some ⟨g3,0,none⟩) 3 c3]]) kF (fun W' hc => by simp [results,Tryd.results58,go_sem,hc]) rfl ?_
    exact FIN.out F a1 c1 a2 c2 g3 c3 sp 0 HQV.out bF (rd1.sameB sF (fun h0 b off e => Nat.ne_of_gt (Nat.lt_of_lt_of_le gz (U1 b off e)))) (rd2.sameB sF (fun h0 b off e => Nat.ne_of_gt (Nat.lt_of_lt_of_le gz (U2 b off e)))) (blk_same pd0 (Nat.ne_of_gt (Nat.lt_of_lt_of_le gz (Nat.le_trans ls lg3))) sF) lc3.1 lc3.2 (U1.mono B2.out.size) (U2.mono B2.out.size) (Nat.le_trans B2.out.size (Nat.le_trans ls lg3))
   ·have t1 : ((m : Int) == hd) = false:=by simpa using hh
    have epv : at3 ps pn = pv:=by unfold at3;rw [Int.toNat_natCast,List.getD_eq_getElem?_getD,PV.out];rfl
    have HQV:=Lib.hid (show pv + 1 = if hd = (m : Int) then 0 else at3 ps pn + 1 by rw [if_neg (fun e => hh e.symm),epv])
    have hpv1:=PB.out pv epv (fun e => hh e.symm)
    have vw : IntKind.i64.wrap (pv + 1) = pv + 1:=IntWalk.i64_in _ (by omega)
    clear hh epv
    go_upto_region 16 with fail
    obtain ⟨Y,eY⟩ : ∃ v,v = T9.setCell ⟨g3,pn,none⟩ (.int .i64 (pv + 1)):=⟨_,rfl⟩
    have hY : SameB g3 T9 Y:=(by rw [eY];exact (SameB.refl _ _).set _ _)
    have xY:=blk_same x9 (show xb ≠ g3 by omega) hY
    have pY : blk Y g3 = some (rowC ic (ps.set pn (pv + 1)) ++ sp).toArray:=(by rw [eY];exact blk_setI PV.out p9)
    have mY : Below u2.heap.size u2 Y:=(by rw [eY];exact m9.setCell (show u2.heap.size ≤ g3 by omega) _)
    have y1:=r19.sameB hY Q1
    have y2:=r29.sameB hY Q2
    rw [← eY]
    clear eY hY x9 p9 m9 r19 r29 n9 cfp cop chp
    have fY:=blk_below mY HK2.out.2.2
    have zY:=blk_below mY HK2.out.2.1
    have bY:=bt B2.out mY
    refine wp_region_held_drew (S:=fun W => (∀ o,W.cell? ⟨fb,o,none⟩ = (#[.int .i64 ca0,.int .i64 ca1,.int .i64 ca2] : Array Value)[o]?) ∧ (∀ o,W.cell? ⟨xb,o,none⟩ = (#[.slice a1 3 c1,.int .i64 q,.slice a2 3 c2,.int .i64 t9,.slice (some ⟨g3,0,none⟩) 3 c3] : Array Value)[o]?)) (by kernel_rfl) ⟨fun o => blk_cell (blk_drew fY) o,fun o => blk_cell (blk_drew xY) o⟩ (fun hHeld => ?_)
    obtain ⟨d0,ed⟩ : ∃ v,v = Y.drew:=⟨_,rfl⟩
    have fd0 : blk d0 fb = some #[.int .i64 ca0,.int .i64 ca1,.int .i64 ca2]:=(by rw [ed];exact blk_drew fY)
    have xd0 : blk d0 xb = some #[.slice a1 3 c1,.int .i64 q,.slice a2 3 c2,.int .i64 t9,.slice (some ⟨g3,0,none⟩) 3 c3]:=(by rw [ed];exact blk_drew xY)
    have zd0 : blk d0 (w.heap.size + 1) = some #[.slice none 0 0,.int .i64 0,.slice none 0 0,.int .i64 0,.slice none 0 0]:=(by rw [ed];exact blk_drew zY)
    have pd0 : blk d0 g3 = some (rowC ic (ps.set pn (pv + 1)) ++ sp).toArray:=(by rw [ed];exact blk_drew pY)
    have bd0 : Below w.heap.size w d0:=(by rw [ed];exact bY.drew)
    have rd1 : SRow ic 1 d0 a1 c1 wl:=(by rw [ed];exact y1)
    have rd2 : SRow ic 1 d0 a2 c2 dl:=(by rw [ed];exact y2)
    rw [← ed] at hHeld ⊢
    clear ed fY xY zY pY bY mY y1 y2
    refine jK (v:=?_) 0 ?_ ?_
    rotate_left;focus(intro W h;(try dsimp only at h);go_simp;(try with_reducible rfl));(try simp only[Act.put,jA,jB,jC,jD,jE,jF])
    refine jK (v:=?_) 1 ?_ ?_
    rotate_left;focus(intro W h;(try dsimp only at h);go_simp;(try with_reducible rfl));(try simp only[Act.put,jA,jB,jC,jD,jE,jF])
    refine jK (v:=?_) 2 ?_ ?_
    rotate_left;focus(intro W h;(try dsimp only at h);go_simp;(try with_reducible rfl));(try simp only[Act.put,jA,jB,jC,jD,jE,jF])
    refine jK (v:=.int .i64 (m : Int)) 3 ?_ ?_
    focus (intro W hSw;exact load_cellI (.tmp 95) _ _ rfl rfl W ((hSw.1 pn).trans CM.out))
    (try simp only[Act.put,jA,jB,jC,jD,jE,jF])
    refine jK (v:=?_) 4 ?_ ?_
    rotate_left;focus(intro W h;(try dsimp only at h);go_simp;(try with_reducible rfl));(try simp only[Act.put,jA,jB,jC,jD,jE,jF])
    refine jK (v:=?_) 5 ?_ ?_
    rotate_left;focus(intro W h;(try dsimp only at h);go_simp;(try with_reducible rfl));(try simp only[Act.put,jA,jB,jC,jD,jE,jF])
    refine jR 6 (fun K hK => ?_)
    refine wp_store_midB 28 (.tmp 13) (.tmp 97) (w.heap.size + 1) 0 #[.slice none 0 0,.int .i64 0,.slice none 0 0,.int .i64 0,.slice none 0 0] #[.slice a1 3 c1,.int .i64 q,.slice a2 3 c2,.int .i64 t9,.slice (some ⟨g3,0,none⟩) 3 c3] #[.slice a1 3 c1,.int .i64 q,.slice a2 3 c2,.int .i64 t9,.slice (some ⟨g3,0,none⟩) 3 c3] zd0 rfl rfl rfl (by simp) (by kernel_rfl) (by kernel_rfl) (by kernel_rfl) ?_
    intro F kF sF BF zF
    have bF:=BF _ _ (Nat.le_succ w.heap.size) bd0
    have kkF:=blk_same fd0 (Nat.ne_of_gt NFB.out) sF
    have xxF:=blk_same xd0 (Nat.ne_of_gt (Nat.lt_of_lt_of_le gz lx)) sF
    clear BF zF
    refine hK.out _ _ ⟨fun o => blk_cell kkF o,fun o => blk_cell xxF o⟩ (fun _ => ?_)
    clear hK K
    (try simp only[Act.put,jA,jB,jC,jD,jE,jF])
    refine wpAnyH_done (by kernel_rfl) ?_ _
    go_wp2
    refine ret_blk (b:=w.heap.size + 1) (c:=#[.slice a1 3 c1,.int .i64 q,.slice a2 3 c2,.int .i64 t9,.slice (some ⟨g3,0,none⟩) 3 c3]) (v:=.tuple #[.int .i64 (m : Int),.agg #[.slice a1 3 c1,.int .i64 q,.slice a2 3 c2,.int .i64 t9,.slice (some ⟨g3,0,none⟩) 3 c3]]) kF (fun W' hc => by simp [results,Tryd.results58,go_sem,hc]) rfl ?_
    exact FIN.out F a1 c1 a2 c2 g3 c3 sp (pv + 1) HQV.out bF (rd1.sameB sF (fun h0 b off e => Nat.ne_of_gt (Nat.lt_of_lt_of_le gz (U1 b off e)))) (rd2.sameB sF (fun h0 b off e => Nat.ne_of_gt (Nat.lt_of_lt_of_le gz (U2 b off e)))) (blk_same pd0 (Nat.ne_of_gt (Nat.lt_of_lt_of_le gz (Nat.le_trans ls lg3))) sF) lc3.1 lc3.2 (U1.mono B2.out.size) (U2.mono B2.out.size) (Nat.le_trans B2.out.size (Nat.le_trans ls lg3))
end Go.Proofs.YtkaehoihpgelnaaDoor
