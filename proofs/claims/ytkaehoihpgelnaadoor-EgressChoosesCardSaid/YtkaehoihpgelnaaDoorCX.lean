/- Parts of a proof, printed by a program of mine out of my texts: EgRServe, EgRNext, EgRNxC. -/
import Derived.Test.YtkaehoihpgelnaaDoorCJ
import Derived.Test.YtkaehoihpgelnaaDoorCS
set_option linter.unusedSimpArgs false
set_option linter.unusedVariables false
set_option maxRecDepth 100000
namespace Go.Proofs.YtkaehoihpgelnaaDoor
open Go.RowKit
theorem grown_trans {w u v : World} {row : Option Nat} (h : w.grownBy u row) (h2 : u.grownBy v row) : w.grownBy v row :=
  ⟨h2.os.trans h.os,h2.tape.trans h.tape,h2.output.trans h.output,Nat.le_trans h.size h2.size,fun k hk hn => (h2.block k (Nat.lt_of_lt_of_le hk h.size) hn).trans (h.block k hk hn)⟩
set_option maxHeartbeats 6400000 in
theorem rserve_any (g gw hb cw cd : Nat) (sp spw : List Value) (w0 w1 w2 a0 a1 a2 q t0 h0 h1 h2 : Int) (w : World) (hx : okD ⟨[w0,w1,w2],[a0,a1,a2],q,t0⟩) (hh : okH [h0,h1,h2]) (hn : ¬ ∀ v ∈ [h0,h1,h2],v = 0) (hwg : gw ≠ g) (hhg : hb ≠ g)
  (kg : blk w g = some (rowC ic [a0,a1,a2] ++ sp).toArray) (kw : blk w gw = some (rowC ic [w0,w1,w2] ++ spw).toArray) (kh : blk w hb = some #[.int .i64 h0,.int .i64 h1,.int .i64 h2]) :
  Calls Tryd.prog 92 #[.agg #[.slice (some ⟨gw,0,none⟩) 3 cw,.int .i64 q,.slice (some ⟨g,0,none⟩) 3 cd,.int .i64 t0],.slice (some ⟨hb,0,none⟩) 3 3] w fun e w' => ∃ n : Int,e = .returned (.tuple #[.agg #[.slice (some ⟨gw,0,none⟩) 3 cw,.int .i64 q,.slice (some ⟨g,0,none⟩) 3 cd,.int .i64 (nextD ⟨[w0,w1,w2],[a0,a1,a2],q,t0⟩ [h0,h1,h2]).2.t],.int .i64 n]) ∧ w.grownBy w' (some g) ∧ blk w' g = some (rowC ic (nextD ⟨[w0,w1,w2],[a0,a1,a2],q,t0⟩ [h0,h1,h2]).2.d ++ sp).toArray ∧ blk w' gw = some (rowC ic [w0,w1,w2] ++ spw).toArray ∧ blk w' hb = some #[.int .i64 h0,.int .i64 h1,.int .i64 h2]:=by
 obtain ⟨p,hp,hpos⟩:=okH_pos hh hn
 have HPP:=Lib.hid (And.intro hpos (okH_at hh p).2)
 have ha:=hh.2 h0 (by simp);have hb':=hh.2 h1 (by simp);have hc':=hh.2 h2 (by simp)
 obtain ⟨X0,hX0⟩ : ∃ X,X = (⟨[w0,w1,w2],[a0,a1,a2],q,t0⟩ : Rr):=⟨_,rfl⟩
 have hu1:=muD_le hx hp (okH_at hh p).2
 have HMU:=Lib.hid hu1
 have HX0:=Lib.hid hx
 have q1 : 1 ≤ q ∧ q ≤ 1200:=hx.2.2.2.1
 clear hu1 hn hh hpos hx
 have lg:=blk_lt kg;have lw:=blk_lt kw;have lh:=blk_lt kh
 obtain ⟨V,eV⟩ : ∃ v,v = (w.alloc (.cells #[.slice (some ⟨gw,0,none⟩) 3 cw,.int .i64 q,.slice (some ⟨g,0,none⟩) 3 cd,.int .i64 t0] 26)).alloc (.cells #[.slice none 0 0,.int .i64 0,.slice none 0 0,.int .i64 0] 26):=⟨_,rfl⟩
 obtain ⟨c,ec⟩ : ∃ n,n = w.heap.size:=⟨_,rfl⟩
 obtain ⟨zb,ez⟩ : ∃ n,n = w.heap.size + 1:=⟨_,rfl⟩
 have kcV : blk V c = some #[.slice (some ⟨gw,0,none⟩) 3 cw,.int .i64 q,.slice (some ⟨g,0,none⟩) 3 cd,.int .i64 t0]:=(by rw [eV,ec];exact blk_alloc (blk_alloc_new _ _ _ rfl) _)
 have kzV : blk V zb = some #[.slice none 0 0,.int .i64 0,.slice none 0 0,.int .i64 0]:=(by rw [eV,ez];exact blk_alloc_new _ _ _ (by simp))
 have kgV : blk V g = some (rowC ic [a0,a1,a2] ++ sp).toArray:=(by rw [eV];exact blk_alloc (blk_alloc kg _) _)
 have kwV : blk V gw = some (rowC ic [w0,w1,w2] ++ spw).toArray:=(by rw [eV];exact blk_alloc (blk_alloc kw _) _)
 have khV : blk V hb = some #[.int .i64 h0,.int .i64 h1,.int .i64 h2]:=(by rw [eV];exact blk_alloc (blk_alloc kh _) _)
 have bV : w.grownBy V (some g):=grown_thenB (igrown_self w g) (by rw [eV];exact ((Below.refl _ _).alloc (Nat.le_refl _) _).alloc (by simp) _)
 have ne_g_c : g ≠ c:=by omega
 have ne_gw_c : gw ≠ c:=by omega
 have ne_hb_c : hb ≠ c:=by omega
 have ne_zb_c : zb ≠ c:=by omega
 have ne_c_g : c ≠ g:=by omega
 have ne_gw_g : gw ≠ g:=hwg
 have ne_hb_g : hb ≠ g:=hhg
 have ne_zb_g : zb ≠ g:=by omega
 have ne_g_zb : g ≠ zb:=by omega
 have ne_gw_zb : gw ≠ zb:=by omega
 have ne_hb_zb : hb ≠ zb:=by omega
 have gr_c : some g = some c ∨ w.heap.size ≤ c:=.inr (by omega)
 have gr_zb : some g = some zb ∨ w.heap.size ≤ zb:=.inr (by omega)
 have HEV:=Lib.hid eV;have HCB:=Lib.hid ec;have HZB:=Lib.hid ez
 clear eV ec ez kg kw kh lg lw lh
 go_enter Tryd.func92,Tryd.ntmps92
 go_upto_region 1 with fail
 rw [← HZB.out,← HEV.out,← HCB.out]
 clear HZB HEV HCB
 go_wp2
 go_loopw [6] (fun vp wr => ∃ (k m : Nat) (d : List Int) (t : Int),vp = .int .i64 k ∧ k + m = 4000 ∧ Hid (w.grownBy wr (some g)) ∧ Hid (okD ⟨[w0,w1,w2],d,q,t⟩ ∧ (serveD m ⟨[w0,w1,w2],d,q,t⟩ [h0,h1,h2] = serveD fuelD X0 [h0,h1,h2] ∧ muD ⟨[w0,w1,w2],d,q,t⟩ [h0,h1,h2] p < m) ∧ blk wr c = some #[.slice (some ⟨gw,0,none⟩) 3 cw,.int .i64 q,.slice (some ⟨g,0,none⟩) 3 cd,.int .i64 t] ∧ blk wr g = some (rowC ic d ++ sp).toArray ∧ blk wr gw = some (rowC ic [w0,w1,w2] ++ spw).toArray ∧ blk wr hb = some #[.int .i64 h0,.int .i64 h1,.int .i64 h2] ∧ blk wr zb = some #[.slice none 0 0,.int .i64 0,.slice none 0 0,.int .i64 0])) (fun vp _ => 4000 - (intOf vp).toNat)
 case atStart => exact ⟨0,4000,[a0,a1,a2],t0,rfl,rfl,Lib.hid bV,Lib.hid ⟨HX0.out,⟨by rw [hX0];rfl,by have:=HMU.out;unfold fuelD at this;exact this⟩,kcV,kgV,kwV,khV,kzV⟩⟩
 case round =>
  clear bV kcV kgV kwV khV kzV
  obtain ⟨k,m,d,t,rfl,hkm,HBW,HALL⟩:=hrel
  have bwr:=HBW.out
  obtain ⟨hxo,hm,kcwr,kgwr,kwwr,khwr,kzwr⟩:=HALL.out
  obtain ⟨d0,d1,d2,rfl⟩:=list3 hxo.2.1
  have ht : 0 ≤ t ∧ t ≤ 2:=hxo.2.2.2.2.2
  have HX:=Lib.hid hxo
  cases m with
  | zero => exact absurd hm.2 (by omega)
  | succ m =>
  have HM:=Lib.hid hm
  have hkb : k < 4000:=by omega
  clear hm hxo HALL HBW
  rcases (by omega : t = 0 ∨ t = 1 ∨ t = 2) with rfl|rfl|rfl
  ·have dd:=HX.out.2.2.2.2.1
   have da:=dd d0 (by simp)
   have db:=dd d1 (by simp)
   have dc:=dd d2 (by simp)
   clear dd
   have nwr:=kn kcwr
   have mwr:=kn khwr
   have fwr:=(kn kgwr).2.1
   have g0wr : wr.cell? ⟨g,0,none⟩ = some (.int .i64 (d0)):=blk_cellI (M:=[d0,d1,d2]) (k:=0) rfl kgwr
   have g1wr : wr.cell? ⟨g,1,none⟩ = some (.int .i64 (d1)):=blk_cellI (M:=[d0,d1,d2]) (k:=1) rfl kgwr
   have g2wr : wr.cell? ⟨g,2,none⟩ = some (.int .i64 (d2)):=blk_cellI (M:=[d0,d1,d2]) (k:=2) rfl kgwr
   have w0wr : wr.cell? ⟨gw,0,none⟩ = some (.int .i64 w0):=blk_cellI (M:=[w0,w1,w2]) (k:=0) rfl kwwr
   have w1wr : wr.cell? ⟨gw,1,none⟩ = some (.int .i64 w1):=blk_cellI (M:=[w0,w1,w2]) (k:=1) rfl kwwr
   have w2wr : wr.cell? ⟨gw,2,none⟩ = some (.int .i64 w2):=blk_cellI (M:=[w0,w1,w2]) (k:=2) rfl kwwr
   by_cases z0 : h0 = 0
   ·have x1 : (h0 == 0) = true:=by simp [z0]
    have hst : stopD ⟨[w0,w1,w2],[d0,d1,d2],q,0⟩ [h0,h1,h2] = false:=by simp [stopD,at3];omega
    go_wp2_with fail
    refine wp_region_in (by kernel_rfl) (by kernel_rfl) ?_
    intro W0 hE hN
    have j0 : blk W0 c = some #[.slice (some ⟨gw,0,none⟩) 3 cw,.int .i64 q,.slice (some ⟨g,0,none⟩) 3 cd,.int .i64 0]:=(by rw [hE.out];exact kcwr)
    have j1 : blk W0 g = some (rowC ic [d0,d1,d2] ++ sp).toArray:=(by rw [hE.out];exact kgwr)
    have j2 : blk W0 gw = some (rowC ic [w0,w1,w2] ++ spw).toArray:=(by rw [hE.out];exact kwwr)
    have j3 : blk W0 hb = some #[.int .i64 h0,.int .i64 h1,.int .i64 h2]:=(by rw [hE.out];exact khwr)
    have j4 : blk W0 zb = some #[.slice none 0 0,.int .i64 0,.slice none 0 0,.int .i64 0]:=(by rw [hE.out];exact kzwr)
    have j9 : w.grownBy W0 (some g):=(by rw [hE.out];exact bwr)
    clear hE
    clear nwr mwr fwr g0wr g1wr g2wr w0wr w1wr w2wr
    clear kcwr kgwr kwwr khwr kzwr bwr
    have q1:=calm_kn j0
    have q4:=calm_kn j3
    have r0 : ∀ X : Class (Calm W0),X.wd.cell? ⟨g,0,none⟩ = some (.int .i64 (d0)):=fun X => blk_cellI (M:=[d0,d1,d2]) (k:=0) rfl (blk_below X.ok j1)
    have s0 : ∀ X : Class (Calm W0),X.wd.cell? ⟨gw,0,none⟩ = some (.int .i64 w0):=fun X => blk_cellI (M:=[w0,w1,w2]) (k:=0) rfl (blk_below X.ok j2)
    have r1 : ∀ X : Class (Calm W0),X.wd.cell? ⟨g,1,none⟩ = some (.int .i64 (d1)):=fun X => blk_cellI (M:=[d0,d1,d2]) (k:=1) rfl (blk_below X.ok j1)
    have s1 : ∀ X : Class (Calm W0),X.wd.cell? ⟨gw,1,none⟩ = some (.int .i64 w1):=fun X => blk_cellI (M:=[w0,w1,w2]) (k:=1) rfl (blk_below X.ok j2)
    have r2 : ∀ X : Class (Calm W0),X.wd.cell? ⟨g,2,none⟩ = some (.int .i64 (d2)):=fun X => blk_cellI (M:=[d0,d1,d2]) (k:=2) rfl (blk_below X.ok j1)
    have s2 : ∀ X : Class (Calm W0),X.wd.cell? ⟨gw,2,none⟩ = some (.int .i64 w2):=fun X => blk_cellI (M:=[w0,w1,w2]) (k:=2) rfl (blk_below X.ok j2)
    repeat (go_big_quiet_step (fail))
    refine wpQuiet_nil ?_
    rintro _ ⟨x',rfl⟩
    have kcU1:=blk_below x'.ok j0
    have kgU1:=blk_below x'.ok j1
    have kwU1:=blk_below x'.ok j2
    have khU1:=blk_below x'.ok j3
    have kzU1:=blk_below x'.ok j4
    have bU1 : w.grownBy x'.wd (some g):=grown_thenB j9 x'.ok
    obtain ⟨U1,hu⟩ : ∃ u,u = x'.wd:=⟨_,rfl⟩
    rw [← hu] at kcU1 kgU1 kwU1 khU1 kzU1 bU1 ⊢
    clear hu x' hN q1 q4 r0 r1 r2 s0 s1 s2 j0 j1 j2 j3 j4 j9
    have nU1:=kn kcU1
    have mU1:=kn khU1
    have fU1:=(kn kgU1).2.1
    have g0U1 : U1.cell? ⟨g,0,none⟩ = some (.int .i64 (d0)):=blk_cellI (M:=[d0,d1,d2]) (k:=0) rfl kgU1
    have g1U1 : U1.cell? ⟨g,1,none⟩ = some (.int .i64 (d1)):=blk_cellI (M:=[d0,d1,d2]) (k:=1) rfl kgU1
    have g2U1 : U1.cell? ⟨g,2,none⟩ = some (.int .i64 (d2)):=blk_cellI (M:=[d0,d1,d2]) (k:=2) rfl kgU1
    have w0U1 : U1.cell? ⟨gw,0,none⟩ = some (.int .i64 w0):=blk_cellI (M:=[w0,w1,w2]) (k:=0) rfl kwU1
    have w1U1 : U1.cell? ⟨gw,1,none⟩ = some (.int .i64 w1):=blk_cellI (M:=[w0,w1,w2]) (k:=1) rfl kwU1
    have w2U1 : U1.cell? ⟨gw,2,none⟩ = some (.int .i64 w2):=blk_cellI (M:=[w0,w1,w2]) (k:=2) rfl kwU1
    have GP:=Lib.hid (rpass_any g gw hb cw cd sp spw w0 w1 w2 d0 d1 d2 q 0 h0 h1 h2 U1 HX.out ne_gw_g ne_hb_g kgU1 kwU1 khU1)
    clear mU1 fU1 g0U1 g1U1 g2U1 w0U1 w1U1 w2U1
    obtain ⟨Y,hY⟩ : ∃ Y,Y = passD ⟨[w0,w1,w2],[d0,d1,d2],q,0⟩ [h0,h1,h2]:=⟨_,rfl⟩
    have hx2 : okD Y:=(by rw [hY];exact okD_pass HX.out)
    have HM2 : Hid (serveD m Y [h0,h1,h2] = serveD fuelD X0 [h0,h1,h2] ∧ muD Y [h0,h1,h2] p < m):=Lib.hid (by
     have h9:=muD_pass HX.out rfl hp HPP.out hst
     have h8:=HM.out.1
     rw [pass_serve hst] at h8
     rw [hY]
     exact ⟨h8,by have:=HM.out.2;omega⟩)
    rw [← hY] at GP
    have yw : Y.w = [w0,w1,w2]:=(by rw [hY];rfl)
    have yq : Y.q = q:=(by rw [hY];rfl)
    have HX2:=Lib.hid hx2
    obtain ⟨yw_,yd_,yq_,yt_⟩:=Y
    simp only at yw yq GP
    subst yw
    have yq':=yq.symm
    clear yq
    subst yq'
    clear hY hst hx2
    go_upto_region 4 with (go_at_call 109;go_loud ((with_reducible refine (GP.out).mono ?_);rintro e U2 ⟨rfl,hg2,kgU2,kwU2,khU2⟩;(have kcU2 : blk U2 c = some #[.slice (some ⟨gw,0,none⟩) 3 cw,.int .i64 q,.slice (some ⟨g,0,none⟩) 3 cd,.int .i64 0]:=(blk_kept (hg2.block c (blk_lt kcU1) (fun e => ne_c_g (Option.some.inj e)))).trans kcU1);(have kzU2 : blk U2 zb = some #[.slice none 0 0,.int .i64 0,.slice none 0 0,.int .i64 0]:=(blk_kept (hg2.block zb (blk_lt kzU1) (fun e => ne_zb_g (Option.some.inj e)))).trans kzU1);(have bU2 : w.grownBy U2 (some g):=grown_trans bU1 hg2);(have nU2:=kn kcU2);clear hg2))
    obtain ⟨F,eF⟩ : ∃ F,F = ((((U2).setCell ⟨c,0,none⟩ (.slice (some ⟨gw,0,none⟩) 3 cw)).setCell ⟨c,1,none⟩ (.int .i64 q)).setCell ⟨c,2,none⟩ (.slice (some ⟨g,0,none⟩) 3 cd)).setCell ⟨c,3,none⟩ (.int .i64 yt_):=⟨_,rfl⟩
    have kcF : blk F c = some #[.slice (some ⟨gw,0,none⟩) 3 cw,.int .i64 q,.slice (some ⟨g,0,none⟩) 3 cd,.int .i64 yt_]:=(by rw [eF];exact blk_set (i:=3) (v:=.int .i64 yt_) (blk_set (i:=2) (v:=.slice (some ⟨g,0,none⟩) 3 cd) (blk_set (i:=1) (v:=.int .i64 q) (blk_set (i:=0) (v:=.slice (some ⟨gw,0,none⟩) 3 cw) (kcU2)))))
    have bF : w.grownBy F (some g):=(by rw [eF];exact grown_setCell _ _ (grown_setCell _ _ (grown_setCell _ _ (grown_setCell _ _ (bU2) gr_c) gr_c) gr_c) gr_c)
    have kgF : blk F g = some (rowC ic yd_ ++ sp).toArray:=(by rw [eF];exact blk_other (blk_other (blk_other (blk_other kgU2 ne_g_c) ne_g_c) ne_g_c) ne_g_c)
    have kwF : blk F gw = some (rowC ic [w0,w1,w2] ++ spw).toArray:=(by rw [eF];exact blk_other (blk_other (blk_other (blk_other kwU2 ne_gw_c) ne_gw_c) ne_gw_c) ne_gw_c)
    have khF : blk F hb = some #[.int .i64 h0,.int .i64 h1,.int .i64 h2]:=(by rw [eF];exact blk_other (blk_other (blk_other (blk_other khU2 ne_hb_c) ne_hb_c) ne_hb_c) ne_hb_c)
    have kzF : blk F zb = some #[.slice none 0 0,.int .i64 0,.slice none 0 0,.int .i64 0]:=(by rw [eF];exact blk_other (blk_other (blk_other (blk_other kzU2 ne_zb_c) ne_zb_c) ne_zb_c) ne_zb_c)
    have ALL:=Lib.hid (And.intro HX2.out (And.intro HM2.out (And.intro kcF (And.intro kgF (And.intro kwF (And.intro khF kzF))))))
    have BF:=Lib.hid bF
    rw [← eF]
    clear eF nU2 kcU2 kgU2 kwU2 khU2 kzU2 bU2
    clear kcF kgF kwF khF kzF bF
    go_wp2
    go_roundw
    case rel => exact ⟨k + 1,m,_,_,by go_num,by omega,BF,ALL⟩
    case measure => simp [intOf];omega
   ·have x1 : (h0 == 0) = false:=by simpa using z0
    by_cases z9 : d0 < h0
    ·have x2 : decide (d0 < h0) = true:=decide_eq_true z9
     have hst : stopD ⟨[w0,w1,w2],[d0,d1,d2],q,0⟩ [h0,h1,h2] = false:=by simp [stopD,at3];omega
     go_wp2_with fail
     refine wp_region_in (by kernel_rfl) (by kernel_rfl) ?_
     intro W0 hE hN
     have j0 : blk W0 c = some #[.slice (some ⟨gw,0,none⟩) 3 cw,.int .i64 q,.slice (some ⟨g,0,none⟩) 3 cd,.int .i64 0]:=(by rw [hE.out];exact kcwr)
     have j1 : blk W0 g = some (rowC ic [d0,d1,d2] ++ sp).toArray:=(by rw [hE.out];exact kgwr)
     have j2 : blk W0 gw = some (rowC ic [w0,w1,w2] ++ spw).toArray:=(by rw [hE.out];exact kwwr)
     have j3 : blk W0 hb = some #[.int .i64 h0,.int .i64 h1,.int .i64 h2]:=(by rw [hE.out];exact khwr)
     have j4 : blk W0 zb = some #[.slice none 0 0,.int .i64 0,.slice none 0 0,.int .i64 0]:=(by rw [hE.out];exact kzwr)
     have j9 : w.grownBy W0 (some g):=(by rw [hE.out];exact bwr)
     clear hE
     clear nwr mwr fwr g0wr g1wr g2wr w0wr w1wr w2wr
     clear kcwr kgwr kwwr khwr kzwr bwr
     have q1:=calm_kn j0
     have q4:=calm_kn j3
     have r0 : ∀ X : Class (Calm W0),X.wd.cell? ⟨g,0,none⟩ = some (.int .i64 (d0)):=fun X => blk_cellI (M:=[d0,d1,d2]) (k:=0) rfl (blk_below X.ok j1)
     have s0 : ∀ X : Class (Calm W0),X.wd.cell? ⟨gw,0,none⟩ = some (.int .i64 w0):=fun X => blk_cellI (M:=[w0,w1,w2]) (k:=0) rfl (blk_below X.ok j2)
     have r1 : ∀ X : Class (Calm W0),X.wd.cell? ⟨g,1,none⟩ = some (.int .i64 (d1)):=fun X => blk_cellI (M:=[d0,d1,d2]) (k:=1) rfl (blk_below X.ok j1)
     have s1 : ∀ X : Class (Calm W0),X.wd.cell? ⟨gw,1,none⟩ = some (.int .i64 w1):=fun X => blk_cellI (M:=[w0,w1,w2]) (k:=1) rfl (blk_below X.ok j2)
     have r2 : ∀ X : Class (Calm W0),X.wd.cell? ⟨g,2,none⟩ = some (.int .i64 (d2)):=fun X => blk_cellI (M:=[d0,d1,d2]) (k:=2) rfl (blk_below X.ok j1)
     have s2 : ∀ X : Class (Calm W0),X.wd.cell? ⟨gw,2,none⟩ = some (.int .i64 w2):=fun X => blk_cellI (M:=[w0,w1,w2]) (k:=2) rfl (blk_below X.ok j2)
     repeat (go_big_quiet_step (fail))
     refine wpQuiet_nil ?_
     rintro _ ⟨x',rfl⟩
     have kcU1:=blk_below x'.ok j0
     have kgU1:=blk_below x'.ok j1
     have kwU1:=blk_below x'.ok j2
     have khU1:=blk_below x'.ok j3
     have kzU1:=blk_below x'.ok j4
     have bU1 : w.grownBy x'.wd (some g):=grown_thenB j9 x'.ok
     obtain ⟨U1,hu⟩ : ∃ u,u = x'.wd:=⟨_,rfl⟩
     rw [← hu] at kcU1 kgU1 kwU1 khU1 kzU1 bU1 ⊢
     clear hu x' hN q1 q4 r0 r1 r2 s0 s1 s2 j0 j1 j2 j3 j4 j9
     have nU1:=kn kcU1
     have mU1:=kn khU1
     have fU1:=(kn kgU1).2.1
     have g0U1 : U1.cell? ⟨g,0,none⟩ = some (.int .i64 (d0)):=blk_cellI (M:=[d0,d1,d2]) (k:=0) rfl kgU1
     have g1U1 : U1.cell? ⟨g,1,none⟩ = some (.int .i64 (d1)):=blk_cellI (M:=[d0,d1,d2]) (k:=1) rfl kgU1
     have g2U1 : U1.cell? ⟨g,2,none⟩ = some (.int .i64 (d2)):=blk_cellI (M:=[d0,d1,d2]) (k:=2) rfl kgU1
     have w0U1 : U1.cell? ⟨gw,0,none⟩ = some (.int .i64 w0):=blk_cellI (M:=[w0,w1,w2]) (k:=0) rfl kwU1
     have w1U1 : U1.cell? ⟨gw,1,none⟩ = some (.int .i64 w1):=blk_cellI (M:=[w0,w1,w2]) (k:=1) rfl kwU1
     have w2U1 : U1.cell? ⟨gw,2,none⟩ = some (.int .i64 w2):=blk_cellI (M:=[w0,w1,w2]) (k:=2) rfl kwU1
     have GP:=Lib.hid (rpass_any g gw hb cw cd sp spw w0 w1 w2 d0 d1 d2 q 0 h0 h1 h2 U1 HX.out ne_gw_g ne_hb_g kgU1 kwU1 khU1)
     clear mU1 fU1 g0U1 g1U1 g2U1 w0U1 w1U1 w2U1
     obtain ⟨Y,hY⟩ : ∃ Y,Y = passD ⟨[w0,w1,w2],[d0,d1,d2],q,0⟩ [h0,h1,h2]:=⟨_,rfl⟩
     have hx2 : okD Y:=(by rw [hY];exact okD_pass HX.out)
     have HM2 : Hid (serveD m Y [h0,h1,h2] = serveD fuelD X0 [h0,h1,h2] ∧ muD Y [h0,h1,h2] p < m):=Lib.hid (by
      have h9:=muD_pass HX.out rfl hp HPP.out hst
      have h8:=HM.out.1
      rw [pass_serve hst] at h8
      rw [hY]
      exact ⟨h8,by have:=HM.out.2;omega⟩)
     rw [← hY] at GP
     have yw : Y.w = [w0,w1,w2]:=(by rw [hY];rfl)
     have yq : Y.q = q:=(by rw [hY];rfl)
     have HX2:=Lib.hid hx2
     obtain ⟨yw_,yd_,yq_,yt_⟩:=Y
     simp only at yw yq GP
     subst yw
     have yq':=yq.symm
     clear yq
     subst yq'
     clear hY hst hx2
     go_upto_region 4 with (go_at_call 109;go_loud ((with_reducible refine (GP.out).mono ?_);rintro e U2 ⟨rfl,hg2,kgU2,kwU2,khU2⟩;(have kcU2 : blk U2 c = some #[.slice (some ⟨gw,0,none⟩) 3 cw,.int .i64 q,.slice (some ⟨g,0,none⟩) 3 cd,.int .i64 0]:=(blk_kept (hg2.block c (blk_lt kcU1) (fun e => ne_c_g (Option.some.inj e)))).trans kcU1);(have kzU2 : blk U2 zb = some #[.slice none 0 0,.int .i64 0,.slice none 0 0,.int .i64 0]:=(blk_kept (hg2.block zb (blk_lt kzU1) (fun e => ne_zb_g (Option.some.inj e)))).trans kzU1);(have bU2 : w.grownBy U2 (some g):=grown_trans bU1 hg2);(have nU2:=kn kcU2);clear hg2))
     obtain ⟨F,eF⟩ : ∃ F,F = ((((U2).setCell ⟨c,0,none⟩ (.slice (some ⟨gw,0,none⟩) 3 cw)).setCell ⟨c,1,none⟩ (.int .i64 q)).setCell ⟨c,2,none⟩ (.slice (some ⟨g,0,none⟩) 3 cd)).setCell ⟨c,3,none⟩ (.int .i64 yt_):=⟨_,rfl⟩
     have kcF : blk F c = some #[.slice (some ⟨gw,0,none⟩) 3 cw,.int .i64 q,.slice (some ⟨g,0,none⟩) 3 cd,.int .i64 yt_]:=(by rw [eF];exact blk_set (i:=3) (v:=.int .i64 yt_) (blk_set (i:=2) (v:=.slice (some ⟨g,0,none⟩) 3 cd) (blk_set (i:=1) (v:=.int .i64 q) (blk_set (i:=0) (v:=.slice (some ⟨gw,0,none⟩) 3 cw) (kcU2)))))
     have bF : w.grownBy F (some g):=(by rw [eF];exact grown_setCell _ _ (grown_setCell _ _ (grown_setCell _ _ (grown_setCell _ _ (bU2) gr_c) gr_c) gr_c) gr_c)
     have kgF : blk F g = some (rowC ic yd_ ++ sp).toArray:=(by rw [eF];exact blk_other (blk_other (blk_other (blk_other kgU2 ne_g_c) ne_g_c) ne_g_c) ne_g_c)
     have kwF : blk F gw = some (rowC ic [w0,w1,w2] ++ spw).toArray:=(by rw [eF];exact blk_other (blk_other (blk_other (blk_other kwU2 ne_gw_c) ne_gw_c) ne_gw_c) ne_gw_c)
     have khF : blk F hb = some #[.int .i64 h0,.int .i64 h1,.int .i64 h2]:=(by rw [eF];exact blk_other (blk_other (blk_other (blk_other khU2 ne_hb_c) ne_hb_c) ne_hb_c) ne_hb_c)
     have kzF : blk F zb = some #[.slice none 0 0,.int .i64 0,.slice none 0 0,.int .i64 0]:=(by rw [eF];exact blk_other (blk_other (blk_other (blk_other kzU2 ne_zb_c) ne_zb_c) ne_zb_c) ne_zb_c)
     have ALL:=Lib.hid (And.intro HX2.out (And.intro HM2.out (And.intro kcF (And.intro kgF (And.intro kwF (And.intro khF kzF))))))
     have BF:=Lib.hid bF
     rw [← eF]
     clear eF nU2 kcU2 kgU2 kwU2 khU2 kzU2 bU2
     clear kcF kgF kwF khF kzF bF
     go_wp2
     go_roundw
     case rel => exact ⟨k + 1,m,_,_,by go_num,by omega,BF,ALL⟩
     case measure => simp [intOf];omega
    ·have x2 : decide (d0 < h0) = false:=decide_eq_false z9
     have hst : stopD ⟨[w0,w1,w2],[d0,d1,d2],q,0⟩ [h0,h1,h2] = true:=by simp [stopD,at3];omega
     have HS:=Lib.hid (show serveD fuelD X0 [h0,h1,h2] = ⟨[w0,w1,w2],[d0,d1,d2],q,0⟩ by rw [← HM.out.1,stop_serve hst])
     clear hst
     go_wp2_with fail
     refine wp_region_in (by kernel_rfl) (by kernel_rfl) ?_
     intro W0 hE hN
     have j0 : blk W0 c = some #[.slice (some ⟨gw,0,none⟩) 3 cw,.int .i64 q,.slice (some ⟨g,0,none⟩) 3 cd,.int .i64 0]:=(by rw [hE.out];exact kcwr)
     have j1 : blk W0 g = some (rowC ic [d0,d1,d2] ++ sp).toArray:=(by rw [hE.out];exact kgwr)
     have j2 : blk W0 gw = some (rowC ic [w0,w1,w2] ++ spw).toArray:=(by rw [hE.out];exact kwwr)
     have j3 : blk W0 hb = some #[.int .i64 h0,.int .i64 h1,.int .i64 h2]:=(by rw [hE.out];exact khwr)
     have j4 : blk W0 zb = some #[.slice none 0 0,.int .i64 0,.slice none 0 0,.int .i64 0]:=(by rw [hE.out];exact kzwr)
     have j9 : w.grownBy W0 (some g):=(by rw [hE.out];exact bwr)
     clear hE
     clear nwr mwr fwr g0wr g1wr g2wr w0wr w1wr w2wr
     clear kcwr kgwr kwwr khwr kzwr bwr
     have q1:=calm_kn j0
     have q4:=calm_kn j3
     have r0 : ∀ X : Class (Calm W0),X.wd.cell? ⟨g,0,none⟩ = some (.int .i64 (d0)):=fun X => blk_cellI (M:=[d0,d1,d2]) (k:=0) rfl (blk_below X.ok j1)
     have s0 : ∀ X : Class (Calm W0),X.wd.cell? ⟨gw,0,none⟩ = some (.int .i64 w0):=fun X => blk_cellI (M:=[w0,w1,w2]) (k:=0) rfl (blk_below X.ok j2)
     have r1 : ∀ X : Class (Calm W0),X.wd.cell? ⟨g,1,none⟩ = some (.int .i64 (d1)):=fun X => blk_cellI (M:=[d0,d1,d2]) (k:=1) rfl (blk_below X.ok j1)
     have s1 : ∀ X : Class (Calm W0),X.wd.cell? ⟨gw,1,none⟩ = some (.int .i64 w1):=fun X => blk_cellI (M:=[w0,w1,w2]) (k:=1) rfl (blk_below X.ok j2)
     have r2 : ∀ X : Class (Calm W0),X.wd.cell? ⟨g,2,none⟩ = some (.int .i64 (d2)):=fun X => blk_cellI (M:=[d0,d1,d2]) (k:=2) rfl (blk_below X.ok j1)
     have s2 : ∀ X : Class (Calm W0),X.wd.cell? ⟨gw,2,none⟩ = some (.int .i64 w2):=fun X => blk_cellI (M:=[w0,w1,w2]) (k:=2) rfl (blk_below X.ok j2)
     repeat (go_big_quiet_step (fail))
     refine wpQuiet_nil ?_
     rintro _ ⟨x',rfl⟩
     have kcU1:=blk_below x'.ok j0
     have kgU1:=blk_below x'.ok j1
     have kwU1:=blk_below x'.ok j2
     have khU1:=blk_below x'.ok j3
     have kzU1:=blk_below x'.ok j4
     have bU1 : w.grownBy x'.wd (some g):=grown_thenB j9 x'.ok
     obtain ⟨U1,hu⟩ : ∃ u,u = x'.wd:=⟨_,rfl⟩
     rw [← hu] at kcU1 kgU1 kwU1 khU1 kzU1 bU1 ⊢
     clear hu x' hN q1 q4 r0 r1 r2 s0 s1 s2 j0 j1 j2 j3 j4 j9
     have nU1:=kn kcU1
     have mU1:=kn khU1
     have fU1:=(kn kgU1).2.1
     have g0U1 : U1.cell? ⟨g,0,none⟩ = some (.int .i64 (d0)):=blk_cellI (M:=[d0,d1,d2]) (k:=0) rfl kgU1
     have g1U1 : U1.cell? ⟨g,1,none⟩ = some (.int .i64 (d1)):=blk_cellI (M:=[d0,d1,d2]) (k:=1) rfl kgU1
     have g2U1 : U1.cell? ⟨g,2,none⟩ = some (.int .i64 (d2)):=blk_cellI (M:=[d0,d1,d2]) (k:=2) rfl kgU1
     have w0U1 : U1.cell? ⟨gw,0,none⟩ = some (.int .i64 w0):=blk_cellI (M:=[w0,w1,w2]) (k:=0) rfl kwU1
     have w1U1 : U1.cell? ⟨gw,1,none⟩ = some (.int .i64 w1):=blk_cellI (M:=[w0,w1,w2]) (k:=1) rfl kwU1
     have w2U1 : U1.cell? ⟨gw,2,none⟩ = some (.int .i64 w2):=blk_cellI (M:=[w0,w1,w2]) (k:=2) rfl kwU1
     have v9 : IntKind.i64.wrap (d0 - h0) = d0 - h0:=IntWalk.i64_in _ (by omega)
     go_upto_region 5 with fail
     refine wp_region_tail 17 (by kernel_rfl) (by kernel_rfl) ?_
     intro W0 hE hN
     have j0 : blk W0 c = some #[.slice (some ⟨gw,0,none⟩) 3 cw,.int .i64 q,.slice (some ⟨g,0,none⟩) 3 cd,.int .i64 0]:=(by rw [hE.out];exact kcU1)
     have j1 : blk W0 g = some (rowC ic [d0,d1,d2] ++ sp).toArray:=(by rw [hE.out];exact kgU1)
     have j2 : blk W0 gw = some (rowC ic [w0,w1,w2] ++ spw).toArray:=(by rw [hE.out];exact kwU1)
     have j3 : blk W0 hb = some #[.int .i64 h0,.int .i64 h1,.int .i64 h2]:=(by rw [hE.out];exact khU1)
     have j4 : blk W0 zb = some #[.slice none 0 0,.int .i64 0,.slice none 0 0,.int .i64 0]:=(by rw [hE.out];exact kzU1)
     have j9 : w.grownBy W0 (some g):=(by rw [hE.out];exact bU1)
     clear hE
     clear nU1 mU1 fU1 g0U1 g1U1 g2U1 w0U1 w1U1 w2U1
     clear kcU1 kgU1 kwU1 khU1 kzU1 bU1
     have q1:=calm_kn j0
     have q4:=calm_kn j3
     have r0 : ∀ X : Class (Calm W0),X.wd.cell? ⟨g,0,none⟩ = some (.int .i64 (d0)):=fun X => blk_cellI (M:=[d0,d1,d2]) (k:=0) rfl (blk_below X.ok j1)
     have s0 : ∀ X : Class (Calm W0),X.wd.cell? ⟨gw,0,none⟩ = some (.int .i64 w0):=fun X => blk_cellI (M:=[w0,w1,w2]) (k:=0) rfl (blk_below X.ok j2)
     have r1 : ∀ X : Class (Calm W0),X.wd.cell? ⟨g,1,none⟩ = some (.int .i64 (d1)):=fun X => blk_cellI (M:=[d0,d1,d2]) (k:=1) rfl (blk_below X.ok j1)
     have s1 : ∀ X : Class (Calm W0),X.wd.cell? ⟨gw,1,none⟩ = some (.int .i64 w1):=fun X => blk_cellI (M:=[w0,w1,w2]) (k:=1) rfl (blk_below X.ok j2)
     have r2 : ∀ X : Class (Calm W0),X.wd.cell? ⟨g,2,none⟩ = some (.int .i64 (d2)):=fun X => blk_cellI (M:=[d0,d1,d2]) (k:=2) rfl (blk_below X.ok j1)
     have s2 : ∀ X : Class (Calm W0),X.wd.cell? ⟨gw,2,none⟩ = some (.int .i64 w2):=fun X => blk_cellI (M:=[w0,w1,w2]) (k:=2) rfl (blk_below X.ok j2)
     simp only [List.take_succ_cons,List.take_zero,List.drop_succ_cons,List.drop_zero]
     repeat (go_big_quiet_step (fail))
     refine wpQuiet_nil ?_
     rintro _ ⟨x',rfl⟩
     have kcU2:=blk_below x'.ok j0
     have kgU2:=blk_below x'.ok j1
     have kwU2:=blk_below x'.ok j2
     have khU2:=blk_below x'.ok j3
     have kzU2:=blk_below x'.ok j4
     have bU2 : w.grownBy x'.wd (some g):=grown_thenB j9 x'.ok
     obtain ⟨U2,hu⟩ : ∃ u,u = x'.wd:=⟨_,rfl⟩
     rw [← hu] at kcU2 kgU2 kwU2 khU2 kzU2 bU2 ⊢
     clear hu x' hN q1 q4 r0 r1 r2 s0 s1 s2 j0 j1 j2 j3 j4 j9
     have nU2:=kn kcU2
     have mU2:=kn khU2
     have fU2:=(kn kgU2).2.1
     have g0U2 : U2.cell? ⟨g,0,none⟩ = some (.int .i64 (d0)):=blk_cellI (M:=[d0,d1,d2]) (k:=0) rfl kgU2
     have g1U2 : U2.cell? ⟨g,1,none⟩ = some (.int .i64 (d1)):=blk_cellI (M:=[d0,d1,d2]) (k:=1) rfl kgU2
     have g2U2 : U2.cell? ⟨g,2,none⟩ = some (.int .i64 (d2)):=blk_cellI (M:=[d0,d1,d2]) (k:=2) rfl kgU2
     have w0U2 : U2.cell? ⟨gw,0,none⟩ = some (.int .i64 w0):=blk_cellI (M:=[w0,w1,w2]) (k:=0) rfl kwU2
     have w1U2 : U2.cell? ⟨gw,1,none⟩ = some (.int .i64 w1):=blk_cellI (M:=[w0,w1,w2]) (k:=1) rfl kwU2
     have w2U2 : U2.cell? ⟨gw,2,none⟩ = some (.int .i64 w2):=blk_cellI (M:=[w0,w1,w2]) (k:=2) rfl kwU2
     go_upto_region 6 with fail
     obtain ⟨U3,eU3⟩ : ∃ v,v = U2.setCell ⟨g,0,none⟩ (.int .i64 (d0 - h0)):=⟨_,rfl⟩
     have kcU3 : blk U3 c = some #[.slice (some ⟨gw,0,none⟩) 3 cw,.int .i64 q,.slice (some ⟨g,0,none⟩) 3 cd,.int .i64 0]:=(by rw [eU3];exact blk_other kcU2 ne_c_g)
     have kgU3 : blk U3 g = some (rowC ic [d0 - h0,d1,d2] ++ sp).toArray:=(by rw [eU3];exact blk_setI (M:=[d0,d1,d2]) (k:=0) (x:=(d0)) rfl kgU2)
     have kwU3 : blk U3 gw = some (rowC ic [w0,w1,w2] ++ spw).toArray:=(by rw [eU3];exact blk_other kwU2 ne_gw_g)
     have khU3 : blk U3 hb = some #[.int .i64 h0,.int .i64 h1,.int .i64 h2]:=(by rw [eU3];exact blk_other khU2 ne_hb_g)
     have kzU3 : blk U3 zb = some #[.slice none 0 0,.int .i64 0,.slice none 0 0,.int .i64 0]:=(by rw [eU3];exact blk_other kzU2 ne_zb_g)
     have bU3 : w.grownBy U3 (some g):=(by rw [eU3];exact grown_setCell _ _ bU2 (.inl rfl))
     rw [← eU3]
     clear eU3
     clear nU2 mU2 fU2 g0U2 g1U2 g2U2 w0U2 w1U2 w2U2
     have nU3:=kn kcU3
     have mU3:=kn khU3
     have fU3:=(kn kgU3).2.1
     have g0U3 : U3.cell? ⟨g,0,none⟩ = some (.int .i64 (d0 - h0)):=blk_cellI (M:=[d0 - h0,d1,d2]) (k:=0) rfl kgU3
     have g1U3 : U3.cell? ⟨g,1,none⟩ = some (.int .i64 (d1)):=blk_cellI (M:=[d0 - h0,d1,d2]) (k:=1) rfl kgU3
     have g2U3 : U3.cell? ⟨g,2,none⟩ = some (.int .i64 (d2)):=blk_cellI (M:=[d0 - h0,d1,d2]) (k:=2) rfl kgU3
     have w0U3 : U3.cell? ⟨gw,0,none⟩ = some (.int .i64 w0):=blk_cellI (M:=[w0,w1,w2]) (k:=0) rfl kwU3
     have w1U3 : U3.cell? ⟨gw,1,none⟩ = some (.int .i64 w1):=blk_cellI (M:=[w0,w1,w2]) (k:=1) rfl kwU3
     have w2U3 : U3.cell? ⟨gw,2,none⟩ = some (.int .i64 w2):=blk_cellI (M:=[w0,w1,w2]) (k:=2) rfl kwU3
     have EN:=Lib.hid (show nextD ⟨[w0,w1,w2],[a0,a1,a2],q,t0⟩ [h0,h1,h2] = (0,⟨[w0,w1,w2],[d0 - h0,d1,d2],q,0⟩) by rw [← hX0];unfold nextD;rw [HS.out];simp [takeD,at3])
     clear hX0 HS
     have nzU3:=kn kzU3
     go_wp2
     refine ret_blk (b:=zb) (c:=#[.slice (some ⟨gw,0,none⟩) 3 cw,.int .i64 q,.slice (some ⟨g,0,none⟩) 3 cd,.int .i64 0]) (v:=.tuple #[.agg #[.slice (some ⟨gw,0,none⟩) 3 cw,.int .i64 q,.slice (some ⟨g,0,none⟩) 3 cd,.int .i64 0],.int .i64 k]) (by have h9:=blk_set (i:=3) (v:=.int .i64 0) (blk_set (i:=2) (v:=.slice (some ⟨g,0,none⟩) 3 cd) (blk_set (i:=1) (v:=.int .i64 q) (blk_set (i:=0) (v:=.slice (some ⟨gw,0,none⟩) 3 cw) (kzU3))));exact h9) (fun W' hc => by simp [results,Tryd.results92,go_sem,hc]) rfl ⟨k,by rw [EN.out],grown_setCell _ _ (grown_setCell _ _ (grown_setCell _ _ (grown_setCell _ _ (bU3) gr_zb) gr_zb) gr_zb) gr_zb,?_,?_,?_⟩
     ·rw [EN.out];exact blk_other (blk_other (blk_other (blk_other kgU3 ne_g_zb) ne_g_zb) ne_g_zb) ne_g_zb
     ·exact blk_other (blk_other (blk_other (blk_other kwU3 ne_gw_zb) ne_gw_zb) ne_gw_zb) ne_gw_zb
     ·exact blk_other (blk_other (blk_other (blk_other khU3 ne_hb_zb) ne_hb_zb) ne_hb_zb) ne_hb_zb
  ·have dd:=HX.out.2.2.2.2.1
   have da:=dd d0 (by simp)
   have db:=dd d1 (by simp)
   have dc:=dd d2 (by simp)
   clear dd
   have nwr:=kn kcwr
   have mwr:=kn khwr
   have fwr:=(kn kgwr).2.1
   have g0wr : wr.cell? ⟨g,0,none⟩ = some (.int .i64 (d0)):=blk_cellI (M:=[d0,d1,d2]) (k:=0) rfl kgwr
   have g1wr : wr.cell? ⟨g,1,none⟩ = some (.int .i64 (d1)):=blk_cellI (M:=[d0,d1,d2]) (k:=1) rfl kgwr
   have g2wr : wr.cell? ⟨g,2,none⟩ = some (.int .i64 (d2)):=blk_cellI (M:=[d0,d1,d2]) (k:=2) rfl kgwr
   have w0wr : wr.cell? ⟨gw,0,none⟩ = some (.int .i64 w0):=blk_cellI (M:=[w0,w1,w2]) (k:=0) rfl kwwr
   have w1wr : wr.cell? ⟨gw,1,none⟩ = some (.int .i64 w1):=blk_cellI (M:=[w0,w1,w2]) (k:=1) rfl kwwr
   have w2wr : wr.cell? ⟨gw,2,none⟩ = some (.int .i64 w2):=blk_cellI (M:=[w0,w1,w2]) (k:=2) rfl kwwr
   by_cases z1 : h1 = 0
   ·have x1 : (h1 == 0) = true:=by simp [z1]
    have hst : stopD ⟨[w0,w1,w2],[d0,d1,d2],q,1⟩ [h0,h1,h2] = false:=by simp [stopD,at3];omega
    go_wp2_with fail
    refine wp_region_in (by kernel_rfl) (by kernel_rfl) ?_
    intro W0 hE hN
    have j0 : blk W0 c = some #[.slice (some ⟨gw,0,none⟩) 3 cw,.int .i64 q,.slice (some ⟨g,0,none⟩) 3 cd,.int .i64 1]:=(by rw [hE.out];exact kcwr)
    have j1 : blk W0 g = some (rowC ic [d0,d1,d2] ++ sp).toArray:=(by rw [hE.out];exact kgwr)
    have j2 : blk W0 gw = some (rowC ic [w0,w1,w2] ++ spw).toArray:=(by rw [hE.out];exact kwwr)
    have j3 : blk W0 hb = some #[.int .i64 h0,.int .i64 h1,.int .i64 h2]:=(by rw [hE.out];exact khwr)
    have j4 : blk W0 zb = some #[.slice none 0 0,.int .i64 0,.slice none 0 0,.int .i64 0]:=(by rw [hE.out];exact kzwr)
    have j9 : w.grownBy W0 (some g):=(by rw [hE.out];exact bwr)
    clear hE
    clear nwr mwr fwr g0wr g1wr g2wr w0wr w1wr w2wr
    clear kcwr kgwr kwwr khwr kzwr bwr
    have q1:=calm_kn j0
    have q4:=calm_kn j3
    have r0 : ∀ X : Class (Calm W0),X.wd.cell? ⟨g,0,none⟩ = some (.int .i64 (d0)):=fun X => blk_cellI (M:=[d0,d1,d2]) (k:=0) rfl (blk_below X.ok j1)
    have s0 : ∀ X : Class (Calm W0),X.wd.cell? ⟨gw,0,none⟩ = some (.int .i64 w0):=fun X => blk_cellI (M:=[w0,w1,w2]) (k:=0) rfl (blk_below X.ok j2)
    have r1 : ∀ X : Class (Calm W0),X.wd.cell? ⟨g,1,none⟩ = some (.int .i64 (d1)):=fun X => blk_cellI (M:=[d0,d1,d2]) (k:=1) rfl (blk_below X.ok j1)
    have s1 : ∀ X : Class (Calm W0),X.wd.cell? ⟨gw,1,none⟩ = some (.int .i64 w1):=fun X => blk_cellI (M:=[w0,w1,w2]) (k:=1) rfl (blk_below X.ok j2)
    have r2 : ∀ X : Class (Calm W0),X.wd.cell? ⟨g,2,none⟩ = some (.int .i64 (d2)):=fun X => blk_cellI (M:=[d0,d1,d2]) (k:=2) rfl (blk_below X.ok j1)
    have s2 : ∀ X : Class (Calm W0),X.wd.cell? ⟨gw,2,none⟩ = some (.int .i64 w2):=fun X => blk_cellI (M:=[w0,w1,w2]) (k:=2) rfl (blk_below X.ok j2)
    repeat (go_big_quiet_step (fail))
    refine wpQuiet_nil ?_
    rintro _ ⟨x',rfl⟩
    have kcU1:=blk_below x'.ok j0
    have kgU1:=blk_below x'.ok j1
    have kwU1:=blk_below x'.ok j2
    have khU1:=blk_below x'.ok j3
    have kzU1:=blk_below x'.ok j4
    have bU1 : w.grownBy x'.wd (some g):=grown_thenB j9 x'.ok
    obtain ⟨U1,hu⟩ : ∃ u,u = x'.wd:=⟨_,rfl⟩
    rw [← hu] at kcU1 kgU1 kwU1 khU1 kzU1 bU1 ⊢
    clear hu x' hN q1 q4 r0 r1 r2 s0 s1 s2 j0 j1 j2 j3 j4 j9
    have nU1:=kn kcU1
    have mU1:=kn khU1
    have fU1:=(kn kgU1).2.1
    have g0U1 : U1.cell? ⟨g,0,none⟩ = some (.int .i64 (d0)):=blk_cellI (M:=[d0,d1,d2]) (k:=0) rfl kgU1
    have g1U1 : U1.cell? ⟨g,1,none⟩ = some (.int .i64 (d1)):=blk_cellI (M:=[d0,d1,d2]) (k:=1) rfl kgU1
    have g2U1 : U1.cell? ⟨g,2,none⟩ = some (.int .i64 (d2)):=blk_cellI (M:=[d0,d1,d2]) (k:=2) rfl kgU1
    have w0U1 : U1.cell? ⟨gw,0,none⟩ = some (.int .i64 w0):=blk_cellI (M:=[w0,w1,w2]) (k:=0) rfl kwU1
    have w1U1 : U1.cell? ⟨gw,1,none⟩ = some (.int .i64 w1):=blk_cellI (M:=[w0,w1,w2]) (k:=1) rfl kwU1
    have w2U1 : U1.cell? ⟨gw,2,none⟩ = some (.int .i64 w2):=blk_cellI (M:=[w0,w1,w2]) (k:=2) rfl kwU1
    have GP:=Lib.hid (rpass_any g gw hb cw cd sp spw w0 w1 w2 d0 d1 d2 q 1 h0 h1 h2 U1 HX.out ne_gw_g ne_hb_g kgU1 kwU1 khU1)
    clear mU1 fU1 g0U1 g1U1 g2U1 w0U1 w1U1 w2U1
    obtain ⟨Y,hY⟩ : ∃ Y,Y = passD ⟨[w0,w1,w2],[d0,d1,d2],q,1⟩ [h0,h1,h2]:=⟨_,rfl⟩
    have hx2 : okD Y:=(by rw [hY];exact okD_pass HX.out)
    have HM2 : Hid (serveD m Y [h0,h1,h2] = serveD fuelD X0 [h0,h1,h2] ∧ muD Y [h0,h1,h2] p < m):=Lib.hid (by
     have h9:=muD_pass HX.out rfl hp HPP.out hst
     have h8:=HM.out.1
     rw [pass_serve hst] at h8
     rw [hY]
     exact ⟨h8,by have:=HM.out.2;omega⟩)
    rw [← hY] at GP
    have yw : Y.w = [w0,w1,w2]:=(by rw [hY];rfl)
    have yq : Y.q = q:=(by rw [hY];rfl)
    have HX2:=Lib.hid hx2
    obtain ⟨yw_,yd_,yq_,yt_⟩:=Y
    simp only at yw yq GP
    subst yw
    have yq':=yq.symm
    clear yq
    subst yq'
    clear hY hst hx2
    go_upto_region 4 with (go_at_call 109;go_loud ((with_reducible refine (GP.out).mono ?_);rintro e U2 ⟨rfl,hg2,kgU2,kwU2,khU2⟩;(have kcU2 : blk U2 c = some #[.slice (some ⟨gw,0,none⟩) 3 cw,.int .i64 q,.slice (some ⟨g,0,none⟩) 3 cd,.int .i64 1]:=(blk_kept (hg2.block c (blk_lt kcU1) (fun e => ne_c_g (Option.some.inj e)))).trans kcU1);(have kzU2 : blk U2 zb = some #[.slice none 0 0,.int .i64 0,.slice none 0 0,.int .i64 0]:=(blk_kept (hg2.block zb (blk_lt kzU1) (fun e => ne_zb_g (Option.some.inj e)))).trans kzU1);(have bU2 : w.grownBy U2 (some g):=grown_trans bU1 hg2);(have nU2:=kn kcU2);clear hg2))
    obtain ⟨F,eF⟩ : ∃ F,F = ((((U2).setCell ⟨c,0,none⟩ (.slice (some ⟨gw,0,none⟩) 3 cw)).setCell ⟨c,1,none⟩ (.int .i64 q)).setCell ⟨c,2,none⟩ (.slice (some ⟨g,0,none⟩) 3 cd)).setCell ⟨c,3,none⟩ (.int .i64 yt_):=⟨_,rfl⟩
    have kcF : blk F c = some #[.slice (some ⟨gw,0,none⟩) 3 cw,.int .i64 q,.slice (some ⟨g,0,none⟩) 3 cd,.int .i64 yt_]:=(by rw [eF];exact blk_set (i:=3) (v:=.int .i64 yt_) (blk_set (i:=2) (v:=.slice (some ⟨g,0,none⟩) 3 cd) (blk_set (i:=1) (v:=.int .i64 q) (blk_set (i:=0) (v:=.slice (some ⟨gw,0,none⟩) 3 cw) (kcU2)))))
    have bF : w.grownBy F (some g):=(by rw [eF];exact grown_setCell _ _ (grown_setCell _ _ (grown_setCell _ _ (grown_setCell _ _ (bU2) gr_c) gr_c) gr_c) gr_c)
    have kgF : blk F g = some (rowC ic yd_ ++ sp).toArray:=(by rw [eF];exact blk_other (blk_other (blk_other (blk_other kgU2 ne_g_c) ne_g_c) ne_g_c) ne_g_c)
    have kwF : blk F gw = some (rowC ic [w0,w1,w2] ++ spw).toArray:=(by rw [eF];exact blk_other (blk_other (blk_other (blk_other kwU2 ne_gw_c) ne_gw_c) ne_gw_c) ne_gw_c)
    have khF : blk F hb = some #[.int .i64 h0,.int .i64 h1,.int .i64 h2]:=(by rw [eF];exact blk_other (blk_other (blk_other (blk_other khU2 ne_hb_c) ne_hb_c) ne_hb_c) ne_hb_c)
    have kzF : blk F zb = some #[.slice none 0 0,.int .i64 0,.slice none 0 0,.int .i64 0]:=(by rw [eF];exact blk_other (blk_other (blk_other (blk_other kzU2 ne_zb_c) ne_zb_c) ne_zb_c) ne_zb_c)
    have ALL:=Lib.hid (And.intro HX2.out (And.intro HM2.out (And.intro kcF (And.intro kgF (And.intro kwF (And.intro khF kzF))))))
    have BF:=Lib.hid bF
    rw [← eF]
    clear eF nU2 kcU2 kgU2 kwU2 khU2 kzU2 bU2
    clear kcF kgF kwF khF kzF bF
    go_wp2
    go_roundw
    case rel => exact ⟨k + 1,m,_,_,by go_num,by omega,BF,ALL⟩
    case measure => simp [intOf];omega
   ·have x1 : (h1 == 0) = false:=by simpa using z1
    by_cases z9 : d1 < h1
    ·have x2 : decide (d1 < h1) = true:=decide_eq_true z9
     have hst : stopD ⟨[w0,w1,w2],[d0,d1,d2],q,1⟩ [h0,h1,h2] = false:=by simp [stopD,at3];omega
     go_wp2_with fail
     refine wp_region_in (by kernel_rfl) (by kernel_rfl) ?_
     intro W0 hE hN
     have j0 : blk W0 c = some #[.slice (some ⟨gw,0,none⟩) 3 cw,.int .i64 q,.slice (some ⟨g,0,none⟩) 3 cd,.int .i64 1]:=(by rw [hE.out];exact kcwr)
     have j1 : blk W0 g = some (rowC ic [d0,d1,d2] ++ sp).toArray:=(by rw [hE.out];exact kgwr)
     have j2 : blk W0 gw = some (rowC ic [w0,w1,w2] ++ spw).toArray:=(by rw [hE.out];exact kwwr)
     have j3 : blk W0 hb = some #[.int .i64 h0,.int .i64 h1,.int .i64 h2]:=(by rw [hE.out];exact khwr)
     have j4 : blk W0 zb = some #[.slice none 0 0,.int .i64 0,.slice none 0 0,.int .i64 0]:=(by rw [hE.out];exact kzwr)
     have j9 : w.grownBy W0 (some g):=(by rw [hE.out];exact bwr)
     clear hE
     clear nwr mwr fwr g0wr g1wr g2wr w0wr w1wr w2wr
     clear kcwr kgwr kwwr khwr kzwr bwr
     have q1:=calm_kn j0
     have q4:=calm_kn j3
     have r0 : ∀ X : Class (Calm W0),X.wd.cell? ⟨g,0,none⟩ = some (.int .i64 (d0)):=fun X => blk_cellI (M:=[d0,d1,d2]) (k:=0) rfl (blk_below X.ok j1)
     have s0 : ∀ X : Class (Calm W0),X.wd.cell? ⟨gw,0,none⟩ = some (.int .i64 w0):=fun X => blk_cellI (M:=[w0,w1,w2]) (k:=0) rfl (blk_below X.ok j2)
     have r1 : ∀ X : Class (Calm W0),X.wd.cell? ⟨g,1,none⟩ = some (.int .i64 (d1)):=fun X => blk_cellI (M:=[d0,d1,d2]) (k:=1) rfl (blk_below X.ok j1)
     have s1 : ∀ X : Class (Calm W0),X.wd.cell? ⟨gw,1,none⟩ = some (.int .i64 w1):=fun X => blk_cellI (M:=[w0,w1,w2]) (k:=1) rfl (blk_below X.ok j2)
     have r2 : ∀ X : Class (Calm W0),X.wd.cell? ⟨g,2,none⟩ = some (.int .i64 (d2)):=fun X => blk_cellI (M:=[d0,d1,d2]) (k:=2) rfl (blk_below X.ok j1)
     have s2 : ∀ X : Class (Calm W0),X.wd.cell? ⟨gw,2,none⟩ = some (.int .i64 w2):=fun X => blk_cellI (M:=[w0,w1,w2]) (k:=2) rfl (blk_below X.ok j2)
     repeat (go_big_quiet_step (fail))
     refine wpQuiet_nil ?_
     rintro _ ⟨x',rfl⟩
     have kcU1:=blk_below x'.ok j0
     have kgU1:=blk_below x'.ok j1
     have kwU1:=blk_below x'.ok j2
     have khU1:=blk_below x'.ok j3
     have kzU1:=blk_below x'.ok j4
     have bU1 : w.grownBy x'.wd (some g):=grown_thenB j9 x'.ok
     obtain ⟨U1,hu⟩ : ∃ u,u = x'.wd:=⟨_,rfl⟩
     rw [← hu] at kcU1 kgU1 kwU1 khU1 kzU1 bU1 ⊢
     clear hu x' hN q1 q4 r0 r1 r2 s0 s1 s2 j0 j1 j2 j3 j4 j9
     have nU1:=kn kcU1
     have mU1:=kn khU1
     have fU1:=(kn kgU1).2.1
     have g0U1 : U1.cell? ⟨g,0,none⟩ = some (.int .i64 (d0)):=blk_cellI (M:=[d0,d1,d2]) (k:=0) rfl kgU1
     have g1U1 : U1.cell? ⟨g,1,none⟩ = some (.int .i64 (d1)):=blk_cellI (M:=[d0,d1,d2]) (k:=1) rfl kgU1
     have g2U1 : U1.cell? ⟨g,2,none⟩ = some (.int .i64 (d2)):=blk_cellI (M:=[d0,d1,d2]) (k:=2) rfl kgU1
     have w0U1 : U1.cell? ⟨gw,0,none⟩ = some (.int .i64 w0):=blk_cellI (M:=[w0,w1,w2]) (k:=0) rfl kwU1
     have w1U1 : U1.cell? ⟨gw,1,none⟩ = some (.int .i64 w1):=blk_cellI (M:=[w0,w1,w2]) (k:=1) rfl kwU1
     have w2U1 : U1.cell? ⟨gw,2,none⟩ = some (.int .i64 w2):=blk_cellI (M:=[w0,w1,w2]) (k:=2) rfl kwU1
     have GP:=Lib.hid (rpass_any g gw hb cw cd sp spw w0 w1 w2 d0 d1 d2 q 1 h0 h1 h2 U1 HX.out ne_gw_g ne_hb_g kgU1 kwU1 khU1)
     clear mU1 fU1 g0U1 g1U1 g2U1 w0U1 w1U1 w2U1
     obtain ⟨Y,hY⟩ : ∃ Y,Y = passD ⟨[w0,w1,w2],[d0,d1,d2],q,1⟩ [h0,h1,h2]:=⟨_,rfl⟩
     have hx2 : okD Y:=(by rw [hY];exact okD_pass HX.out)
     have HM2 : Hid (serveD m Y [h0,h1,h2] = serveD fuelD X0 [h0,h1,h2] ∧ muD Y [h0,h1,h2] p < m):=Lib.hid (by
      have h9:=muD_pass HX.out rfl hp HPP.out hst
      have h8:=HM.out.1
      rw [pass_serve hst] at h8
      rw [hY]
      exact ⟨h8,by have:=HM.out.2;omega⟩)
     rw [← hY] at GP
     have yw : Y.w = [w0,w1,w2]:=(by rw [hY];rfl)
     have yq : Y.q = q:=(by rw [hY];rfl)
     have HX2:=Lib.hid hx2
     obtain ⟨yw_,yd_,yq_,yt_⟩:=Y
     simp only at yw yq GP
     subst yw
     have yq':=yq.symm
     clear yq
     subst yq'
     clear hY hst hx2
     go_upto_region 4 with (go_at_call 109;go_loud ((with_reducible refine (GP.out).mono ?_);rintro e U2 ⟨rfl,hg2,kgU2,kwU2,khU2⟩;(have kcU2 : blk U2 c = some #[.slice (some ⟨gw,0,none⟩) 3 cw,.int .i64 q,.slice (some ⟨g,0,none⟩) 3 cd,.int .i64 1]:=(blk_kept (hg2.block c (blk_lt kcU1) (fun e => ne_c_g (Option.some.inj e)))).trans kcU1);(have kzU2 : blk U2 zb = some #[.slice none 0 0,.int .i64 0,.slice none 0 0,.int .i64 0]:=(blk_kept (hg2.block zb (blk_lt kzU1) (fun e => ne_zb_g (Option.some.inj e)))).trans kzU1);(have bU2 : w.grownBy U2 (some g):=grown_trans bU1 hg2);(have nU2:=kn kcU2);clear hg2))
     obtain ⟨F,eF⟩ : ∃ F,F = ((((U2).setCell ⟨c,0,none⟩ (.slice (some ⟨gw,0,none⟩) 3 cw)).setCell ⟨c,1,none⟩ (.int .i64 q)).setCell ⟨c,2,none⟩ (.slice (some ⟨g,0,none⟩) 3 cd)).setCell ⟨c,3,none⟩ (.int .i64 yt_):=⟨_,rfl⟩
     have kcF : blk F c = some #[.slice (some ⟨gw,0,none⟩) 3 cw,.int .i64 q,.slice (some ⟨g,0,none⟩) 3 cd,.int .i64 yt_]:=(by rw [eF];exact blk_set (i:=3) (v:=.int .i64 yt_) (blk_set (i:=2) (v:=.slice (some ⟨g,0,none⟩) 3 cd) (blk_set (i:=1) (v:=.int .i64 q) (blk_set (i:=0) (v:=.slice (some ⟨gw,0,none⟩) 3 cw) (kcU2)))))
     have bF : w.grownBy F (some g):=(by rw [eF];exact grown_setCell _ _ (grown_setCell _ _ (grown_setCell _ _ (grown_setCell _ _ (bU2) gr_c) gr_c) gr_c) gr_c)
     have kgF : blk F g = some (rowC ic yd_ ++ sp).toArray:=(by rw [eF];exact blk_other (blk_other (blk_other (blk_other kgU2 ne_g_c) ne_g_c) ne_g_c) ne_g_c)
     have kwF : blk F gw = some (rowC ic [w0,w1,w2] ++ spw).toArray:=(by rw [eF];exact blk_other (blk_other (blk_other (blk_other kwU2 ne_gw_c) ne_gw_c) ne_gw_c) ne_gw_c)
     have khF : blk F hb = some #[.int .i64 h0,.int .i64 h1,.int .i64 h2]:=(by rw [eF];exact blk_other (blk_other (blk_other (blk_other khU2 ne_hb_c) ne_hb_c) ne_hb_c) ne_hb_c)
     have kzF : blk F zb = some #[.slice none 0 0,.int .i64 0,.slice none 0 0,.int .i64 0]:=(by rw [eF];exact blk_other (blk_other (blk_other (blk_other kzU2 ne_zb_c) ne_zb_c) ne_zb_c) ne_zb_c)
     have ALL:=Lib.hid (And.intro HX2.out (And.intro HM2.out (And.intro kcF (And.intro kgF (And.intro kwF (And.intro khF kzF))))))
     have BF:=Lib.hid bF
     rw [← eF]
     clear eF nU2 kcU2 kgU2 kwU2 khU2 kzU2 bU2
     clear kcF kgF kwF khF kzF bF
     go_wp2
     go_roundw
     case rel => exact ⟨k + 1,m,_,_,by go_num,by omega,BF,ALL⟩
     case measure => simp [intOf];omega
    ·have x2 : decide (d1 < h1) = false:=decide_eq_false z9
     have hst : stopD ⟨[w0,w1,w2],[d0,d1,d2],q,1⟩ [h0,h1,h2] = true:=by simp [stopD,at3];omega
     have HS:=Lib.hid (show serveD fuelD X0 [h0,h1,h2] = ⟨[w0,w1,w2],[d0,d1,d2],q,1⟩ by rw [← HM.out.1,stop_serve hst])
     clear hst
     go_wp2_with fail
     refine wp_region_in (by kernel_rfl) (by kernel_rfl) ?_
     intro W0 hE hN
     have j0 : blk W0 c = some #[.slice (some ⟨gw,0,none⟩) 3 cw,.int .i64 q,.slice (some ⟨g,0,none⟩) 3 cd,.int .i64 1]:=(by rw [hE.out];exact kcwr)
     have j1 : blk W0 g = some (rowC ic [d0,d1,d2] ++ sp).toArray:=(by rw [hE.out];exact kgwr)
     have j2 : blk W0 gw = some (rowC ic [w0,w1,w2] ++ spw).toArray:=(by rw [hE.out];exact kwwr)
     have j3 : blk W0 hb = some #[.int .i64 h0,.int .i64 h1,.int .i64 h2]:=(by rw [hE.out];exact khwr)
     have j4 : blk W0 zb = some #[.slice none 0 0,.int .i64 0,.slice none 0 0,.int .i64 0]:=(by rw [hE.out];exact kzwr)
     have j9 : w.grownBy W0 (some g):=(by rw [hE.out];exact bwr)
     clear hE
     clear nwr mwr fwr g0wr g1wr g2wr w0wr w1wr w2wr
     clear kcwr kgwr kwwr khwr kzwr bwr
     have q1:=calm_kn j0
     have q4:=calm_kn j3
     have r0 : ∀ X : Class (Calm W0),X.wd.cell? ⟨g,0,none⟩ = some (.int .i64 (d0)):=fun X => blk_cellI (M:=[d0,d1,d2]) (k:=0) rfl (blk_below X.ok j1)
     have s0 : ∀ X : Class (Calm W0),X.wd.cell? ⟨gw,0,none⟩ = some (.int .i64 w0):=fun X => blk_cellI (M:=[w0,w1,w2]) (k:=0) rfl (blk_below X.ok j2)
     have r1 : ∀ X : Class (Calm W0),X.wd.cell? ⟨g,1,none⟩ = some (.int .i64 (d1)):=fun X => blk_cellI (M:=[d0,d1,d2]) (k:=1) rfl (blk_below X.ok j1)
     have s1 : ∀ X : Class (Calm W0),X.wd.cell? ⟨gw,1,none⟩ = some (.int .i64 w1):=fun X => blk_cellI (M:=[w0,w1,w2]) (k:=1) rfl (blk_below X.ok j2)
     have r2 : ∀ X : Class (Calm W0),X.wd.cell? ⟨g,2,none⟩ = some (.int .i64 (d2)):=fun X => blk_cellI (M:=[d0,d1,d2]) (k:=2) rfl (blk_below X.ok j1)
     have s2 : ∀ X : Class (Calm W0),X.wd.cell? ⟨gw,2,none⟩ = some (.int .i64 w2):=fun X => blk_cellI (M:=[w0,w1,w2]) (k:=2) rfl (blk_below X.ok j2)
     repeat (go_big_quiet_step (fail))
     refine wpQuiet_nil ?_
     rintro _ ⟨x',rfl⟩
     have kcU1:=blk_below x'.ok j0
     have kgU1:=blk_below x'.ok j1
     have kwU1:=blk_below x'.ok j2
     have khU1:=blk_below x'.ok j3
     have kzU1:=blk_below x'.ok j4
     have bU1 : w.grownBy x'.wd (some g):=grown_thenB j9 x'.ok
     obtain ⟨U1,hu⟩ : ∃ u,u = x'.wd:=⟨_,rfl⟩
     rw [← hu] at kcU1 kgU1 kwU1 khU1 kzU1 bU1 ⊢
     clear hu x' hN q1 q4 r0 r1 r2 s0 s1 s2 j0 j1 j2 j3 j4 j9
     have nU1:=kn kcU1
     have mU1:=kn khU1
     have fU1:=(kn kgU1).2.1
     have g0U1 : U1.cell? ⟨g,0,none⟩ = some (.int .i64 (d0)):=blk_cellI (M:=[d0,d1,d2]) (k:=0) rfl kgU1
     have g1U1 : U1.cell? ⟨g,1,none⟩ = some (.int .i64 (d1)):=blk_cellI (M:=[d0,d1,d2]) (k:=1) rfl kgU1
     have g2U1 : U1.cell? ⟨g,2,none⟩ = some (.int .i64 (d2)):=blk_cellI (M:=[d0,d1,d2]) (k:=2) rfl kgU1
     have w0U1 : U1.cell? ⟨gw,0,none⟩ = some (.int .i64 w0):=blk_cellI (M:=[w0,w1,w2]) (k:=0) rfl kwU1
     have w1U1 : U1.cell? ⟨gw,1,none⟩ = some (.int .i64 w1):=blk_cellI (M:=[w0,w1,w2]) (k:=1) rfl kwU1
     have w2U1 : U1.cell? ⟨gw,2,none⟩ = some (.int .i64 w2):=blk_cellI (M:=[w0,w1,w2]) (k:=2) rfl kwU1
     have v9 : IntKind.i64.wrap (d1 - h1) = d1 - h1:=IntWalk.i64_in _ (by omega)
     go_upto_region 5 with fail
     refine wp_region_tail 17 (by kernel_rfl) (by kernel_rfl) ?_
     intro W0 hE hN
     have j0 : blk W0 c = some #[.slice (some ⟨gw,0,none⟩) 3 cw,.int .i64 q,.slice (some ⟨g,0,none⟩) 3 cd,.int .i64 1]:=(by rw [hE.out];exact kcU1)
     have j1 : blk W0 g = some (rowC ic [d0,d1,d2] ++ sp).toArray:=(by rw [hE.out];exact kgU1)
     have j2 : blk W0 gw = some (rowC ic [w0,w1,w2] ++ spw).toArray:=(by rw [hE.out];exact kwU1)
     have j3 : blk W0 hb = some #[.int .i64 h0,.int .i64 h1,.int .i64 h2]:=(by rw [hE.out];exact khU1)
     have j4 : blk W0 zb = some #[.slice none 0 0,.int .i64 0,.slice none 0 0,.int .i64 0]:=(by rw [hE.out];exact kzU1)
     have j9 : w.grownBy W0 (some g):=(by rw [hE.out];exact bU1)
     clear hE
     clear nU1 mU1 fU1 g0U1 g1U1 g2U1 w0U1 w1U1 w2U1
     clear kcU1 kgU1 kwU1 khU1 kzU1 bU1
     have q1:=calm_kn j0
     have q4:=calm_kn j3
     have r0 : ∀ X : Class (Calm W0),X.wd.cell? ⟨g,0,none⟩ = some (.int .i64 (d0)):=fun X => blk_cellI (M:=[d0,d1,d2]) (k:=0) rfl (blk_below X.ok j1)
     have s0 : ∀ X : Class (Calm W0),X.wd.cell? ⟨gw,0,none⟩ = some (.int .i64 w0):=fun X => blk_cellI (M:=[w0,w1,w2]) (k:=0) rfl (blk_below X.ok j2)
     have r1 : ∀ X : Class (Calm W0),X.wd.cell? ⟨g,1,none⟩ = some (.int .i64 (d1)):=fun X => blk_cellI (M:=[d0,d1,d2]) (k:=1) rfl (blk_below X.ok j1)
     have s1 : ∀ X : Class (Calm W0),X.wd.cell? ⟨gw,1,none⟩ = some (.int .i64 w1):=fun X => blk_cellI (M:=[w0,w1,w2]) (k:=1) rfl (blk_below X.ok j2)
     have r2 : ∀ X : Class (Calm W0),X.wd.cell? ⟨g,2,none⟩ = some (.int .i64 (d2)):=fun X => blk_cellI (M:=[d0,d1,d2]) (k:=2) rfl (blk_below X.ok j1)
     have s2 : ∀ X : Class (Calm W0),X.wd.cell? ⟨gw,2,none⟩ = some (.int .i64 w2):=fun X => blk_cellI (M:=[w0,w1,w2]) (k:=2) rfl (blk_below X.ok j2)
     simp only [List.take_succ_cons,List.take_zero,List.drop_succ_cons,List.drop_zero]
     repeat (go_big_quiet_step (fail))
     refine wpQuiet_nil ?_
     rintro _ ⟨x',rfl⟩
     have kcU2:=blk_below x'.ok j0
     have kgU2:=blk_below x'.ok j1
     have kwU2:=blk_below x'.ok j2
     have khU2:=blk_below x'.ok j3
     have kzU2:=blk_below x'.ok j4
     have bU2 : w.grownBy x'.wd (some g):=grown_thenB j9 x'.ok
     obtain ⟨U2,hu⟩ : ∃ u,u = x'.wd:=⟨_,rfl⟩
     rw [← hu] at kcU2 kgU2 kwU2 khU2 kzU2 bU2 ⊢
     clear hu x' hN q1 q4 r0 r1 r2 s0 s1 s2 j0 j1 j2 j3 j4 j9
     have nU2:=kn kcU2
     have mU2:=kn khU2
     have fU2:=(kn kgU2).2.1
     have g0U2 : U2.cell? ⟨g,0,none⟩ = some (.int .i64 (d0)):=blk_cellI (M:=[d0,d1,d2]) (k:=0) rfl kgU2
     have g1U2 : U2.cell? ⟨g,1,none⟩ = some (.int .i64 (d1)):=blk_cellI (M:=[d0,d1,d2]) (k:=1) rfl kgU2
     have g2U2 : U2.cell? ⟨g,2,none⟩ = some (.int .i64 (d2)):=blk_cellI (M:=[d0,d1,d2]) (k:=2) rfl kgU2
     have w0U2 : U2.cell? ⟨gw,0,none⟩ = some (.int .i64 w0):=blk_cellI (M:=[w0,w1,w2]) (k:=0) rfl kwU2
     have w1U2 : U2.cell? ⟨gw,1,none⟩ = some (.int .i64 w1):=blk_cellI (M:=[w0,w1,w2]) (k:=1) rfl kwU2
     have w2U2 : U2.cell? ⟨gw,2,none⟩ = some (.int .i64 w2):=blk_cellI (M:=[w0,w1,w2]) (k:=2) rfl kwU2
     go_upto_region 6 with fail
     obtain ⟨U3,eU3⟩ : ∃ v,v = U2.setCell ⟨g,1,none⟩ (.int .i64 (d1 - h1)):=⟨_,rfl⟩
     have kcU3 : blk U3 c = some #[.slice (some ⟨gw,0,none⟩) 3 cw,.int .i64 q,.slice (some ⟨g,0,none⟩) 3 cd,.int .i64 1]:=(by rw [eU3];exact blk_other kcU2 ne_c_g)
     have kgU3 : blk U3 g = some (rowC ic [d0,d1 - h1,d2] ++ sp).toArray:=(by rw [eU3];exact blk_setI (M:=[d0,d1,d2]) (k:=1) (x:=(d1)) rfl kgU2)
     have kwU3 : blk U3 gw = some (rowC ic [w0,w1,w2] ++ spw).toArray:=(by rw [eU3];exact blk_other kwU2 ne_gw_g)
     have khU3 : blk U3 hb = some #[.int .i64 h0,.int .i64 h1,.int .i64 h2]:=(by rw [eU3];exact blk_other khU2 ne_hb_g)
     have kzU3 : blk U3 zb = some #[.slice none 0 0,.int .i64 0,.slice none 0 0,.int .i64 0]:=(by rw [eU3];exact blk_other kzU2 ne_zb_g)
     have bU3 : w.grownBy U3 (some g):=(by rw [eU3];exact grown_setCell _ _ bU2 (.inl rfl))
     rw [← eU3]
     clear eU3
     clear nU2 mU2 fU2 g0U2 g1U2 g2U2 w0U2 w1U2 w2U2
     have nU3:=kn kcU3
     have mU3:=kn khU3
     have fU3:=(kn kgU3).2.1
     have g0U3 : U3.cell? ⟨g,0,none⟩ = some (.int .i64 (d0)):=blk_cellI (M:=[d0,d1 - h1,d2]) (k:=0) rfl kgU3
     have g1U3 : U3.cell? ⟨g,1,none⟩ = some (.int .i64 (d1 - h1)):=blk_cellI (M:=[d0,d1 - h1,d2]) (k:=1) rfl kgU3
     have g2U3 : U3.cell? ⟨g,2,none⟩ = some (.int .i64 (d2)):=blk_cellI (M:=[d0,d1 - h1,d2]) (k:=2) rfl kgU3
     have w0U3 : U3.cell? ⟨gw,0,none⟩ = some (.int .i64 w0):=blk_cellI (M:=[w0,w1,w2]) (k:=0) rfl kwU3
     have w1U3 : U3.cell? ⟨gw,1,none⟩ = some (.int .i64 w1):=blk_cellI (M:=[w0,w1,w2]) (k:=1) rfl kwU3
     have w2U3 : U3.cell? ⟨gw,2,none⟩ = some (.int .i64 w2):=blk_cellI (M:=[w0,w1,w2]) (k:=2) rfl kwU3
     have EN:=Lib.hid (show nextD ⟨[w0,w1,w2],[a0,a1,a2],q,t0⟩ [h0,h1,h2] = (1,⟨[w0,w1,w2],[d0,d1 - h1,d2],q,1⟩) by rw [← hX0];unfold nextD;rw [HS.out];simp [takeD,at3])
     clear hX0 HS
     have nzU3:=kn kzU3
     go_wp2
     refine ret_blk (b:=zb) (c:=#[.slice (some ⟨gw,0,none⟩) 3 cw,.int .i64 q,.slice (some ⟨g,0,none⟩) 3 cd,.int .i64 1]) (v:=.tuple #[.agg #[.slice (some ⟨gw,0,none⟩) 3 cw,.int .i64 q,.slice (some ⟨g,0,none⟩) 3 cd,.int .i64 1],.int .i64 k]) (by have h9:=blk_set (i:=3) (v:=.int .i64 1) (blk_set (i:=2) (v:=.slice (some ⟨g,0,none⟩) 3 cd) (blk_set (i:=1) (v:=.int .i64 q) (blk_set (i:=0) (v:=.slice (some ⟨gw,0,none⟩) 3 cw) (kzU3))));exact h9) (fun W' hc => by simp [results,Tryd.results92,go_sem,hc]) rfl ⟨k,by rw [EN.out],grown_setCell _ _ (grown_setCell _ _ (grown_setCell _ _ (grown_setCell _ _ (bU3) gr_zb) gr_zb) gr_zb) gr_zb,?_,?_,?_⟩
     ·rw [EN.out];exact blk_other (blk_other (blk_other (blk_other kgU3 ne_g_zb) ne_g_zb) ne_g_zb) ne_g_zb
     ·exact blk_other (blk_other (blk_other (blk_other kwU3 ne_gw_zb) ne_gw_zb) ne_gw_zb) ne_gw_zb
     ·exact blk_other (blk_other (blk_other (blk_other khU3 ne_hb_zb) ne_hb_zb) ne_hb_zb) ne_hb_zb
  ·have dd:=HX.out.2.2.2.2.1
   have da:=dd d0 (by simp)
   have db:=dd d1 (by simp)
   have dc:=dd d2 (by simp)
   clear dd
   have nwr:=kn kcwr
   have mwr:=kn khwr
   have fwr:=(kn kgwr).2.1
   have g0wr : wr.cell? ⟨g,0,none⟩ = some (.int .i64 (d0)):=blk_cellI (M:=[d0,d1,d2]) (k:=0) rfl kgwr
   have g1wr : wr.cell? ⟨g,1,none⟩ = some (.int .i64 (d1)):=blk_cellI (M:=[d0,d1,d2]) (k:=1) rfl kgwr
   have g2wr : wr.cell? ⟨g,2,none⟩ = some (.int .i64 (d2)):=blk_cellI (M:=[d0,d1,d2]) (k:=2) rfl kgwr
   have w0wr : wr.cell? ⟨gw,0,none⟩ = some (.int .i64 w0):=blk_cellI (M:=[w0,w1,w2]) (k:=0) rfl kwwr
   have w1wr : wr.cell? ⟨gw,1,none⟩ = some (.int .i64 w1):=blk_cellI (M:=[w0,w1,w2]) (k:=1) rfl kwwr
   have w2wr : wr.cell? ⟨gw,2,none⟩ = some (.int .i64 w2):=blk_cellI (M:=[w0,w1,w2]) (k:=2) rfl kwwr
   by_cases z2 : h2 = 0
   ·have x1 : (h2 == 0) = true:=by simp [z2]
    have hst : stopD ⟨[w0,w1,w2],[d0,d1,d2],q,2⟩ [h0,h1,h2] = false:=by simp [stopD,at3];omega
    go_wp2_with fail
    refine wp_region_in (by kernel_rfl) (by kernel_rfl) ?_
    intro W0 hE hN
    have j0 : blk W0 c = some #[.slice (some ⟨gw,0,none⟩) 3 cw,.int .i64 q,.slice (some ⟨g,0,none⟩) 3 cd,.int .i64 2]:=(by rw [hE.out];exact kcwr)
    have j1 : blk W0 g = some (rowC ic [d0,d1,d2] ++ sp).toArray:=(by rw [hE.out];exact kgwr)
    have j2 : blk W0 gw = some (rowC ic [w0,w1,w2] ++ spw).toArray:=(by rw [hE.out];exact kwwr)
    have j3 : blk W0 hb = some #[.int .i64 h0,.int .i64 h1,.int .i64 h2]:=(by rw [hE.out];exact khwr)
    have j4 : blk W0 zb = some #[.slice none 0 0,.int .i64 0,.slice none 0 0,.int .i64 0]:=(by rw [hE.out];exact kzwr)
    have j9 : w.grownBy W0 (some g):=(by rw [hE.out];exact bwr)
    clear hE
    clear nwr mwr fwr g0wr g1wr g2wr w0wr w1wr w2wr
    clear kcwr kgwr kwwr khwr kzwr bwr
    have q1:=calm_kn j0
    have q4:=calm_kn j3
    have r0 : ∀ X : Class (Calm W0),X.wd.cell? ⟨g,0,none⟩ = some (.int .i64 (d0)):=fun X => blk_cellI (M:=[d0,d1,d2]) (k:=0) rfl (blk_below X.ok j1)
    have s0 : ∀ X : Class (Calm W0),X.wd.cell? ⟨gw,0,none⟩ = some (.int .i64 w0):=fun X => blk_cellI (M:=[w0,w1,w2]) (k:=0) rfl (blk_below X.ok j2)
    have r1 : ∀ X : Class (Calm W0),X.wd.cell? ⟨g,1,none⟩ = some (.int .i64 (d1)):=fun X => blk_cellI (M:=[d0,d1,d2]) (k:=1) rfl (blk_below X.ok j1)
    have s1 : ∀ X : Class (Calm W0),X.wd.cell? ⟨gw,1,none⟩ = some (.int .i64 w1):=fun X => blk_cellI (M:=[w0,w1,w2]) (k:=1) rfl (blk_below X.ok j2)
    have r2 : ∀ X : Class (Calm W0),X.wd.cell? ⟨g,2,none⟩ = some (.int .i64 (d2)):=fun X => blk_cellI (M:=[d0,d1,d2]) (k:=2) rfl (blk_below X.ok j1)
    have s2 : ∀ X : Class (Calm W0),X.wd.cell? ⟨gw,2,none⟩ = some (.int .i64 w2):=fun X => blk_cellI (M:=[w0,w1,w2]) (k:=2) rfl (blk_below X.ok j2)
    repeat (go_big_quiet_step (fail))
    refine wpQuiet_nil ?_
    rintro _ ⟨x',rfl⟩
    have kcU1:=blk_below x'.ok j0
    have kgU1:=blk_below x'.ok j1
    have kwU1:=blk_below x'.ok j2
    have khU1:=blk_below x'.ok j3
    have kzU1:=blk_below x'.ok j4
    have bU1 : w.grownBy x'.wd (some g):=grown_thenB j9 x'.ok
    obtain ⟨U1,hu⟩ : ∃ u,u = x'.wd:=⟨_,rfl⟩
    rw [← hu] at kcU1 kgU1 kwU1 khU1 kzU1 bU1 ⊢
    clear hu x' hN q1 q4 r0 r1 r2 s0 s1 s2 j0 j1 j2 j3 j4 j9
    have nU1:=kn kcU1
    have mU1:=kn khU1
    have fU1:=(kn kgU1).2.1
    have g0U1 : U1.cell? ⟨g,0,none⟩ = some (.int .i64 (d0)):=blk_cellI (M:=[d0,d1,d2]) (k:=0) rfl kgU1
    have g1U1 : U1.cell? ⟨g,1,none⟩ = some (.int .i64 (d1)):=blk_cellI (M:=[d0,d1,d2]) (k:=1) rfl kgU1
    have g2U1 : U1.cell? ⟨g,2,none⟩ = some (.int .i64 (d2)):=blk_cellI (M:=[d0,d1,d2]) (k:=2) rfl kgU1
    have w0U1 : U1.cell? ⟨gw,0,none⟩ = some (.int .i64 w0):=blk_cellI (M:=[w0,w1,w2]) (k:=0) rfl kwU1
    have w1U1 : U1.cell? ⟨gw,1,none⟩ = some (.int .i64 w1):=blk_cellI (M:=[w0,w1,w2]) (k:=1) rfl kwU1
    have w2U1 : U1.cell? ⟨gw,2,none⟩ = some (.int .i64 w2):=blk_cellI (M:=[w0,w1,w2]) (k:=2) rfl kwU1
    have GP:=Lib.hid (rpass_any g gw hb cw cd sp spw w0 w1 w2 d0 d1 d2 q 2 h0 h1 h2 U1 HX.out ne_gw_g ne_hb_g kgU1 kwU1 khU1)
    clear mU1 fU1 g0U1 g1U1 g2U1 w0U1 w1U1 w2U1
    obtain ⟨Y,hY⟩ : ∃ Y,Y = passD ⟨[w0,w1,w2],[d0,d1,d2],q,2⟩ [h0,h1,h2]:=⟨_,rfl⟩
    have hx2 : okD Y:=(by rw [hY];exact okD_pass HX.out)
    have HM2 : Hid (serveD m Y [h0,h1,h2] = serveD fuelD X0 [h0,h1,h2] ∧ muD Y [h0,h1,h2] p < m):=Lib.hid (by
     have h9:=muD_pass HX.out rfl hp HPP.out hst
     have h8:=HM.out.1
     rw [pass_serve hst] at h8
     rw [hY]
     exact ⟨h8,by have:=HM.out.2;omega⟩)
    rw [← hY] at GP
    have yw : Y.w = [w0,w1,w2]:=(by rw [hY];rfl)
    have yq : Y.q = q:=(by rw [hY];rfl)
    have HX2:=Lib.hid hx2
    obtain ⟨yw_,yd_,yq_,yt_⟩:=Y
    simp only at yw yq GP
    subst yw
    have yq':=yq.symm
    clear yq
    subst yq'
    clear hY hst hx2
    go_upto_region 4 with (go_at_call 109;go_loud ((with_reducible refine (GP.out).mono ?_);rintro e U2 ⟨rfl,hg2,kgU2,kwU2,khU2⟩;(have kcU2 : blk U2 c = some #[.slice (some ⟨gw,0,none⟩) 3 cw,.int .i64 q,.slice (some ⟨g,0,none⟩) 3 cd,.int .i64 2]:=(blk_kept (hg2.block c (blk_lt kcU1) (fun e => ne_c_g (Option.some.inj e)))).trans kcU1);(have kzU2 : blk U2 zb = some #[.slice none 0 0,.int .i64 0,.slice none 0 0,.int .i64 0]:=(blk_kept (hg2.block zb (blk_lt kzU1) (fun e => ne_zb_g (Option.some.inj e)))).trans kzU1);(have bU2 : w.grownBy U2 (some g):=grown_trans bU1 hg2);(have nU2:=kn kcU2);clear hg2))
    obtain ⟨F,eF⟩ : ∃ F,F = ((((U2).setCell ⟨c,0,none⟩ (.slice (some ⟨gw,0,none⟩) 3 cw)).setCell ⟨c,1,none⟩ (.int .i64 q)).setCell ⟨c,2,none⟩ (.slice (some ⟨g,0,none⟩) 3 cd)).setCell ⟨c,3,none⟩ (.int .i64 yt_):=⟨_,rfl⟩
    have kcF : blk F c = some #[.slice (some ⟨gw,0,none⟩) 3 cw,.int .i64 q,.slice (some ⟨g,0,none⟩) 3 cd,.int .i64 yt_]:=(by rw [eF];exact blk_set (i:=3) (v:=.int .i64 yt_) (blk_set (i:=2) (v:=.slice (some ⟨g,0,none⟩) 3 cd) (blk_set (i:=1) (v:=.int .i64 q) (blk_set (i:=0) (v:=.slice (some ⟨gw,0,none⟩) 3 cw) (kcU2)))))
    have bF : w.grownBy F (some g):=(by rw [eF];exact grown_setCell _ _ (grown_setCell _ _ (grown_setCell _ _ (grown_setCell _ _ (bU2) gr_c) gr_c) gr_c) gr_c)
    have kgF : blk F g = some (rowC ic yd_ ++ sp).toArray:=(by rw [eF];exact blk_other (blk_other (blk_other (blk_other kgU2 ne_g_c) ne_g_c) ne_g_c) ne_g_c)
    have kwF : blk F gw = some (rowC ic [w0,w1,w2] ++ spw).toArray:=(by rw [eF];exact blk_other (blk_other (blk_other (blk_other kwU2 ne_gw_c) ne_gw_c) ne_gw_c) ne_gw_c)
    have khF : blk F hb = some #[.int .i64 h0,.int .i64 h1,.int .i64 h2]:=(by rw [eF];exact blk_other (blk_other (blk_other (blk_other khU2 ne_hb_c) ne_hb_c) ne_hb_c) ne_hb_c)
    have kzF : blk F zb = some #[.slice none 0 0,.int .i64 0,.slice none 0 0,.int .i64 0]:=(by rw [eF];exact blk_other (blk_other (blk_other (blk_other kzU2 ne_zb_c) ne_zb_c) ne_zb_c) ne_zb_c)
    have ALL:=Lib.hid (And.intro HX2.out (And.intro HM2.out (And.intro kcF (And.intro kgF (And.intro kwF (And.intro khF kzF))))))
    have BF:=Lib.hid bF
    rw [← eF]
    clear eF nU2 kcU2 kgU2 kwU2 khU2 kzU2 bU2
    clear kcF kgF kwF khF kzF bF
    go_wp2
    go_roundw
    case rel => exact ⟨k + 1,m,_,_,by go_num,by omega,BF,ALL⟩
    case measure => simp [intOf];omega
   ·have x1 : (h2 == 0) = false:=by simpa using z2
    by_cases z9 : d2 < h2
    ·have x2 : decide (d2 < h2) = true:=decide_eq_true z9
     have hst : stopD ⟨[w0,w1,w2],[d0,d1,d2],q,2⟩ [h0,h1,h2] = false:=by simp [stopD,at3];omega
     go_wp2_with fail
     refine wp_region_in (by kernel_rfl) (by kernel_rfl) ?_
     intro W0 hE hN
     have j0 : blk W0 c = some #[.slice (some ⟨gw,0,none⟩) 3 cw,.int .i64 q,.slice (some ⟨g,0,none⟩) 3 cd,.int .i64 2]:=(by rw [hE.out];exact kcwr)
     have j1 : blk W0 g = some (rowC ic [d0,d1,d2] ++ sp).toArray:=(by rw [hE.out];exact kgwr)
     have j2 : blk W0 gw = some (rowC ic [w0,w1,w2] ++ spw).toArray:=(by rw [hE.out];exact kwwr)
     have j3 : blk W0 hb = some #[.int .i64 h0,.int .i64 h1,.int .i64 h2]:=(by rw [hE.out];exact khwr)
     have j4 : blk W0 zb = some #[.slice none 0 0,.int .i64 0,.slice none 0 0,.int .i64 0]:=(by rw [hE.out];exact kzwr)
     have j9 : w.grownBy W0 (some g):=(by rw [hE.out];exact bwr)
     clear hE
     clear nwr mwr fwr g0wr g1wr g2wr w0wr w1wr w2wr
     clear kcwr kgwr kwwr khwr kzwr bwr
     have q1:=calm_kn j0
     have q4:=calm_kn j3
     have r0 : ∀ X : Class (Calm W0),X.wd.cell? ⟨g,0,none⟩ = some (.int .i64 (d0)):=fun X => blk_cellI (M:=[d0,d1,d2]) (k:=0) rfl (blk_below X.ok j1)
     have s0 : ∀ X : Class (Calm W0),X.wd.cell? ⟨gw,0,none⟩ = some (.int .i64 w0):=fun X => blk_cellI (M:=[w0,w1,w2]) (k:=0) rfl (blk_below X.ok j2)
     have r1 : ∀ X : Class (Calm W0),X.wd.cell? ⟨g,1,none⟩ = some (.int .i64 (d1)):=fun X => blk_cellI (M:=[d0,d1,d2]) (k:=1) rfl (blk_below X.ok j1)
     have s1 : ∀ X : Class (Calm W0),X.wd.cell? ⟨gw,1,none⟩ = some (.int .i64 w1):=fun X => blk_cellI (M:=[w0,w1,w2]) (k:=1) rfl (blk_below X.ok j2)
     have r2 : ∀ X : Class (Calm W0),X.wd.cell? ⟨g,2,none⟩ = some (.int .i64 (d2)):=fun X => blk_cellI (M:=[d0,d1,d2]) (k:=2) rfl (blk_below X.ok j1)
     have s2 : ∀ X : Class (Calm W0),X.wd.cell? ⟨gw,2,none⟩ = some (.int .i64 w2):=fun X => blk_cellI (M:=[w0,w1,w2]) (k:=2) rfl (blk_below X.ok j2)
     repeat (go_big_quiet_step (fail))
     refine wpQuiet_nil ?_
     rintro _ ⟨x',rfl⟩
     have kcU1:=blk_below x'.ok j0
     have kgU1:=blk_below x'.ok j1
     have kwU1:=blk_below x'.ok j2
     have khU1:=blk_below x'.ok j3
     have kzU1:=blk_below x'.ok j4
     have bU1 : w.grownBy x'.wd (some g):=grown_thenB j9 x'.ok
     obtain ⟨U1,hu⟩ : ∃ u,u = x'.wd:=⟨_,rfl⟩
     rw [← hu] at kcU1 kgU1 kwU1 khU1 kzU1 bU1 ⊢
     clear hu x' hN q1 q4 r0 r1 r2 s0 s1 s2 j0 j1 j2 j3 j4 j9
     have nU1:=kn kcU1
     have mU1:=kn khU1
     have fU1:=(kn kgU1).2.1
     have g0U1 : U1.cell? ⟨g,0,none⟩ = some (.int .i64 (d0)):=blk_cellI (M:=[d0,d1,d2]) (k:=0) rfl kgU1
     have g1U1 : U1.cell? ⟨g,1,none⟩ = some (.int .i64 (d1)):=blk_cellI (M:=[d0,d1,d2]) (k:=1) rfl kgU1
     have g2U1 : U1.cell? ⟨g,2,none⟩ = some (.int .i64 (d2)):=blk_cellI (M:=[d0,d1,d2]) (k:=2) rfl kgU1
     have w0U1 : U1.cell? ⟨gw,0,none⟩ = some (.int .i64 w0):=blk_cellI (M:=[w0,w1,w2]) (k:=0) rfl kwU1
     have w1U1 : U1.cell? ⟨gw,1,none⟩ = some (.int .i64 w1):=blk_cellI (M:=[w0,w1,w2]) (k:=1) rfl kwU1
     have w2U1 : U1.cell? ⟨gw,2,none⟩ = some (.int .i64 w2):=blk_cellI (M:=[w0,w1,w2]) (k:=2) rfl kwU1
     have GP:=Lib.hid (rpass_any g gw hb cw cd sp spw w0 w1 w2 d0 d1 d2 q 2 h0 h1 h2 U1 HX.out ne_gw_g ne_hb_g kgU1 kwU1 khU1)
     clear mU1 fU1 g0U1 g1U1 g2U1 w0U1 w1U1 w2U1
     obtain ⟨Y,hY⟩ : ∃ Y,Y = passD ⟨[w0,w1,w2],[d0,d1,d2],q,2⟩ [h0,h1,h2]:=⟨_,rfl⟩
     have hx2 : okD Y:=(by rw [hY];exact okD_pass HX.out)
     have HM2 : Hid (serveD m Y [h0,h1,h2] = serveD fuelD X0 [h0,h1,h2] ∧ muD Y [h0,h1,h2] p < m):=Lib.hid (by
      have h9:=muD_pass HX.out rfl hp HPP.out hst
      have h8:=HM.out.1
      rw [pass_serve hst] at h8
      rw [hY]
      exact ⟨h8,by have:=HM.out.2;omega⟩)
     rw [← hY] at GP
     have yw : Y.w = [w0,w1,w2]:=(by rw [hY];rfl)
     have yq : Y.q = q:=(by rw [hY];rfl)
     have HX2:=Lib.hid hx2
     obtain ⟨yw_,yd_,yq_,yt_⟩:=Y
     simp only at yw yq GP
     subst yw
     have yq':=yq.symm
     clear yq
     subst yq'
     clear hY hst hx2
     go_upto_region 4 with (go_at_call 109;go_loud ((with_reducible refine (GP.out).mono ?_);rintro e U2 ⟨rfl,hg2,kgU2,kwU2,khU2⟩;(have kcU2 : blk U2 c = some #[.slice (some ⟨gw,0,none⟩) 3 cw,.int .i64 q,.slice (some ⟨g,0,none⟩) 3 cd,.int .i64 2]:=(blk_kept (hg2.block c (blk_lt kcU1) (fun e => ne_c_g (Option.some.inj e)))).trans kcU1);(have kzU2 : blk U2 zb = some #[.slice none 0 0,.int .i64 0,.slice none 0 0,.int .i64 0]:=(blk_kept (hg2.block zb (blk_lt kzU1) (fun e => ne_zb_g (Option.some.inj e)))).trans kzU1);(have bU2 : w.grownBy U2 (some g):=grown_trans bU1 hg2);(have nU2:=kn kcU2);clear hg2))
     obtain ⟨F,eF⟩ : ∃ F,F = ((((U2).setCell ⟨c,0,none⟩ (.slice (some ⟨gw,0,none⟩) 3 cw)).setCell ⟨c,1,none⟩ (.int .i64 q)).setCell ⟨c,2,none⟩ (.slice (some ⟨g,0,none⟩) 3 cd)).setCell ⟨c,3,none⟩ (.int .i64 yt_):=⟨_,rfl⟩
     have kcF : blk F c = some #[.slice (some ⟨gw,0,none⟩) 3 cw,.int .i64 q,.slice (some ⟨g,0,none⟩) 3 cd,.int .i64 yt_]:=(by rw [eF];exact blk_set (i:=3) (v:=.int .i64 yt_) (blk_set (i:=2) (v:=.slice (some ⟨g,0,none⟩) 3 cd) (blk_set (i:=1) (v:=.int .i64 q) (blk_set (i:=0) (v:=.slice (some ⟨gw,0,none⟩) 3 cw) (kcU2)))))
     have bF : w.grownBy F (some g):=(by rw [eF];exact grown_setCell _ _ (grown_setCell _ _ (grown_setCell _ _ (grown_setCell _ _ (bU2) gr_c) gr_c) gr_c) gr_c)
     have kgF : blk F g = some (rowC ic yd_ ++ sp).toArray:=(by rw [eF];exact blk_other (blk_other (blk_other (blk_other kgU2 ne_g_c) ne_g_c) ne_g_c) ne_g_c)
     have kwF : blk F gw = some (rowC ic [w0,w1,w2] ++ spw).toArray:=(by rw [eF];exact blk_other (blk_other (blk_other (blk_other kwU2 ne_gw_c) ne_gw_c) ne_gw_c) ne_gw_c)
     have khF : blk F hb = some #[.int .i64 h0,.int .i64 h1,.int .i64 h2]:=(by rw [eF];exact blk_other (blk_other (blk_other (blk_other khU2 ne_hb_c) ne_hb_c) ne_hb_c) ne_hb_c)
     have kzF : blk F zb = some #[.slice none 0 0,.int .i64 0,.slice none 0 0,.int .i64 0]:=(by rw [eF];exact blk_other (blk_other (blk_other (blk_other kzU2 ne_zb_c) ne_zb_c) ne_zb_c) ne_zb_c)
     have ALL:=Lib.hid (And.intro HX2.out (And.intro HM2.out (And.intro kcF (And.intro kgF (And.intro kwF (And.intro khF kzF))))))
     have BF:=Lib.hid bF
     rw [← eF]
     clear eF nU2 kcU2 kgU2 kwU2 khU2 kzU2 bU2
     clear kcF kgF kwF khF kzF bF
     go_wp2
     go_roundw
     case rel => exact ⟨k + 1,m,_,_,by go_num,by omega,BF,ALL⟩
     case measure => simp [intOf];omega
    ·have x2 : decide (d2 < h2) = false:=decide_eq_false z9
     have hst : stopD ⟨[w0,w1,w2],[d0,d1,d2],q,2⟩ [h0,h1,h2] = true:=by simp [stopD,at3];omega
     have HS:=Lib.hid (show serveD fuelD X0 [h0,h1,h2] = ⟨[w0,w1,w2],[d0,d1,d2],q,2⟩ by rw [← HM.out.1,stop_serve hst])
     clear hst
     go_wp2_with fail
     refine wp_region_in (by kernel_rfl) (by kernel_rfl) ?_
     intro W0 hE hN
     have j0 : blk W0 c = some #[.slice (some ⟨gw,0,none⟩) 3 cw,.int .i64 q,.slice (some ⟨g,0,none⟩) 3 cd,.int .i64 2]:=(by rw [hE.out];exact kcwr)
     have j1 : blk W0 g = some (rowC ic [d0,d1,d2] ++ sp).toArray:=(by rw [hE.out];exact kgwr)
     have j2 : blk W0 gw = some (rowC ic [w0,w1,w2] ++ spw).toArray:=(by rw [hE.out];exact kwwr)
     have j3 : blk W0 hb = some #[.int .i64 h0,.int .i64 h1,.int .i64 h2]:=(by rw [hE.out];exact khwr)
     have j4 : blk W0 zb = some #[.slice none 0 0,.int .i64 0,.slice none 0 0,.int .i64 0]:=(by rw [hE.out];exact kzwr)
     have j9 : w.grownBy W0 (some g):=(by rw [hE.out];exact bwr)
     clear hE
     clear nwr mwr fwr g0wr g1wr g2wr w0wr w1wr w2wr
     clear kcwr kgwr kwwr khwr kzwr bwr
     have q1:=calm_kn j0
     have q4:=calm_kn j3
     have r0 : ∀ X : Class (Calm W0),X.wd.cell? ⟨g,0,none⟩ = some (.int .i64 (d0)):=fun X => blk_cellI (M:=[d0,d1,d2]) (k:=0) rfl (blk_below X.ok j1)
     have s0 : ∀ X : Class (Calm W0),X.wd.cell? ⟨gw,0,none⟩ = some (.int .i64 w0):=fun X => blk_cellI (M:=[w0,w1,w2]) (k:=0) rfl (blk_below X.ok j2)
     have r1 : ∀ X : Class (Calm W0),X.wd.cell? ⟨g,1,none⟩ = some (.int .i64 (d1)):=fun X => blk_cellI (M:=[d0,d1,d2]) (k:=1) rfl (blk_below X.ok j1)
     have s1 : ∀ X : Class (Calm W0),X.wd.cell? ⟨gw,1,none⟩ = some (.int .i64 w1):=fun X => blk_cellI (M:=[w0,w1,w2]) (k:=1) rfl (blk_below X.ok j2)
     have r2 : ∀ X : Class (Calm W0),X.wd.cell? ⟨g,2,none⟩ = some (.int .i64 (d2)):=fun X => blk_cellI (M:=[d0,d1,d2]) (k:=2) rfl (blk_below X.ok j1)
     have s2 : ∀ X : Class (Calm W0),X.wd.cell? ⟨gw,2,none⟩ = some (.int .i64 w2):=fun X => blk_cellI (M:=[w0,w1,w2]) (k:=2) rfl (blk_below X.ok j2)
     repeat (go_big_quiet_step (fail))
     refine wpQuiet_nil ?_
     rintro _ ⟨x',rfl⟩
     have kcU1:=blk_below x'.ok j0
     have kgU1:=blk_below x'.ok j1
     have kwU1:=blk_below x'.ok j2
     have khU1:=blk_below x'.ok j3
     have kzU1:=blk_below x'.ok j4
     have bU1 : w.grownBy x'.wd (some g):=grown_thenB j9 x'.ok
     obtain ⟨U1,hu⟩ : ∃ u,u = x'.wd:=⟨_,rfl⟩
     rw [← hu] at kcU1 kgU1 kwU1 khU1 kzU1 bU1 ⊢
     clear hu x' hN q1 q4 r0 r1 r2 s0 s1 s2 j0 j1 j2 j3 j4 j9
     have nU1:=kn kcU1
     have mU1:=kn khU1
     have fU1:=(kn kgU1).2.1
     have g0U1 : U1.cell? ⟨g,0,none⟩ = some (.int .i64 (d0)):=blk_cellI (M:=[d0,d1,d2]) (k:=0) rfl kgU1
     have g1U1 : U1.cell? ⟨g,1,none⟩ = some (.int .i64 (d1)):=blk_cellI (M:=[d0,d1,d2]) (k:=1) rfl kgU1
     have g2U1 : U1.cell? ⟨g,2,none⟩ = some (.int .i64 (d2)):=blk_cellI (M:=[d0,d1,d2]) (k:=2) rfl kgU1
     have w0U1 : U1.cell? ⟨gw,0,none⟩ = some (.int .i64 w0):=blk_cellI (M:=[w0,w1,w2]) (k:=0) rfl kwU1
     have w1U1 : U1.cell? ⟨gw,1,none⟩ = some (.int .i64 w1):=blk_cellI (M:=[w0,w1,w2]) (k:=1) rfl kwU1
     have w2U1 : U1.cell? ⟨gw,2,none⟩ = some (.int .i64 w2):=blk_cellI (M:=[w0,w1,w2]) (k:=2) rfl kwU1
     have v9 : IntKind.i64.wrap (d2 - h2) = d2 - h2:=IntWalk.i64_in _ (by omega)
     go_upto_region 5 with fail
     refine wp_region_tail 17 (by kernel_rfl) (by kernel_rfl) ?_
     intro W0 hE hN
     have j0 : blk W0 c = some #[.slice (some ⟨gw,0,none⟩) 3 cw,.int .i64 q,.slice (some ⟨g,0,none⟩) 3 cd,.int .i64 2]:=(by rw [hE.out];exact kcU1)
     have j1 : blk W0 g = some (rowC ic [d0,d1,d2] ++ sp).toArray:=(by rw [hE.out];exact kgU1)
     have j2 : blk W0 gw = some (rowC ic [w0,w1,w2] ++ spw).toArray:=(by rw [hE.out];exact kwU1)
     have j3 : blk W0 hb = some #[.int .i64 h0,.int .i64 h1,.int .i64 h2]:=(by rw [hE.out];exact khU1)
     have j4 : blk W0 zb = some #[.slice none 0 0,.int .i64 0,.slice none 0 0,.int .i64 0]:=(by rw [hE.out];exact kzU1)
     have j9 : w.grownBy W0 (some g):=(by rw [hE.out];exact bU1)
     clear hE
     clear nU1 mU1 fU1 g0U1 g1U1 g2U1 w0U1 w1U1 w2U1
     clear kcU1 kgU1 kwU1 khU1 kzU1 bU1
     have q1:=calm_kn j0
     have q4:=calm_kn j3
     have r0 : ∀ X : Class (Calm W0),X.wd.cell? ⟨g,0,none⟩ = some (.int .i64 (d0)):=fun X => blk_cellI (M:=[d0,d1,d2]) (k:=0) rfl (blk_below X.ok j1)
     have s0 : ∀ X : Class (Calm W0),X.wd.cell? ⟨gw,0,none⟩ = some (.int .i64 w0):=fun X => blk_cellI (M:=[w0,w1,w2]) (k:=0) rfl (blk_below X.ok j2)
     have r1 : ∀ X : Class (Calm W0),X.wd.cell? ⟨g,1,none⟩ = some (.int .i64 (d1)):=fun X => blk_cellI (M:=[d0,d1,d2]) (k:=1) rfl (blk_below X.ok j1)
     have s1 : ∀ X : Class (Calm W0),X.wd.cell? ⟨gw,1,none⟩ = some (.int .i64 w1):=fun X => blk_cellI (M:=[w0,w1,w2]) (k:=1) rfl (blk_below X.ok j2)
     have r2 : ∀ X : Class (Calm W0),X.wd.cell? ⟨g,2,none⟩ = some (.int .i64 (d2)):=fun X => blk_cellI (M:=[d0,d1,d2]) (k:=2) rfl (blk_below X.ok j1)
     have s2 : ∀ X : Class (Calm W0),X.wd.cell? ⟨gw,2,none⟩ = some (.int .i64 w2):=fun X => blk_cellI (M:=[w0,w1,w2]) (k:=2) rfl (blk_below X.ok j2)
     simp only [List.take_succ_cons,List.take_zero,List.drop_succ_cons,List.drop_zero]
     repeat (go_big_quiet_step (fail))
     refine wpQuiet_nil ?_
     rintro _ ⟨x',rfl⟩
     have kcU2:=blk_below x'.ok j0
     have kgU2:=blk_below x'.ok j1
     have kwU2:=blk_below x'.ok j2
     have khU2:=blk_below x'.ok j3
     have kzU2:=blk_below x'.ok j4
     have bU2 : w.grownBy x'.wd (some g):=grown_thenB j9 x'.ok
     obtain ⟨U2,hu⟩ : ∃ u,u = x'.wd:=⟨_,rfl⟩
     rw [← hu] at kcU2 kgU2 kwU2 khU2 kzU2 bU2 ⊢
     clear hu x' hN q1 q4 r0 r1 r2 s0 s1 s2 j0 j1 j2 j3 j4 j9
     have nU2:=kn kcU2
     have mU2:=kn khU2
     have fU2:=(kn kgU2).2.1
     have g0U2 : U2.cell? ⟨g,0,none⟩ = some (.int .i64 (d0)):=blk_cellI (M:=[d0,d1,d2]) (k:=0) rfl kgU2
     have g1U2 : U2.cell? ⟨g,1,none⟩ = some (.int .i64 (d1)):=blk_cellI (M:=[d0,d1,d2]) (k:=1) rfl kgU2
     have g2U2 : U2.cell? ⟨g,2,none⟩ = some (.int .i64 (d2)):=blk_cellI (M:=[d0,d1,d2]) (k:=2) rfl kgU2
     have w0U2 : U2.cell? ⟨gw,0,none⟩ = some (.int .i64 w0):=blk_cellI (M:=[w0,w1,w2]) (k:=0) rfl kwU2
     have w1U2 : U2.cell? ⟨gw,1,none⟩ = some (.int .i64 w1):=blk_cellI (M:=[w0,w1,w2]) (k:=1) rfl kwU2
     have w2U2 : U2.cell? ⟨gw,2,none⟩ = some (.int .i64 w2):=blk_cellI (M:=[w0,w1,w2]) (k:=2) rfl kwU2
     go_upto_region 6 with fail
     obtain ⟨U3,eU3⟩ : ∃ v,v = U2.setCell ⟨g,2,none⟩ (.int .i64 (d2 - h2)):=⟨_,rfl⟩
     have kcU3 : blk U3 c = some #[.slice (some ⟨gw,0,none⟩) 3 cw,.int .i64 q,.slice (some ⟨g,0,none⟩) 3 cd,.int .i64 2]:=(by rw [eU3];exact blk_other kcU2 ne_c_g)
     have kgU3 : blk U3 g = some (rowC ic [d0,d1,d2 - h2] ++ sp).toArray:=(by rw [eU3];exact blk_setI (M:=[d0,d1,d2]) (k:=2) (x:=(d2)) rfl kgU2)
     have kwU3 : blk U3 gw = some (rowC ic [w0,w1,w2] ++ spw).toArray:=(by rw [eU3];exact blk_other kwU2 ne_gw_g)
     have khU3 : blk U3 hb = some #[.int .i64 h0,.int .i64 h1,.int .i64 h2]:=(by rw [eU3];exact blk_other khU2 ne_hb_g)
     have kzU3 : blk U3 zb = some #[.slice none 0 0,.int .i64 0,.slice none 0 0,.int .i64 0]:=(by rw [eU3];exact blk_other kzU2 ne_zb_g)
     have bU3 : w.grownBy U3 (some g):=(by rw [eU3];exact grown_setCell _ _ bU2 (.inl rfl))
     rw [← eU3]
     clear eU3
     clear nU2 mU2 fU2 g0U2 g1U2 g2U2 w0U2 w1U2 w2U2
     have nU3:=kn kcU3
     have mU3:=kn khU3
     have fU3:=(kn kgU3).2.1
     have g0U3 : U3.cell? ⟨g,0,none⟩ = some (.int .i64 (d0)):=blk_cellI (M:=[d0,d1,d2 - h2]) (k:=0) rfl kgU3
     have g1U3 : U3.cell? ⟨g,1,none⟩ = some (.int .i64 (d1)):=blk_cellI (M:=[d0,d1,d2 - h2]) (k:=1) rfl kgU3
     have g2U3 : U3.cell? ⟨g,2,none⟩ = some (.int .i64 (d2 - h2)):=blk_cellI (M:=[d0,d1,d2 - h2]) (k:=2) rfl kgU3
     have w0U3 : U3.cell? ⟨gw,0,none⟩ = some (.int .i64 w0):=blk_cellI (M:=[w0,w1,w2]) (k:=0) rfl kwU3
     have w1U3 : U3.cell? ⟨gw,1,none⟩ = some (.int .i64 w1):=blk_cellI (M:=[w0,w1,w2]) (k:=1) rfl kwU3
     have w2U3 : U3.cell? ⟨gw,2,none⟩ = some (.int .i64 w2):=blk_cellI (M:=[w0,w1,w2]) (k:=2) rfl kwU3
     have EN:=Lib.hid (show nextD ⟨[w0,w1,w2],[a0,a1,a2],q,t0⟩ [h0,h1,h2] = (2,⟨[w0,w1,w2],[d0,d1,d2 - h2],q,2⟩) by rw [← hX0];unfold nextD;rw [HS.out];simp [takeD,at3])
     clear hX0 HS
     have nzU3:=kn kzU3
     go_wp2
     refine ret_blk (b:=zb) (c:=#[.slice (some ⟨gw,0,none⟩) 3 cw,.int .i64 q,.slice (some ⟨g,0,none⟩) 3 cd,.int .i64 2]) (v:=.tuple #[.agg #[.slice (some ⟨gw,0,none⟩) 3 cw,.int .i64 q,.slice (some ⟨g,0,none⟩) 3 cd,.int .i64 2],.int .i64 k]) (by have h9:=blk_set (i:=3) (v:=.int .i64 2) (blk_set (i:=2) (v:=.slice (some ⟨g,0,none⟩) 3 cd) (blk_set (i:=1) (v:=.int .i64 q) (blk_set (i:=0) (v:=.slice (some ⟨gw,0,none⟩) 3 cw) (kzU3))));exact h9) (fun W' hc => by simp [results,Tryd.results92,go_sem,hc]) rfl ⟨k,by rw [EN.out],grown_setCell _ _ (grown_setCell _ _ (grown_setCell _ _ (grown_setCell _ _ (bU3) gr_zb) gr_zb) gr_zb) gr_zb,?_,?_,?_⟩
     ·rw [EN.out];exact blk_other (blk_other (blk_other (blk_other kgU3 ne_g_zb) ne_g_zb) ne_g_zb) ne_g_zb
     ·exact blk_other (blk_other (blk_other (blk_other kwU3 ne_gw_zb) ne_gw_zb) ne_gw_zb) ne_gw_zb
     ·exact blk_other (blk_other (blk_other (blk_other khU3 ne_hb_zb) ne_hb_zb) ne_hb_zb) ne_hb_zb
set_option maxHeartbeats 3200000 in
theorem rnext_ok (aw : Option Addr) (cw : Nat) (ad : Option Addr) (cd : Nat) (w0 w1 w2 d0 d1 d2 q t h0 h1 h2 : Int) (hb : Nat) (w : World) (hw : SRow ic 1 w aw cw [w0,w1,w2]) (hd : SRow ic 1 w ad cd [d0,d1,d2]) (kh : blk w hb = some #[.int .i64 h0,.int .i64 h1,.int .i64 h2])
  (hz : linD ⟨[w0,w1,w2],[d0,d1,d2],q,t⟩ [h0,h1,h2] = 0) :
  Calls Tryd.prog 76 #[.agg #[.slice aw 3 cw,.int .i64 q,.slice ad 3 cd,.int .i64 t],.slice (some ⟨hb,0,none⟩) 3 3] w fun e w' => RetX ⟨[w0,w1,w2],[d0,d1,d2],q,t⟩ [h0,h1,h2] w e w':=by
 obtain ⟨hx,hk,hn⟩:=linD_zero hz
 have hc0:=chkD_ok hx
 have hh0 : headE [h0,h1,h2] = 0:=by have h9:=hz;rw [linD_head,if_neg (by rw [hc0];decide)] at h9;exact h9
 have GK:=Lib.hid (fun W (hB : Below w.heap.size w W) => (show Calls Tryd.prog 53 #[.agg #[.slice aw 3 cw,.int .i64 q,.slice ad 3 cd,.int .i64 t]] W fun e w' => e = .returned (.int .i64 0) ∧ Below W.heap.size W w' from by
  have h9:=rdchk_any aw cw ad cd ⟨[w0,w1,w2],[d0,d1,d2],q,t⟩ W (hw.below hB) (hd.below hB)
  rw [hc0] at h9
  exact h9))
 have GH:=Lib.hid (fun W (hB : Below w.heap.size w W) => (show Calls Tryd.prog 91 #[.slice (some ⟨hb,0,none⟩) 3 3] W fun e w' => e = .returned (.int .i64 0) ∧ W = w' from by
  have h9:=headed_any (some ⟨hb,0,none⟩) 3 h0 h1 h2 W (srow3 (blk_below hB kh))
  rw [hh0] at h9
  exact h9))
 have GC:=Lib.hid (fun W (hB : Below w.heap.size w W) => copied_any aw cw ad cd w0 w1 w2 d0 d1 d2 q t W (hw.below hB) (hd.below hB))
 have HX:=Lib.hid hx;have HK:=Lib.hid hk;have HN:=Lib.hid hn;have HZ:=Lib.hid hz;have KH:=Lib.hid kh
 have t1 : ((0 : Int) != 0) = false:=rfl
 have t2 : ((0 : Int) == 0) = true:=rfl
 clear hx hk hn hz hc0 hh0 hw hd kh
 go_enter Tryd.func76,Tryd.ntmps76
 go_upto_region 7 with (first
  | (go_at_call 53;(with_reducible refine (GK.out _ (by (repeat(first|(with_reducible first|assumption|exact Below.refl _ _|refine je ?_|refine jl ?_)|((with_reducible refine jp ?_ ?_);first|focus(dsimp only;assumption)|focus(simp;done)|focus(dsimp only;omega))|(with_reducible refine bt ?_ (by assumption)))))).mono ?_);rintro e u2 ⟨rfl,h2e⟩;(have b2 : Below w.heap.size w u2:=by (repeat(first|(with_reducible first|assumption|exact Below.refl _ _|refine je ?_|refine jl ?_)|((with_reducible refine jp ?_ ?_);first|focus(dsimp only;assumption)|focus(simp;done)|focus(dsimp only;omega))|(with_reducible refine bt ?_ (by assumption)))));(have z2 : blk u2 (w.heap.size + 1) = some #[.slice none 0 0,.int .i64 0,.slice none 0 0,.int .i64 0]:=blk_below h2e (blk_alloc_new _ _ _ (by simp)));(have k2 : blk u2 w.heap.size = some #[.slice aw 3 cw,.int .i64 q,.slice ad 3 cd,.int .i64 t]:=blk_below h2e (blk_alloc (blk_alloc_new _ _ _ rfl) _));(have n2:=kn k2);(have s2 : w.heap.size + 2 ≤ u2.heap.size:=blk_lt z2);(have hb2:=b2);clear h2e)
  | (go_at_call 91;(with_reducible refine (GH.out _ b2).mono ?_);rintro e u3 ⟨rfl,rfl⟩;(have h3:=Below.refl u2.heap.size u2);(have b3:=b2);(have k3:=k2);(have z3:=z2);(have n3:=kn k3);clear n2 k2 z2)
  | (go_at_call 93;(with_reducible refine (GC.out _ b3).mono ?_);rintro e u4 ⟨v1,v2,rfl,ho1,⟨mm,hm1,hm2,ho2⟩,h4⟩;(have b4:=bt b3 h4);(have k4:=blk_below h4 k3);(have z4:=blk_below h4 z3);(have kh4:=blk_below (bt (bt hb2 h3) h4) KH.out);(obtain ⟨a1,c1,e1,hz1,hz2⟩:=srow_of_owns ic_len (show u4.ownsRow u2.heap.size 3 1 v1 [w0,w1,w2].length (rowC ic [w0,w1,w2]) from ho1));(rcases hz2 with ⟨hz3,hz4⟩|⟨g1,cur1,hz3,hg1b,hg1,cs1,ct1⟩;(cases hz4));(obtain ⟨a2,c2,e2,hy1,hy2⟩:=srow_of_owns ic_len (show u4.ownsRow mm 3 1 v2 [d0,d1,d2].length (rowC ic [d0,d1,d2]) from ho2));(rcases hy2 with ⟨hy3,hy4⟩|⟨g2,cur2,hy3,hg2b,hg2,cs2,ct2⟩;(cases hy4));subst e1;subst e2;subst hz3;subst hy3;(have M1:=hm2 g1 rfl);(obtain ⟨sp1,hs1⟩ : ∃ sp,sp = cur1.toList.drop (3 * 1):=⟨_,rfl⟩);(obtain ⟨sp2,hs2⟩ : ∃ sp,sp = cur2.toList.drop (3 * 1):=⟨_,rfl⟩);(have kg1 : blk u4 g1 = some (rowC ic [w0,w1,w2] ++ sp1).toArray:=by rw [hg1,hs1,← ct1];simp);(have kg2 : blk u4 g2 = some (rowC ic [d0,d1,d2] ++ sp2).toArray:=by rw [hg2,hs2,← ct2];simp);(have lc1 : 3 ≤ c1 ∧ c1 ≤ maxLen:=⟨hz1.1,hz1.2.1⟩);(have lc2 : 3 ≤ c2 ∧ c2 ≤ maxLen:=⟨hy1.1,hy1.2.1⟩);(have HLC:=Lib.hid (And.intro lc1 lc2));(have n4:=kn k4);clear n3 k3 z3 h4 hz1 hy1 hg1 hg2 cs1 cs2 ct1 ct2 hs1 hs2 ho1 ho2 hm2 lc1 lc2)
  | (go_at_call 92;(with_reducible refine (rserve_any g2 g1 hb c1 c2 sp2 sp1 w0 w1 w2 d0 d1 d2 q t h0 h1 h2 u4 HX.out HK.out HN.out (by omega) (by have:=blk_lt KH.out;have:=b3.size;omega) kg2 kg1 kh4).mono ?_);rintro e u5 ⟨nn,rfl,hg5,kg2e,kg1e,kh5⟩;(have k5:=(blk_kept (hg5.block w.heap.size (blk_lt k4) (fun e => by have h9 : g2 = w.heap.size:=Option.some.inj e.symm;have:=b3.size;have:=b2.size;omega))).trans k4);(have z5:=(blk_kept (hg5.block (w.heap.size + 1) (blk_lt z4) (fun e => by have h9 : g2 = w.heap.size + 1:=Option.some.inj e.symm;have:=s2;have:=h3.size;omega))).trans z4);(have b5 : Below w.heap.size w u5:=b4.grown hg5 b4.size (fun k e => by have h9 : g2 = k:=Option.some.inj e;have:=b3.size;omega));(have n5:=kn k5);clear n4 k4 z4 hg5))
 obtain ⟨tt,ett⟩ : ∃ x,(nextD ⟨[w0,w1,w2],[d0,d1,d2],q,t⟩ [h0,h1,h2]).2.t = x:=⟨_,rfl⟩
 obtain ⟨dd,edd⟩ : ∃ x,(nextD ⟨[w0,w1,w2],[d0,d1,d2],q,t⟩ [h0,h1,h2]).2.d = x:=⟨_,rfl⟩
 rw [ett]
 rw [edd] at kg2e
 obtain ⟨cb,ecb⟩ : ∃ x,x = w.heap.size:=⟨_,rfl⟩
 obtain ⟨zb,ezb⟩ : ∃ x,x = w.heap.size + 1:=⟨_,rfl⟩
 have HRET:=Lib.hid (show ∀ W',Below w.heap.size w W' → blk W' g1 = some (rowC ic [w0,w1,w2] ++ sp1).toArray → blk W' g2 = some (rowC ic dd ++ sp2).toArray → RetX ⟨[w0,w1,w2],[d0,d1,d2],q,t⟩ [h0,h1,h2] w (.returned (.tuple #[.int .i64 tt,.agg #[.slice (some ⟨g1,0,none⟩) 3 c1,.int .i64 q,.slice (some ⟨g2,0,none⟩) 3 c2,.int .i64 tt],.int .i64 0])) W' from by
  intro W' hB k1 k2
  have hd3 : dd.length = 3:=by rw [← edd];exact (nextD_spec HX.out HK.out HN.out).2.2.2.1
  refine ⟨hB,.inr ⟨HZ.out,some ⟨g1,0,none⟩,c1,some ⟨g2,0,none⟩,c2,?_,?_,?_,upR_at (by have:=b2.size;omega),upR_at (by have:=b2.size;omega)⟩⟩
  ·rw [← ett];rfl
  ·exact ⟨HLC.out.1.1,HLC.out.1.2,(fun h => by cases h),fun _ => ⟨g1,0,rfl,blk_lt k1,fun i hi => by rw [Nat.zero_add];exact range_row ic_len k1 (List.getElem?_eq_getElem hi)⟩⟩
  ·rw [edd];exact ⟨by rw [hd3];exact HLC.out.2.1,HLC.out.2.2,(fun h => by cases h),fun _ => ⟨g2,0,rfl,blk_lt k2,fun i hi => by rw [Nat.zero_add];exact range_row ic_len k2 (List.getElem?_eq_getElem hi)⟩⟩)
 have ne_g1_cb : g1 ≠ w.heap.size:=(by have:=b2.size;omega)
 have ne_g2_cb : g2 ≠ w.heap.size:=(by have:=b2.size;omega)
 have ne_g1_zb : g1 ≠ zb:=by omega
 have ne_g2_zb : g2 ≠ zb:=by omega
 have ne_cb_zb : cb ≠ zb:=by omega
 have ne_zb_cb : w.heap.size + 1 ≠ w.heap.size:=by omega
 have le_zb : w.heap.size ≤ zb:=by omega
 obtain ⟨F,eF⟩ : ∃ F,F = ((((u5).setCell ⟨w.heap.size,0,none⟩ (.slice (some ⟨g1,0,none⟩) 3 c1)).setCell ⟨w.heap.size,1,none⟩ (.int .i64 q)).setCell ⟨w.heap.size,2,none⟩ (.slice (some ⟨g2,0,none⟩) 3 c2)).setCell ⟨w.heap.size,3,none⟩ (.int .i64 tt):=⟨_,rfl⟩
 have kcF : blk F cb = some #[.slice (some ⟨g1,0,none⟩) 3 c1,.int .i64 q,.slice (some ⟨g2,0,none⟩) 3 c2,.int .i64 tt]:=(by rw [eF,ecb];exact blk_set (i:=3) (v:=.int .i64 tt) (blk_set (i:=2) (v:=.slice (some ⟨g2,0,none⟩) 3 c2) (blk_set (i:=1) (v:=.int .i64 q) (blk_set (i:=0) (v:=.slice (some ⟨g1,0,none⟩) 3 c1) (k5)))))
 have zF : blk F zb = some #[.slice none 0 0,.int .i64 0,.slice none 0 0,.int .i64 0]:=(by rw [eF,ezb];exact blk_other (blk_other (blk_other (blk_other z5 ne_zb_cb) ne_zb_cb) ne_zb_cb) ne_zb_cb)
 have k1F : blk F g1 = some (rowC ic [w0,w1,w2] ++ sp1).toArray:=(by rw [eF];exact blk_other (blk_other (blk_other (blk_other kg1e ne_g1_cb) ne_g1_cb) ne_g1_cb) ne_g1_cb)
 have k2F : blk F g2 = some (rowC ic dd ++ sp2).toArray:=(by rw [eF];exact blk_other (blk_other (blk_other (blk_other kg2e ne_g2_cb) ne_g2_cb) ne_g2_cb) ne_g2_cb)
 have bF : Below w.heap.size w F:=(by rw [eF];exact (((b5.setCell (Nat.le_refl _) _).setCell (Nat.le_refl _) _).setCell (Nat.le_refl _) _).setCell (Nat.le_refl _) _)
 rw [← eF,← ezb,← ecb]
 clear eF n5 k5 z5 kg1e kg2e kh5 b5 ett edd ecb ezb ne_g1_cb ne_g2_cb ne_zb_cb
 refine wp_region_held_drew (S:=fun W => ∀ o,W.cell? ⟨cb,o,none⟩ = (#[.slice (some ⟨g1,0,none⟩) 3 c1,.int .i64 q,.slice (some ⟨g2,0,none⟩) 3 c2,.int .i64 tt] : Array Value)[o]?) (by kernel_rfl) (fun o => blk_cell (blk_drew kcF) o) (fun hHeld => ?_)
 obtain ⟨Y0,ed⟩ : ∃ v,v = F.drew:=⟨_,rfl⟩
 have kcY:=blk_drew kcF
 have zY:=blk_drew zF
 have k1Y:=blk_drew k1F
 have k2Y:=blk_drew k2F
 have bY:=bF.drew
 rw [← ed] at kcY zY k1Y k2Y bY hHeld ⊢
 clear ed kcF zF k1F k2F bF
 refine jK (v:=?_) 0 ?_ ?_
 rotate_left;focus(intro W h;(try dsimp only at h);go_simp;(try with_reducible rfl));(try simp only[Act.put,jA,jB,jC,jD,jE,jF])
 refine jK (v:=?_) 1 ?_ ?_
 rotate_left;focus(intro W h;(try dsimp only at h);go_simp;(try with_reducible rfl));(try simp only[Act.put,jA,jB,jC,jD,jE,jF])
 refine jK (v:=?_) 2 ?_ ?_
 rotate_left;focus(intro W h;(try dsimp only at h);go_simp;(try with_reducible rfl));(try simp only[Act.put,jA,jB,jC,jD,jE,jF])
 refine jK (v:=?_) 3 ?_ ?_
 rotate_left;focus(intro W h;(try dsimp only at h);go_simp;(try with_reducible rfl));(try simp only[Act.put,jA,jB,jC,jD,jE,jF])
 refine jR 4 (fun K hK => ?_)
 have nz:=kn zY
 go_simp
 obtain ⟨X,eX⟩ : ∃ X,X = ((((Y0).setCell ⟨zb,0,none⟩ (.slice (some ⟨g1,0,none⟩) 3 c1)).setCell ⟨zb,1,none⟩ (.int .i64 q)).setCell ⟨zb,2,none⟩ (.slice (some ⟨g2,0,none⟩) 3 c2)).setCell ⟨zb,3,none⟩ (.int .i64 tt):=⟨_,rfl⟩
 have zX : blk X zb = some #[.slice (some ⟨g1,0,none⟩) 3 c1,.int .i64 q,.slice (some ⟨g2,0,none⟩) 3 c2,.int .i64 tt]:=(by rw [eX];exact blk_set (i:=3) (v:=.int .i64 tt) (blk_set (i:=2) (v:=.slice (some ⟨g2,0,none⟩) 3 c2) (blk_set (i:=1) (v:=.int .i64 q) (blk_set (i:=0) (v:=.slice (some ⟨g1,0,none⟩) 3 c1) (zY)))))
 have k1X : blk X g1 = some (rowC ic [w0,w1,w2] ++ sp1).toArray:=(by rw [eX];exact blk_other (blk_other (blk_other (blk_other k1Y ne_g1_zb) ne_g1_zb) ne_g1_zb) ne_g1_zb)
 have k2X : blk X g2 = some (rowC ic dd ++ sp2).toArray:=(by rw [eX];exact blk_other (blk_other (blk_other (blk_other k2Y ne_g2_zb) ne_g2_zb) ne_g2_zb) ne_g2_zb)
 have kcX : blk X cb = some #[.slice (some ⟨g1,0,none⟩) 3 c1,.int .i64 q,.slice (some ⟨g2,0,none⟩) 3 c2,.int .i64 tt]:=(by rw [eX];exact blk_other (blk_other (blk_other (blk_other kcY ne_cb_zb) ne_cb_zb) ne_cb_zb) ne_cb_zb)
 have bX : Below w.heap.size w X:=(by rw [eX];exact (((bY.setCell le_zb _).setCell le_zb _).setCell le_zb _).setCell le_zb _)
 rw [← eX]
 clear eX nz
 refine hK.out _ _ (fun o => blk_cell kcX o) (fun _ => ?_)
 clear hK K
 (try simp only[Act.put,jA,jB,jC,jD,jE,jF])
 refine jK (v:=?_) 5 ?_ ?_
 rotate_left;focus(intro W h;(try dsimp only at h);go_simp;(try with_reducible rfl));(try simp only[Act.put,jA,jB,jC,jD,jE,jF])
 refine wpAnyH_done (by kernel_rfl) ?_ _
 go_wp2
 refine ret_blk (b:=zb) (c:=#[.slice (some ⟨g1,0,none⟩) 3 c1,.int .i64 q,.slice (some ⟨g2,0,none⟩) 3 c2,.int .i64 tt]) (v:=.tuple #[.int .i64 tt,.agg #[.slice (some ⟨g1,0,none⟩) 3 c1,.int .i64 q,.slice (some ⟨g2,0,none⟩) 3 c2,.int .i64 tt],.int .i64 0]) zX (fun W' hc => by simp [results,Tryd.results76,go_sem,hc]) rfl (HRET.out _ bX k1X k2X)
set_option maxHeartbeats 3200000 in
theorem rnext_bad (aw : Option Addr) (cw : Nat) (ad : Option Addr) (cd : Nat) (w0 w1 w2 d0 d1 d2 q t h0 h1 h2 : Int) (hb : Nat) (w : World) (hw : SRow ic 1 w aw cw [w0,w1,w2]) (hd : SRow ic 1 w ad cd [d0,d1,d2]) (kh : blk w hb = some #[.int .i64 h0,.int .i64 h1,.int .i64 h2])
    (hx : okD ⟨[w0,w1,w2],[d0,d1,d2],q,t⟩) (hz : linD ⟨[w0,w1,w2],[d0,d1,d2],q,t⟩ [h0,h1,h2] ≠ 0) :
    Calls Tryd.prog 76 #[.agg #[.slice aw 3 cw,.int .i64 q,.slice ad 3 cd,.int .i64 t],.slice (some ⟨hb,0,none⟩) 3 3] w fun e w' => RetX ⟨[w0,w1,w2],[d0,d1,d2],q,t⟩ [h0,h1,h2] w e w':=by
  have hc0:=chkD_ok hx
  have hh0 : headE [h0,h1,h2] = linD ⟨[w0,w1,w2],[d0,d1,d2],q,t⟩ [h0,h1,h2]:=by rw [linD_head,if_neg (by rw [hc0];decide)]
  have GK:=Lib.hid (fun W (hB : Below w.heap.size w W) => (show Calls Tryd.prog 53 #[.agg #[.slice aw 3 cw,.int .i64 q,.slice ad 3 cd,.int .i64 t]] W fun e w' => e = .returned (.int .i64 0) ∧ Below W.heap.size W w' from by
    have h9:=rdchk_any aw cw ad cd ⟨[w0,w1,w2],[d0,d1,d2],q,t⟩ W (hw.below hB) (hd.below hB)
    rw [hc0] at h9
    exact h9))
  have GH:=Lib.hid (fun W (hB : Below w.heap.size w W) => (show Calls Tryd.prog 91 #[.slice (some ⟨hb,0,none⟩) 3 3] W fun e w' => e = .returned (.int .i64 (linD ⟨[w0,w1,w2],[d0,d1,d2],q,t⟩ [h0,h1,h2])) ∧ W = w' from by
    have h9:=headed_any (some ⟨hb,0,none⟩) 3 h0 h1 h2 W (srow3 (blk_below hB kh))
    rw [hh0] at h9
    exact h9))
  have HR:=Lib.hid (show ∀ W',Below w.heap.size w W' → RetX ⟨[w0,w1,w2],[d0,d1,d2],q,t⟩ [h0,h1,h2] w (.returned (.tuple #[.int .i64 0,.agg #[.slice none 0 0,.int .i64 0,.slice none 0 0,.int .i64 0],.int .i64 (linD ⟨[w0,w1,w2],[d0,d1,d2],q,t⟩ [h0,h1,h2])])) W' from fun W' hB => ⟨hB,.inl ⟨hz,rfl⟩⟩)
  obtain ⟨c,hc⟩ : ∃ c,linD ⟨[w0,w1,w2],[d0,d1,d2],q,t⟩ [h0,h1,h2] = c:=⟨_,rfl⟩
  rw [hc] at GH HR hz
  have t1 : (c != 0) = true:=by simpa using hz
  have t2 : ((0 : Int) == 0) = true:=rfl
  have L8 : w.heap.size ≤ w.heap.size + 1:=Nat.le_succ _
  clear hc hz hc0 hh0 hw hd kh hx
  go_enter Tryd.func76,Tryd.ntmps76
  go_wp2_with (first
    | (go_at_call 53;(with_reducible refine (GK.out _ (by (repeat(first|(with_reducible first|assumption|exact Below.refl _ _|refine je ?_|refine jl ?_)|((with_reducible refine jp ?_ ?_);first|focus(dsimp only;assumption)|focus(simp;done)|focus(dsimp only;omega))|(with_reducible refine bt ?_ (by assumption)))))).mono ?_);rintro e u2 ⟨rfl,h2e⟩;(have b2 : Below w.heap.size w u2:=by (repeat(first|(with_reducible first|assumption|exact Below.refl _ _|refine je ?_|refine jl ?_)|((with_reducible refine jp ?_ ?_);first|focus(dsimp only;assumption)|focus(simp;done)|focus(dsimp only;omega))|(with_reducible refine bt ?_ (by assumption)))));(have k2 : blk u2 (w.heap.size + 1) = some #[.slice none 0 0,.int .i64 0,.slice none 0 0,.int .i64 0]:=blk_below h2e (blk_alloc_new _ _ _ (by simp)));(have n2:=kn k2);clear h2e)
    | (go_at_call 91;(with_reducible refine (GH.out _ b2).mono ?_);rintro e u3 ⟨rfl,rfl⟩))
  refine ret_blk (b:=w.heap.size + 1) (c:=#[.slice none 0 0,.int .i64 0,.slice none 0 0,.int .i64 0]) (v:=.tuple #[.int .i64 0,.agg #[.slice none 0 0,.int .i64 0,.slice none 0 0,.int .i64 0],.int .i64 c]) (by have h9:=blk_set (i:=3) (v:=.int .i64 0) (blk_set (i:=2) (v:=.slice none 0 0) (blk_set (i:=1) (v:=.int .i64 0) (blk_set (i:=0) (v:=.slice none 0 0) k2)));exact h9) (fun W' hc => by simp [results,Tryd.results76,go_sem,hc]) rfl (HR.out _ ?_)
  exact (((b2.setCell L8 _).setCell L8 _).setCell L8 _).setCell L8 _
theorem rnext_any (aw : Option Addr) (cw : Nat) (ad : Option Addr) (cd : Nat) (w0 w1 w2 d0 d1 d2 q t h0 h1 h2 : Int) (hb : Nat) (w : World) (hw : SRow ic 1 w aw cw [w0,w1,w2]) (hd : SRow ic 1 w ad cd [d0,d1,d2]) (kh : blk w hb = some #[.int .i64 h0,.int .i64 h1,.int .i64 h2])
    (hx : okD ⟨[w0,w1,w2],[d0,d1,d2],q,t⟩) :
    Calls Tryd.prog 76 #[.agg #[.slice aw 3 cw,.int .i64 q,.slice ad 3 cd,.int .i64 t],.slice (some ⟨hb,0,none⟩) 3 3] w fun e w' => RetX ⟨[w0,w1,w2],[d0,d1,d2],q,t⟩ [h0,h1,h2] w e w':=by
  by_cases hz : linD ⟨[w0,w1,w2],[d0,d1,d2],q,t⟩ [h0,h1,h2] = 0
  · exact rnext_ok aw cw ad cd w0 w1 w2 d0 d1 d2 q t h0 h1 h2 hb w hw hd kh hz
  · exact rnext_bad aw cw ad cd w0 w1 w2 d0 d1 d2 q t h0 h1 h2 hb w hw hd kh hx hz
end Go.Proofs.YtkaehoihpgelnaaDoor
